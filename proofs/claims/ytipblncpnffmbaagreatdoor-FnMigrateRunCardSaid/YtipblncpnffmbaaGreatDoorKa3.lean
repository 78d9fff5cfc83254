/-
  Evaluation of terms with casts, in plain words.
-/
import Derived.Test.YtipblncpnffmbaaGreatDoorKa2
import Derived.Test.YtipblncpnffmbaaGreatDoorKa1
import Derived.Test.YtipblncpnffmbaaGreatDoorKa0
import Init
set_option linter.unusedVariables false
set_option linter.unusedSimpArgs false
set_option maxHeartbeats 0
set_option maxRecDepth 100000
set_option synthInstance.maxSize 4000
set_option synthInstance.maxHeartbeats 0
namespace Go.Proofs.YtipblncpnffmbaaGreatDoor
open Go Go.RowKit
namespace Gw
def A0F (t : Ty) : Ty := if t.k = 4 ∨ t.k = 5 then .mk t.k [P0, P0] else .mk t.k []
def W0 (t : Ty) : Bool := decide (t.k ≠ 1) && P1 t (A0F t)
def W1 (t : Tm) : Bool := decide (t.k = 14 ∧ t.fr.k = t.ty.k ∧ (t.ty.k = 4 ∨ t.ty.k = 5))
def inj (t : Tm) : Bool := decide (t.k = 14 ∧ t.ty.k = 1) && W0 t.fr
mutual
def H7 : Tm → Bool
 | .mk k nm num ty fr lb ks => if k = 10 ∨ (k = 14 ∧ fr.k = ty.k ∧ (ty.k = 4 ∨ ty.k = 5)) ∨ (k = 14 ∧ ty.k = 1 ∧ W0 fr = true) then A0Z ks else decide (k = 2 ∨ k = 3 ∨ k = 4 ∨ k = 5)
def A0Z : List Tm → Bool
 | [] => true
 | t :: ts => H7 t && A0Z ts
end
mutual
def W2 (x : ByteArray) (v : Tm) : Tm → Tm
 | .mk k nm num ty fr lb ks => if k = 1 ∧ nm = x then v else if k = 5 ∧ nm = x then .mk k nm num ty fr lb ks else .mk k nm num ty fr lb (V1 x v ks)
def V1 (x : ByteArray) (v : Tm) : List Tm → List Tm
 | [] => []
 | t :: ts => W2 x v t :: V1 x v ts
end
theorem A5j (x : ByteArray) (v : Tm) : ∀ ks, V1 x v ks = ks.map (W2 x v)
 | [] => rfl
 | t :: ts => by rw [V1, A5j x v ts, List.map_cons]
def O7 (e : Tm) (fr to : Ty) (lb : Int) : Tm := .mk 14 ⟨#[]⟩ 0 to fr lb [e]
def A1a (k : Int) (ks : List Tm) : Tm := .mk k ⟨#[]⟩ 0 A7 A7 0 ks
def A37 (n : Int) : Tm := .mk 2 ⟨#[]⟩ n A7 A7 0 []
def A1b (b : Prop) [Decidable b] : Tm := A1a (if b then 3 else 4) []
abbrev Stp := Tm × Int × Int
def V2 : Stp := (J4, 3, 0)
def kd (ks : List Tm) (i : Nat) : Tm := ks.getD i J4
def kt (ks : List Ty) (i : Nat) : Ty := ks.getD i A7
def A0m (k : Int) (ty fr : Ty) (lb : Int) (ks : List Tm) : Stp :=
 if k = 6 then
  (if (kd ks 0).k = 5 then (W2 (kd ks 0).nm (kd ks 1) (kd (kd ks 0).ks 0), 1, 0)
   else if W1 (kd ks 0) = true ∧ (kd ks 0).ty.k = 4 then (O7 (A1a 6 [kd (kd ks 0).ks 0, O7 (kd ks 1) (kt (kd ks 0).ty.ks 0) (kt (kd ks 0).fr.ks 0) (-(kd ks 0).lb)]) (kt (kd ks 0).fr.ks 1) (kt (kd ks 0).ty.ks 1) (kd ks 0).lb, 1, 0)
   else V2)
 else if k = 7 ∨ k = 8 then
  (if (kd ks 0).k = 2 ∧ (kd ks 1).k = 2 then (if k = 7 then A37 (((kd ks 0).num + (kd ks 1).num) % 1000) else A1b ((kd ks 0).num < (kd ks 1).num), 1, 0) else V2)
 else if k = 9 then (if (kd ks 0).k = 3 then (kd ks 1, 1, 0) else if (kd ks 0).k = 4 then (kd ks 2, 1, 0) else V2)
 else if k = 11 ∨ k = 12 then
  (if (kd ks 0).k = 10 then (kd (kd ks 0).ks (k - 11).toNat, 1, 0)
   else if W1 (kd ks 0) = true ∧ (kd ks 0).ty.k = 5 then (O7 (A1a k [kd (kd ks 0).ks 0]) (kt (kd ks 0).fr.ks (k - 11).toNat) (kt (kd ks 0).ty.ks (k - 11).toNat) (kd ks 0).lb, 1, 0)
   else V2)
 else if k = 14 then
  (if fr.k = ty.k then (kd ks 0, 1, 0)
   else if ty.k = 1 then (O7 (O7 (kd ks 0) fr (A0F fr) lb) (A0F fr) ty lb, 1, 0)
   else if W0 ty = false then (O7 (O7 (kd ks 0) fr (A0F ty) lb) (A0F ty) ty lb, 1, 0)
   else if inj (kd ks 0) = false then V2
   else if (kd ks 0).fr.k = ty.k then (kd (kd ks 0).ks 0, 1, 0)
   else (J4, 2, lb))
 else V2
mutual
def I7 : Tm → Stp
 | .mk k nm num ty fr lb ks => match W3 (if k = 9 then 1 else ks.length) ks with
  | some (ks', c, l) => if c = 1 then (.mk k nm num ty fr lb ks', 1, 0) else (J4, c, l)
  | none => A0m k ty fr lb ks
def W3 : Nat → List Tm → Option (List Tm × Int × Int)
 | _, [] => none
 | n, t :: ts => match n with
  | 0 => none
  | n + 1 => if H7 t = true then (match W3 n ts with
    | some (us, c, l) => some (t :: us, c, l)
    | none => none)
   else some ((I7 t).1 :: ts, (I7 t).2.1, (I7 t).2.2)
end
def E3 (e : Tm) : Stp :=
 if P9 e = false then V2 else if H7 e = true then (e, 0, 0)
 else if (I7 e).2.1 ≠ 1 then (J4, (I7 e).2.1, (I7 e).2.2)
 else if P9 (I7 e).1 = false then (J4, 4, 0) else ((I7 e).1, 1, 0)
def J2 : Nat → Tm → Tm × Int × Int × Nat
 | 0, e => if (E3 e).2.1 = 1 then (J4, 5, 0, 0) else ((E3 e).1, (E3 e).2.1, (E3 e).2.2, 0)
 | n + 1, e => if (E3 e).2.1 = 1 then ((J2 n (E3 e).1).1, (J2 n (E3 e).1).2.1, (J2 n (E3 e).1).2.2.1, (J2 n (E3 e).1).2.2.2 + 1)
  else ((E3 e).1, (E3 e).2.1, (E3 e).2.2, 0)
def Q6 (e : Tm) (fuel : Int) : Stp := if 0 ≤ fuel ∧ fuel ≤ 300 then ((J2 fuel.toNat e).1, (J2 fuel.toNat e).2.1, (J2 fuel.toNat e).2.2.1) else V2
def B5O (e : Tm) (fuel : Int) : Int := if 0 ≤ fuel ∧ fuel ≤ 300 then ((J2 fuel.toNat e).2.2.2 : Int) else 0
structure CvN (k : Int) (nm : ByteArray) (num : Int) (ty fr : Ty) (lb : Int) (ks : List Tm) : Prop where
 ops : D1 k = ks.length
 ne : k ≠ 13
 nm1 : nm.size ≤ 1
 num0 : 0 ≤ num ∧ num ≤ 999
 tyA : D8 ty
 frA : D8 fr
 lbB : -99 ≤ lb ∧ lb ≤ 99
 c14 : k = 14 → J7 fr ty = true ∧ C9 ty = true ∧ C9 fr = true
 ty5 : ¬(k = 5 ∨ k = 14) → ty = A7
 fr14 : k ≠ 14 → fr = A7 ∧ lb = 0
def cv (t : Tm) : Prop := ∃ d, N7 40 13 t d = true
theorem A2v {n lo hi : Int} : S7 n lo hi = true ↔ lo ≤ n ∧ n ≤ hi := by unfold S7; rw [decide_eq_true_eq]
theorem cv.node {k : Int} {nm : ByteArray} {num : Int} {ty fr : Ty} {lb : Int} {ks : List Tm} (h : cv (.mk k nm num ty fr lb ks)) : CvN k nm num ty fr lb ks ∧ ∀ t ∈ ks, cv t := by
 obtain ⟨d, h⟩ := h
 obtain ⟨_, h2, h3, h4⟩ := A0X h
 obtain ⟨n1, n2, n3, n4, n5, n6, n7, n8, n9⟩ := W8.1 h3
 refine ⟨⟨n1, h2, A7G h3, ?_, (A36 h3).1, ?_, ?_, ?_, ?_, ?_⟩, fun t ht => ?_⟩
 ·by_cases hk : k = 2
  ·exact A2v.1 (n4 hk)
  ·have := A2v.1 (n5 hk); omega
 ·by_cases hk : k = 14
  ·have := (n8 hk).1
   simp only [A03, Bool.and_eq_true] at this
   exact (A0d this.1.1).1
  ·rw [A18 (n9 hk).1]; exact S8 (by decide) (by decide)
 ·by_cases hk : k = 14
  ·have := (n8 hk).2
   simp only [A1p, Bool.or_eq_true, A2v] at this
   omega
  ·have := (n9 hk).2; omega
 ·intro hk
  have := (n8 hk).1
  simp only [A03, Bool.and_eq_true] at this
  exact ⟨this.2, this.1.2, this.1.1⟩
 ·intro hk
  exact A18 (n7 (by omega))
 ·intro hk
  exact ⟨A18 (n9 hk).1, (n9 hk).2⟩
 ·obtain ⟨i, hi, rfl⟩ := List.mem_iff_getElem.1 ht
  exact ⟨_, (A1D 40 13 ks _).1 h4 i hi⟩
theorem A5k {t : Tm} (h : P9 t = true) : cv t ∧ E0 t ≤ 200 := by
 obtain ⟨h1, h2⟩ := (A7t t).1 h
 exact ⟨⟨1, h1⟩, h2⟩
mutual
theorem A38 : ∀ (t : Tm), cv t → t.small
 | .mk k nm num ty fr lb ks, h => by
  obtain ⟨hn, hk⟩ := h.node
  rw [Tm.small]
  refine ⟨by have := hn.nm1; omega, hn.tyA.small, hn.frA.small, ?_, A7J ks hk⟩
  have := A29 k
  have := hn.ops
  omega
theorem A7J : ∀ (ts : List Tm), (∀ t ∈ ts, cv t) → Tm.smallL ts
 | [], _ => by rw [Tm.smallL]; trivial
 | t :: ts, h => by
  rw [Tm.smallL]
  exact ⟨A38 t (h t List.mem_cons_self), A7J ts fun u hu => h u (List.mem_cons_of_mem _ hu)⟩
end
theorem A1s (k : Int) (nm : ByteArray) (num : Int) (ty fr : Ty) (lb : Int) (ks : List Tm) : E0 (.mk k nm num ty fr lb ks) = H1 ks + 1 := by rw [E0]
theorem A3b {k : Int} {nm : ByteArray} {num : Int} {ty fr : Ty} {lb : Int} {ks : List Tm} : (Tm.mk k nm num ty fr lb ks).small ↔ nm.size ≤ 4294967296 ∧ ty.small ∧ fr.small ∧ ks.length ≤ 4294967296 ∧ Tm.smallL ks := by rw [Tm.small]
theorem B1U : J4.small := by simp [J4, Tm.small, Ty.small, Ty.smallL, Tm.smallL, ByteArray.size]
theorem A7K : A7.small := by simp [A7, Ty.small, Ty.smallL]
mutual
def C6 : Tm → List Ty
 | .mk k _ _ ty _ _ ks => (if k = 5 ∨ k = 13 then [ty] else []) ++ D3 ks
def D3 : List Tm → List Ty
 | [] => []
 | t :: ts => C6 t ++ D3 ts
end
theorem A5l : ∀ (a b : List Tm), D3 (a ++ b) = D3 a ++ D3 b
 | [], b => by simp [D3]
 | t :: a, b => by simp [D3, A5l a b]
theorem W4 {ks : List Tm} {i : Nat} (hi : i < ks.length) : D3 (ks.take (i + 1)) = D3 (ks.take i) ++ C6 ks[i] := by
 rw [List.take_succ_eq_append_getElem hi, A5l, D3, D3, List.append_nil]
mutual
theorem A2w : ∀ t : Tm, (C6 t).length ≤ E0 t
 | .mk k nm num ty fr lb ks => by
  have := A0G ks
  rw [C6, E0, List.length_append]
  split <;> simp <;> omega
theorem A0G : ∀ ts : List Tm, (D3 ts).length ≤ H1 ts
 | [] => by simp [D3]
 | t :: ts => by
  have := A2w t
  have := A0G ts
  rw [D3, H1, List.length_append]; omega
end
mutual
def M6 : Tm → List Ty → Tm
 | .mk k nm num ty fr lb ks, l => .mk k nm num (if k = 5 ∨ k = 13 then l.getD 0 A7 else ty) fr lb (L9 ks (if k = 5 ∨ k = 13 then l.drop 1 else l))
def L9 : List Tm → List Ty → List Tm
 | [], _ => []
 | t :: ts, l => M6 t l :: L9 ts (l.drop (C6 t).length)
end
theorem A1G : ∀ (ts : List Tm) (l : List Ty), (L9 ts l).length = ts.length
 | [], _ => rfl
 | t :: ts, l => by rw [L9, List.length_cons, A1G ts, List.length_cons]
theorem A7L : ∀ (a b : List Tm) (l : List Ty), L9 (a ++ b) l = L9 a l ++ L9 b (l.drop (D3 a).length)
 | [], b, l => by simp [L9, D3]
 | t :: a, b, l => by simp [L9, D3, A7L a b, List.drop_drop]
theorem A3c {ks : List Tm} {i : Nat} (hi : i < ks.length) (l : List Ty) : L9 (ks.take (i + 1)) l = L9 (ks.take i) l ++ [M6 ks[i] (l.drop (D3 (ks.take i)).length)] := by
 rw [List.take_succ_eq_append_getElem hi, A7L, L9, L9]
def A7M (mask : Nat) : Nat → List Ty → List Ty
 | _, [] => []
 | i, t :: ts => (if (mask / 2 ^ i) % 2 = 1 then .mk 1 [] else t) :: A7M mask (i + 1) ts
def B1V (e : Tm) (mask : Nat) : Tm := M6 e (A7M mask 0 (C6 e))
def B1W (e : Tm) : List Tm := (List.range (2 ^ (C6 e).length)).map (B1V e)
theorem A3d {ks : List Tm} {i : Nat} (hi : i < ks.length) : (D3 (ks.take i)).length + (C6 ks[i]).length ≤ (D3 ks).length := by
 have h : ks = ks.take (i + 1) ++ ks.drop (i + 1) := (List.take_append_drop _ _).symm
 conv => rhs; rw [h]
 rw [A5l, W4 hi]
 simp only [List.length_append]; omega
def A1t (k : Int) : Bool := decide (k = 5 ∨ k = 13)
theorem A7N (t : Tm) (G : IM) (cells : List Value) (hr : A9 G t cells) : Fn Tryz.prog 59 [.agg ⟨cells⟩] [] G (H9 (.bool (A1t t.k)) G) := by
 obtain ⟨k, nm, num, ⟨tk, tks⟩, ⟨fk, fks⟩, lb, ks⟩ := t
 obtain ⟨pt, ct, pf, cf, p, c, es, rfl, hk, hnum, hlb, hty, hfr, hsl, hkl⟩ := hr.open9
 refine B7 Tryz.func59 rfl Tryz.ntmps59 Tryz.results59 rfl ?_
 intro w0
 refine tS (tR ?_)
 refine sE (C2 rfl rfl) rfl (fun b3 => ?_)
 refine D0 ?_
 refine sB (qE rfl rfl) rfl rfl (fun h11 => ?_) (fun h11 => ?_)
 refine L6 ?_
 exact ⟨rfl, by (show _ = Value.bool (decide (k = 5 ∨ k = 13)); first | rw [decide_eq_true (by omega)] | rw [decide_eq_false (by omega)]), rfl⟩
 refine J0 ?_
 refine sB (qE rfl rfl) rfl rfl (fun h26 => ?_) (fun h26 => ?_)
 refine I0 ?_
 exact ⟨rfl, by (show _ = Value.bool (decide (k = 5 ∨ k = 13)); first | rw [decide_eq_true (by omega)] | rw [decide_eq_false (by omega)]), rfl⟩
 refine I0 ?_
 exact ⟨rfl, by (show _ = Value.bool (decide (k = 5 ∨ k = 13)); first | rw [decide_eq_true (by omega)] | rw [decide_eq_false (by omega)]), rfl⟩
section cap
variable {P : Program} {Γ : K1} {env : K7} {hp : List A4} {G : IM} {K : Po} {ops : Array Oper} {rest : List Oper}
theorem St.slc_cap {a : Act} {w : World} {p : Option Addr} {c el sz n : Nat} {cs : List Value} {hp' : List A4} (hs : St Γ ⟨env, hp, G⟩ a w) (hk : Pk hp (.slc p c el sz n cs) hp') : n ≤ c := by
 have hown : R5 [.slc p c el sz n cs] G w := hs.res.own.of_mem hk.perm
 obtain ⟨hl, h⟩ := hown.ok _ List.mem_cons_self
 rcases h with ⟨hv, hn⟩ | ⟨g, cap, cur, hv, _, hg, hnc, hcm, hsz, ht⟩
 ·omega
 ·cases hv; exact hnc
theorem A7O {p : Option Addr} {c el sz n : Nat} {cs : List Value} {hp' : List A4} (hk : Pk hp (.slc p c el sz n cs) hp') (h : n ≤ c → E8 P Γ ops rest K ⟨env, hp, G⟩) : E8 P Γ ops rest K ⟨env, hp, G⟩ :=
 ⟨fun a w hs => (h (hs.slc_cap hk)).run a w hs⟩
end cap
theorem B0.append {G : IM} : ∀ {a b : List Ty} {es fs : List (List Value)}, B0 G a es → B0 G b fs → B0 G (a ++ b) (es ++ fs)
 | [], b, es, fs, h, h2 => by simp only [B0] at h; subst h; simpa using h2
 | t :: a, b, es, fs, h, h2 => by
  simp only [B0] at h
  obtain ⟨x, r, rfl, h3, h4⟩ := h
  simp only [List.cons_append, B0]
  exact ⟨x, r ++ fs, rfl, h3, B0.append h4 h2⟩
theorem B0.ones {G : IM} {ts : List Ty} {es : List (List Value)} (h : B0 G ts es) : ∀ u ∈ es.flatten, u.oneCell' = true := by
 intro u hu
 obtain ⟨e, he, hue⟩ := List.mem_flatten.1 hu
 exact List.all_eq_true.1 (h.each e he).2 u hue
theorem B0.one1 {G : IM} {t : Ty} {c : List Value} (h : B3 G t c) : B0 G [t] [c] := by
 simp only [B0]; exact ⟨c, [], rfl, h, rfl⟩
def S9 (ts : List Ty) : IM → Value → List A4 → Prop := fun G' v outs => ∃ p c es, v = .slice p ts.length c ∧ outs = [.slc p c 25 2 ts.length es.flatten] ∧ B0 G' ts es
theorem S9.mk {ts : List Ty} {n : Nat} {G' : IM} {p : Option Addr} {c : Nat} {es : List (List Value)} (hn : ts.length = n) (hr : B0 G' ts es) : S9 ts G' (.slice p n c) [.slc p c 25 2 n es.flatten] := by
 subst hn
 exact ⟨p, c, es, rfl, rfl, hr⟩
theorem B1X : ∀ (t : Tm) (G : IM) (cells : List Value), t.small → E0 t ≤ 4000000 → A9 G t cells → Fn Tryz.prog 28 [.agg ⟨cells⟩] [] G (S9 (C6 t)) := by
 refine Tm.ind fun k nm num ty fr lb ks ih G cells hts hcnt hr => ?_
 have hT := A7N _ G cells hr
 have hone := hr.one
 simp only [Tm.small] at hts
 obtain ⟨_, hty', _, hsm, hks⟩ := hts
 have hcy : A1t k = true → C6 (.mk k nm num ty fr lb ks) = [ty] ++ D3 ks := fun h => by rw [C6, if_pos (of_decide_eq_true h)]
 have hcn : A1t k = false → C6 (.mk k nm num ty fr lb ks) = [] ++ D3 ks := fun h => by rw [C6, if_neg (of_decide_eq_false h)]
 rw [E0] at hcnt
 obtain ⟨tk, tks⟩ := ty
 obtain ⟨fk, fks⟩ := fr
 have hT' : Fn Tryz.prog 59 _ [] G (H9 (.bool (A1t k)) G) := hT
 obtain ⟨pt, ct, pf, cf, q, cq, ek, rfl, hk, hnum, hlb, hty, hfr, hsl, hkl⟩ := hr.open9
 have hn := hsl.le
 refine B7 Tryz.func28 rfl Tryz.ntmps28 Tryz.results28 rfl ?_
 intro w0
 refine tS (tR ?_)
 refine sE (C2 rfl rfl) rfl (fun b3 => ?_)
 refine N8 ?_
 refine H3 rfl (hT') rfl rfl (fun h16 => ?_) (fun h16 => ?_)
 refine sD (nS (qT rfl ?_))
 (show J1 _ _ (.region 3 ..) _ _; refine T7 25 2 ?_; refine tR ?_)
 refine J0 ?_
 (refine F4 rfl (A06 (.mk tk tks) G _ hty' hty) rfl rfl (fun v G1 hle1 hh => ?_); obtain ⟨cs1, F1, rfl, hs1, hn1⟩ := hh; have hr1 := hs1.R.mono (C1.le _ _); obtain ⟨p1, c1, rfl, _⟩ := hs1.open)
 (refine I8 (C3 rfl rfl rfl (by omega) (by unfold maxLen; omega) rfl) rfl ?_; rintro _ ⟨b25, rfl⟩)
 (refine W7 rfl rfl rfl rfl rfl (fun _ _ => by repeat (first | exact Sw.here | apply Sw.there)) (N2 (by repeat first | exact mH | apply mT)) rfl (by simp [Value.oneCell']) (by unfold maxLen; omega) (by omega) rfl (fun pn0 cn0 => ?_))
 refine N8 ?_
 refine B6 ?_
 (have h14 := hcy (by assumption); have hinit := B0.one1 hr1; refine J3 (fun (x : Nat × Nat × Option Addr × Nat × List (List Value) × IM) => ⟨[(17, .int .i64 x.1), (16, .int .i64 ks.length), (15, .slice q ks.length cq), (3, .slice x.2.2.1 x.2.1 x.2.2.2.1)], [.slc x.2.2.1 x.2.2.2.1 25 2 x.2.1 x.2.2.2.2.1.flatten], x.2.2.2.2.2⟩) (fun x => x.1 ≤ ks.length ∧ B1 G x.2.2.2.2.2 ∧ B0 x.2.2.2.2.2 ([Ty.mk tk tks] ++ D3 (ks.take x.1)) x.2.2.2.2.1 ∧ ([Ty.mk tk tks] ++ D3 (ks.take x.1)).length = x.2.1) (fun x => ks.length - x.1) (0, 1, pn0, cn0, [[.int .i64 tk, .slice p1 tks.length c1]], G1) ?_ ?_ ?_)
 (simp only [E2]; exact C5)
 (exact ⟨Nat.zero_le _, hle1, (by show B0 G1 ([Ty.mk tk tks] ++ D3 (ks.take 0)) _; rw [List.take_zero, D3, List.append_nil]; exact hinit), by simp [D3]⟩)
 (rintro ⟨(i : Nat), (m : Nat), pn, cn, es, Gi⟩ ⟨hi, hle, hst, hlen⟩; simp only [] at hi hle hst hlen ⊢; replace hsl := hsl.mono hle; replace hkl := hkl.mono hle; have hb1 := A0G (ks.take i); have hb2 := A0G ks; simp only [List.length_append, List.length_singleton, List.length_nil] at hlen)
 refine tS (tR ?_)
 refine sB (J6 rfl rfl) rfl rfl (fun h46 => ?_) (fun h46 => ?_)
 refine sD (nS (tS (qT rfl (tK (nS (tS ?_))))))
 refine B6 ?_
 refine tS (tR ?_)
 (obtain ⟨b, o, e, rfl, hl, hat, hre, hgb⟩ := hsl.kidTm hkl (i := i) (by omega) (by omega); have hone9 := hre.one; have hsc := A0A (ks := ks) (i := i) (by omega); have hsk := A0z (ks := ks) (i := i) (by omega); refine sP (B4 rfl rfl rfl (by omega)) rfl rfl ?_)
 refine sL (A5 rfl rfl (hat _) hl) rfl rfl ?_
 refine sE (A6 rfl) rfl (fun b59 => ?_)
 refine sS rfl rfl rfl hl hone9 rfl ?_ (hu := by exact D5 hl.symm)
 refine sD (nS (tR (sQ (qM rfl) rfl ?_)))
 refine sL (A5 rfl rfl (B5 (by repeat first | exact mH | apply mT)) hl) rfl rfl ?_
 (refine T9 rfl (ih ks[i] (List.getElem_mem (by omega)) _ _ (Tm.smallL_mem hks _ (List.getElem_mem (by omega))) (by omega) hre) rfl rfl (fun v G3 outs hle3 hh => ?_); obtain ⟨p3, c3, e3, rfl, rfl, hr3⟩ := hh; have hlk := A2w ks[i]; refine T8 (cs := e3.flatten) Pk.here (fun G4 hle4 hsl4 hno4 => ?_); refine A7O (cs := es.flatten) (by repeat (first | exact Pk.here | apply Pk.there)) (fun hcap => ?_))
 (refine A3X rfl rfl rfl rfl rfl (fun _ _ => by repeat (first | exact Sw.here | apply Sw.there)) hsl4 hr3.ones hcap (by unfold maxLen; omega) (by omega) rfl (fun p4 c4 => ?_))
 refine sQ (qA rfl) rfl (sD (M9 (nS (tR ?_))))
 refine sP (I2 rfl rfl (by omega) (by omega)) rfl rfl ?_
 refine sQ (qM rfl) rfl (sD ?_)
 (have hap := B0.append (hst.mono (hle3.trans hle4)) (hr3.mono hle4); refine I9 (i + 1, m + (C6 ks[i]).length, p4, c4, es ++ e3, G4) (by simp only [List.flatten_append]; exact (N3 (by repeat (first | exact D4.nil | refine D4.cons rfl ?_)) (by repeat (first | exact A0.refl | exact A0.nil | refine A0.cons (by repeat (first | exact Pk.here | apply Pk.there)) ?_ | apply A0.drop)))) ?_ ?_)
 (dsimp only; exact ⟨by omega, hle.trans (hle3.trans hle4), by rw [W4 (by omega), ← List.append_assoc]; exact hap, by rw [W4 (by omega)]; simp only [List.length_append, List.length_singleton, List.length_nil]; omega⟩)
 (show ks.length - (i + 1) < ks.length - i; omega)
 refine I4 ?_
 (obtain rfl : i = ks.length := (by omega))
 refine tT ?_
 refine H0 (outs := [.slc pn cn 25 2 m es.flatten]) (rT rfl) (A0.cons (by repeat (first | exact Pk.here | apply Pk.there)) A0.nil) ?_
 (rw [h14]; rw [List.take_length] at hst hlen; exact S9.mk (by simp only [List.length_append, List.length_singleton, List.length_nil]; omega) hst)
 refine M1 ?_
 refine B6 ?_
 (have h14 := hcn (by assumption); refine T7 25 2 ?_; refine J3 (fun (x : Nat × Nat × Option Addr × Nat × List (List Value) × IM) => ⟨[(17, .int .i64 x.1), (16, .int .i64 ks.length), (15, .slice q ks.length cq), (3, .slice x.2.2.1 x.2.1 x.2.2.2.1)], [.slc x.2.2.1 x.2.2.2.1 25 2 x.2.1 x.2.2.2.2.1.flatten], x.2.2.2.2.2⟩) (fun x => x.1 ≤ ks.length ∧ B1 G x.2.2.2.2.2 ∧ B0 x.2.2.2.2.2 ([] ++ D3 (ks.take x.1)) x.2.2.2.2.1 ∧ ([] ++ D3 (ks.take x.1)).length = x.2.1) (fun x => ks.length - x.1) (0, 0, none, 0, [], G) ?_ ?_ ?_)
 (simp only [E2]; exact C5)
 (exact ⟨Nat.zero_le _, B1.refl _, by simp [D3, B0], by simp [D3]⟩)
 (rintro ⟨(i : Nat), (m : Nat), pn, cn, es, Gi⟩ ⟨hi, hle, hst, hlen⟩; simp only [] at hi hle hst hlen ⊢; replace hsl := hsl.mono hle; replace hkl := hkl.mono hle; have hb1 := A0G (ks.take i); have hb2 := A0G ks; simp only [List.length_append, List.length_singleton, List.length_nil] at hlen)
 refine tS (tR ?_)
 refine sB (J6 rfl rfl) rfl rfl (fun h119 => ?_) (fun h119 => ?_)
 refine sD (nS (tS (qT rfl (tK (nS (tS ?_))))))
 refine B6 ?_
 refine tS (tR ?_)
 (obtain ⟨b, o, e, rfl, hl, hat, hre, hgb⟩ := hsl.kidTm hkl (i := i) (by omega) (by omega); have hone9 := hre.one; have hsc := A0A (ks := ks) (i := i) (by omega); have hsk := A0z (ks := ks) (i := i) (by omega); refine sP (B4 rfl rfl rfl (by omega)) rfl rfl ?_)
 refine sL (A5 rfl rfl (hat _) hl) rfl rfl ?_
 refine sE (A6 rfl) rfl (fun b132 => ?_)
 refine sS rfl rfl rfl hl hone9 rfl ?_ (hu := by exact D5 hl.symm)
 refine sD (nS (tR (sQ (qM rfl) rfl ?_)))
 refine sL (A5 rfl rfl (B5 (by repeat first | exact mH | apply mT)) hl) rfl rfl ?_
 (refine T9 rfl (ih ks[i] (List.getElem_mem (by omega)) _ _ (Tm.smallL_mem hks _ (List.getElem_mem (by omega))) (by omega) hre) rfl rfl (fun v G3 outs hle3 hh => ?_); obtain ⟨p3, c3, e3, rfl, rfl, hr3⟩ := hh; have hlk := A2w ks[i]; refine T8 (cs := e3.flatten) Pk.here (fun G4 hle4 hsl4 hno4 => ?_); refine A7O (cs := es.flatten) (by repeat (first | exact Pk.here | apply Pk.there)) (fun hcap => ?_))
 (refine A3X rfl rfl rfl rfl rfl (fun _ _ => by repeat (first | exact Sw.here | apply Sw.there)) hsl4 hr3.ones hcap (by unfold maxLen; omega) (by omega) rfl (fun p4 c4 => ?_))
 refine sQ (qA rfl) rfl (sD (M9 (nS (tR ?_))))
 refine sP (I2 rfl rfl (by omega) (by omega)) rfl rfl ?_
 refine sQ (qM rfl) rfl (sD ?_)
 (have hap := B0.append (hst.mono (hle3.trans hle4)) (hr3.mono hle4); refine I9 (i + 1, m + (C6 ks[i]).length, p4, c4, es ++ e3, G4) (by simp only [List.flatten_append]; exact (N3 (by repeat (first | exact D4.nil | refine D4.cons rfl ?_)) (by repeat (first | exact A0.refl | exact A0.nil | refine A0.cons (by repeat (first | exact Pk.here | apply Pk.there)) ?_ | apply A0.drop)))) ?_ ?_)
 (dsimp only; exact ⟨by omega, hle.trans (hle3.trans hle4), by rw [W4 (by omega), ← List.append_assoc]; exact hap, by rw [W4 (by omega)]; simp only [List.length_append, List.length_singleton, List.length_nil]; omega⟩)
 (show ks.length - (i + 1) < ks.length - i; omega)
 refine I4 ?_
 (obtain rfl : i = ks.length := (by omega))
 refine tT ?_
 refine H0 (outs := [.slc pn cn 25 2 m es.flatten]) (rT rfl) (A0.cons (by repeat (first | exact Pk.here | apply Pk.there)) A0.nil) ?_
 (rw [h14]; rw [List.take_length] at hst hlen; exact S9.mk (by simp only [List.length_append, List.length_singleton, List.length_nil]; omega) hst)
theorem A7P {sz : Nat} : ∀ {es : List (List Value)} (l : Nat), (∀ e ∈ es, e.length = sz) → es.flatten.drop (l * sz) = (es.drop l).flatten
 | [], l, _ => by simp
 | e :: es, 0, _ => by simp
 | e :: es, l + 1, h => by
  rw [List.flatten_cons, List.drop_succ_cons, ← A7P l (fun x hx => h x (List.mem_cons_of_mem _ hx)), Nat.add_mul, Nat.one_mul]
  have he := h e List.mem_cons_self
  rw [List.drop_append, List.drop_eq_nil_of_le (by omega), List.nil_append]
  congr 1; omega
theorem B9.from2 {G : IM} {b o n c l sz : Nat} {es : List (List Value)} (h : B9 G (some ⟨b, o, none⟩) n c sz es) (hl : l ≤ n) : B9 G (some ⟨b, if c = l then o else o + l * sz, none⟩) (n - l) (c - l) sz (es.drop l) := by
 have h1 := h.sl.from hl
 rw [A7P l h.all] at h1
 exact B9.of h1 (by rw [List.length_drop, h.len]) (fun e he => h.all e (List.mem_of_mem_drop he)) (fun e he => h.one e (List.mem_of_mem_drop he))
theorem B0.drop {G : IM} : ∀ {l : List Ty} {es : List (List Value)} (n : Nat), B0 G l es → B0 G (l.drop n) (es.drop n)
 | [], es, n, h => by simp only [B0] at h; subst h; simp [B0]
 | t :: l, es, 0, h => by simpa using h
 | t :: l, es, n + 1, h => by
  simp only [B0] at h
  obtain ⟨a, r, rfl, h1, h2⟩ := h
  simpa using B0.drop n h2
def RtP (u : Tm) (l : List Ty) : IM → Value → List A4 → Prop := fun G' v outs => outs = [] ∧ ∃ cu p c el, v = .tuple ⟨[.agg ⟨cu⟩, .slice p l.length c]⟩ ∧ A9 G' u cu ∧ B9 G' p l.length c 2 el ∧ B0 G' l el
theorem RtP.mk {G' : IM} {k : Int} {nm : ByteArray} {num : Int} {ty fr : Ty} {lb : Int} {ks : List Tm} {tk fk : Int} {pt pf : Option Addr} {nt ct nf cf : Nat} {p q : Option Addr} {m c cq n : Nat} {es el : List (List Value)} {l : List Ty}
  (hk : D9 k) (hnum : D9 num) (hlb : D9 lb) (hty : B3 G' ty [.int .i64 tk, .slice pt nt ct]) (hfr : B3 G' fr [.int .i64 fk, .slice pf nf cf]) (hm : m = ks.length) (hs : Sl G' p m c 9 es.flatten) (hr : C8 G' ks es)
  (hn : n = l.length) (hq : B9 G' q n cq 2 el) (hl : B0 G' l el) :
  RtP (.mk k nm num ty fr lb ks) l G' (.tuple ⟨[.agg ⟨[.int .i64 k, .string nm, .int .i64 num, .int .i64 tk, .slice pt nt ct, .int .i64 fk, .slice pf nf cf, .int .i64 lb, .slice p m c]⟩, .slice q n cq]⟩) [] := by
 subst hm hn
 refine ⟨rfl, _, q, cq, el, rfl, ?_, hq, hl⟩
 simp only [A9]
 exact ⟨_, _, p, c, es, rfl, hk, hnum, hlb, hty, hfr, B9.of hs hr.len hr.all (fun e he => by obtain ⟨j, hj⟩ := List.getElem?_of_mem he; exact (hr.inv hj J4).2.one), hr⟩
theorem B1Y : ∀ (t : Tm) (l : List Ty) (G : IM) (cells : List Value) (p : Option Addr) (c : Nat) (el : List (List Value)), (C6 t).length ≤ l.length → (∀ u ∈ l, u.small) → E0 t ≤ 4000000 → A9 G t cells → B9 G p l.length c 2 el → B0 G l el →
  Fn Tryz.prog 31 [.agg ⟨cells⟩, .slice p l.length c] [] G (RtP (M6 t l) (l.drop (C6 t).length)) := by
 refine Tm.ind fun k nm num ty fr lb ks ih l G cells p c el hlen hsm hcnt hr hse hel => ?_
 have hT := A7N _ G cells hr
 have hone := hr.one
 have hcy : A1t k = true → C6 (.mk k nm num ty fr lb ks) = [ty] ++ D3 ks := fun h => by rw [C6, if_pos (of_decide_eq_true h)]
 have hcn : A1t k = false → C6 (.mk k nm num ty fr lb ks) = [] ++ D3 ks := fun h => by rw [C6, if_neg (of_decide_eq_false h)]
 have hwy : A1t k = true → M6 (.mk k nm num ty fr lb ks) l = .mk k nm num (l.getD 0 A7) fr lb (L9 ks (l.drop 1)) := fun h => by rw [M6, if_pos (of_decide_eq_true h), if_pos (of_decide_eq_true h)]
 have hwn : A1t k = false → M6 (.mk k nm num ty fr lb ks) l = .mk k nm num ty fr lb (L9 ks l) := fun h => by rw [M6, if_neg (of_decide_eq_false h), if_neg (of_decide_eq_false h)]
 rw [E0] at hcnt
 obtain ⟨tk, tks⟩ := ty
 obtain ⟨fk, fks⟩ := fr
 have hT' : Fn Tryz.prog 59 _ [] G (H9 (.bool (A1t k)) G) := hT
 obtain ⟨pt, ct, pf, cf, q, cq, ek, rfl, hk, hnum, hlb, hty, hfr, hsl, hkl⟩ := hr.open9
 have hn := hsl.le
 have hkn := A3U ks
 refine B7 Tryz.func31 rfl Tryz.ntmps31 Tryz.results31 rfl ?_
 intro w0
 refine tS (tR ?_)
 refine sE (C2 rfl rfl) rfl (fun b3 => ?_)
 refine sE (A6 rfl) rfl (fun b4 => ?_)
 refine I0 ?_
 refine sE (A6 rfl) rfl (fun b11 => ?_)
 refine L7 ?_
 refine H3 rfl (hT') rfl rfl (fun h25 => ?_) (fun h25 => ?_)
 refine sD (nS (qT rfl ?_))
 (have hL1 := hcy (by assumption); have h1 : 1 + (D3 ks).length ≤ l.length := (by rw [hL1] at hlen; simp only [List.length_append, List.length_singleton] at hlen; omega); obtain ⟨b0, o0, p20, c20, rfl, hat0, hre0, hgb0⟩ := hse.kidTy hel (i := 0) (by omega) (by omega); obtain ⟨T0, hT0⟩ : ∃ T, T = l[0]'(by omega) := ⟨_, rfl⟩; have hs0 := hsm _ (List.getElem_mem (show 0 < l.length by omega)); rw [← hT0] at hre0 hat0 hs0; have hO := A06 T0 G _ hs0 hre0; refine E4 E7 rfl ?_)
 refine K2 (i := 0) (l' := [tt,ff,ff,ff,ff,ff,ff,ff,ff]) rfl D6 (qM rfl) rfl (by kernel_rfl) rfl rfl ?_
 refine aP 1 rfl (B4 (j := 0) rfl rfl rfl (by omega)) rfl ?_
 refine aL 2 rfl (A5 rfl rfl (hat0 _) rfl) rfl ?_
 refine aP 4 rfl (qM rfl) rfl ?_
 refine aP 5 rfl (A7v (l := 1) rfl rfl rfl (by omega)) rfl ?_
 refine A3 3 ?_
 (refine K4 rfl rfl hO rfl rfl rfl (fun v G1 hle1 hh => ?_); obtain ⟨cs1, F1, rfl, hs1, hn1⟩ := hh; have hr1 := hs1.R.mono (C1.le _ _); obtain ⟨p1, c1, rfl, _⟩ := hs1.open)
 refine aP 6 rfl (B8 rfl) rfl ?_
 refine A3 7 ?_
 refine H6 rfl ?_
 refine aP 8 rfl (qA rfl) rfl ?_
 refine K6 ?_
 refine B6 ?_
 (have hL2 := hcy (by assumption); have hW2 := hwy (by assumption); have hse1 := (hse.from2 (l := 1) (by omega)).mono hle1; have hel1 := (hel.drop 1).mono hle1; refine T7 28 9 ?_; refine J3 (fun (x : Nat × Option Addr × Nat × List (List Value) × Option Addr × Nat × Nat × List (List Value) × IM) => ⟨[(25, .int .i64 x.1), (24, .int .i64 ks.length), (23, .slice q ks.length cq), (1, .slice x.2.2.2.2.1 x.2.2.2.2.2.1 x.2.2.2.2.2.2.1), (6, .pointer (some ⟨b11, 0, none⟩)), (4, .pointer (some ⟨b4, 0, none⟩))], [.blk b11 [.int .i64 k, .string nm, .int .i64 num, .int .i64 T0.k, .slice p1 T0.ks.length c1, .int .i64 fk, .slice pf fks.length cf, .int .i64 lb, .slice x.2.1 x.1 x.2.2.1], .slc x.2.1 x.2.2.1 28 9 x.1 x.2.2.2.1.flatten, .blk b4 [.int .i64 0, .string ⟨⟨[]⟩⟩, .int .i64 0, .int .i64 0, .slice none 0 0, .int .i64 0, .slice none 0 0, .int .i64 0, .slice none 0 0]], x.2.2.2.2.2.2.2.2⟩) (fun x => x.1 ≤ ks.length ∧ B1 G1 x.2.2.2.2.2.2.2.2 ∧ C8 x.2.2.2.2.2.2.2.2 (L9 (ks.take x.1) (l.drop 1)) x.2.2.2.1 ∧ x.2.2.2.2.2.1 = ((l.drop 1).drop (D3 (ks.take x.1)).length).length ∧ B9 x.2.2.2.2.2.2.2.2 x.2.2.2.2.1 x.2.2.2.2.2.1 x.2.2.2.2.2.2.1 2 x.2.2.2.2.2.2.2.1 ∧ B0 x.2.2.2.2.2.2.2.2 ((l.drop 1).drop (D3 (ks.take x.1)).length) x.2.2.2.2.2.2.2.1) (fun x => ks.length - x.1) (0, none, 0, [], some ⟨b0, if c = 1 then o0 else o0 + 1 * 2, none⟩, l.length - 1, c - 1, el.drop 1, G1) ?_ ?_ ?_)
 (simp only [E2]; exact C5)
 (exact ⟨Nat.zero_le _, B1.refl _, by simp [L9, C8], by simp [D3], by simpa using hse1, by simpa [D3] using hel1⟩)
 (rintro ⟨(i : Nat), pn, cn, es, pl, nl, cl, eL, Gi⟩ ⟨hi, hle, hst, hnl, hsL, heL⟩; simp only [] at hi hle hst hnl hsL heL ⊢)
 refine tS (tR ?_)
 refine sB (J6 rfl rfl) rfl rfl (fun h59 => ?_) (fun h59 => ?_)
 refine sD (nS (tS (qT rfl (tK (nS (tS ?_))))))
 refine B6 ?_
 refine tS (tR ?_)
 (obtain ⟨b, o, e, rfl, hl, hat, hre, hgb⟩ := (hsl.mono (by first | exact hle | exact hle1.trans hle)).kidTm (hkl.mono (by first | exact hle | exact hle1.trans hle)) (i := i) (by omega) (by omega); have hone9 := hre.one; have hsc := A0A (ks := ks) (i := i) (by omega); have hsk := A0z (ks := ks) (i := i) (by omega); have hts1 := A3d (ks := ks) (i := i) (by omega); refine sP (B4 rfl rfl rfl (by omega)) rfl rfl ?_)
 refine sL (A5 rfl rfl (hat _) hl) rfl rfl ?_
 refine sE (A6 rfl) rfl (fun b72 => ?_)
 refine sS rfl rfl rfl hl hone9 rfl ?_ (hu := by exact D5 hl.symm)
 refine sD (nS (tS (tR ?_)))
 refine sL (A5 rfl rfl (B5 (by repeat first | exact mH | apply mT)) hl) rfl rfl ?_
 refine sQ (qM rfl) rfl ?_
 (subst hnl; refine T9 rfl (ih ks[i] (List.getElem_mem (by omega)) _ _ _ _ _ _ (by simp only [List.length_drop]; rw [hL2] at hlen; simp only [List.length_append, List.length_singleton, List.length_nil] at hlen; omega) (fun u hu => hsm u (by first | exact List.mem_of_mem_drop hu | exact List.mem_of_mem_drop (List.mem_of_mem_drop hu))) (by omega) hre hsL heL) rfl rfl (fun v G3 outs hle3 hh => ?_); obtain ⟨rfl, cu, p3, c3, e3, rfl, hru, hs3, hr3⟩ := hh; have hsn := C8.snoc (hst.mono hle3) hru; obtain ⟨u1, u2, u3, u4, u5, u6, u7, u8, u9, rfl⟩ : ∃ u1 u2 u3 u4 u5 u6 u7 u8 u9, cu = [u1, u2, u3, u4, u5, u6, u7, u8, u9] := (by obtain ⟨_, _, _, _, _, _, _, _, _, rfl, _⟩ := hru.open; exact ⟨_, _, _, _, _, _, _, _, _, rfl⟩); have huo := hru.one)
 refine J0 ?_
 refine sE (A6 rfl) rfl (fun b84 => ?_)
 refine sS rfl rfl rfl rfl huo rfl ?_
 refine D0 ?_
 (refine I8 (C3 rfl rfl rfl (by omega) (by unfold maxLen; omega) rfl) rfl ?_; rintro _ ⟨b93, rfl⟩)
 (refine W7 rfl rfl rfl rfl rfl (fun _ _ => by repeat (first | exact Sw.here | apply Sw.there)) (N2 (by repeat first | exact mH | apply mT)) rfl (fun u hu => List.all_eq_true.1 huo u hu) (by unfold maxLen; omega) (by omega) rfl (fun p4 c4 => ?_))
 refine D7 ?_
 refine sP (I2 rfl rfl (by omega) (by omega)) rfl rfl ?_
 refine sQ (qM rfl) rfl (sD ?_)
 (rw [← A3c (by omega)] at hsn; refine I9 (i + 1, p4, c4, es ++ [[u1, u2, u3, u4, u5, u6, u7, u8, u9]], p3, _, c3, e3, G3) (by simp only [List.flatten_append, List.flatten_cons, List.flatten_nil, List.append_nil]; exact (N3 (by repeat (first | exact D4.nil | refine D4.cons rfl ?_)) (by repeat (first | exact A0.refl | exact A0.nil | refine A0.cons (by repeat (first | exact Pk.here | apply Pk.there)) ?_ | apply A0.drop)))) ?_ ?_)
 (dsimp only; exact ⟨by omega, hle.trans hle3, hsn, by rw [W4 (by omega), List.length_append]; simp only [List.length_drop]; omega, by simpa only [W4 (show i < ks.length by omega), List.length_append, List.drop_drop] using hs3, by simpa only [W4 (show i < ks.length by omega), List.length_append, List.drop_drop, Nat.add_assoc] using hr3⟩)
 (show ks.length - (i + 1) < ks.length - i; omega)
 refine T2 ?_
 (refine H8 (cs := es.flatten) (by repeat (first | exact Pk.here | apply Pk.there)) (fun G5 hle5 hsl5 hno5 => ?_); obtain rfl : i = ks.length := (by omega); rw [List.take_length] at hst hnl heL)
 refine tT ?_
 refine E9 (rC rfl (A2 rfl rfl)) (rT rfl) ?_
 (rw [hW2, hL2]; exact RtP.mk hk hnum hlb (by first | (rw [List.getD_eq_getElem?_getD, List.getElem?_eq_getElem (by omega), Option.getD_some, ← hT0]; exact hr1.mono (hle.trans hle5)) | exact hty.mono (hle.trans hle5) | (rw [List.getD_eq_getElem?_getD, List.getElem?_eq_getElem (by omega), Option.getD_some, ← hT0]; exact hr1.mono (hle.trans hle5))) (hfr.mono (by first | exact hle.trans hle5 | exact hle1.trans (hle.trans hle5))) (by rw [A1G]) hsl5 (hst.mono hle5) (by simp only [List.length_append, List.length_singleton, List.length_nil, List.length_drop] at hnl ⊢; omega) (hsL.mono hle5) (by simpa [List.drop_drop, Nat.add_comm] using heL.mono hle5))
 refine M1 ?_
 refine B6 ?_
 (have hL2 := hcn (by assumption); have hW2 := hwn (by assumption); refine T7 28 9 ?_; refine J3 (fun (x : Nat × Option Addr × Nat × List (List Value) × Option Addr × Nat × Nat × List (List Value) × IM) => ⟨[(25, .int .i64 x.1), (24, .int .i64 ks.length), (23, .slice q ks.length cq), (1, .slice x.2.2.2.2.1 x.2.2.2.2.2.1 x.2.2.2.2.2.2.1), (6, .pointer (some ⟨b11, 0, none⟩)), (4, .pointer (some ⟨b4, 0, none⟩))], [.blk b11 [.int .i64 k, .string nm, .int .i64 num, .int .i64 tk, .slice pt tks.length ct, .int .i64 fk, .slice pf fks.length cf, .int .i64 lb, .slice x.2.1 x.1 x.2.2.1], .slc x.2.1 x.2.2.1 28 9 x.1 x.2.2.2.1.flatten, .blk b4 [.int .i64 0, .string ⟨⟨[]⟩⟩, .int .i64 0, .int .i64 0, .slice none 0 0, .int .i64 0, .slice none 0 0, .int .i64 0, .slice none 0 0]], x.2.2.2.2.2.2.2.2⟩) (fun x => x.1 ≤ ks.length ∧ B1 G x.2.2.2.2.2.2.2.2 ∧ C8 x.2.2.2.2.2.2.2.2 (L9 (ks.take x.1) l) x.2.2.2.1 ∧ x.2.2.2.2.2.1 = (l.drop (D3 (ks.take x.1)).length).length ∧ B9 x.2.2.2.2.2.2.2.2 x.2.2.2.2.1 x.2.2.2.2.2.1 x.2.2.2.2.2.2.1 2 x.2.2.2.2.2.2.2.1 ∧ B0 x.2.2.2.2.2.2.2.2 (l.drop (D3 (ks.take x.1)).length) x.2.2.2.2.2.2.2.1) (fun x => ks.length - x.1) (0, none, 0, [], p, l.length, c, el, G) ?_ ?_ ?_)
 (simp only [E2]; exact C5)
 (exact ⟨Nat.zero_le _, B1.refl _, by simp [L9, C8], by simp [D3], hse, by simpa [D3] using hel⟩)
 (rintro ⟨(i : Nat), pn, cn, es, pl, nl, cl, eL, Gi⟩ ⟨hi, hle, hst, hnl, hsL, heL⟩; simp only [] at hi hle hst hnl hsL heL ⊢)
 refine tS (tR ?_)
 refine sB (J6 rfl rfl) rfl rfl (fun h151 => ?_) (fun h151 => ?_)
 refine sD (nS (tS (qT rfl (tK (nS (tS ?_))))))
 refine B6 ?_
 refine tS (tR ?_)
 (obtain ⟨b, o, e, rfl, hl, hat, hre, hgb⟩ := (hsl.mono (by first | exact hle | exact hle1.trans hle)).kidTm (hkl.mono (by first | exact hle | exact hle1.trans hle)) (i := i) (by omega) (by omega); have hone9 := hre.one; have hsc := A0A (ks := ks) (i := i) (by omega); have hsk := A0z (ks := ks) (i := i) (by omega); have hts1 := A3d (ks := ks) (i := i) (by omega); refine sP (B4 rfl rfl rfl (by omega)) rfl rfl ?_)
 refine sL (A5 rfl rfl (hat _) hl) rfl rfl ?_
 refine sE (A6 rfl) rfl (fun b164 => ?_)
 refine sS rfl rfl rfl hl hone9 rfl ?_ (hu := by exact D5 hl.symm)
 refine sD (nS (tS (tR ?_)))
 refine sL (A5 rfl rfl (B5 (by repeat first | exact mH | apply mT)) hl) rfl rfl ?_
 refine sQ (qM rfl) rfl ?_
 (subst hnl; refine T9 rfl (ih ks[i] (List.getElem_mem (by omega)) _ _ _ _ _ _ (by simp only [List.length_drop]; rw [hL2] at hlen; simp only [List.length_append, List.length_singleton, List.length_nil] at hlen; omega) (fun u hu => hsm u (by first | exact List.mem_of_mem_drop hu | exact List.mem_of_mem_drop (List.mem_of_mem_drop hu))) (by omega) hre hsL heL) rfl rfl (fun v G3 outs hle3 hh => ?_); obtain ⟨rfl, cu, p3, c3, e3, rfl, hru, hs3, hr3⟩ := hh; have hsn := C8.snoc (hst.mono hle3) hru; obtain ⟨u1, u2, u3, u4, u5, u6, u7, u8, u9, rfl⟩ : ∃ u1 u2 u3 u4 u5 u6 u7 u8 u9, cu = [u1, u2, u3, u4, u5, u6, u7, u8, u9] := (by obtain ⟨_, _, _, _, _, _, _, _, _, rfl, _⟩ := hru.open; exact ⟨_, _, _, _, _, _, _, _, _, rfl⟩); have huo := hru.one)
 refine J0 ?_
 refine sE (A6 rfl) rfl (fun b176 => ?_)
 refine sS rfl rfl rfl rfl huo rfl ?_
 refine D0 ?_
 (refine I8 (C3 rfl rfl rfl (by omega) (by unfold maxLen; omega) rfl) rfl ?_; rintro _ ⟨b185, rfl⟩)
 (refine W7 rfl rfl rfl rfl rfl (fun _ _ => by repeat (first | exact Sw.here | apply Sw.there)) (N2 (by repeat first | exact mH | apply mT)) rfl (fun u hu => List.all_eq_true.1 huo u hu) (by unfold maxLen; omega) (by omega) rfl (fun p4 c4 => ?_))
 refine D7 ?_
 refine sP (I2 rfl rfl (by omega) (by omega)) rfl rfl ?_
 refine sQ (qM rfl) rfl (sD ?_)
 (rw [← A3c (by omega)] at hsn; refine I9 (i + 1, p4, c4, es ++ [[u1, u2, u3, u4, u5, u6, u7, u8, u9]], p3, _, c3, e3, G3) (by simp only [List.flatten_append, List.flatten_cons, List.flatten_nil, List.append_nil]; exact (N3 (by repeat (first | exact D4.nil | refine D4.cons rfl ?_)) (by repeat (first | exact A0.refl | exact A0.nil | refine A0.cons (by repeat (first | exact Pk.here | apply Pk.there)) ?_ | apply A0.drop)))) ?_ ?_)
 (dsimp only; exact ⟨by omega, hle.trans hle3, hsn, by rw [W4 (by omega), List.length_append]; simp only [List.length_drop]; omega, by simpa only [W4 (show i < ks.length by omega), List.length_append, List.drop_drop] using hs3, by simpa only [W4 (show i < ks.length by omega), List.length_append, List.drop_drop, Nat.add_assoc] using hr3⟩)
 (show ks.length - (i + 1) < ks.length - i; omega)
 refine T2 ?_
 (refine H8 (cs := es.flatten) (by repeat (first | exact Pk.here | apply Pk.there)) (fun G5 hle5 hsl5 hno5 => ?_); obtain rfl : i = ks.length := (by omega); rw [List.take_length] at hst hnl heL)
 refine tT ?_
 refine E9 (rC rfl (A2 rfl rfl)) (rT rfl) ?_
 (rw [hW2, hL2]; exact RtP.mk hk hnum hlb (by first | (rw [List.getD_eq_getElem?_getD, List.getElem?_eq_getElem (by omega), Option.getD_some, ← hT0]; exact hr1.mono (hle.trans hle5)) | exact hty.mono (hle.trans hle5) | (rw [List.getD_eq_getElem?_getD, List.getElem?_eq_getElem (by omega), Option.getD_some, ← hT0]; exact hr1.mono (hle.trans hle5))) (hfr.mono (by first | exact hle.trans hle5 | exact hle1.trans (hle.trans hle5))) (by rw [A1G]) hsl5 (hst.mono hle5) (by simp only [List.length_append, List.length_singleton, List.length_nil, List.length_drop] at hnl ⊢; omega) (hsL.mono hle5) (by simpa [List.drop_drop, Nat.add_comm] using heL.mono hle5))
section bits
variable {P : Program} {Γ : K1} {env : K7} {hp : List A4} {G : IM} {ty : TypeId}
end bits
theorem B1Z {cs vs cs' C : List Value} {o : Nat} (h : Q5 cs o vs = some cs') : cs' ++ C = (cs ++ C).take o ++ vs ++ (cs ++ C).drop (o + vs.length) := by
 obtain ⟨h1, h2⟩ := A1U h
 rw [h1, List.take_append_of_le_length (by omega), List.drop_append_of_le_length (by omega)]
 simp
section wr
variable {P : Program} {Γ : K1} {env : K7} {hp : List A4} {G : IM} {ty : TypeId} {K : Po} {ops : Array Oper} {rest : List Oper}
theorem B10 {d : Option Nat} {x y : Operand} {t : TypeId} {i : K3} [hI : H5 P t i] {b o c el sz n : Nat} {v : Value} {vs cs cs' : List Value} {hp' : List A4}
  (hx : evo env x = some (.pointer (some ⟨b, o, none⟩))) (hy : evo env y = some v) (hv : v.cells = ⟨vs⟩) (hsz : vs.length = i.size) (h1 : vs.all (·.oneCell') = true)
  (hu : Q5 cs o vs = some cs') (hm : Sw hp (.slc (some ⟨b, 0, none⟩) c el sz n cs) (.slc (some ⟨b, 0, none⟩) c el sz n cs') hp') (hd : dok Γ.n d = true) :
  U8 P Γ ⟨env, hp, G⟩ d (.store t x y) ty [b] (fun σ' => σ' = ⟨dpu d undef env, hp', G⟩) := by
 refine ⟨fun a w hs pos af gd Q next hn => ?_⟩
 obtain ⟨rest, p1, p2⟩ := hm.perm
 have hown : R5 [.slc (some ⟨b, 0, none⟩) c el sz n cs] G w := hs.res.own.of_mem p1
 obtain ⟨hl, h⟩ := hown.ok _ List.mem_cons_self
 rcases h with ⟨hv', _⟩ | ⟨g, cap, cur, hv', hbg, hg, hnc, hcm, hcs, ht⟩
 ·cases hv'
 cases hv'
 obtain ⟨u1, u2⟩ := A1U hu
 have hcur : cur.toList = cs ++ cur.toList.drop (n * sz) := by
  conv => lhs; rw [← List.take_append_drop (n * sz) cur.toList, ht]
 have hlen : cs.length ≤ cur.size := by
  rw [hl, hcs]; exact Nat.mul_le_mul_right _ hnc
 have hst := run_storeCells_at P b o el vs 0 cur w hg (by omega) (by simpa using h1)
 obtain ⟨cur', hcur'⟩ : ∃ l : List Value, l = cs' ++ cur.toList.drop (n * sz) := ⟨_, rfl⟩
 have hcc : cur.toList.take (o + 0) ++ vs ++ cur.toList.drop (o + 0 + vs.length) = cur' := by
  rw [hcur', Nat.add_zero, B1Z hu, ← hcur]
 rw [hcc] at hst
 have hl' : cs'.length = cs.length := by rw [u1]; simp; omega
 have hsz' : cur'.length = cur.size := by
  have := congrArg List.length hcur
  rw [hcur', List.length_append, hl']
  simpa using this.symm
 obtain ⟨inf, g1, g2, _⟩ := hI.info
 have hrun : (execOp a.eval ⟨d, .store t x y, ty, pos, af, gd⟩).run P w = .ok .skip (w.setRow b cur'.toArray) := by
  simp [execOp, Instr.storeAt, Instr.sureAddr, (hs.evo hx : a.eval x = _), (hs.evo hy : a.eval y = _), storeVar, sizeOf, typeInfo, g1, g2, hv, hsz, hst]
 simp only [Oper.wp, hrun, Oper.upon]
 have hr' : Q4 [.slc (some ⟨b, 0, none⟩) c el sz n cs] G w [.slc (some ⟨b, 0, none⟩) c el sz n cs'] G (w.setRow b cur'.toArray) := by
  refine ⟨⟨?_, ?_, by simp [Fp, A4.fp, I5], ?_⟩, ⟨rfl, rfl, rfl, by simp [World.setRow], fun k _ hk => setRow_other w b k _ (by rintro rfl; simp [Fp, A4.fp, I5] at hk)⟩, B1.refl _, fun _ _ h => .inl h, ?_, fun b l h h0 => absurd h (by rw [h0]; simp)⟩
  ·intro k l hg'
   obtain ⟨e', f', h'⟩ := hown.inn k l hg'
   refine ⟨e', f', ?_⟩
   rw [setRow_other w b k _ ?_]
   ·exact h'
   ·rintro rfl
    have := hown.disj k (by simp [Fp, A4.fp, I5])
    rw [this] at hg'; cases hg'
  ·intro x hx
   simp at hx; subst hx
   refine ⟨by rw [hl', hl], .inr ⟨b, _, cur'.toArray, rfl, hbg, setRow_heap w b cur cur'.toArray el (0, 0) hg, hnc, hcm, by rw [List.size_toArray, hsz', hcs], ?_⟩⟩
   rw [hcur', List.take_left' (by rw [hl', hl])]
  ·intro k hk
   exact hown.disj k (by simpa [Fp, A4.fp, I5] using hk)
  ·intro k hk
   exact .inr (by simpa [Fp, A4.fp, I5] using hk)
 exact hn _ _ _ (hs.step p1 hr' p2 hd) (by simpa [Fp, A4.fp, I5] using hr'.ext) rfl
variable {pos : String} {af : Array Edge} {gd : Option (Nat × Bool)}
theorem B11 {c el sz n : Nat} {cs vs : List Value} {x y : Operand} {t : TypeId} {i : K3} [hI : H5 P t i] {bb o : Nat} {v : Value} {cs' : List Value} {hp' : List A4}
  (hx : evo env x = some (.pointer (some ⟨bb, o, none⟩))) (hy : evo env y = some v) (hv : v.cells = ⟨vs⟩) (hsz : vs.length = i.size) (h1 : vs.all (·.oneCell') = true)
  (hw : K5 ops env gd = some true) (hsw : Sw hp (.slc (some ⟨bb, 0, none⟩) c el sz n cs) (.slc (some ⟨bb, 0, none⟩) c el sz n cs') hp') (hu : Q5 cs o vs = some cs')
  (k : E8 P Γ ops rest K ⟨env, hp', G⟩) : E8 P Γ ops (⟨none, .store t x y, ty, pos, af, gd⟩ :: rest) K ⟨env, hp, G⟩ :=
 I8 (B10 hx hy hv hsz h1 hu hsw rfl) hw (by rintro _ rfl; exact k)
theorem St.slc_ptT {p : Option Addr} {c el sz n : Nat} {cs : List Value} {a : Act} {w : World} (hs : St Γ ⟨env, hp, G⟩ a w) (hm : A4.slc p c el sz n cs ∈ hp) :
  (p = none ∧ n = 0 ∧ c = 0) ∨ ∃ g, p = some ⟨g, 0, none⟩ ∧ n ≤ c := by
 obtain ⟨_, h⟩ := hs.res.own.ok _ hm
 rcases h with ⟨hv, hn⟩ | ⟨g, cap, cur, hv, _, _, hnc, _⟩
 ·cases hv; exact .inl ⟨rfl, hn, rfl⟩
 ·cases hv; exact .inr ⟨g, rfl, hnc⟩
end wr
theorem B12 {es : List (List Value)} {i sz : Nat} {vs : List Value} (hi : i < es.length) (ha : ∀ e ∈ es, e.length = sz) (hv : vs.length = sz) : Q5 es.flatten (0 + i * sz) vs = some (es.set i vs).flatten := by
 have h1 : es.flatten = (es.take i).flatten ++ (es[i] ++ (es.drop (i + 1)).flatten) := by
  conv => lhs; rw [← List.take_append_drop i es, List.drop_eq_getElem_cons hi]
  rw [List.flatten_append, List.flatten_cons]
 have h2 : (es.set i vs).flatten = (es.take i).flatten ++ (vs ++ (es.drop (i + 1)).flatten) := by rw [List.set_eq_take_append_cons_drop, if_pos hi, List.flatten_append, List.flatten_cons]
 have hA : ((es.take i).flatten).length = 0 + i * sz := by rw [X6 (fun e he => ha e (List.mem_of_mem_take he)), List.length_take, Nat.min_eq_left (by omega)]; omega
 rw [h1, h2]
 exact A3R hA (by rw [ha _ (List.getElem_mem hi), hv])
theorem B0.set {G : IM} : ∀ {l : List Ty} {es : List (List Value)} (i : Nat) {u : Ty} {c : List Value}, B0 G l es → B3 G u c → B0 G (l.set i u) (es.set i c)
 | [], es, i, u, c, h, _ => by simp only [B0] at h; subst h; simp [B0]
 | t :: l, es, 0, u, c, h, h2 => by
  simp only [B0] at h
  obtain ⟨a, r, rfl, _, h3⟩ := h
  simp only [List.set_cons_zero, B0]
  exact ⟨c, r, rfl, h2, h3⟩
 | t :: l, es, i + 1, u, c, h, h2 => by
  simp only [B0] at h
  obtain ⟨a, r, rfl, h4, h3⟩ := h
  simp only [List.set_cons_succ, B0]
  exact ⟨a, _, rfl, h4, B0.set i h3 h2⟩
mutual
theorem A7Q : ∀ t : Tm, t.small → ∀ u ∈ C6 t, u.small
 | .mk k nm num ty fr lb ks, h, u, hu => by
  simp only [Tm.small] at h
  rw [C6] at hu
  rcases List.mem_append.1 hu with hu | hu
  ·split at hu
   ·simp only [List.mem_singleton] at hu; subst hu; exact h.2.1
   ·cases hu
  ·exact A7R ks h.2.2.2.2 u hu
theorem A7R : ∀ ts : List Tm, Tm.smallL ts → ∀ u ∈ D3 ts, u.small
 | [], _, u, hu => by simp [D3] at hu
 | t :: ts, h, u, hu => by
  simp only [Tm.smallL] at h
  rw [D3] at hu
  rcases List.mem_append.1 hu with hu | hu
  ·exact A7Q t h.1 u hu
  ·exact A7R ts h.2 u hu
end
theorem B13 (e : Tm) (a b : Ty) (l : Int) : E0 (O7 e a b l) = E0 e + 1 := by rw [O7, A1s, H1, H1]
theorem B14 : E0 J4 = 1 := by simp [J4, E0, H1]
variable {P : Program} {G : IM}
theorem Fn.forget {f : FuncId} {args : List Value} {v0 : Value} {post : IM → Value → List A4 → Prop} (h : Fn P f args [] G post) (hv : ∀ G' v outs, post G' v outs → v = v0) : Fn P f args [] G (H9 v0 G) := by
 refine ⟨fun w hw => (h.run w hw).mono ?_⟩
 rintro e w' ⟨u, G', outs, rfl, hres, hp⟩
 refine ⟨u, G, [], rfl, ⟨⟨fun b l hb => hres.own.inn b l (hres.le b l hb), by simp, by simp [Fp], by simp [Fp]⟩, hres.ext, B1.refl _, fun _ _ h => .inl h, by simp [Fp], fun b l h h0 => absurd h (by rw [h0]; simp)⟩, rfl, hv _ _ _ hp, rfl⟩
def A7S (u : Ty) (G : IM) : IM → Value → List A4 → Prop := L5 fun G' v => ∃ cells, v = .agg ⟨cells⟩ ∧ B3 G' u cells
def X1 (r : Option Ty) (G : IM) : IM → Value → List A4 → Prop := L5 fun G' v => ∃ cells u, v = .tuple ⟨[.agg ⟨cells⟩, .bool r.isSome]⟩ ∧ B3 G' u cells ∧ ∀ t, r = some t → u = t
theorem A7T {G : IM} {k : Int} {a b : Ty} {ca cb : List Value} {p : Option Addr} {c : Nat} (hk : D9 k) (ha : B3 G a ca) (hb : B3 G b cb) (hs : Sl G p 2 c 2 (ca ++ cb)) : B3 G (.mk k [a, b]) [.int .i64 k, .slice p 2 c] := by
 have hL : B0 G [a, b] [ca, cb] := by simp only [B0]; exact ⟨ca, [cb], rfl, ha, cb, [], rfl, hb, rfl⟩
 exact B0.ty (ts := [a, b]) (es := [ca, cb]) hL rfl (by simpa using hs) hk
theorem A5m : ∀ (t t' : Ty) (G : IM) (cells cells' : List Value), B3 G t cells → B3 G t' cells' → Fn Tryz.prog 16 [.agg ⟨cells⟩, .agg ⟨cells'⟩] [] G (H9 (.bool (P1 t t')) G) := by
 refine Ty.ind fun k ks ih t' G cells cells' hr hr' => ?_
 obtain ⟨k', ks'⟩ := t'
 obtain ⟨p, c, es, rfl, hk, hsl, hkl⟩ := hr.open
 obtain ⟨p', c', es', rfl, hk', hsl', hkl'⟩ := hr'.open
 simp only [Ty.k, Ty.ks] at hk hsl hkl hk' hsl' hkl' ⊢
 obtain ⟨A, hA⟩ : ∃ A, A0k ks ks' = A := ⟨_, rfl⟩
 have hA' : A = true ↔ ks.length = ks'.length ∧ ∀ i, i < ks.length → P1 (ks.getD i A7) (ks'.getD i A7) = true := by
  rw [← hA, A7B]
  constructor
  ·rintro ⟨h1, h2⟩
   refine ⟨h1, fun i hi => ?_⟩
   have := h2 i hi (by omega)
   simpa [List.getD_eq_getElem?_getD, List.getElem?_eq_getElem hi, List.getElem?_eq_getElem (show i < ks'.length by omega)] using this
  ·rintro ⟨h1, h2⟩
   refine ⟨h1, fun i hi hi' => ?_⟩
   have := h2 i hi
   simpa [List.getD_eq_getElem?_getD, List.getElem?_eq_getElem hi, List.getElem?_eq_getElem hi'] using this
 refine B7 Tryz.func16 rfl Tryz.ntmps16 Tryz.results16 rfl ?_
 intro w0
 refine tS (tR ?_)
 refine sE (C2 rfl rfl) rfl (fun b3 => ?_)
 refine sE (C2 rfl rfl) rfl (fun b4 => ?_)
 refine D2 ?_
 refine sB (qE rfl rfl) rfl rfl (fun h14 => ?_) (fun h14 => ?_)
 refine R2 ?_
 refine H2 rfl (A46 _ _ _ _ _ _ _ _ _ hsl hsl' _ [] [] [] (fun i => P1 (ks.getD i A7) (ks'.getD i A7)) A hA' (fun i e e' he he' => ih _ (hkl.inv he A7).1 _ _ _ _ (hkl.inv he A7).2 (hkl'.inv he' A7).2)) rfl rfl ?_
 refine I0 ?_
 exact ⟨rfl, by rw [A5b, hA]; first | (rw [decide_eq_true (p := k = k') (by omega)]; rfl) | (rw [decide_eq_false (p := k = k') (by omega)]; rfl), rfl⟩
 refine N8 ?_
 exact ⟨rfl, by rw [A5b, hA]; first | (rw [decide_eq_true (p := k = k') (by omega)]; rfl) | (rw [decide_eq_false (p := k = k') (by omega)]; rfl), rfl⟩
theorem A1H (k : Int) (a b : Ty) (G : IM) (ca cb : List Value) (hk : D9 k) (hra : B3 G a ca) (hrb : B3 G b cb) :
  Fn Tryz.prog 105 [.int .i64 k, .agg ⟨ca⟩, .agg ⟨cb⟩] [] G (A7S (.mk k [a, b]) G) := by
 obtain ⟨pa, cca, ea, rfl, _⟩ := hra.open
 obtain ⟨pb, ccb, eb, rfl, _⟩ := hrb.open
 refine B7 Tryz.func105 rfl Tryz.ntmps105 Tryz.results105 rfl ?_
 intro w0
 refine tS (tR ?_)
 refine sE (C2 rfl rfl) rfl (fun b3 => ?_)
 refine sE (C2 rfl rfl) rfl (fun b4 => ?_)
 refine sE (A6 rfl) rfl (fun b5 => ?_)
 refine D0 ?_
 (refine I8 (C3 rfl rfl rfl (by omega) (by unfold maxLen; omega) rfl) rfl ?_; rintro _ ⟨b13, rfl⟩)
 refine sQ (S0 rfl rfl) rfl (F9 ?_)
 refine sD (nS ?_)
 (refine H8 (by repeat (first | exact Pk.here | apply Pk.there)) (fun G5 hle5 hsl5 hno5 => ?_))
 refine tT ?_
 refine F0 (rC rfl (A2 rfl rfl)) ?_
 exact ⟨rfl, _, rfl, A7T hk (hra.mono hle5) (hrb.mono hle5) hsl5⟩
theorem A1u (k tk : Int) (ks : List Ty) : R3 k (.mk tk ks) = if tk = k then some (ks.getD 0 A7, ks.getD 1 A7) else if tk = 1 then some (P0, P0) else none := rfl
def A7U (k : Int) (t : Ty) (G : IM) : IM → Value → List A4 → Prop := L5 fun G' v => ∃ a ca b cb, v = .tuple ⟨[.agg ⟨ca⟩, .agg ⟨cb⟩, .bool (R3 k t).isSome]⟩ ∧ B3 G' a ca ∧ B3 G' b cb ∧ D8 a ∧ D8 b ∧ ∀ p, R3 k t = some p → p = (a, b)
theorem A7V (k : Int) (t : Ty) (G : IM) (cells : List Value) (hk : k = 4 ∨ k = 5) (ha : D8 t) (hr : B3 G t cells) :
  Fn Tryz.prog 106 [.agg ⟨cells⟩, .int .i64 k] [] G (A7U k t G) := by
 obtain ⟨tk, ks⟩ := t
 have ha2 := ha
 rw [D8] at ha2
 have hkid := ha.kid
 obtain ⟨p, c, es, rfl, htk, hsl, hkl⟩ := hr.open
 simp only [Ty.k, Ty.ks] at htk hsl hkl ⊢
 refine B7 Tryz.func106 rfl Tryz.ntmps106 Tryz.results106 rfl ?_
 intro w0
 refine tS (tR ?_)
 refine sE (C2 rfl rfl) rfl (fun b3 => ?_)
 refine sE (A6 rfl) rfl (fun b4 => ?_)
 refine sE (A6 rfl) rfl (fun b5 => ?_)
 refine L6 ?_
 refine B6 (tS (tR (sQ (qM rfl) rfl (sB (qE rfl rfl) rfl rfl (fun h20 => ?_) (fun h20 => ?_)))))
 refine sQ (qA rfl) rfl (sD (nS (qT rfl (tS ?_))))
 (have hlen : ks.length = 2 := ha2.1 (by omega); obtain ⟨b, o, q0, d0, hp0, hat0, hre0, hg0⟩ := hsl.kidTy hkl (i := 0) (by omega) (by omega); obtain ⟨b', o', q1, d1, hp1, hat1, hre1, hg1⟩ := hsl.kidTy hkl (i := 1) (by omega) (by omega); subst hp0; cases hp1; refine E4 E7 rfl ?_)
 refine K2 (i := 0) (l' := [tt,ff,ff,ff,ff,ff,ff,ff,ff,ff,ff]) rfl D6 (B8 rfl) rfl (by kernel_rfl) rfl rfl ?_
 refine aL 1 rfl (C7 rfl rfl) rfl ?_
 refine aP 2 rfl (B4 (j := 0) rfl rfl rfl (by omega)) rfl ?_
 refine aL 3 rfl (A5 rfl rfl (hat0 _) rfl) rfl ?_
 refine aP 4 rfl (B8 rfl) rfl ?_
 refine aL 5 rfl (C7 rfl rfl) rfl ?_
 refine aP 6 rfl (B4 (j := 1) rfl rfl rfl (by omega)) rfl ?_
 refine aL 7 rfl (A5 rfl rfl (hat1 _) rfl) rfl ?_
 refine A3 8 ?_
 refine H6 rfl ?_
 refine A3 9 ?_
 refine H6 rfl ?_
 refine aP 10 rfl (qA rfl) rfl ?_
 refine C4 (nS (tT (rB (rS ?_))))
 refine E6 (rC rfl (A2 rfl rfl)) (rC rfl (A2 rfl rfl)) (rT rfl) ?_
 (refine ⟨rfl, _, _, _, _, ?_, hre0, hre1, hkid _ (List.getElem_mem (by omega)), hkid _ (List.getElem_mem (by omega)), ?_⟩ <;> rw [A1u, if_pos (by omega)] <;> first | rfl | (intro p hp; cases hp; simp [hlen]))
 refine sQ (qA rfl) rfl (sD (nS (cF rfl (tS (tR ?_)))))
 refine sB (qE rfl rfl) rfl rfl (fun h53 => ?_) (fun h53 => ?_)
 refine sQ (qA rfl) rfl (sD (nS (qT rfl (tS (tR ?_)))))
 refine H2 rfl ((A0V _ _)) rfl rfl ?_
 refine H2 rfl ((A0V _ _)) rfl rfl ?_
 refine F9 ?_
 refine F9 ?_
 refine sQ (qA rfl) rfl (sD (nS (tT (rB (rS ?_)))))
 refine E6 (rC rfl (A2 rfl rfl)) (rC rfl (A2 rfl rfl)) (rT rfl) ?_
 (refine ⟨rfl, _, _, _, _, ?_, A0l _, A0l _, A27, A27, ?_⟩ <;> rw [A1u, if_neg (by omega), if_pos (by omega)] <;> first | rfl | (intro p hp; cases hp; rfl))
 refine T2 ?_
 refine E6 (rC rfl (A2 rfl rfl)) (rC rfl (A2 rfl rfl)) (rT rfl) ?_
 (refine ⟨rfl, A7, _, A7, _, ?_, L4 _ ⟨by omega, by omega⟩, L4 _ ⟨by omega, by omega⟩, S8 (by omega) (by omega), S8 (by omega) (by omega), ?_⟩ <;> rw [A1u, if_neg (by omega), if_neg (by omega)] <;> first | rfl | (intro p hp; cases hp))
def A2x (G : IM) (b : ByteArray × Ty) (e : List Value) : Prop := ∃ q d, e = [.string b.1, .int .i64 b.2.k, .slice q b.2.ks.length d] ∧ B3 G b.2 [.int .i64 b.2.k, .slice q b.2.ks.length d]
theorem A2x.mono {G G' : IM} {b : ByteArray × Ty} {e : List Value} (h : A2x G b e) (hg : B1 G G') : A2x G' b e := by
 obtain ⟨q, d, h1, h2⟩ := h
 exact ⟨q, d, h1, h2.mono hg⟩
def S4 (G : IM) (cx : Cx) (p : Option Addr) (n c : Nat) : Prop := n = cx.length ∧ ∃ es : List (List Value), B9 G p n c 3 es ∧ ∀ (i : Nat) (b : ByteArray × Ty), cx[i]? = some b → ∃ e, es[i]? = some e ∧ A2x G b e
theorem S4.mono {G G' : IM} {cx : Cx} {p : Option Addr} {n c : Nat} (h : S4 G cx p n c) (hg : B1 G G') : S4 G' cx p n c := by
 obtain ⟨h1, es, h2, h3⟩ := h
 refine ⟨h1, es, h2.mono hg, fun i b hb => ?_⟩
 obtain ⟨e, he, hr⟩ := h3 i b hb
 exact ⟨e, he, hr.mono hg⟩
theorem S4.nil (G : IM) : S4 G [] none 0 0 := ⟨rfl, [], B9.nil _ _, by simp⟩
theorem S4.le {G : IM} {cx : Cx} {p : Option Addr} {n c : Nat} (h : S4 G cx p n c) : n ≤ 9223372036854775807 := by
 obtain ⟨h1, es, h2, h3⟩ := h
 exact h2.le
theorem S4.get {G : IM} {cx : Cx} {p : Option Addr} {n c : Nat} (h : S4 G cx p n c) {i : Nat} (hi : i < n) :
  ∃ b o nm t q d, cx[i]? = some (nm, t) ∧ p = some ⟨b, o, none⟩ ∧ (∀ hp, At hp G b (o + i * 3) [.string nm, .int .i64 t.k, .slice q t.ks.length d]) ∧ B3 G t [.int .i64 t.k, .slice q t.ks.length d] ∧ G b ≠ none := by
 obtain ⟨h1, es, h2, h3⟩ := h
 obtain ⟨e, b, o, he, rfl, hl, _, hat, hgb⟩ := h2.get (i := i) (by omega)
 have hx : cx[i]? = some cx[i] := List.getElem?_eq_getElem (by omega)
 obtain ⟨e', he', q, d, h4, h5⟩ := h3 i _ hx
 rw [he] at he'
 obtain rfl := Option.some.inj he'
 rw [h4] at hat
 exact ⟨b, o, cx[i].1, cx[i].2, q, d, hx, rfl, hat, h5, hgb⟩
theorem B15 (G : IM) (cx : Cx) (p : Option Addr) (n c : Nat) (nm : ByteArray) (hx : S4 G cx p n c) :
  Fn Tryz.prog 104 [.slice p n c, .string nm] [] G (X1 (Z2 cx nm) G) := by
 have hn := hx.le
 have hn1 := hx.1
 refine B7 Tryz.func104 rfl Tryz.ntmps104 Tryz.results104 rfl ?_
 intro w0
 refine tS (tR ?_)
 refine sE (A6 rfl) rfl (fun b3 => ?_)
 refine D7 ?_
 refine sP (O4 rfl rfl (by omega) (by omega)) rfl rfl ?_
 refine sQ (qA rfl) rfl (sD (nS ?_))
 refine B6 ?_
 (refine J3 (fun (i : Nat) => ⟨[(6, .int .i64 ((i : Int) - 1)), (0, .slice p n c), (1, .string nm), (4, .pointer (some ⟨b3, 0, none⟩))], [.blk b3 [.int .i64 0, .slice none 0 0]], G⟩) (fun i => i ≤ n ∧ X0 cx nm i = Z2 cx nm) (fun i => i) n ?_ ?_ ?_)
 exact C5
 exact ⟨Nat.le_refl _, by rw [hn1]; rfl⟩
 (rintro i ⟨hi, hlk⟩)
 refine tS (tS (tR (sQ (qM rfl) rfl ?_)))
 refine sB (A0Q rfl rfl) rfl rfl (fun h25 => ?_) (fun h25 => ?_)
 refine sD (nS (qT rfl (tK (nS (tS ?_)))))
 (show J1 _ _ (.block 1 _) _ _; obtain ⟨j, rfl⟩ : ∃ j, i = j + 1 := ⟨i - 1, by omega⟩; rw [show ((j + 1 : Nat) : Int) - 1 = (j : Int) from by omega]; obtain ⟨b, o, nm1, t1, q1, d1, hcx, rfl, hat, hr1, hgb⟩ := hx.get (i := j) (by omega); refine B6 ?_)
 refine tS (tR (sQ (qM rfl) rfl (sQ (qM rfl) rfl ?_)))
 refine sP (B4 rfl rfl rfl (by omega)) rfl rfl ?_
 refine sQ (qF rfl) rfl ?_
 refine sL (A0w rfl rfl ((hat _).sub (j := 0) rfl)) rfl rfl ?_
 refine sQ (qM rfl) rfl ?_
 refine sB (A2k rfl rfl) rfl rfl (fun h41 => ?_) (fun h41 => ?_)
 refine D0 ?_
 refine sP (B4 rfl rfl rfl (by omega)) rfl rfl ?_
 refine sQ (qF rfl) rfl ?_
 refine sL (A5 rfl rfl (hat _).drop rfl) rfl rfl ?_
 refine L6 ?_
 refine E9 (rC rfl (A2 rfl rfl)) (rT rfl) ?_
 (rw [A5c hcx (by assumption)] at hlk; rw [← hlk]; exact ⟨rfl, _, _, rfl, hr1, fun t ht => by cases ht; rfl⟩)
 refine D7 ?_
 refine sP (O4 rfl rfl (by omega) (by omega)) rfl rfl ?_
 refine sQ (qA rfl) rfl (sD ?_)
 refine I9 j ?_ ?_ ?_
 exact C5
 (rw [A5d hcx (by assumption)] at hlk; exact ⟨by omega, hlk⟩)
 (show _ < _ + 1; omega)
 refine K8 ?_
 refine E9 (rC rfl (A2 rfl rfl)) (rT rfl) ?_
 (obtain rfl : i = 0 := (by omega); rw [X0] at hlk; rw [← hlk]; exact ⟨rfl, _, A7, rfl, L4 _ ⟨by omega, by omega⟩, fun t ht => by cases ht⟩)
theorem B16 {xs ys : List Ty} (h : xs.length = 2) (h' : ys.length = 2) : R7 xs ys = [T5 (xs[0]'(by omega)) (ys[0]'(by omega)), T5 (xs[1]'(by omega)) (ys[1]'(by omega))] := by
 match xs, ys, h, h' with
 | [a, b], [c, d], _, _ => rfl
theorem B17 {k k' : Int} {ks bs : List Ty} (h : J7 (.mk k ks) (.mk k' bs) = true) (hk : k ≠ 1) (hk' : k' ≠ 1) : k = k' ∧ N0 ks bs = true := by
 rw [S2] at h
 simpa [hk, hk'] using h
theorem A7W : ∀ (a b : Ty) (G : IM) (ca cb : List Value), J7 a b = true → D8 a → D8 b → B3 G a ca → B3 G b cb →
  Fn Tryz.prog 108 [.agg ⟨ca⟩, .agg ⟨cb⟩] [] G (A7S (T5 a b) G) := by
 refine Ty.ind fun k ks ih b G ca cb hc haa hab hra hrb => ?_
 have hsa := haa.small
 have hsb := hab.small
 obtain ⟨bk, bks⟩ := b
 have hra0 := hra
 have hrb0 := hrb
 have ha2 := haa
 have hb2 := hab
 rw [D8] at ha2 hb2
 have hkida := haa.kid
 have hkidb := hab.kid
 obtain ⟨p, c, es, rfl, hk, hsl, hkl⟩ := hra.open
 obtain ⟨p', c', es', rfl, hk', hsl', hkl'⟩ := hrb.open
 simp only [Ty.k, Ty.ks] at hk hsl hkl hk' hsl' hkl' ⊢
 have hn := hsl.le
 rw [A0W]
 refine B7 Tryz.func108 rfl Tryz.ntmps108 Tryz.results108 rfl ?_
 intro w0
 refine tS (tR ?_)
 refine sE (C2 rfl rfl) rfl (fun b3 => ?_)
 refine sE (C2 rfl rfl) rfl (fun b4 => ?_)
 refine sE (A6 rfl) rfl (fun b5 => ?_)
 refine sD (nS (tS ?_))
 refine B6 ?_
 refine tS (tR (sQ (B8 rfl) rfl (sL (C7 rfl rfl) rfl rfl ?_)))
 refine sB (qE rfl rfl) rfl rfl (fun h14 => ?_) (fun h14 => ?_)
 refine D0 ?_
 (refine F4 rfl (A06 _ _ _ hsb hrb0) rfl rfl (fun v G1 hle1 hh => ?_); obtain ⟨cs1, F1, rfl, hs1, hn1⟩ := hh; obtain ⟨p1, c1, rfl, _⟩ := hs1.open; have hr1 := hs1.R.mono (C1.le G1 _))
 refine F9 ?_
 refine sD (nS (tT (rB (rS ?_))))
 refine F0 (rC rfl (A2 rfl rfl)) ?_
 (rw [if_pos (by omega)]; exact ⟨rfl, _, rfl, hr1⟩)
 refine D7 ?_
 refine sB (qE rfl rfl) rfl rfl (fun h39 => ?_) (fun h39 => ?_)
 refine L7 ?_
 (refine F4 rfl (A06 _ _ _ hsa hra0) rfl rfl (fun v G1 hle1 hh => ?_); obtain ⟨cs1, F1, rfl, hs1, hn1⟩ := hh; obtain ⟨p1, c1, rfl, _⟩ := hs1.open; have hr1 := hs1.R.mono (C1.le G1 _))
 refine F9 ?_
 refine sD (nS (tT (rB (rS ?_))))
 refine F0 (rC rfl (A2 rfl rfl)) ?_
 (rw [if_neg (by omega)]; split <;> first | exact ⟨rfl, _, rfl, hr1⟩ | (obtain rfl : ks = [] := List.length_eq_zero_iff.1 (by omega); rw [R7]; exact ⟨rfl, _, rfl, hr1⟩; simp))
 refine J5 ?_
 refine sB (qE rfl rfl) rfl rfl (fun h66 => ?_) (fun h66 => ?_)
 refine D7 ?_
 (refine F4 rfl (A06 _ _ _ hsa hra0) rfl rfl (fun v G1 hle1 hh => ?_); obtain ⟨cs1, F1, rfl, hs1, hn1⟩ := hh; obtain ⟨p1, c1, rfl, _⟩ := hs1.open; have hr1 := hs1.R.mono (C1.le G1 _))
 refine F9 ?_
 refine sD (nS (tT (rB (rS ?_))))
 refine F0 (rC rfl (A2 rfl rfl)) ?_
 (rw [if_neg (by omega)]; split <;> first | exact ⟨rfl, _, rfl, hr1⟩ | (obtain rfl : ks = [] := List.length_eq_zero_iff.1 (by omega); rw [R7]; exact ⟨rfl, _, rfl, hr1⟩; simp))
 refine D2 ?_
 (obtain ⟨hkk, hcl0⟩ := B17 hc (by omega) (by omega); subst hkk; have hcl := (A10 _ _).1 hcl0; have hlen : ks.length = 2 := (by have := ha2.2.1; have := ha2.1; omega); have hlen' : bks.length = 2 := (by omega); obtain ⟨b0, o0, q0, d0, hp0, hat0, hre0, hg0⟩ := hsl.kidTy hkl (i := 0) (by omega) (by omega); obtain ⟨b1, o1, q1, d1, hp1, hat1, hre1, hg1⟩ := hsl.kidTy hkl (i := 1) (by omega) (by omega); subst hp0; cases hp1; obtain ⟨b2, o2, q2, d2, hp2, hat2, hre2, hg2⟩ := hsl'.kidTy hkl' (i := 0) (by omega) (by omega); obtain ⟨b3, o3, q3, d3, hp3, hat3, hre3, hg3⟩ := hsl'.kidTy hkl' (i := 1) (by omega) (by omega); subst hp2; cases hp3; have hM1 := ih ks[0] (List.getElem_mem (by omega)) bks[0] G _ _ (hcl.2 0 (by omega) (by omega)) (hkida _ (List.getElem_mem (by omega))) (hkidb _ (List.getElem_mem (by omega))) hre0 hre2; refine E4 E7 rfl ?_)
 refine K2 (i := 0) (l' := [tt,ff,ff,ff,ff,ff,ff,ff,ff,ff,ff,ff,ff,ff,ff,ff,ff,ff,ff,ff,ff,ff]) rfl D6 (B8 rfl) rfl (by kernel_rfl) rfl rfl ?_
 refine aL 1 rfl (C7 rfl rfl) rfl ?_
 refine aP 2 rfl (B8 rfl) rfl ?_
 refine aL 3 rfl (C7 rfl rfl) rfl ?_
 refine aP 4 rfl (B4 (j := 0) rfl rfl rfl (by omega)) rfl ?_
 refine aL 5 rfl (A5 rfl rfl (hat0 _) rfl) rfl ?_
 refine aP 6 rfl (B8 rfl) rfl ?_
 refine aL 7 rfl (C7 rfl rfl) rfl ?_
 refine aP 8 rfl (B4 (j := 0) rfl rfl rfl (by omega)) rfl ?_
 refine aL 9 rfl (A5 rfl rfl (hat2 _) rfl) rfl ?_
 refine aP 11 rfl (B8 rfl) rfl ?_
 refine aL 12 rfl (C7 rfl rfl) rfl ?_
 refine aP 13 rfl (B4 (j := 1) rfl rfl rfl (by omega)) rfl ?_
 refine aL 14 rfl (A5 rfl rfl (hat1 _) rfl) rfl ?_
 refine aP 15 rfl (B8 rfl) rfl ?_
 refine aL 16 rfl (C7 rfl rfl) rfl ?_
 refine aP 17 rfl (B4 (j := 1) rfl rfl rfl (by omega)) rfl ?_
 refine aL 18 rfl (A5 rfl rfl (hat3 _) rfl) rfl ?_
 refine A3 10 ?_
 (refine K4 rfl rfl hM1 rfl rfl rfl (fun v G1 hle1 hh => ?_); obtain ⟨cm1, rfl, hm1⟩ := hh; have hM2 := ih ks[1] (List.getElem_mem (by omega)) bks[1] G1 _ _ (hcl.2 1 (by omega) (by omega)) (hkida _ (List.getElem_mem (by omega))) (hkidb _ (List.getElem_mem (by omega))) (hre1.mono hle1) (hre3.mono hle1))
 refine A3 19 ?_
 (refine K4 rfl rfl hM2 rfl rfl rfl (fun v G2 hle2 hh => ?_); obtain ⟨cm2, rfl, hm2⟩ := hh; have hB := A1H k _ _ G2 _ _ hk (hm1.mono hle2) hm2)
 refine A3 20 ?_
 (refine K4 rfl rfl hB rfl rfl rfl (fun v G3 hle3 hh => ?_); obtain ⟨cm3, rfl, hm3⟩ := hh; obtain ⟨p5, c5, e5, rfl, _⟩ := hm3.open)
 refine A3 21 ?_
 refine H6 rfl ?_
 refine C4 (nS (tT ?_))
 refine F0 (rC rfl (A2 rfl rfl)) ?_
 (rw [if_neg (by omega), if_neg (by omega)]; rw [B16 hlen hlen']; exact ⟨rfl, _, rfl, hm3⟩)
def TmP (t : Tm) : IM → Value → List A4 → Prop := L5 fun G' v => ∃ cells, v = .agg ⟨cells⟩ ∧ A9 G' t cells
theorem TmP.mk {G : IM} {t : Tm} {cells : List Value} (h : A9 G t cells) : TmP t G (.agg ⟨cells⟩) [] := ⟨rfl, cells, rfl, h⟩
def mGk (k : Int) : Ty := if k = 4 ∨ k = 5 then .mk k [P0, P0] else .mk k []
theorem A3e {G : IM} {k : Int} {ks : List Tm} {p : Option Addr} {n c : Nat} {es : List (List Value)} (hk : D9 k) (hn : n = ks.length) (hs : B9 G p n c 9 es) (hr : C8 G ks es) : A9 G (A1a k ks) [.int .i64 k, .string ⟨⟨[]⟩⟩, .int .i64 0, .int .i64 0, .slice none 0 0, .int .i64 0, .slice none 0 0, .int .i64 0, .slice p n c] := by
 subst hn
 simp only [A1a, A9]
 exact ⟨[.int .i64 0, .slice none 0 0], [.int .i64 0, .slice none 0 0], p, c, es, rfl, hk, ⟨by decide, by decide⟩, ⟨by decide, by decide⟩, A2s G, A2s G, hs, hr⟩
theorem A3f (k : Int) (G : IM) (hk : D9 k) : Fn Tryz.prog 95 [.int .i64 k] [] G (L5 fun G' v => ∃ cells, v = .agg ⟨cells⟩ ∧ B3 G' (mGk k) cells) := by
 have hB := A1H k P0 P0 G _ _ hk (A0l G) (A0l G)
 refine B7 Tryz.func95 rfl Tryz.ntmps95 Tryz.results95 rfl ?_
 intro w0
 refine tS (tR ?_)
 refine sE (A6 rfl) rfl (fun b3 => ?_)
 refine sD (nS (tS (tS (tR (sQ (qM rfl) rfl ?_)))))
 refine sB (qE rfl rfl) rfl rfl (fun h10 => ?_) (fun h10 => ?_)
 refine L6 ?_
 refine H2 rfl ((A0V _ _)) rfl rfl ?_
 refine H2 rfl ((A0V _ _)) rfl rfl ?_
 (refine F4 rfl hB rfl rfl (fun v G1 hle1 hh => ?_); obtain ⟨cb, rfl, hrb⟩ := hh; obtain ⟨p1, c1, e1, rfl, _⟩ := hrb.open)
 refine F9 ?_
 refine sD (nS (tT (rS ?_)))
 refine F0 (rC rfl (A2 rfl rfl)) ?_
 (exact ⟨rfl, _, rfl, by unfold mGk; rw [if_pos (by omega)]; exact hrb⟩)
 refine sQ (qM rfl) rfl (sQ (qM rfl) rfl ?_)
 refine sB (qE rfl rfl) rfl rfl (fun h33 => ?_) (fun h33 => ?_)
 refine D0 ?_
 refine H2 rfl ((A0V _ _)) rfl rfl ?_
 refine H2 rfl ((A0V _ _)) rfl rfl ?_
 (refine F4 rfl hB rfl rfl (fun v G1 hle1 hh => ?_); obtain ⟨cb, rfl, hrb⟩ := hh; obtain ⟨p1, c1, e1, rfl, _⟩ := hrb.open)
 refine F9 ?_
 refine sD (nS (tT (rS ?_)))
 refine F0 (rC rfl (A2 rfl rfl)) ?_
 (exact ⟨rfl, _, rfl, by unfold mGk; rw [if_pos (by omega)]; exact hrb⟩)
 refine D2 ?_
 refine H2 rfl ((A0V _ _)) rfl rfl ?_
 refine F9 ?_
 refine sD (nS (tT ?_))
 refine F0 (rC rfl (A2 rfl rfl)) ?_
 (exact ⟨rfl, _, rfl, by unfold mGk; rw [if_neg (by omega)]; exact L4 _ hk⟩)
theorem A7X (t : Ty) (G : IM) (cells : List Value) (hr : B3 G t cells) : Fn Tryz.prog 135 [.agg ⟨cells⟩] [] G (H9 (.bool (W0 t)) G) := by
 refine Fn.forget (post := L5 fun _ v => v = .bool (W0 t)) ?_ (fun _ _ _ h => h.2)
 have hr0 := hr
 obtain ⟨tk, tks⟩ := t
 obtain ⟨p, c, es, rfl, hk, _⟩ := hr.open
 simp only [Ty.k, Ty.ks] at hk hr0 ⊢
 rw [show W0 (.mk tk tks) = (decide (tk ≠ 1) && P1 (.mk tk tks) (mGk tk)) from rfl]
 refine B7 Tryz.func135 rfl Tryz.ntmps135 Tryz.results135 rfl ?_
 intro w0
 refine tS (tR ?_)
 refine sE (C2 rfl rfl) rfl (fun b3 => ?_)
 refine sQ (qA rfl) rfl (sD (nS (tS ?_)))
 refine E4 E7 rfl ?_
 refine K2 (i := 0) (l' := [tt,ff,ff,ff,ff,ff,ff,ff,ff,ff,ff]) rfl D6 (B8 rfl) rfl (by kernel_rfl) rfl rfl ?_
 refine aL 1 rfl (C7 rfl rfl) rfl ?_
 refine A1Q (i := 2) (l' := [tt,tt,tt,ff,ff,ff,ff,ff,ff,ff,ff]) rfl D6 (R9 rfl rfl) rfl (by kernel_rfl) rfl rfl (fun h11 => ?_) (fun h11 => ?_)
 refine aP 3 rfl (qM rfl) rfl ?_
 refine aL 4 rfl (A2 rfl rfl) rfl ?_
 refine aP 5 rfl (B8 rfl) rfl ?_
 refine aL 6 rfl (C7 rfl rfl) rfl ?_
 refine A3 7 ?_
 (refine K4 rfl rfl (A3f tk G hk) rfl rfl rfl (fun v G1 hle1 hh => ?_); obtain ⟨cg, rfl, hrg⟩ := hh; have hT := A5m (.mk tk tks) (mGk tk) G1 _ _ (hr0.mono hle1) hrg; obtain ⟨pg, cgg, eg, rfl, _⟩ := hrg.open)
 refine A3 8 ?_
 refine P5 rfl rfl (hT) rfl rfl rfl ?_
 refine aP 9 rfl (O2 rfl rfl) rfl ?_
 refine aP 10 rfl (qA rfl) rfl ?_
 refine C4 (nS (tT (F0 (rT rfl) ?_)))
 (exact ⟨rfl, by rw [decide_eq_true (by omega), Bool.true_and]⟩)
 refine aP 3 rfl (qM rfl) rfl ?_
 refine E5 4 rfl rfl rfl ?_
 refine E5 5 rfl rfl rfl ?_
 refine E5 6 rfl rfl rfl ?_
 refine E5 7 rfl rfl rfl ?_
 refine E5 8 rfl rfl rfl ?_
 refine aP 9 rfl (S5 rfl rfl) rfl ?_
 refine aP 10 rfl (qA rfl) rfl ?_
 refine C4 (nS (tT (F0 (rT rfl) ?_)))
 (exact ⟨rfl, by rw [decide_eq_false (by omega), Bool.false_and]⟩)
theorem A2b (t : Tm) (G : IM) (cells : List Value) (hr : A9 G t cells) : Fn Tryz.prog 45 [.agg ⟨cells⟩] [] G (H9 (.bool (W1 t)) G) := by
 obtain ⟨k, nm, num, ⟨tk, tks⟩, ⟨fk, fks⟩, lb, ks⟩ := t
 obtain ⟨pt, ct, pf, cf, p, c, es, rfl, hk, hnum, hlb, hty, hfr, hsl, hkl⟩ := hr.open9
 have hd : W1 (.mk k nm num (.mk tk tks) (.mk fk fks) lb ks) = decide (k = 14 ∧ fk = tk ∧ (tk = 4 ∨ tk = 5)) := rfl
 rw [hd]
 refine B7 Tryz.func45 rfl Tryz.ntmps45 Tryz.results45 rfl ?_
 intro w0
 refine tS (tR ?_)
 refine sE (C2 rfl rfl) rfl (fun b3 => ?_)
 refine D0 ?_
 refine sB (qE rfl rfl) rfl rfl (fun h11 => ?_) (fun h11 => ?_)
 refine D0 ?_
 refine sB (qE rfl rfl) rfl rfl (fun h19 => ?_) (fun h19 => ?_)
 refine R2 ?_
 refine sB (qE rfl rfl) rfl rfl (fun h25 => ?_) (fun h25 => ?_)
 refine N8 ?_
 (exact ⟨rfl, by rw [decide_eq_true (by omega)], rfl⟩)
 refine J5 ?_
 refine sB (qE rfl rfl) rfl rfl (fun h43 => ?_) (fun h43 => ?_)
 refine D0 ?_
 (exact ⟨rfl, by rw [decide_eq_true (by omega)], rfl⟩)
 refine D0 ?_
 (exact ⟨rfl, by rw [decide_eq_false (by omega)], rfl⟩)
 refine V7 ?_
 (exact ⟨rfl, by rw [decide_eq_false (by omega)], rfl⟩)
 refine A4P ?_
 (exact ⟨rfl, by rw [decide_eq_false (by omega)], rfl⟩)
theorem A3g (t : Tm) (G : IM) (cells : List Value) (hr : A9 G t cells) : Fn Tryz.prog 125 [.agg ⟨cells⟩] [] G (H9 (.bool (inj t)) G) := by
 obtain ⟨k, nm, num, ⟨tk, tks⟩, ⟨fk, fks⟩, lb, ks⟩ := t
 obtain ⟨pt, ct, pf, cf, p, c, es, rfl, hk, hnum, hlb, hty, hfr, hsl, hkl⟩ := hr.open9
 have hd : inj (.mk k nm num (.mk tk tks) (.mk fk fks) lb ks) = (decide (k = 14 ∧ tk = 1) && W0 (.mk fk fks)) := rfl
 rw [hd]
 refine B7 Tryz.func125 rfl Tryz.ntmps125 Tryz.results125 rfl ?_
 intro w0
 refine tS (tR ?_)
 refine sE (C2 rfl rfl) rfl (fun b3 => ?_)
 refine D0 ?_
 refine sB (qE rfl rfl) rfl rfl (fun h11 => ?_) (fun h11 => ?_)
 refine J5 ?_
 refine sB (qE rfl rfl) rfl rfl (fun h16 => ?_) (fun h16 => ?_)
 refine J5 ?_
 refine H2 rfl ((A7X (.mk fk fks) G _ hfr)) rfl rfl ?_
 refine I0 ?_
 (exact ⟨rfl, by rw [decide_eq_true (by omega), Bool.true_and], rfl⟩)
 refine K6 ?_
 (exact ⟨rfl, by rw [decide_eq_false (by omega), Bool.false_and], rfl⟩)
 refine K8 ?_
 (exact ⟨rfl, by rw [decide_eq_false (by omega), Bool.false_and], rfl⟩)
theorem B18 (t : Tm) (G : IM) (cells : List Value) (hr : A9 G t cells) : Fn Tryz.prog 128 [.agg ⟨cells⟩] [] G (H9 (.bool (decide (t.k = 2 ∨ t.k = 3 ∨ t.k = 4 ∨ t.k = 5))) G) := by
 obtain ⟨k, nm, num, ⟨tk, tks⟩, ⟨fk, fks⟩, lb, ks⟩ := t
 obtain ⟨pt, ct, pf, cf, p, c, es, rfl, hk, hnum, hlb, hty, hfr, hsl, hkl⟩ := hr.open9
 rw [show (Tm.mk k nm num (.mk tk tks) (.mk fk fks) lb ks).k = k from rfl]
 refine B7 Tryz.func128 rfl Tryz.ntmps128 Tryz.results128 rfl ?_
 intro w0
 refine tS (tR ?_)
 refine sE (C2 rfl rfl) rfl (fun b3 => ?_)
 refine D0 ?_
 refine sB (qE rfl rfl) rfl rfl (fun h11 => ?_) (fun h11 => ?_)
 refine A0y ?_
 (exact ⟨rfl, by rw [decide_eq_true (by omega)], rfl⟩)
 refine J0 ?_
 refine sB (qE rfl rfl) rfl rfl (fun h36 => ?_) (fun h36 => ?_)
 refine K8 ?_
 (exact ⟨rfl, by rw [decide_eq_true (by omega)], rfl⟩)
 refine J5 ?_
 refine sB (qE rfl rfl) rfl rfl (fun h58 => ?_) (fun h58 => ?_)
 refine K6 ?_
 (exact ⟨rfl, by rw [decide_eq_true (by omega)], rfl⟩)
 refine J5 ?_
 refine sB (qE rfl rfl) rfl rfl (fun h75 => ?_) (fun h75 => ?_)
 refine I0 ?_
 (exact ⟨rfl, by rw [decide_eq_true (by omega)], rfl⟩)
 refine I0 ?_
 (exact ⟨rfl, by rw [decide_eq_false (by omega)], rfl⟩)
abbrev A1I (k : Int) : Ty := .mk k [P0, P0]
mutual
def Q3 : Ty → List Ty
 | .mk k ks => if k = 1 then [.mk 2 [], .mk 3 [], A1I 4, A1I 5] else X8 k [] ks
def X8 (k : Int) (pre : List Ty) : List Ty → List Ty
 | [] => []
 | t :: ts => (Q3 t).map (fun x => .mk k (pre ++ x :: ts)) ++ X8 k (pre ++ [t]) ts
end
mutual
def O8 (d : Int) : Ty → List Ty
 | .mk k ks => if k = 1 then [.mk 2 [], .mk 3 []] ++ (if 1 < d then [A1I 4, A1I 5] else []) else A0e d k [] ks
def A0e (d : Int) (k : Int) (pre : List Ty) : List Ty → List Ty
 | [] => []
 | t :: ts => (O8 (d - 1) t).map (fun x => .mk k (pre ++ x :: ts)) ++ A0e d k (pre ++ [t]) ts
end
theorem A5n (d : Int) : ∀ (a b : List Ty), M2 (a ++ b) d = (M2 a d && M2 b d)
 | [], b => by simp [M2]
 | t :: a, b => by rw [List.cons_append, M2, M2, A5n d a b, Bool.and_assoc]
theorem A7Y {k d : Int} (hk : k = 4 ∨ k = 5) (hd : d ≤ 4) : I1 (A1I k) d = decide (d + 1 ≤ 4) := by
 have ho : S1 k = 2 := (L8 k).2.1 hk
 rw [A1I, I1, M2, M2, M2, P0, I1, M2, ho, decide_eq_true hd]
 by_cases h : d + 1 ≤ 4
 ·rw [decide_eq_true h]; rfl
 ·rw [decide_eq_false h]; rfl
mutual
theorem A7Z : ∀ (t : Ty) (d : Int), I1 t d = true → (Q3 t).filter (I1 · d) = O8 (5 - d) t
 | .mk k ks, d, h => by
  have h0 := h
  rw [I1] at h
  simp only [Bool.and_eq_true, decide_eq_true_eq] at h
  obtain ⟨⟨h1, h2⟩, h3⟩ := h
  rw [Q3, O8]
  by_cases hk : k = 1
  ·rw [if_pos hk, if_pos hk]
   have e2 : I1 (.mk 2 []) d = true := by rw [I1, M2, decide_eq_true h1]; rfl
   have e3 : I1 (.mk 3 []) d = true := by rw [I1, M2, decide_eq_true h1]; rfl
   have e4 := A7Y (k := 4) (.inl rfl) h1
   have e5 := A7Y (k := 5) (.inr rfl) h1
   by_cases hd : d + 1 ≤ 4
   ·rw [if_pos (by omega)]
    rw [decide_eq_true hd] at e4 e5
    simp [List.filter, e2, e3, e4, e5]
   ·rw [if_neg (by omega)]
    rw [decide_eq_false hd] at e4 e5
    simp [List.filter, e2, e3, e4, e5]
  ·rw [if_neg hk, if_neg hk]
   exact A70 k [] ks d h1 (by simpa using h2) (by simp [M2]) h3
theorem A70 (k : Int) : ∀ (pre ks : List Ty) (d : Int), d ≤ 4 → S1 k = ((pre ++ ks).length : Int) → M2 pre (d + 1) = true → M2 ks (d + 1) = true → (X8 k pre ks).filter (I1 · d) = A0e (5 - d) k pre ks
 | pre, [], d, _, _, _, _ => by rw [X8, A0e]; rfl
 | pre, t :: ts, d, hd, hl, hp, hs => by
  rw [M2, Bool.and_eq_true] at hs
  rw [X8, A0e, List.filter_append, A70 k (pre ++ [t]) ts d hd (by simpa using hl) (by rw [A5n, hp, M2, M2, hs.1]; rfl) hs.2]
  congr 1
  rw [List.filter_map]
  have ih := A7Z t (d + 1) hs.1
  rw [show 5 - (d + 1) = 5 - d - 1 from by omega] at ih
  rw [← ih]
  congr 1
  apply List.filter_congr
  intro x _
  show I1 (.mk k (pre ++ x :: ts)) d = I1 x (d + 1)
  have hl2 : S1 k = ((pre ++ x :: ts).length : Int) := by rw [hl]; simp
  rw [I1, A5n, M2, hp, hs.2, decide_eq_true hd, decide_eq_true hl2]
  simp
end
theorem A39 {t : Ty} (h : C9 t = true) : (Q3 t).filter C9 = O8 4 t := A7Z t 1 h
theorem A5o (G : IM) (p : Option Addr) (n c : Nat) (es : List (List Value)) (h : B9 G p n c 2 es) (h0 : 0 < n) (hn : n ≤ 4294967296) :
  Fn Tryz.prog 30 [.slice p n c] [] G (fun G' v outs => G' = G ∧ ∃ p' c', v = .slice p' n c' ∧ outs = [.slc p' c' 25 2 n es.flatten]) := by
 obtain ⟨hl, hc, hm, hat⟩ := h.sl
 obtain ⟨b, o, full, rfl, hg, hv⟩ := hat.resolve_left (by omega)
 have ho : ∀ u ∈ es.flatten, u.oneCell' = true := by
  intro u hu
  obtain ⟨e, he, hue⟩ := List.mem_flatten.1 hu
  exact List.all_eq_true.1 (h.one e he) u hue
 refine B7 Tryz.func30 rfl Tryz.ntmps30 Tryz.results30 rfl ?_
 intro w0
 refine D2 ?_
 refine sQ (A4E rfl rfl rfl) rfl ?_
 refine sD (nS (cF rfl (tK (nS (tS (tR ?_))))))
 (refine I8 (C3 rfl rfl rfl (by omega) (by unfold maxLen; omega) rfl) rfl ?_; rintro _ ⟨b18, rfl⟩)
 refine sQ (qM rfl) rfl ?_
 refine W7 rfl rfl rfl rfl rfl (fun _ _ => by repeat (first | exact Sw.here | apply Sw.there)) (A2Q hg hv) hl ho (by unfold maxLen; omega) (by omega) rfl (fun pn cn => ?_)
 refine sQ (qA rfl) rfl (sD (nS (tT ?_)))
 refine H0 (rT rfl) A0.refl ?_
 exact ⟨rfl, _, _, by rw [Nat.zero_add], by rw [Nat.zero_add]; rfl⟩
theorem B19 {k : Int} {ks : List Ty} {i : Nat} (hi : i < ks.length) : X8 k (ks.take i) (ks.drop i) = (Q3 ks[i]).map (fun x => .mk k (ks.set i x)) ++ X8 k (ks.take (i + 1)) (ks.drop (i + 1)) := by
 rw [List.drop_eq_getElem_cons hi, X8, List.take_succ_eq_append_getElem hi]
 congr 1
 apply List.map_congr_left
 intro x _
 rw [List.set_eq_take_append_cons_drop, if_pos hi]
section fr1
variable {P : Program} {Γ : K1} {env : K7} {hp : List A4} {G : IM} {K : Po} {ops : Array Oper} {rest : List Oper}
theorem A3h {b : Nat} {cs : List Value} {hp' : List A4} (p : hp.Perm (A0S [(b, cs)] ++ hp')) (h : ∀ G', B1 G G' → G' b = some cs → E8 P Γ ops rest K ⟨env, hp', G'⟩) : E8 P Γ ops rest K ⟨env, hp, G⟩ :=
 B0C p fun h1 _ h3 => h _ h3 (Wi.in h1 (List.mem_singleton.2 rfl))
end fr1
mutual
theorem A2y : ∀ t : Ty, ((Q3 t).length : Int) ≤ 4 * (H4 t + 1)
 | .mk k ks => by
  have h1 := A71 k [] ks
  have h2 := A0B ks
  rw [Q3, H4]
  split
  ·simp only [List.length_cons, List.length_nil]; omega
  ·omega
theorem A71 (k : Int) : ∀ (pre ks : List Ty), ((X8 k pre ks).length : Int) ≤ 4 * (ks.length + K9 ks)
 | pre, [] => by simp [X8, K9]
 | pre, t :: ts => by
  have h1 := A2y t
  have h2 := A71 k (pre ++ [t]) ts
  rw [X8, K9, List.length_append, List.length_map, List.length_cons]
  push_cast
  omega
end
theorem B2a : ∀ (t : Ty) (G : IM) (cells : List Value), H4 t ≤ 30 → B3 G t cells → Fn Tryz.prog 63 [.agg ⟨cells⟩] [] G (S9 (Q3 t)) := by
 refine Ty.ind fun k ks ih G cells hsz hr => ?_
 have hnn := A0B ks
 have hz : H4 (.mk k ks) = ks.length + K9 ks := by rw [H4]
 have hlen := A2y (.mk k ks)
 obtain ⟨q, c, es, rfl, hk, hsl, hkl⟩ := hr.open
 simp only [Ty.k, Ty.ks] at hk hsl hkl ⊢
 have hn := hsl.le
 have hesl := hkl.len
 have hI : k ≠ 1 → Q3 (.mk k ks) = X8 k [] ks := fun h => by rw [Q3, if_neg h]
 have hI1 : k = 1 → Q3 (.mk k ks) = [.mk 2 [], .mk 3 [], mGk 4, mGk 5] := fun h => by rw [Q3, if_pos h]; rfl
 obtain ⟨R, hR⟩ : ∃ R, Q3 (.mk k ks) = R := ⟨_, rfl⟩
 rw [hR] at hlen hI hI1 ⊢
 refine B7 Tryz.func63 rfl Tryz.ntmps63 Tryz.results63 rfl ?_
 intro w0
 refine tS (tR ?_)
 refine sE (C2 rfl rfl) rfl (fun b3 => ?_)
 refine D7 ?_
 refine sB (qE rfl rfl) rfl rfl (fun h12 => ?_) (fun h12 => ?_)
 refine sD (nS (qT rfl (tS (tR ?_))))
 refine H2 rfl (A0V _ _) rfl rfl ?_
 refine H2 rfl (A0V _ _) rfl rfl ?_
 (refine F4 rfl (A3f 4 _ ⟨by decide, by decide⟩) rfl rfl (fun v20 GA hleA hh => ?_); obtain ⟨cgA, rfl, hgA⟩ := hh; obtain ⟨pgA, dgA, egA, rfl, _⟩ := hgA.open)
 (refine F4 rfl (A3f 5 _ ⟨by decide, by decide⟩) rfl rfl (fun v21 GB hleB hh => ?_); obtain ⟨cgB, rfl, hgB⟩ := hh; obtain ⟨pgB, dgB, egB, rfl, _⟩ := hgB.open; replace hgA := hgA.mono hleB)
 (refine I8 (C3 rfl rfl rfl (by omega) (by unfold maxLen; omega) rfl) rfl ?_; rintro _ ⟨b22, rfl⟩)
 refine sQ (qA rfl) rfl (sD (nS (tT (rS ?_))))
 refine H0 (outs := [.slc (some ⟨b22, 0, none⟩) 4 25 2 4 _]) (rT rfl) (by repeat (first | exact A0.nil | refine A0.cons Pk.here ?_ | refine A0.cons (Pk.there Pk.here) ?_ | refine A0.cons (Pk.there (Pk.there Pk.here)) ?_ | apply A0.drop)) ?_
 (rw [hI1 (by assumption)]; exact S9.mk (es := [_, _, _, _]) rfl ((((B0.one1 (L4 _ ⟨by decide, by decide⟩)).snoc (L4 _ ⟨by decide, by decide⟩)).snoc hgA).snoc hgB))
 refine A0a ?_
 refine B6 ?_
 (refine T7 25 2 ?_; refine J3 (fun (x : Nat × Option Addr × Nat × List Ty × List (List Value) × IM) => ⟨[(20, .int .i64 x.1), (19, .int .i64 (ks.length : Int)), (18, .slice q ks.length c), (3, .slice x.2.1 x.2.2.2.1.length x.2.2.1), (1, .pointer (some ⟨b3, 0, none⟩))], [.slc x.2.1 x.2.2.1 25 2 x.2.2.2.1.length x.2.2.2.2.1.flatten, .blk b3 [.int .i64 k, .slice q ks.length c]], x.2.2.2.2.2⟩) (fun x => x.1 ≤ ks.length ∧ B1 G x.2.2.2.2.2 ∧ B0 x.2.2.2.2.2 x.2.2.2.1 x.2.2.2.2.1 ∧ x.2.2.2.1 ++ X8 k (ks.take x.1) (ks.drop x.1) = R) (fun x => ks.length - x.1) (0, none, 0, [], [], G) ?_ ?_ ?_)
 (simp only [E2]; exact C5)
 (exact ⟨Nat.zero_le _, B1.refl _, by simp [B0], (hI (by assumption)).symm⟩)
 (rintro ⟨(i : Nat), pn, cn, us, es', Gi⟩ ⟨hi, hle, hst, hpre⟩; simp only [] at hi hle hst hpre ⊢; replace hsl := hsl.mono hle; replace hkl := hkl.mono hle)
 refine tS (tR ?_)
 refine sB (J6 rfl rfl) rfl rfl (fun h56 => ?_) (fun h56 => ?_)
 refine sD (nS (tS (qT rfl (tK (nS (tS ?_))))))
 refine B6 ?_
 refine tS (tR (sQ (qM rfl) rfl ?_))
 (have hil : i < ks.length := (by omega); obtain ⟨b0, o0, q0, d0, hp0, hat0, hre0, hg0⟩ := hsl.kidTy hkl (i := i) (by omega) (by omega); subst hp0; have hszi : H4 ks[i] ≤ 30 := (by have := A7H (ts := ks) hil; omega); refine sP (B4 rfl rfl rfl (by omega)) rfl rfl ?_)
 refine sL (A5 rfl rfl (hat0 _) rfl) rfl rfl ?_
 refine sE (A6 rfl) rfl (fun b70 => ?_)
 refine D0 ?_
 (refine T9 rfl (ih ks[i] (List.getElem_mem (by omega)) Gi _ hszi hre0) rfl rfl (fun v G1 outs hle1 hh => ?_); obtain ⟨pr, cr, er, rfl, rfl, hr1⟩ := hh; have hrl := A2y ks[i]; refine T8 (cs := er.flatten) (by repeat (first | exact Pk.here | apply Pk.there)) (fun G2 hle2 hsl2 hno2 => ?_); have hrs := B9.of hsl2 hr1.len hr1.all (fun e he => (hr1.each e he).2); replace hr1 := hr1.mono hle2; have hle12 := hle1.trans hle2; have hstp := B19 (k := k) hil; rw [hstp] at hpre)
 refine sQ (pLn rfl rfl) rfl (sQ (qM rfl) rfl (sD (nS ?_)))
 refine B6 ?_
 (refine J3 (fun (x : Nat × Option Addr × Nat × List Ty × List (List Value) × IM) => ⟨[(28, .int .i64 x.1), (27, .int .i64 ((Q3 ks[i]).length : Int)), (26, .slice pr (Q3 ks[i]).length cr), (4, .int .i64 (i : Int)), (20, .int .i64 (i : Int)), (19, .int .i64 (ks.length : Int)), (18, .slice (some ⟨b0, o0, none⟩) ks.length c), (3, .slice x.2.1 x.2.2.2.1.length x.2.2.1), (1, .pointer (some ⟨b3, 0, none⟩))], [.slc x.2.1 x.2.2.1 25 2 x.2.2.2.1.length x.2.2.2.2.1.flatten, .blk b3 [.int .i64 k, .slice (some ⟨b0, o0, none⟩) ks.length c]], x.2.2.2.2.2⟩) (fun x => x.1 ≤ (Q3 ks[i]).length ∧ B1 G2 x.2.2.2.2.2 ∧ B0 x.2.2.2.2.2 x.2.2.2.1 x.2.2.2.2.1 ∧ x.2.2.2.1 ++ (((Q3 ks[i]).drop x.1).map (fun y => .mk k (ks.set i y)) ++ X8 k (ks.take (i + 1)) (ks.drop (i + 1))) = R) (fun x => (Q3 ks[i]).length - x.1) (0, pn, cn, us, es', G2) ?_ ?_ ?_)
 (simp only [E2]; exact C5)
 (exact ⟨Nat.zero_le _, B1.refl _, hst.mono hle12, by rw [List.drop_zero]; exact hpre⟩)
 (rintro ⟨(j : Nat), pm, cm, vs, fs, Gj⟩ ⟨hj, hlj, hstj, hprej⟩; simp only [] at hj hlj hstj hprej ⊢; have hle2j := hle12.trans hlj; have hvl : vs.length ≤ R.length := (by rw [← hprej]; simp); replace hsl := hsl.mono hle2j; replace hkl := hkl.mono hle2j; replace hrs := hrs.mono hlj; replace hr1 := hr1.mono hlj)
 refine tS (tR ?_)
 refine sB (J6 rfl rfl) rfl rfl (fun h90 => ?_) (fun h90 => ?_)
 refine sD (nS (tS (qT rfl (tK (nS (tS ?_))))))
 refine B6 ?_
 refine tS (tR ?_)
 (have hjl : j < (Q3 ks[i]).length := (by omega); obtain ⟨b1, o1, q1, d1, hp1, hat1, hre1, hg1⟩ := hrs.kidTy hr1 (i := j) (by omega) (by omega); subst hp1; have hdrop := List.drop_eq_getElem_cons hjl; generalize (Q3 ks[i])[j] = y at hdrop hat1 hre1; refine sP (B4 rfl rfl rfl (by omega)) rfl rfl ?_)
 refine sL (A5 rfl rfl (hat1 _) rfl) rfl rfl ?_
 refine sE (A6 rfl) rfl (fun b103 => ?_)
 refine F9 ?_
 refine sD (nS (tS ?_))
 refine E4 E7 rfl ?_
 refine K2 (i := 0) (l' := [tt,ff,ff,ff,ff,ff,ff,ff]) rfl D6 (B8 rfl) rfl (by kernel_rfl) rfl rfl ?_
 refine aL 1 rfl (C7 rfl rfl) rfl ?_
 refine aP 2 rfl (B8 rfl) rfl ?_
 refine aL 3 rfl (C7 rfl rfl) rfl ?_
 refine T6 (j := 4) (j' := 6) (by kernel_rfl) ?_ ?_
 (refine A3L rfl rfl (A5o Gj _ ks.length c es hsl (by omega) (by omega)) rfl rfl rfl (fun v Gc outs hlec hh => ?_); obtain ⟨hG, p1, c1, rfl, rfl⟩ := hh; replace hG := hG.symm; subst hG)
 refine aP 5 rfl (S0 rfl rfl) rfl ?_
 refine A3 6 ?_
 (refine E1 rfl (A6 rfl) rfl rfl ?_; rintro _ ⟨b117, rfl⟩)
 refine A3 7 ?_
 refine H6 rfl ?_
 refine D7 ?_
 (refine A1E (p := p1) (cs := es.flatten) (by repeat (first | exact Pk.here | apply Pk.there)) (by omega) (fun bc Cc hpc hnc hmc => ?_); subst hpc; refine sP (B4 (j := i) rfl rfl rfl (by omega)) rfl rfl ?_)
 refine S6 rfl rfl rfl rfl hre1.one rfl (by repeat first | exact Sw.here | apply Sw.there) (by exact A1F (by omega) (fun e he => (hsl.all e he)) rfl) ?_
 refine sD (nS (tR (sQ (qM rfl) rfl (sL (A2 rfl rfl) rfl rfl ?_))))
 (refine I8 (C3 rfl rfl rfl (by omega) (by unfold maxLen; omega) rfl) rfl ?_; rintro _ ⟨b135, rfl⟩)
 (refine A3h (b := bc) (Pk.perm (by repeat (first | exact Pk.here | apply Pk.there))) (fun G7 hle7 hin7 => ?_); refine W7 rfl rfl rfl rfl rfl (fun _ _ => by repeat (first | exact Sw.here | apply Sw.there)) (N2 (by repeat first | exact mH | apply mT)) rfl (by simp [Value.oneCell']) (by unfold maxLen; omega) (by omega) rfl (fun pn' cn' => ?_))
 refine sQ (qA rfl) rfl (sD (M9 (nS (tR ?_))))
 refine sP (I2 rfl rfl (by omega) (by omega)) rfl rfl ?_
 refine sQ (qM rfl) rfl (sD ?_)
 (refine I9 (j + 1, pn', cn', vs ++ [Ty.mk k (ks.set i y)], fs ++ [[.int .i64 k, .slice (some ⟨bc, 0, none⟩) ks.length c1]], G7) (by simp only [List.length_append, List.length_cons, List.length_nil, E2]; exact (N3 (by repeat (first | exact D4.nil | refine D4.cons rfl ?_)) (by repeat (first | exact A0.refl | exact A0.nil | refine A0.cons (by repeat (first | exact Pk.here | apply Pk.there)) ?_ | apply A0.drop)))) ?_ ?_)
 (dsimp only; have hset := (hkl.mono hle7).set i (hre1.mono hle7); have hfl := X6 (sz := 2) (fun e he => (hset.each e he).1); rw [List.length_set, hesl] at hfl; have hS7 := Sl.of_blk (A := []) hfl hnc hmc hin7; have hrT := hset.ty List.length_set hS7 hk; refine ⟨by omega, hlj.trans hle7, (hstj.mono hle7).snoc hrT, ?_⟩; rw [← hprej, hdrop, List.map_cons]; simp only [List.append_assoc, List.cons_append, List.nil_append])
 (show (Q3 ks[i]).length - (j + 1) < (Q3 ks[i]).length - j; omega)
 (refine E1 rfl (A6 rfl) rfl rfl ?_; rintro _ ⟨b148, rfl⟩)
 refine A3 4 ?_
 (refine A3L rfl rfl (A5o Gj _ ks.length c es hsl (by omega) (by omega)) rfl rfl rfl (fun v Gc outs hlec hh => ?_); obtain ⟨hG, p1, c1, rfl, rfl⟩ := hh; replace hG := hG.symm; subst hG)
 refine aP 5 rfl (S0 rfl rfl) rfl ?_
 refine A3 7 ?_
 refine H6 rfl ?_
 refine D7 ?_
 (refine A1E (p := p1) (cs := es.flatten) (by repeat (first | exact Pk.here | apply Pk.there)) (by omega) (fun bc Cc hpc hnc hmc => ?_); subst hpc; refine sP (B4 (j := i) rfl rfl rfl (by omega)) rfl rfl ?_)
 refine S6 rfl rfl rfl rfl hre1.one rfl (by repeat first | exact Sw.here | apply Sw.there) (by exact A1F (by omega) (fun e he => (hsl.all e he)) rfl) ?_
 refine sD (nS (tR (sQ (qM rfl) rfl (sL (A2 rfl rfl) rfl rfl ?_))))
 (refine I8 (C3 rfl rfl rfl (by omega) (by unfold maxLen; omega) rfl) rfl ?_; rintro _ ⟨b169, rfl⟩)
 (refine A3h (b := bc) (Pk.perm (by repeat (first | exact Pk.here | apply Pk.there))) (fun G7 hle7 hin7 => ?_); refine W7 rfl rfl rfl rfl rfl (fun _ _ => by repeat (first | exact Sw.here | apply Sw.there)) (N2 (by repeat first | exact mH | apply mT)) rfl (by simp [Value.oneCell']) (by unfold maxLen; omega) (by omega) rfl (fun pn' cn' => ?_))
 refine sQ (qA rfl) rfl (sD (M9 (nS (tR ?_))))
 refine sP (I2 rfl rfl (by omega) (by omega)) rfl rfl ?_
 refine sQ (qM rfl) rfl (sD ?_)
 (refine I9 (j + 1, pn', cn', vs ++ [Ty.mk k (ks.set i y)], fs ++ [[.int .i64 k, .slice (some ⟨bc, 0, none⟩) ks.length c1]], G7) (by simp only [List.length_append, List.length_cons, List.length_nil, E2]; exact (N3 (by repeat (first | exact D4.nil | refine D4.cons rfl ?_)) (by repeat (first | exact A0.refl | exact A0.nil | refine A0.cons (by repeat (first | exact Pk.here | apply Pk.there)) ?_ | apply A0.drop)))) ?_ ?_)
 (dsimp only; have hset := (hkl.mono hle7).set i (hre1.mono hle7); have hfl := X6 (sz := 2) (fun e he => (hset.each e he).1); rw [List.length_set, hesl] at hfl; have hS7 := Sl.of_blk (A := []) hfl hnc hmc hin7; have hrT := hset.ty List.length_set hS7 hk; refine ⟨by omega, hlj.trans hle7, (hstj.mono hle7).snoc hrT, ?_⟩; rw [← hprej, hdrop, List.map_cons]; simp only [List.append_assoc, List.cons_append, List.nil_append])
 (show (Q3 ks[i]).length - (j + 1) < (Q3 ks[i]).length - j; omega)
 refine K6 ?_
 refine sP (I2 rfl rfl (by omega) (by omega)) rfl rfl ?_
 refine sQ (qM rfl) rfl (sD ?_)
 (obtain rfl : j = (Q3 ks[i]).length := (by omega); rw [List.drop_length, List.map_nil, List.nil_append] at hprej; refine I9 (i + 1, pm, cm, vs, fs, Gj) ?_ ?_ ?_)
 (simp only [E2]; exact C5)
 (dsimp only; exact ⟨by omega, hle.trans hle2j, hstj, hprej⟩)
 (show ks.length - (i + 1) < ks.length - i; omega)
 refine K8 ?_
 refine H0 (outs := [.slc pn cn 25 2 us.length es'.flatten]) (rT rfl) (by repeat (first | exact A0.nil | refine A0.cons Pk.here ?_ | refine A0.cons (Pk.there Pk.here) ?_ | refine A0.cons (Pk.there (Pk.there Pk.here)) ?_ | apply A0.drop)) ?_
 (obtain rfl : i = ks.length := (by omega); rw [List.drop_length, X8, List.append_nil] at hpre; rw [← hpre]; exact S9.mk rfl hst)
def A3i (ts : List Ty) : IM → Value → List A4 → Prop := L5 fun G' v => ∃ p c es, v = .slice p ts.length c ∧ B9 G' p ts.length c 2 es ∧ B0 G' ts es
theorem B2b (ts : List Ty) (G : IM) (p : Option Addr) (c : Nat) (es : List (List Value)) (hsl : B9 G p ts.length c 2 es) (hkl : B0 G ts es) (hsm : ∀ u ∈ ts, u.small) (hlen : ts.length ≤ 1000000) :
  Fn Tryz.prog 61 [.slice p ts.length c] [] G (A3i ts) := by
 have hn := hsl.le
 refine B7 Tryz.func61 rfl Tryz.ntmps61 Tryz.results61 rfl ?_
 intro w0
 refine V7 ?_
 refine B6 ?_
 (refine T7 25 2 ?_; refine J3 (fun (x : Nat × Option Addr × Nat × List (List Value) × IM) => ⟨[(8, .int .i64 x.1), (7, .int .i64 (ts.length : Int)), (6, .slice p ts.length c), (3, .slice x.2.1 x.1 x.2.2.1)], [.slc x.2.1 x.2.2.1 25 2 x.1 x.2.2.2.1.flatten], x.2.2.2.2⟩) (fun x => x.1 ≤ ts.length ∧ B1 G x.2.2.2.2 ∧ B0 x.2.2.2.2 (ts.take x.1) x.2.2.2.1) (fun x => ts.length - x.1) (0, none, 0, [], G) ?_ ?_ ?_)
 (simp only [E2]; exact C5)
 (exact ⟨Nat.zero_le _, B1.refl _, by simp [B0]⟩)
 (rintro ⟨(i : Nat), pn, cn, es', Gi⟩ ⟨hi, hle, hst⟩; simp only [] at hi hle hst ⊢; replace hsl := hsl.mono hle; replace hkl := hkl.mono hle)
 refine tS (tR ?_)
 refine sB (J6 rfl rfl) rfl rfl (fun h26 => ?_) (fun h26 => ?_)
 refine sD (nS (tS (qT rfl (tK (nS (tS ?_))))))
 refine B6 ?_
 refine tS (tR ?_)
 (have hil : i < ts.length := (by omega); obtain ⟨b0, o0, q0, d0, hp0, hat0, hre0, hg0⟩ := hsl.kidTy hkl (i := i) (by omega) (by omega); subst hp0; refine sP (B4 rfl rfl rfl (by omega)) rfl rfl ?_)
 refine sL (A5 rfl rfl (hat0 _) rfl) rfl rfl ?_
 refine sE (A6 rfl) rfl (fun b39 => ?_)
 refine I0 ?_
 (refine F4 rfl (A06 ts[i] Gi _ (hsm _ (List.getElem_mem (by omega))) hre0) rfl rfl (fun v G1 hle1 hh => ?_); obtain ⟨cells', F', rfl, hs', hnd'⟩ := hh; have hr' := hs'.R.mono (C1.le _ _); obtain ⟨p3, c3, es3, rfl, _⟩ := hr'.open)
 (refine I8 (C3 rfl rfl rfl (by omega) (by unfold maxLen; omega) rfl) rfl ?_; rintro _ ⟨b47, rfl⟩)
 refine W7 rfl rfl rfl rfl rfl (fun _ _ => by repeat (first | exact Sw.here | apply Sw.there)) (N2 (by repeat first | exact mH | apply mT)) rfl (by simp [Value.oneCell']) (by unfold maxLen; omega) (by omega) rfl (fun pn' cn' => ?_)
 refine sQ (qA rfl) rfl (sD (M9 (nS (tR ?_))))
 refine sP (I2 rfl rfl (by omega) (by omega)) rfl rfl ?_
 refine sQ (qM rfl) rfl (sD ?_)
 refine I9 (i + 1, pn', cn', es' ++ [[.int .i64 ts[i].k, .slice p3 ts[i].ks.length c3]], G1) ?_ ?_ ?_
 (simp only [E2]; exact C5)
 (dsimp only; exact ⟨by omega, hle.trans hle1, by rw [List.take_succ_eq_append_getElem (by omega)]; exact B0.snoc (hst.mono hle1) hr'⟩)
 (show ts.length - (i + 1) < ts.length - i; omega)
 refine I4 ?_
 (obtain rfl : i = ts.length := (by omega); rw [List.take_length] at hst; refine H8 (by repeat (first | exact Pk.here | apply Pk.there)) (fun G5 hle5 hsl5 hno5 => ?_))
 refine tT (F0 (rT rfl) ?_)
 (exact ⟨rfl, pn, cn, es', rfl, B9.of hsl5 hst.len hst.all (fun e he => (hst.each e he).2), hst.mono hle5⟩)
section clr
variable {P : Program} {Γ : K1} {env : K7} {hp : List A4} {G : IM} {ty : TypeId}
theorem B2c {d : Option Nat} {x : Operand} {t el : TypeId} {i : K3} {sz by' : Nat} {zs : List Value} [hI : H5 P t i] (hd' : i.desc = .slice el) [hE : V5 P el sz by' zs] {b o n c : Nat} {cs cs' : List Value} {hp' : List A4}
  (hx : evo env x = some (.slice (some ⟨b, o, none⟩) (n + 1) c)) (h1 : (W6 (n + 1) zs).all (·.oneCell') = true)
  (hu : Q5 cs o (W6 (n + 1) zs) = some cs') (hm : Sw hp (.blk b cs) (.blk b cs') hp') (hd : d = none) :
  U8 P Γ ⟨env, hp, G⟩ d (.call ⟨.builtin .clear, ⟨[x]⟩, ⟨[t]⟩⟩) ty [b] (fun σ' => σ' = ⟨env, hp', G⟩) := by
 subst hd
 refine ⟨fun a w hs pos af gd Q next hn => ?_⟩
 obtain ⟨rest, p1, p2⟩ := hm.perm
 have hown : R5 [.blk b cs] G w := hs.res.own.of_mem p1
 obtain ⟨e, hb⟩ := hown.ok _ List.mem_cons_self
 obtain ⟨u1, u2⟩ := A1U hu
 have hst := run_storeCells_at P b o e (W6 (n + 1) zs) 0 cs.toArray w hb (by simpa using u2) (by simpa using h1)
 simp only [Nat.add_zero, ← u1] at hst
 obtain ⟨dd, hEo⟩ := hE.ok
 obtain ⟨inf, z, t1, t2, t3, t4, t5, t6, t7, t8⟩ := A1Y (P := P) (t := el)
 have hu' := hI.und
 rw [hd'] at hu'
 have hzc : Builtin.zeroCells z.cells (n + 1) = ⟨W6 (n + 1) zs⟩ := by
  have := A6y z.cells zs t5 (n + 1)
  unfold Builtin.zeroCells
  rw [show z.cells.size = zs.length by rw [t5]; rfl]
  rw [show z.cells.size = zs.length by rw [t5]; rfl] at this
  exact this
 have hrun : (execOp a.eval ⟨none, .call ⟨.builtin .clear, ⟨[x]⟩, ⟨[t]⟩⟩, ty, pos, af, gd⟩).run P w = .ok (.value (.tuple #[])) (w.setRow b cs'.toArray) := by
  simp only [execOp, resolve, invoke, builtin, Sem.run_bind, Sem.run_pure, Result.andThen_ok]
  have e1 : (⟨[x]⟩ : Array Operand).map a.eval = #[.slice (some ⟨b, o, none⟩) (n + 1) c] := by
   simp [(hs.evo hx : a.eval x = _)]
  rw [e1]
  simp [Builtin.clear_, run_underlying hu', t2, hzc, hst]
 simp only [Oper.wp, hrun, Oper.upon]
 have hr' := A6p (o := o) hown u1
 exact hn _ _ _ (hs.step (d := none) p1 hr' p2 rfl) (by simpa [Fp, A4.fp] using hr'.ext) rfl
end clr
theorem A72 {hp : List A4} {G : IM} {b i sz : Nat} {es : List (List Value)} {C : List Value} (hm : A4.blk b (es.flatten ++ C) ∈ hp) (hi : i < es.length) (ha : ∀ e ∈ es, e.length = sz) : At hp G b (0 + i * sz) es[i] :=
 .inl ⟨_, hm, fun j v hj => by
  have h := A4S ha (List.getElem?_eq_getElem hi) j v hj
  have hlt : i * sz + j < es.flatten.length := (List.getElem?_eq_some_iff.1 h).1
  rw [Nat.zero_add, List.getElem?_append_left hlt]
  exact h⟩
theorem B2d (G : IM) (b c : Nat) (es : List (List Value)) (C : List Value) (hn : es.length ≤ 1000000) (hall : ∀ e ∈ es, e.length = 2) (fid : FuncId) [B2 Tryz.prog fid] (q : Nat → Bool)
  (hq : ∀ i, (hi : i < es.length) → Fn Tryz.prog fid [.agg ⟨es[i]⟩] [] G (H9 (.bool (q i)) G)) :
  Fn Tryz.prog 93 [.slice (some ⟨b, 0, none⟩) es.length c, .func (.func fid) ⟨[]⟩ ⟨[]⟩] [.blk b (es.flatten ++ C)] G (T1 (.int .i64 (Y5 q es.length)) [.blk b (es.flatten ++ C)] G) := by
 refine B7 Tryz.func93 rfl Tryz.ntmps93 Tryz.results93 rfl ?_
 intro w0
 refine L7 ?_
 refine B6 ?_
 (refine J3 (fun i : Nat => ⟨[(8, .int .i64 i), (7, .int .i64 (es.length : Int)), (1, .func (.func fid) ⟨[]⟩ ⟨[]⟩), (0, .slice (some ⟨b, 0, none⟩) es.length c)], [.blk b (es.flatten ++ C)], G⟩) (fun i => i ≤ es.length ∧ ∀ j, j < i → q j = false) (fun i => es.length - i) 0 ?_ ?_ ?_)
 exact C5
 (exact ⟨by omega, by omega⟩)
 (rintro (i : Nat) ⟨hi, hf⟩)
 refine tS (tR ?_)
 refine sB (J6 rfl rfl) rfl rfl (fun h21 => ?_) (fun h21 => ?_)
 refine sD (nS (tS (qT rfl (tK (nS (tS ?_))))))
 refine B6 ?_
 refine K6 ?_
 (have hil : i < es.length := (by omega); refine sP (B4 (j := i) rfl rfl rfl (by omega)) rfl rfl ?_)
 refine sL (A5 rfl rfl (A72 (by repeat first | exact mH | apply mT) hil hall) (hall _ (List.getElem_mem hil))) rfl rfl ?_
 (have hqi := hq i hil; obtain ⟨qb, hqb⟩ : ∃ x, q i = x := ⟨_, rfl⟩; rw [hqb] at hqi; cases qb <;> (refine I8 (A2R rfl rfl hqi (List.Perm.refl _) rfl) rfl ?_; rintro _ ⟨v, G7, outs, rfl, hle7, hG, rfl, rfl⟩; replace hG := hG.symm; subst hG))
 refine sD (nS (cF rfl (tK (M9 (nS (tR ?_))))))
 refine sP (I2 rfl rfl (by omega) (by omega)) rfl rfl ?_
 refine sQ (qM rfl) rfl (sD ?_)
 refine I9 (i + 1) ?_ ?_ ?_
 exact C5
 (exact ⟨by omega, fun j hj => by by_cases hji : j = i; (subst hji; assumption); exact hf j (by omega)⟩)
 omega
 refine I4 ?_
 refine H0 (outs := [.blk b (es.flatten ++ C)]) (rT rfl) (by repeat (first | exact A0.nil | refine A0.cons Pk.here ?_ | refine A0.cons (Pk.there Pk.here) ?_ | refine A0.cons (Pk.there (Pk.there Pk.here)) ?_ | apply A0.drop)) ?_
 (exact ⟨rfl, by rw [A4T (by omega) hf (by assumption)], rfl⟩)
 refine I4 ?_
 refine H0 (outs := [.blk b (es.flatten ++ C)]) (rT rfl) (by repeat (first | exact A0.nil | refine A0.cons Pk.here ?_ | refine A0.cons (Pk.there Pk.here) ?_ | refine A0.cons (Pk.there (Pk.there Pk.here)) ?_ | apply A0.drop)) ?_
 (exact ⟨rfl, by rw [A2Y (fun j hj => hf j (by omega))], rfl⟩)
theorem B0.at {G : IM} : ∀ {ts : List Ty} {es : List (List Value)} (_ : B0 G ts es) (i : Nat) (h1 : i < ts.length) (h2 : i < es.length), B3 G ts[i] es[i]
 | [], _, _, _, h1, _ => by cases h1
 | t :: ts, es, h, i, h1, h2 => by
  simp only [B0] at h
  obtain ⟨e, es', rfl, ht, hs⟩ := h
  cases i with
  | zero => exact ht
  | succ i => exact hs.at i (by simpa using h1) (by simpa using h2)
def Z3 (k : Ty → Bool) (ts : List Ty) (j : Nat) : List Ty := (ts.take j).filter k ++ ts.drop ((ts.take j).filter k).length
theorem A5p (k : Ty → Bool) (ts : List Ty) (j : Nat) : ((ts.take j).filter k).length ≤ j := Nat.le_trans (List.length_filter_le ..) (by rw [List.length_take]; omega)
theorem B2e {k : Ty → Bool} {ts : List Ty} {j : Nat} (h : j ≤ ts.length) : (Z3 k ts j).length = ts.length := by
 have := A5p k ts j
 unfold Z3
 rw [List.length_append, List.length_drop]; omega
theorem B2f {k : Ty → Bool} {ts : List Ty} {j : Nat} (h : j < ts.length) (h2 : j < (Z3 k ts j).length) : (Z3 k ts j)[j] = ts[j] := by
 have hl := A5p k ts j
 have e : (Z3 k ts j)[j]? = some ts[j] := by
  unfold Z3
  rw [List.getElem?_append_right (by omega), List.getElem?_drop, Nat.add_sub_cancel' (by omega), List.getElem?_eq_getElem h]
 exact (List.getElem?_eq_some_iff.1 e).2
theorem B2g {k : Ty → Bool} {ts : List Ty} {j : Nat} (h : j < ts.length) (hk : k ts[j] = true) : Z3 k ts (j + 1) = (Z3 k ts j).set ((ts.take j).filter k).length ts[j] ∧ ((ts.take (j + 1)).filter k).length = ((ts.take j).filter k).length + 1 := by
 have hl := A5p k ts j
 have e : (ts.take (j + 1)).filter k = (ts.take j).filter k ++ [ts[j]] := by
  rw [List.take_succ_eq_append_getElem h, List.filter_append]; simp [hk]
 refine ⟨?_, by rw [e]; simp⟩
 unfold Z3
 rw [e]
 generalize (ts.take j).filter k = F at hl ⊢
 rw [List.set_append_right _ _ (Nat.le_refl _), Nat.sub_self, List.drop_eq_getElem_cons (i := F.length) (by omega), List.set_cons_zero, List.append_assoc]
 simp
theorem A73 {k : Ty → Bool} {ts : List Ty} {j : Nat} (h : j < ts.length) (hk : k ts[j] = false) : Z3 k ts (j + 1) = Z3 k ts j ∧ ((ts.take (j + 1)).filter k).length = ((ts.take j).filter k).length := by
 have e : (ts.take (j + 1)).filter k = (ts.take j).filter k := by
  rw [List.take_succ_eq_append_getElem h, List.filter_append]; simp [hk]
 unfold Z3
 rw [e]; exact ⟨rfl, rfl⟩
theorem B2h {k : Ty → Bool} {ts : List Ty} {i : Nat} (hi : i < ts.length) (h : ∀ j, (hj : j < i) → k (ts[j]'(by omega)) = true) (hk : k ts[i] = false) : Z3 k ts (i + 1) = ts ∧ ((ts.take (i + 1)).filter k).length = i := by
 have e : (ts.take i).filter k = ts.take i := List.filter_eq_self.2 fun x hx => by
  obtain ⟨j, hj, rfl⟩ := List.getElem_of_mem hx
  rw [List.length_take] at hj
  rw [List.getElem_take]
  exact h j (by omega)
 obtain ⟨h1, h2⟩ := A73 (k := k) hi hk
 have hl : (ts.take i).length = i := by rw [List.length_take]; omega
 refine ⟨?_, by rw [h2, e, hl]⟩
 rw [h1]
 unfold Z3
 rw [e, hl, List.take_append_drop]
theorem B2i {fs : List (List Value)} {C : List Value} {i m : Nat} (hi : i + (m + 1) = fs.length) (ha : ∀ e ∈ fs, e.length = 2) (z : List Value) (hz : z.length = 2) :
  Q5 (fs.flatten ++ C) (0 + i * 2) (W6 (m + 1) z) = some ((fs.take i).flatten ++ (W6 (m + 1) z ++ C)) := by
 have h1 := X6 (sz := 2) (es := fs.take i) fun e he => ha e (List.mem_of_mem_take he)
 have h2 := X6 (sz := 2) (es := fs.drop i) fun e he => ha e (List.mem_of_mem_drop he)
 rw [List.length_take, Nat.min_eq_left (by omega)] at h1
 rw [List.length_drop] at h2
 have := A3R (A := (fs.take i).flatten) (B := (fs.drop i).flatten) (C := C) (V := W6 (m + 1) z) (o := 0 + i * 2) (by omega) (by rw [h2, A3H, hz]; congr 1; omega)
 rw [← this, ← List.append_assoc, ← List.flatten_append, List.take_append_drop]
theorem B0.pre {G : IM} : ∀ {a b : List Ty} {es : List (List Value)}, B0 G (a ++ b) es → B0 G a (es.take a.length)
 | [], b, es, _ => by simp [B0]
 | t :: a, b, es, h => by
  rw [List.cons_append] at h
  simp only [B0] at h
  obtain ⟨e, es', rfl, ht, hs⟩ := h
  simp only [List.length_cons, List.take_succ_cons, B0]
  exact ⟨e, _, rfl, ht, B0.pre hs⟩
theorem A74 : ∀ m : Nat, (W6 (m + 1) [Value.int IntKind.i64 0, Value.slice none 0 0]).all (·.oneCell') = true
 | 0 => rfl
 | m + 1 => by
  have := A74 m
  rw [W6, List.all_append, this]; rfl
theorem B2j {d : Ty → Bool} {ts : List Ty} (h : ∀ j, j < ts.length → d (ts.getD j A7) = false) : ts.filter (fun t => !d t) = ts := List.filter_eq_self.2 fun x hx => by
 obtain ⟨j, hj, rfl⟩ := List.getElem_of_mem hx
 have := h j hj
 rw [List.getD_eq_getElem?_getD, List.getElem?_eq_getElem hj] at this
 have h2 : d ts[j] = false := this
 simp [h2]
theorem B2k (q : Nat → Bool) (n : Nat) : (Y5 q n = -1 ∧ ∀ j, j < n → q j = false) ∨ ∃ i : Nat, i < n ∧ Y5 q n = i ∧ q i = true ∧ ∀ j, j < i → q j = false := by
 unfold Y5
 cases h : (List.range n).find? q with
 | none =>
  refine .inl ⟨rfl, fun j hj => ?_⟩
  have := List.find?_eq_none.1 h j (List.mem_range.2 hj)
  simpa using this
 | some i =>
  obtain ⟨h1, h2, h3⟩ := List.find?_range_eq_some.1 h
  exact .inr ⟨i, List.mem_range.1 h2, rfl, h1, fun j hj => by simpa using h3 j hj⟩
theorem B2l (ts : List Ty) (G : IM) (p : Option Addr) (n c : Nat) (es : List (List Value)) (hn : n = ts.length) (h0 : 0 < n) (hkl : B0 G ts es) (hlen : ts.length ≤ 100000) (fid : FuncId) [B2 Tryz.prog fid] (d : Ty → Bool)
  (hd : ∀ (t : Ty) (G' : IM) (cells : List Value), B3 G' t cells → Fn Tryz.prog fid [.agg ⟨cells⟩] [] G' (H9 (.bool (d t)) G')) :
  Fn Tryz.prog 62 [.slice p n c, .func (.func fid) ⟨[]⟩ ⟨[]⟩] [.slc p c 25 2 n es.flatten] G (A3i (ts.filter fun t => !d t)) := by
 have hesl := hkl.len
 have hall : ∀ e ∈ es, e.length = 2 := fun e he => (hkl.each e he).1
 obtain rfl : n = es.length := by omega
 refine B7 Tryz.func62 rfl Tryz.ntmps62 Tryz.results62 rfl ?_
 intro w0
 refine D2 ?_
 (refine A1E (p := p) (cs := es.flatten) (by repeat (first | exact Pk.here | apply Pk.there)) h0 (fun b C hpb hnc hmc => ?_); subst hpb; refine L3 rfl (B2d G b c es C (by omega) hall fid (fun i => d (ts.getD i A7)) (fun i hi => by have := hd ts[i] G es[i] (hkl.at i (by omega) hi); rw [List.getD_eq_getElem?_getD, List.getElem?_eq_getElem (by omega)]; exact this)) (Pk.perm (by repeat (first | exact Pk.here | apply Pk.there))) rfl rfl (fun v G1 outs hle1 hh => ?_); obtain ⟨hG, rfl, rfl⟩ := hh; replace hG := hG.symm; subst hG; rcases B2k (fun i => d (ts.getD i A7)) es.length with ⟨hfx, hfa⟩ | ⟨i0, hi0, hfx, hfd, hfb⟩ <;> rw [hfx])
 refine D0 ?_
 refine sP (V6 rfl rfl (by omega)) rfl rfl ?_
 refine D2 ?_
 (refine A2X (bs := [(b, es.flatten ++ C)]) (Pk.perm (by repeat (first | exact Pk.here | apply Pk.there))) (fun hn2 hd2 hle2 => ?_); have hin2 := Wi.in (G := G) hn2 (List.mem_singleton.2 rfl))
 refine tT (rS (F0 (rT rfl) ?_))
 (have hfe := B2j (d := d) (ts := ts) (fun j hj => hfa j (by omega)); rw [hfe]; exact ⟨rfl, some ⟨b, 0, none⟩, c, es, by rw [hesl], B9.of (Sl.of_blk (A := []) (by rw [X6 (sz := 2) hall, hesl]) (by omega) hmc hin2) hesl hall (fun e he => (hkl.each e he).2), hkl.mono hle2⟩)
 refine D0 ?_
 refine sP (I3 rfl rfl (by omega)) rfl rfl ?_
 refine D2 ?_
 refine sP (I2 rfl rfl (by omega) (by omega)) rfl rfl ?_
 refine sQ (qA rfl) rfl (sD (nS ?_))
 refine B6 ?_
 (refine J3 (fun (x : Nat × Nat × List (List Value)) => ⟨[(6, .int .i64 (x.2.1 : Int)), (5, .int .i64 (x.1 : Int)), (1, .func (.func fid) ⟨[]⟩ ⟨[]⟩), (0, .slice (some ⟨b, 0, none⟩) es.length c)], [.blk b (x.2.2.flatten ++ C)], G⟩) (fun x => x.2.1 ≤ es.length ∧ x.1 < x.2.1 ∧ x.2.2.length = es.length ∧ B0 G (Z3 (fun t => !d t) ts x.2.1) x.2.2 ∧ x.1 = ((ts.take x.2.1).filter fun t => !d t).length) (fun x => es.length - x.2.1) (i0, i0 + 1, es) ?_ ?_ ?_)
 (simp only [E2]; exact C5)
 (have hff := B2h (k := fun t => !d t) (ts := ts) (i := i0) (by omega) (fun j hj => by have := hfb j hj; rw [List.getD_eq_getElem?_getD, List.getElem?_eq_getElem (by omega)] at this; simpa using this) (by rw [List.getD_eq_getElem?_getD, List.getElem?_eq_getElem (by omega)] at hfd; simpa using hfd); exact ⟨by dsimp only; omega, by dsimp only; omega, rfl, by dsimp only; rw [hff.1]; exact hkl, hff.2.symm⟩)
 (rintro ⟨(i : Nat), (j : Nat), fs⟩ ⟨hj, hij, hfl, hst, hii⟩; simp only [] at hj hij hfl hst hii ⊢; have hfall : ∀ e ∈ fs, e.length = 2 := fun e he => (hst.each e he).1; have hdl := B2e (k := fun t => !d t) (ts := ts) (j := j) (by omega))
 refine I0 ?_
 refine sB (J6 rfl rfl) rfl rfl (fun h65 => ?_) (fun h65 => ?_)
 refine sD (nS (qT rfl (tK (nS (tS ?_)))))
 refine B6 ?_
 refine tS (tR (sQ (qM rfl) rfl (sQ (qM rfl) rfl ?_)))
 (have hjl : j < es.length := (by omega); obtain ⟨ej, hej⟩ : ∃ e, e = fs[j]'(by omega) := ⟨_, rfl⟩; have hrj := hst.at j (by omega) (by omega); rw [B2f (by omega), ← hej] at hrj; have hlj := hrj.len; have hoj := hrj.one; have hatj : ∀ hp, A4.blk b (fs.flatten ++ C) ∈ hp → At hp G b (0 + j * 2) ej := fun hp hm => (by rw [hej]; exact A72 hm (by omega) hfall); refine sP (B4 (j := j) rfl rfl rfl (by omega)) rfl rfl ?_)
 refine sL (A5 rfl rfl (hatj _ (by repeat first | exact mH | apply mT)) hlj) rfl rfl ?_
 refine sE (A6 rfl) rfl (fun b79 => ?_)
 refine sS rfl rfl rfl hlj hoj rfl ?_ (hu := by exact D5 hlj.symm)
 refine sD (nS (tS (tR (sQ (qM rfl) rfl ?_))))
 refine sL (A5 rfl rfl (B5 (by repeat first | exact mH | apply mT)) hlj) rfl rfl ?_
 (have hdj := hd (ts[j]'(by omega)) G _ hrj; obtain ⟨qb, hqb⟩ : ∃ x, d (ts[j]'(by omega)) = x := ⟨_, rfl⟩; rw [hqb] at hdj; cases qb <;> (refine I8 (A2R rfl rfl hdj (List.Perm.refl _) rfl) rfl ?_; rintro _ ⟨v, G7, outs, rfl, hle7, hG, rfl, rfl⟩; replace hG := hG.symm; subst hG))
 refine D7 ?_
 refine sL (A5 rfl rfl (B5 (by repeat first | exact mH | apply mT)) hlj) rfl rfl ?_
 refine sP (B4 (j := i) rfl rfl rfl (by omega)) rfl rfl ?_
 refine S6 rfl rfl rfl hlj hoj rfl (by repeat first | exact Sw.here | apply Sw.there) (by exact A1F (by omega) hfall hlj) ?_
 refine sD (nS (tR (sQ (qM rfl) rfl ?_)))
 refine sP (I2 rfl rfl (by omega) (by omega)) rfl rfl ?_
 refine I0 ?_
 refine sP (I2 rfl rfl (by omega) (by omega)) rfl rfl ?_
 refine sQ (qA rfl) rfl (sD ?_)
 (have hky := B2g (k := fun t => !d t) (ts := ts) (j := j) (by omega) (by simp [hqb]); refine I9 (i + 1, j + 1, fs.set i ej) ?_ ?_ ?_)
 (simp only [E2]; exact C5)
 (dsimp only; exact ⟨by omega, by omega, by rw [List.length_set]; exact hfl, by rw [hky.1, ← hii]; exact hst.set i hrj, by rw [hky.2]; omega⟩)
 (show es.length - (j + 1) < es.length - j; omega)
 refine D2 ?_
 refine sP (I2 rfl rfl (by omega) (by omega)) rfl rfl ?_
 refine sQ (qA rfl) rfl (sD ?_)
 (have hkn := A73 (k := fun t => !d t) (ts := ts) (j := j) (by omega) (by simp [hqb]); refine I9 (i, j + 1, fs) ?_ ?_ ?_)
 (simp only [E2]; exact C5)
 (dsimp only; exact ⟨by omega, by omega, hfl, by rw [hkn.1]; exact hst, by rw [hkn.2]; omega⟩)
 (show es.length - (j + 1) < es.length - j; omega)
 refine N8 ?_
 (refine sP (A7v (l := i) rfl rfl rfl (by omega)) rfl rfl ?_; rw [if_neg (by omega)]; obtain ⟨m, hm⟩ : ∃ m, es.length - i = m + 1 := ⟨es.length - i - 1, by omega⟩; rw [hm])
 (have hup := B2i (fs := fs) (C := C) (i := i) (m := m) (by omega) hfall [Value.int IntKind.i64 0, Value.slice none 0 0] rfl; obtain ⟨Z, hZ⟩ : ∃ Z, W6 (m + 1) [Value.int IntKind.i64 0, Value.slice none 0 0] ++ C = Z := ⟨_, rfl⟩; rw [hZ] at hup; refine I8 (B2c (n := m) rfl rfl (A74 m) hup (by repeat first | exact Sw.here | apply Sw.there) rfl) rfl ?_; rintro _ rfl)
 refine sD (nS (tS (tR (sQ (qM rfl) rfl (sQ (qM rfl) rfl ?_)))))
 refine sP (A42 (l := i) rfl rfl rfl (by omega)) rfl rfl ?_
 refine sQ (qA rfl) rfl (sD (nS ?_))
 (refine A2X (bs := [(b, (fs.take i).flatten ++ Z)]) (Pk.perm (by repeat (first | exact Pk.here | apply Pk.there))) (fun hn2 hd2 hle2 => ?_); have hin2 := Wi.in (G := G) hn2 (List.mem_singleton.2 rfl))
 refine tT (F0 (rT rfl) ?_)
 (obtain rfl : j = es.length := (by omega); have hft : ts.take es.length = ts := (by rw [hesl, List.take_length]); rw [hft] at hii; have hpr := B0.pre (a := ts.filter fun t => !d t) (by unfold Z3 at hst; rw [hft] at hst; exact hst); rw [← hii] at hpr; have hpl := hpr.len; exact ⟨rfl, _, c, fs.take i, by rw [← hii], by rw [← hii]; exact B9.of (Sl.of_blk (A := []) (by rw [X6 (sz := 2) (fun e he => hfall e (List.mem_of_mem_take he)), hpl, ← hii]) (by omega) hmc hin2) (by rw [hpl, ← hii]) (fun e he => (hpr.each e he).1) (fun e he => (hpr.each e he).2), hpr.mono hle2⟩)
theorem B2m (G : IM) (p : Option Addr) (c : Nat) (fid : FuncId) [B2 Tryz.prog fid] :
  Fn Tryz.prog 62 [.slice p 0 c, .func (.func fid) ⟨[]⟩ ⟨[]⟩] [.slc p c 25 2 0 []] G (A3i []) := by
 refine B7 Tryz.func62 rfl Tryz.ntmps62 Tryz.results62 rfl ?_
 intro w0
 refine D2 ?_
 (refine T8 (cs := []) (by repeat (first | exact Pk.here | apply Pk.there)) (fun G2 hle2 hsl2 hno2 => ?_); have hE2 : B9 G2 p 0 c 2 [] := B9.of hsl2 rfl (by simp) (by simp); refine T9 rfl (A7g G2 p 0 c [] hE2 fid [] [] [] (fun _ => false) (by simp)) rfl rfl (fun v G3 outs hle3 hh => ?_); obtain ⟨hG, rfl, rfl⟩ := hh; replace hG := hG.symm; subst hG; rw [A2Y (fun j hj => by omega)])
 refine D0 ?_
 refine sP (V6 rfl rfl (by omega)) rfl rfl ?_
 refine N8 ?_
 (exact ⟨rfl, p, c, [], rfl, hE2, by simp [B0]⟩)
end Gw
end Go.Proofs.YtipblncpnffmbaaGreatDoor
namespace Go.Proofs.YtipblncpnffmbaaGreatDoor
namespace Gw
inductive GT where
 | any | int | bool
 | fn (a b : GT)
 | pr (a b : GT)
inductive GE where
 | var (x : ByteArray)
 | num (n : Int)
 | tru (b : Bool)
 | lam (x : ByteArray) (A : GT) (e : GE)
 | app (f a : GE)
 | ar (s : Bool) (a b : GE)
 | ite (c a b : GE)
 | pair (a b : GE)
 | part (s : Bool) (e : GE)
 | cast (A B : GT) (l : Int) (e : GE)
def GT.gr : GT → GT
 | .any => .any
 | .int => .int
 | .bool => .bool
 | .fn _ _ => .fn .any .any
 | .pr _ _ => .pr .any .any
def GT.Gd (t : GT) : Prop := t ≠ .any ∧ t.gr = t
inductive Co : GT → GT → Prop
 | l {b} : Co .any b
 | r {a} : Co a .any
 | int : Co .int .int
 | bool : Co .bool .bool
 | fn {a b a' b'} : Co a a' → Co b b' → Co (.fn a b) (.fn a' b')
 | pr {a b a' b'} : Co a a' → Co b b' → Co (.pr a b) (.pr a' b')
inductive Le : GT → GT → Prop
 | any {a} : Le a .any
 | int : Le .int .int
 | bool : Le .bool .bool
 | fn {a b a' b'} : Le a a' → Le b b' → Le (.fn a b) (.fn a' b')
 | pr {a b a' b'} : Le a a' → Le b b' → Le (.pr a b) (.pr a' b')
theorem Co.symm {a b : GT} (h : Co a b) : Co b a := by
 induction h with
 | l => exact .r
 | r => exact .l
 | int => exact .int
 | bool => exact .bool
 | fn _ _ i j => exact .fn i j
 | pr _ _ i j => exact .pr i j
theorem Co.refl : ∀ {a : GT}, Co a a
 | .any => .l
 | .int => .int
 | .bool => .bool
 | .fn _ _ => .fn Co.refl Co.refl
 | .pr _ _ => .pr Co.refl Co.refl
theorem Le.refl : ∀ {a : GT}, Le a a
 | .any => .any
 | .int => .int
 | .bool => .bool
 | .fn _ _ => .fn Le.refl Le.refl
 | .pr _ _ => .pr Le.refl Le.refl
theorem Le.gr {a : GT} : Le a a.gr := by
 cases a with
 | fn _ _ => exact .fn .any .any
 | pr _ _ => exact .pr .any .any
 | _ => exact Le.refl
theorem Co.gr {a : GT} : Co a a.gr := by
 cases a with
 | fn _ _ => exact .fn .r .r
 | pr _ _ => exact .pr .r .r
 | _ => exact Co.refl
theorem Le.trans {a b : GT} (h : Le a b) : ∀ {c : GT}, Le b c → Le a c := by
 induction h with
 | any => intro c h; cases h; exact .any
 | int => exact fun h => h
 | bool => exact fun h => h
 | fn _ _ i j =>
  intro c h
  cases h with
  | any => exact .any
  | fn h1 h2 => exact .fn (i h1) (j h2)
 | pr _ _ i j =>
  intro c h
  cases h with
  | any => exact .any
  | pr h1 h2 => exact .pr (i h1) (j h2)
theorem Co.up {a b : GT} (h : Co a b) : ∀ {a' b' : GT}, Le a a' → Le b b' → Co a' b' := by
 induction h with
 | l => intro a' b' h1 _; cases h1; exact .l
 | r => intro a' b' _ h2; cases h2; exact .r
 | int => intro a' b' h1 h2; cases h1 <;> cases h2 <;> first | exact .l | exact .r | exact .int
 | bool => intro a' b' h1 h2; cases h1 <;> cases h2 <;> first | exact .l | exact .r | exact .bool
 | fn _ _ i j =>
  intro a' b' h1 h2
  cases h1 with
  | any => exact .l
  | fn p q => cases h2 with
   | any => exact .r
   | fn r s => exact .fn (i p r) (j q s)
 | pr _ _ i j =>
  intro a' b' h1 h2
  cases h1 with
  | any => exact .l
  | pr p q => cases h2 with
   | any => exact .r
   | pr r s => exact .pr (i p r) (j q s)
theorem Le.co {a b : GT} (h : Le a b) : Co a b := Co.refl.up Le.refl h
theorem Le.gd {a g : GT} (h : Le a g) (hg : g.Gd) : a.gr = g := by
 cases h with
 | any => exact absurd rfl hg.1
 | int => rfl
 | bool => rfl
 | fn _ _ => exact hg.2
 | pr _ _ => exact hg.2
theorem A75 {a : GT} (h : a ≠ .any) : a.gr.Gd := by
 cases a with
 | any => exact absurd rfl h
 | int => exact ⟨(by intro h; cases h), rfl⟩
 | bool => exact ⟨(by intro h; cases h), rfl⟩
 | fn _ _ => exact ⟨(by intro h; cases h), rfl⟩
 | pr _ _ => exact ⟨(by intro h; cases h), rfl⟩
def GE.sub : GE → ByteArray → GE → GE
 | .var y, x, v => if y = x then v else .var y
 | .num n, _, _ => .num n
 | .tru b, _, _ => .tru b
 | .lam y A e, x, v => if y = x then .lam y A e else .lam y A (e.sub x v)
 | .app f a, x, v => .app (f.sub x v) (a.sub x v)
 | .ar s a b, x, v => .ar s (a.sub x v) (b.sub x v)
 | .ite c a b, x, v => .ite (c.sub x v) (a.sub x v) (b.sub x v)
 | .pair a b, x, v => .pair (a.sub x v) (b.sub x v)
 | .part s e, x, v => .part s (e.sub x v)
 | .cast A B l e, x, v => .cast A B l (e.sub x v)
inductive GV : GE → Prop
 | num {n} : GV (.num n)
 | tru {b} : GV (.tru b)
 | lam {x A e} : GV (.lam x A e)
 | pair {a b} : GV a → GV b → GV (.pair a b)
 | pf {a b c d l e} : GV e → GV (.cast (.fn a b) (.fn c d) l e)
 | pp {a b c d l e} : GV e → GV (.cast (.pr a b) (.pr c d) l e)
 | inj {A l e} : GV e → A.Gd → GV (.cast A .any l e)
def A5q (s : Bool) (m n : Int) : GE := if s = true then .tru (decide (m < n)) else .num ((m + n) % 1000)
inductive GS : GE → GE → Prop
 | app1 {f f' a} : GS f f' → GS (.app f a) (.app f' a)
 | app2 {f a a'} : GV f → GS a a' → GS (.app f a) (.app f a')
 | ar1 {s a a' b} : GS a a' → GS (.ar s a b) (.ar s a' b)
 | ar2 {s a b b'} : GV a → GS b b' → GS (.ar s a b) (.ar s a b')
 | ite1 {c c' a b} : GS c c' → GS (.ite c a b) (.ite c' a b)
 | pair1 {a a' b} : GS a a' → GS (.pair a b) (.pair a' b)
 | pair2 {a b b'} : GV a → GS b b' → GS (.pair a b) (.pair a b')
 | part1 {s e e'} : GS e e' → GS (.part s e) (.part s e')
 | cast1 {A B l e e'} : GS e e' → GS (.cast A B l e) (.cast A B l e')
 | beta {x A b v} : GV v → GS (.app (.lam x A b) v) (b.sub x v)
 | appx {a b c d l f v} : GV f → GV v → GS (.app (.cast (.fn a b) (.fn c d) l f) v) (.cast b d l (.app f (.cast c a (-l) v)))
 | ar {s m n} : GS (.ar s (.num m) (.num n)) (A5q s m n)
 | ite {b x y} : GS (.ite (.tru b) x y) (if b = true then x else y)
 | part {s a b} : GV a → GV b → GS (.part s (.pair a b)) (if s = true then b else a)
 | partx {s a b c d l e} : GV e → GS (.part s (.cast (.pr a b) (.pr c d) l e)) (.cast (if s = true then b else a) (if s = true then d else c) l (.part s e))
 | cid {A l v} : GV v → (A = .any ∨ A = .int ∨ A = .bool) → GS (.cast A A l v) v
 | up {A l v} : GV v → A ≠ .any → A.gr ≠ A → GS (.cast A .any l v) (.cast A.gr .any l (.cast A A.gr l v))
 | down {B l v} : GV v → B ≠ .any → B.gr ≠ B → GS (.cast .any B l v) (.cast B.gr B l (.cast .any B.gr l v))
 | hit {G l m w} : GV w → G.Gd → GS (.cast .any G l (.cast G .any m w)) w
theorem GV.noS {e : GE} (h : GV e) : ∀ r, ¬ GS e r := by
 induction h with
 | num => intro r s; cases s
 | tru => intro r s; cases s
 | lam => intro r s; cases s
 | pair _ _ i j =>
  intro r s
  cases s with
  | pair1 s => exact i _ s
  | pair2 _ s => exact j _ s
 | pf _ i =>
  intro r s
  cases s with
  | cast1 s => exact i _ s
  | cid _ h => rcases h with h | h | h <;> cases h
 | pp _ i =>
  intro r s
  cases s with
  | cast1 s => exact i _ s
  | cid _ h => rcases h with h | h | h <;> cases h
 | inj _ hg i =>
  intro r s
  cases s with
  | cast1 s => exact i _ s
  | cid _ h => exact hg.1 rfl
  | up _ _ h => exact h hg.2
  | down _ h => exact h rfl
  | hit _ h => exact h.1 rfl
theorem GV.ofCast {A B : GT} {l : Int} {e : GE} (h : GV (.cast A B l e)) : GV e := by cases h <;> assumption
inductive Ss : GE → GE → Prop
 | refl {e} : Ss e e
 | step {a b c} : GS a b → Ss b c → Ss a c
theorem Ss.trans {a b c : GE} (h : Ss a b) (h2 : Ss b c) : Ss a c := by
 induction h with
 | refl => exact h2
 | step s _ i => exact .step s (i h2)
theorem Ss.one {a b : GE} (h : GS a b) : Ss a b := .step h .refl
theorem Ss.ctx {a b : GE} (C : GE → GE) (hC : ∀ x y, GS x y → GS (C x) (C y)) (h : Ss a b) : Ss (C a) (C b) := by
 induction h with
 | refl => exact .refl
 | step s _ i => exact .step (hC _ _ s) i
abbrev GC := ByteArray → Option (GT × GT)
def M7 : GC := fun _ => none
def gup (Γ : GC) (x : ByteArray) (A A' : GT) : GC := fun y => if x = y then some (A, A') else Γ y
inductive GP : GC → GE → GE → GT → GT → Prop
 | var {Γ x A A'} : Γ x = some (A, A') → Le A A' → GP Γ (.var x) (.var x) A A'
 | num {Γ n} : GP Γ (.num n) (.num n) .int .int
 | tru {Γ b} : GP Γ (.tru b) (.tru b) .bool .bool
 | lam {Γ x A A' B B' e e'} : Le A A' → GP (gup Γ x A A') e e' B B' → GP Γ (.lam x A e) (.lam x A' e') (.fn A B) (.fn A' B')
 | app {Γ f f' a a' A A' B B'} : GP Γ f f' (.fn A B) (.fn A' B') → GP Γ a a' A A' → GP Γ (.app f a) (.app f' a') B B'
 | ar {Γ s a a' b b'} : GP Γ a a' .int .int → GP Γ b b' .int .int → GP Γ (.ar s a b) (.ar s a' b') (if s = true then .bool else .int) (if s = true then .bool else .int)
 | ite {Γ c c' a a' b b' A A'} : GP Γ c c' .bool .bool → GP Γ a a' A A' → GP Γ b b' A A' → GP Γ (.ite c a b) (.ite c' a' b') A A'
 | pair {Γ a a' b b' A A' B B'} : GP Γ a a' A A' → GP Γ b b' B B' → GP Γ (.pair a b) (.pair a' b') (.pr A B) (.pr A' B')
 | part {Γ s e e' A A' B B'} : GP Γ e e' (.pr A B) (.pr A' B') → GP Γ (.part s e) (.part s e') (if s = true then B else A) (if s = true then B' else A')
 | castL {Γ e e' A B A' l} : GP Γ e e' A A' → Co A B → Le B A' → GP Γ (.cast A B l e) e' B A'
 | castR {Γ e e' A A' B' l} : GP Γ e e' A A' → Co A' B' → Le A B' → GP Γ e (.cast A' B' l e') A B'
 | castB {Γ e e' A B A' B' l l'} : GP Γ e e' A A' → Co A B → Co A' B' → Le B B' → GP Γ (.cast A B l e) (.cast A' B' l' e') B B'
theorem GP.le {Γ : GC} {e e' : GE} {A A' : GT} (h : GP Γ e e' A A') : Le A A' := by
 induction h with
 | var _ h => exact h
 | num => exact .int
 | tru => exact .bool
 | lam h _ i => exact .fn h i
 | app _ _ i _ => cases i with | fn _ h => exact h
 | ar => exact Le.refl
 | ite _ _ _ _ i _ => exact i
 | pair _ _ i j => exact .pr i j
 | @part Γ s _ _ _ _ _ _ _ i => cases i with | pr h1 h2 => cases s <;> assumption
 | castL _ _ h _ => exact h
 | castR _ _ h _ => exact h
 | castB _ _ _ h _ => exact h
theorem GP.weak {Γ : GC} {e e' : GE} {A A' : GT} (h : GP Γ e e' A A') : ∀ {Δ : GC}, (∀ y p, Γ y = some p → Δ y = some p) → GP Δ e e' A A' := by
 induction h with
 | var hx hl => intro Δ hD; exact .var (hD _ _ hx) hl
 | num => intro _ _; exact .num
 | tru => intro _ _; exact .tru
 | lam hl _ i =>
  intro Δ hD
  refine .lam hl (i fun y p hy => ?_)
  unfold gup at hy ⊢
  split
  ·rename_i h; rw [if_pos h] at hy; exact hy
  ·rename_i h; rw [if_neg h] at hy; exact hD _ _ hy
 | app _ _ i j => intro Δ hD; exact .app (i hD) (j hD)
 | ar _ _ i j => intro Δ hD; exact .ar (i hD) (j hD)
 | ite _ _ _ i j k => intro Δ hD; exact .ite (i hD) (j hD) (k hD)
 | pair _ _ i j => intro Δ hD; exact .pair (i hD) (j hD)
 | part _ i => intro Δ hD; exact .part (i hD)
 | castL _ h1 h2 i => intro Δ hD; exact .castL (i hD) h1 h2
 | castR _ h1 h2 i => intro Δ hD; exact .castR (i hD) h1 h2
 | castB _ h1 h2 h3 i => intro Δ hD; exact .castB (i hD) h1 h2 h3
theorem GP.sub {x : ByteArray} {v v' : GE} {A A' : GT} (hv : GP M7 v v' A A') {Γ : GC} {e e' : GE} {B B' : GT} (h : GP Γ e e' B B') :
  ∀ {Δ : GC}, (∀ y, x ≠ y → Γ y = Δ y) → Γ x = some (A, A') → GP Δ (e.sub x v) (e'.sub x v') B B' := by
 induction h with
 | @var Γ y C C' hy hl =>
  intro Δ hD hx
  simp only [GE.sub]
  split
  ·rename_i he
   subst he
   rw [hx] at hy
   cases hy
   exact hv.weak fun z p hz => by cases hz
  ·rename_i he
   exact .var (by rw [← hD y (fun e => he e.symm)]; exact hy) hl
 | num => intro _ _ _; exact .num
 | tru => intro _ _ _; exact .tru
 | @lam Γ y C C' D D' e e' hl h i =>
  intro Δ hD hx
  simp only [GE.sub]
  by_cases he : y = x
  ·rw [if_pos he, if_pos he]
   refine .lam hl (h.weak fun z p hz => ?_)
   unfold gup at hz ⊢
   split
   ·rename_i h2; rw [if_pos h2] at hz; exact hz
   ·rename_i h2; rw [if_neg h2] at hz; rw [← hD z (fun e => h2 (he.trans e))]; exact hz
  ·rw [if_neg he, if_neg he]
   refine .lam hl (i (fun z hz => ?_) ?_)
   ·unfold gup
    split
    ·rfl
    ·exact hD z hz
   ·unfold gup; rw [if_neg he]; exact hx
 | app _ _ i j => intro Δ hD hx; exact .app (i hD hx) (j hD hx)
 | ar _ _ i j => intro Δ hD hx; exact .ar (i hD hx) (j hD hx)
 | ite _ _ _ i j k => intro Δ hD hx; exact .ite (i hD hx) (j hD hx) (k hD hx)
 | pair _ _ i j => intro Δ hD hx; exact .pair (i hD hx) (j hD hx)
 | part _ i => intro Δ hD hx; exact .part (i hD hx)
 | castL _ h1 h2 i => intro Δ hD hx; exact .castL (i hD hx) h1 h2
 | castR _ h1 h2 i => intro Δ hD hx; exact .castR (i hD hx) h1 h2
 | castB _ h1 h2 h3 i => intro Δ hD hx; exact .castB (i hD hx) h1 h2 h3
theorem B2n {Γ : GC} {v u : GE} {A U : GT} (h : GP Γ v u A U) : ∀ {H : GT} {l : Int} {w : GE}, u = .cast H .any l w → Γ = M7 → GV v → A ≠ .any → H.Gd → Le A H ∧ GP M7 v w A H := by
 induction h with
 | @castL Γ e e' A B A' m h hc hl i =>
  intro H l w hu hE hv hA hH
  subst hE
  have hU := hl
  subst hu
  obtain ⟨hle, hp⟩ : Le A H ∧ GP M7 e w A H := i rfl rfl hv.ofCast (by cases hv with | inj _ _ => exact absurd rfl hA | _ => intro h; cases h) hH
  have : Le B H := by
   cases hv with
   | inj _ _ => exact absurd rfl hA
   | pf _ =>
    cases hle with
    | any => exact absurd rfl hH.1
    | fn _ _ => have := hH.2; cases this; exact .fn .any .any
   | pp _ =>
    cases hle with
    | any => exact absurd rfl hH.1
    | pr _ _ => have := hH.2; cases this; exact .pr .any .any
  exact ⟨this, .castL hp hc this⟩
 | castR h hc hl _ =>
  intro H l w hu hE hv hA hH
  subst hE
  cases hu
  exact ⟨h.le, h⟩
 | @castB Γ e e' A B A' B' m m' h hc hc' hl _ =>
  intro H l w hu hE hv hA hH
  subst hE
  obtain ⟨rfl, rfl, _, rfl⟩ : A' = H ∧ B' = .any ∧ m' = l ∧ e' = w := by cases hu; exact ⟨rfl, rfl, rfl, rfl⟩
  have hle := h.le
  have : Le B A' := by
   cases hv with
   | inj _ _ => exact absurd rfl hA
   | pf _ =>
    cases hle with
    | any => exact absurd rfl hH.1
    | fn _ _ => have := hH.2; cases this; exact .fn .any .any
   | pp _ =>
    cases hle with
    | any => exact absurd rfl hH.1
    | pr _ _ => have := hH.2; cases this; exact .pr .any .any
  exact ⟨this, .castL h hc this⟩
 | _ => intro H l w hu; cases hu
theorem B2o {v' : GE} {v : GE} {A : GT} (h : GP M7 v v' A .any) (hv : GV v') : ∃ H l w, v' = .cast H .any l w ∧ GV w ∧ H.Gd := by
 suffices ∀ {Γ v v' A U}, GP Γ v v' A U → U = .any → Γ = M7 → GV v' → ∃ H l w, v' = .cast H .any l w ∧ GV w ∧ H.Gd from this h rfl rfl hv
 intro Γ v v' A U h
 induction h with
 | castL _ _ _ i => exact i
 | castR _ _ _ _ => intro hU _ hv; subst hU; cases hv with | inj h1 h2 => exact ⟨_, _, _, rfl, h1, h2⟩
 | castB _ _ _ _ _ => intro hU _ hv; subst hU; cases hv with | inj h1 h2 => exact ⟨_, _, _, rfl, h1, h2⟩
 | var hx _ => intro _ hE; subst hE; cases hx
 | app _ _ _ _ => intro _ _ hv; cases hv
 | ite _ _ _ _ _ _ => intro _ _ hv; cases hv
 | part _ _ => intro _ _ hv; cases hv
 | ar _ _ _ _ => intro _ _ hv; cases hv
 | _ => intro hU; cases hU
theorem A1c {A B : GT} {l : Int} {a b : GE} (h : Ss a b) : Ss (.cast A B l a) (.cast A B l b) := h.ctx _ fun _ _ => .cast1
theorem A76 {v v' : GE} {A G : GT} {l : Int} (hv : GV v) (hv' : GV v') (h : GP M7 v v' A .any) (hG : G.Gd) (hl : Le A G) (hA : A ≠ .any) :
  ∃ v'', Ss (.cast .any G l v') v'' ∧ GV v'' ∧ GP M7 v v'' A G := by
 obtain ⟨H, m, w, rfl, hw, hH⟩ := B2o h hv'
 obtain ⟨h1, h2⟩ := B2n h rfl rfl hv hA hH
 have : H = G := (h1.gd hH).symm.trans (hl.gd hG)
 subst this
 exact ⟨w, .one (.hit hw hG), hw, h2⟩
theorem B2p {A B : GT} (h : Le A B) (hB : B ≠ .any) : A ≠ .any := by rintro rfl; cases h; exact hB rfl
theorem A4a {v v' : GE} {A A' B' : GT} (l : Int) (hv : GV v) (hv' : GV v') (h : GP M7 v v' A A') (hl : Le A B') (hc : Co A' B') :
  ∃ v'', Ss (.cast A' B' l v') v'' ∧ GV v'' ∧ GP M7 v v'' A B' := by
 have hle := h.le
 by_cases hA : A' = .any
 ·subst hA
  by_cases hB : B' = .any
  ·subst hB; exact ⟨v', .one (.cid hv' (.inl rfl)), hv', h⟩
  ·have hA := B2p hl hB
   by_cases hg : B'.gr = B'
   ·exact A76 hv hv' h ⟨hB, hg⟩ hl hA
   ·have hgB := A75 hB
    obtain ⟨u, s, hu, hp⟩ := A76 (l := l) hv hv' h hgB (hl.trans Le.gr) hA
    refine ⟨.cast B'.gr B' l u, .step (.down hv' hB hg) (A1c s), ?_, .castR hp Co.gr.symm hl⟩
    cases B' with
    | fn _ _ => exact .pf hu
    | pr _ _ => exact .pp hu
    | any => exact absurd rfl hB
    | int => exact absurd rfl hg
    | bool => exact absurd rfl hg
 ·by_cases hB : B' = .any
  ·subst hB
   by_cases hg : A'.gr = A'
   ·exact ⟨_, .refl, .inj hv' ⟨hA, hg⟩, .castR h .r .any⟩
   ·refine ⟨_, .one (.up hv' hA hg), .inj ?_ (A75 hA), .castR (.castR h Co.gr (hle.trans Le.gr)) .r .any⟩
    cases A' with
    | fn _ _ => exact .pf hv'
    | pr _ _ => exact .pp hv'
    | any => exact absurd rfl hA
    | int => exact absurd rfl hg
    | bool => exact absurd rfl hg
  ·cases hc with
   | l => exact absurd rfl hA
   | r => exact absurd rfl hB
   | int => exact ⟨v', .one (.cid hv' (.inr (.inl rfl))), hv', h⟩
   | bool => exact ⟨v', .one (.cid hv' (.inr (.inr rfl))), hv', h⟩
   | fn h1 h2 => exact ⟨_, .refl, .pf hv', .castR h (.fn h1 h2) hl⟩
   | pr h1 h2 => exact ⟨_, .refl, .pp hv', .castR h (.pr h1 h2) hl⟩
theorem A0H {Γ : GC} {e e' : GE} {A A' : GT} (h : GP Γ e e' A A') : Γ = M7 → GV e → ∃ v', Ss e' v' ∧ GV v' ∧ GP M7 e v' A A' := by
 induction h with
 | var _ _ => intro _ hv; cases hv
 | num => intro _ _; exact ⟨_, .refl, .num, .num⟩
 | tru => intro _ _; exact ⟨_, .refl, .tru, .tru⟩
 | lam hl h _ => intro hE _; subst hE; exact ⟨_, .refl, .lam, .lam hl h⟩
 | app _ _ _ _ => intro _ hv; cases hv
 | ar _ _ _ _ => intro _ hv; cases hv
 | ite _ _ _ _ _ _ => intro _ hv; cases hv
 | part _ _ => intro _ hv; cases hv
 | pair _ _ i j =>
  intro hE hv
  cases hv with
  | pair va vb =>
   obtain ⟨a', s1, v1, p1⟩ := i hE va
   obtain ⟨b', s2, v2, p2⟩ := j hE vb
   exact ⟨.pair a' b', (s1.ctx (fun x => .pair x _) fun _ _ => .pair1).trans (s2.ctx (fun x => .pair a' x) fun _ _ s => .pair2 v1 s), .pair v1 v2, .pair p1 p2⟩
 | castL _ h1 h2 i =>
  intro hE hv
  obtain ⟨v', s, hv', p⟩ := i hE hv.ofCast
  exact ⟨v', s, hv', .castL p h1 h2⟩
 | castR _ h1 h2 i =>
  intro hE hv
  obtain ⟨v', s, hv', p⟩ := i hE hv
  obtain ⟨u, s2, hu, p2⟩ := A4a _ hv hv' p h2 h1
  exact ⟨u, (A1c s).trans s2, hu, p2⟩
 | @castB Γ e e' A B A' B' l l' _ h1 h2 h3 i =>
  intro hE hv
  obtain ⟨w', s, hw', p⟩ := i hE hv.ofCast
  by_cases hB : B' = .any
  ·subst hB
   obtain ⟨u, s2, hu, p2⟩ := A4a l' hv.ofCast hw' p .any h2
   exact ⟨u, (A1c s).trans s2, hu, .castL p2 h1 .any⟩
  ·by_cases hA : A' = .any
   ·subst hA
    obtain ⟨u, s2, hu, p2⟩ := A4a l' hv hw' (.castL p h1 .any) h3 h2
    exact ⟨u, (A1c s).trans s2, hu, p2⟩
   ·have hle := p.le
    refine ⟨.cast A' B' l' w', A1c s, ?_, .castB p h1 h2 h3⟩
    cases hv with
    | inj _ _ => cases h3; exact absurd rfl hB
    | pf _ =>
     cases h3 with
     | any => exact absurd rfl hB
     | fn _ _ => cases hle with
      | any => exact absurd rfl hA
      | fn _ _ => exact .pf hw'
    | pp _ =>
     cases h3 with
     | any => exact absurd rfl hB
     | pr _ _ => cases hle with
      | any => exact absurd rfl hA
      | pr _ _ => exact .pp hw'
theorem B2q {Γ : GC} {f f' : GE} {U U' : GT} (h : GP Γ f f' U U') : ∀ {A B A' B' : GT}, Γ = M7 → U = .fn A B → U' = .fn A' B' → GV f → GV f' →
  ∀ {v v' r : GE}, GV v → GV v' → GP M7 v v' A A' → GS (.app f v) r → ∃ r', Ss (.app f' v') r' ∧ GP M7 r r' B B' := by
 induction h with
 | lam hl h _ =>
  intro A B A' B' hE hU hU' _ _ v v' r hv hv' hp s
  subst hE
  cases hU; cases hU'
  cases s with
  | app1 s => exact absurd s (GV.lam.noS _)
  | app2 _ s => exact absurd s (hv.noS _)
  | beta _ => exact ⟨_, .one (.beta hv'), GP.sub hp h (fun y hy => by unfold gup; rw [if_neg hy]) (by unfold gup; rw [if_pos rfl])⟩
 | castL h h1 h2 _ =>
  intro A B A' B' hE hU hU' hf hf' v v' r hv hv' hp s
  subst hE hU hU'
  cases hf with
  | pf hw =>
   cases s with
   | app1 s => exact absurd s ((GV.pf hw).noS _)
   | app2 _ s => exact absurd s (hv.noS _)
   | appx _ _ =>
    cases h1 with
    | fn c1 c2 =>
     have hle := h.le
     cases hle with
     | fn l1 l2 =>
      cases h2 with
      | fn l3 l4 => exact ⟨_, .refl, .castL (.app h (.castL hp c1.symm l1)) c2 l4⟩
 | @castR Γ0 f0 w' U0 C' D' l h h1 h2 i =>
  intro A B A' B' hE hU hU' hf hf' v v' r hv hv' hp s
  subst hE hU hU'
  cases hf' with
  | pf hw =>
   cases h1 with
   | fn c1 c2 =>
    have hle := h.le
    cases hle with
    | fn l1 l2 =>
     cases h2 with
     | fn l3 l4 =>
      obtain ⟨v'', s2, hv'', p2⟩ := A4a (-l) hv hv' hp l1 c1.symm
      obtain ⟨r', s3, p3⟩ := i rfl rfl rfl hf hw hv hv'' p2 s
      exact ⟨_, .step (.appx hw hv') (A1c ((s2.ctx (fun x => .app w' x) fun _ _ s => .app2 hw s).trans s3)), .castR p3 c2 l4⟩
 | castB h h1 h1' h2 _ =>
  intro A B A' B' hE hU hU' hf hf' v v' r hv hv' hp s
  subst hE hU hU'
  cases hf with
  | pf hw =>
   cases hf' with
   | pf hw' =>
    cases s with
    | app1 s => exact absurd s ((GV.pf hw).noS _)
    | app2 _ s => exact absurd s (hv.noS _)
    | appx _ _ =>
     cases h1 with
     | fn c1 c2 => cases h1' with
      | fn d1 d2 =>
       have hle := h.le
       cases hle with
       | fn l1 l2 =>
        cases h2 with
        | fn l3 l4 => exact ⟨_, .one (.appx hw' hv'), .castB (.app h (.castB hp c1.symm d1.symm l1)) c2 d2 l4⟩
 | app _ _ _ _ => intro _ _ _ _ _ _ _ hf; cases hf
 | ite _ _ _ _ _ _ => intro _ _ _ _ _ _ _ hf; cases hf
 | part _ _ => intro _ _ _ _ _ _ _ hf; cases hf
 | ar _ _ _ _ => intro _ _ _ _ _ _ _ hf; cases hf
 | var hx _ => intro _ _ _ _ hE; subst hE; cases hx
 | _ => intro _ _ _ _ _ hU; cases hU
theorem B2r {Γ : GC} {f f' : GE} {U U' : GT} (h : GP Γ f f' U U') : ∀ {A B A' B' : GT} {t : Bool}, Γ = M7 → U = .pr A B → U' = .pr A' B' → GV f → GV f' →
  ∀ {r : GE}, GS (.part t f) r → ∃ r', Ss (.part t f') r' ∧ GP M7 r r' (if t = true then B else A) (if t = true then B' else A') := by
 induction h with
 | pair ha hb _ _ =>
  intro A B A' B' t hE hU hU' hf hf' r s
  subst hE
  cases hU; cases hU'
  cases hf' with
  | pair va vb =>
   cases s with
   | part1 s => exact absurd s (hf.noS _)
   | part _ _ => exact ⟨_, .one (.part va vb), by cases t <;> assumption⟩
 | castL h h1 h2 _ =>
  intro A B A' B' t hE hU hU' hf hf' r s
  subst hE hU hU'
  cases hf with
  | pp hw =>
   cases s with
   | part1 s => exact absurd s ((GV.pp hw).noS _)
   | partx _ =>
    cases h1 with
    | pr c1 c2 =>
     have hle := h.le
     cases hle with
     | pr l1 l2 =>
      cases h2 with
      | pr l3 l4 => exact ⟨_, .refl, .castL (.part h) (by cases t <;> assumption) (by cases t <;> assumption)⟩
 | castR h h1 h2 i =>
  intro A B A' B' t hE hU hU' hf hf' r s
  subst hE hU hU'
  cases hf' with
  | pp hw =>
   cases h1 with
   | pr c1 c2 =>
    have hle := h.le
    cases hle with
    | pr l1 l2 =>
     cases h2 with
     | pr l3 l4 =>
      obtain ⟨r', s3, p3⟩ := i rfl rfl rfl hf hw s
      exact ⟨_, .step (.partx hw) (A1c s3), .castR p3 (by cases t <;> assumption) (by cases t <;> assumption)⟩
 | castB h h1 h1' h2 _ =>
  intro A B A' B' t hE hU hU' hf hf' r s
  subst hE hU hU'
  cases hf with
  | pp hw =>
   cases hf' with
   | pp hw' =>
    cases s with
    | part1 s => exact absurd s ((GV.pp hw).noS _)
    | partx _ =>
     cases h1 with
     | pr c1 c2 => cases h1' with
      | pr d1 d2 =>
       cases h2 with
       | pr l3 l4 => exact ⟨_, .one (.partx hw'), .castB (.part h) (by cases t <;> assumption) (by cases t <;> assumption) (by cases t <;> assumption)⟩
 | app _ _ _ _ => intro _ _ _ _ _ _ _ _ hf; cases hf
 | ite _ _ _ _ _ _ => intro _ _ _ _ _ _ _ _ hf; cases hf
 | part _ _ => intro _ _ _ _ _ _ _ _ hf; cases hf
 | ar _ _ _ _ => intro _ _ _ _ _ _ _ _ hf; cases hf
 | var hx _ => intro _ _ _ _ _ hE; subst hE; cases hx
 | _ => intro _ _ _ _ _ _ hU; cases hU
theorem A77 {e' : GE} {n : Int} {A A' : GT} (h : GP M7 (.num n) e' A A') (hv : GV e') : A' = .int → e' = .num n := by
 intro hA
 cases h with
 | num => rfl
 | castR _ _ _ => subst hA; cases hv
theorem B2s {e' : GE} {b : Bool} {A A' : GT} (h : GP M7 (.tru b) e' A A') (hv : GV e') : A' = .bool → e' = .tru b := by
 intro hA
 cases h with
 | tru => rfl
 | castR _ _ _ => subst hA; cases hv
theorem A78 {G : GT} {m : Int} {w v' : GE} (h : GP M7 (.cast G .any m w) v' .any .any) (hv' : GV v') : GP M7 w v' G .any := by
 cases h with
 | castL h _ _ => exact h
 | castR h _ _ =>
  have := h.le
  cases this
  cases hv' with
  | inj _ hg => exact absurd rfl hg.1
 | castB h _ hc _ => exact .castR h hc .any
theorem sim {Γ : GC} {e e' : GE} {A A' : GT} (h : GP Γ e e' A A') : Γ = M7 → ∀ {r : GE}, GS e r → ∃ r', Ss e' r' ∧ GP M7 r r' A A' := by
 induction h with
 | var _ _ => intro _ r s; cases s
 | num => intro _ r s; cases s
 | tru => intro _ r s; cases s
 | lam _ _ _ => intro _ r s; cases s
 | @app Γ f f' a a' A A' B B' hf ha i j =>
  intro hE r s
  have go : GV f → GV a → ∃ r', Ss (.app f' a') r' ∧ GP M7 r r' B B' := by
   intro vf va
   obtain ⟨F', s1, v1, p1⟩ := A0H hf hE vf
   obtain ⟨V', s2, v2, p2⟩ := A0H ha hE va
   obtain ⟨r', s3, p3⟩ := B2q p1 rfl rfl rfl vf v1 va v2 p2 s
   exact ⟨r', ((s1.ctx (fun x => .app x a') fun _ _ => .app1).trans (s2.ctx (fun x => .app F' x) fun _ _ s => .app2 v1 s)).trans s3, p3⟩
  cases s with
  | app1 s =>
   obtain ⟨r', s1, p⟩ := i hE s
   subst hE
   exact ⟨.app r' a', s1.ctx (fun x => .app x a') fun _ _ => .app1, .app p ha⟩
  | app2 vf s =>
   obtain ⟨F', s1, v1, p1⟩ := A0H hf hE vf
   obtain ⟨r', s2, p⟩ := j hE s
   exact ⟨.app F' r', (s1.ctx (fun x => .app x a') fun _ _ => .app1).trans (s2.ctx (fun x => .app F' x) fun _ _ s => .app2 v1 s), .app p1 p⟩
  | beta va => exact go .lam va
  | appx vf va => exact go (.pf vf) va
 | @ar Γ t a a' b b' ha hb i j =>
  intro hE r s
  cases s with
  | ar1 s =>
   obtain ⟨r', s1, p⟩ := i hE s
   subst hE
   exact ⟨.ar t r' b', s1.ctx (fun x => .ar t x b') fun _ _ => .ar1, .ar p hb⟩
  | ar2 va s =>
   obtain ⟨A', s1, v1, p1⟩ := A0H ha hE va
   obtain ⟨r', s2, p⟩ := j hE s
   exact ⟨.ar t A' r', (s1.ctx (fun x => .ar t x b') fun _ _ => .ar1).trans (s2.ctx (fun x => .ar t A' x) fun _ _ s => .ar2 v1 s), .ar p1 p⟩
  | ar =>
   obtain ⟨A', s1, v1, p1⟩ := A0H ha hE .num
   obtain ⟨B', s2, v2, p2⟩ := A0H hb hE .num
   obtain rfl := A77 p1 v1 rfl
   obtain rfl := A77 p2 v2 rfl
   refine ⟨_, ((s1.ctx (fun x => .ar t x b') fun _ _ => .ar1).trans (s2.ctx (fun x => .ar t _ x) fun _ _ s => .ar2 v1 s)).trans (.one .ar), ?_⟩
   unfold A5q
   cases t
   ·exact .num
   ·exact .tru
 | @ite Γ c c' a a' b b' A A' hc ha hb i _ _ =>
  intro hE r s
  cases s with
  | ite1 s =>
   obtain ⟨r', s1, p⟩ := i hE s
   subst hE
   exact ⟨.ite r' a' b', s1.ctx (fun x => .ite x a' b') fun _ _ => .ite1, .ite p ha hb⟩
  | ite =>
   obtain ⟨A', s1, v1, p1⟩ := A0H hc hE .tru
   obtain rfl := B2s p1 v1 rfl
   subst hE
   refine ⟨_, (s1.ctx (fun x => .ite x a' b') fun _ _ => .ite1).trans (.one .ite), ?_⟩
   split
   ·exact ha
   ·exact hb
 | @pair Γ a a' b b' A A' B B' ha hb i j =>
  intro hE r s
  cases s with
  | pair1 s =>
   obtain ⟨r', s1, p⟩ := i hE s
   subst hE
   exact ⟨.pair r' b', s1.ctx (fun x => .pair x b') fun _ _ => .pair1, .pair p hb⟩
  | pair2 va s =>
   obtain ⟨A', s1, v1, p1⟩ := A0H ha hE va
   obtain ⟨r', s2, p⟩ := j hE s
   exact ⟨.pair A' r', (s1.ctx (fun x => .pair x b') fun _ _ => .pair1).trans (s2.ctx (fun x => .pair A' x) fun _ _ s => .pair2 v1 s), .pair p1 p⟩
 | @part Γ t e e' A A' B B' h i =>
  intro hE r s
  have go : GV e → ∃ r', Ss (.part t e') r' ∧ GP M7 r r' (if t = true then B else A) (if t = true then B' else A') := by
   intro ve
   obtain ⟨E', s1, v1, p1⟩ := A0H h hE ve
   obtain ⟨r', s3, p3⟩ := B2r p1 rfl rfl rfl ve v1 s
   exact ⟨r', (s1.ctx (fun x => .part t x) fun _ _ => .part1).trans s3, p3⟩
  cases s with
  | part1 s =>
   obtain ⟨r', s1, p⟩ := i hE s
   exact ⟨.part t r', s1.ctx (fun x => .part t x) fun _ _ => .part1, .part p⟩
  | part va vb => exact go (.pair va vb)
  | partx v => exact go (.pp v)
 | @castL Γ e e' A B A' l h h1 h2 i =>
  intro hE r s
  have hle := h.le
  cases s with
  | cast1 s =>
   obtain ⟨r', s1, p⟩ := i hE s
   exact ⟨r', s1, .castL p h1 h2⟩
  | cid v _ => subst hE; exact ⟨e', .refl, h⟩
  | up v hA hg =>
   subst hE
   cases h2
   exact ⟨e', .refl, .castL (.castL h Co.gr .any) .r .any⟩
  | down v hB hg =>
   subst hE
   cases hle
   exact ⟨e', .refl, .castL (.castL h .l .any) Co.gr.symm .any⟩
  | hit v hg =>
   obtain ⟨v', s1, v1, p1⟩ := A0H h hE (.inj v hg)
   cases hle
   exact ⟨v', s1, A78 p1 v1⟩
 | @castR Γ e e' A A' B' l h h1 h2 i =>
  intro hE r s
  obtain ⟨r', s1, p⟩ := i hE s
  exact ⟨_, A1c s1, .castR p h1 h2⟩
 | @castB Γ e e' A B A' B' l l' h h1 h1' h2 i =>
  intro hE r s
  have hle := h.le
  cases s with
  | cast1 s =>
   obtain ⟨r', s1, p⟩ := i hE s
   exact ⟨_, A1c s1, .castB p h1 h1' h2⟩
  | cid v _ => subst hE; exact ⟨_, .refl, .castR h h1' h2⟩
  | up v hA hg =>
   subst hE
   cases h2
   exact ⟨_, .refl, .castL (.castL (.castR h h1' .any) Co.gr .any) .r .any⟩
  | down v hB hg =>
   subst hE
   cases hle
   exact ⟨_, .refl, .castR (.castL (.castL h .l .any) Co.gr.symm .any) .l h2⟩
  | hit v hg =>
   obtain ⟨v', s1, v1, p1⟩ := A0H h hE (.inj v hg)
   cases hle
   exact ⟨_, A1c s1, .castR (A78 p1 v1) .l h2⟩
theorem B2t {r e : GE} (h : Ss e r) : ∀ {e' : GE} {A A' : GT}, GP M7 e e' A A' → ∃ r', Ss e' r' ∧ GP M7 r r' A A' := by
 induction h with
 | refl => intro e' A A' h; exact ⟨e', .refl, h⟩
 | step s _ i =>
  intro e' A A' h
  obtain ⟨r', s1, p⟩ := sim h rfl s
  obtain ⟨r2, s2, p2⟩ := i p
  exact ⟨r2, s1.trans s2, p2⟩
inductive GX where
 | n (n : Int) | b (b : Bool) | p | f
def GE.tx : GE → GX
 | .num n => .n n
 | .tru b => .b b
 | .pair _ _ => .p
 | .cast _ (.fn _ _) _ _ => .f
 | .cast _ (.pr _ _) _ _ => .p
 | .cast _ _ _ e => e.tx
 | _ => .f
theorem A79 {Γ : GC} {v v' : GE} {U U' : GT} (h : GP Γ v v' U U') : ∀ {A B : GT}, Γ = M7 → U = .fn A B → GV v → v.tx = .f := by
 induction h with
 | castR _ _ _ i => exact i
 | castL _ _ _ _ => intro A B _ hU hv; subst hU; cases hv; rfl
 | castB _ _ _ _ _ => intro A B _ hU hv; subst hU; cases hv; rfl
 | lam _ _ _ => intro _ _ _ _ _; rfl
 | app _ _ _ _ => intro _ _ _ _ hv; cases hv
 | ite _ _ _ _ _ _ => intro _ _ _ _ hv; cases hv
 | part _ _ => intro _ _ _ _ hv; cases hv
 | ar _ _ _ _ => intro _ _ _ _ hv; cases hv
 | var _ _ => intro _ _ _ _ hv; cases hv
 | _ => intro _ _ _ hU; cases hU
theorem A8a {Γ : GC} {v v' : GE} {U U' : GT} (h : GP Γ v v' U U') : ∀ {A B : GT}, Γ = M7 → U = .pr A B → GV v → v.tx = .p := by
 induction h with
 | castR _ _ _ i => exact i
 | castL _ _ _ _ => intro A B _ hU hv; subst hU; cases hv; rfl
 | castB _ _ _ _ _ => intro A B _ hU hv; subst hU; cases hv; rfl
 | pair _ _ _ _ => intro _ _ _ _ _; rfl
 | app _ _ _ _ => intro _ _ _ _ hv; cases hv
 | ite _ _ _ _ _ _ => intro _ _ _ _ hv; cases hv
 | part _ _ => intro _ _ _ _ hv; cases hv
 | ar _ _ _ _ => intro _ _ _ _ hv; cases hv
 | var _ _ => intro _ _ _ _ hv; cases hv
 | _ => intro _ _ _ hU; cases hU
theorem A5r {Γ : GC} {v v' : GE} {U U' : GT} (h : GP Γ v v' U U') : ∀ {A B : GT}, Γ = M7 → U' = .fn A B → GV v' → v'.tx = .f := by
 induction h with
 | castL _ _ _ i => exact i
 | castR _ _ _ _ => intro A B _ hU hv; subst hU; cases hv; rfl
 | castB _ _ _ _ _ => intro A B _ hU hv; subst hU; cases hv; rfl
 | lam _ _ _ => intro _ _ _ _ _; rfl
 | app _ _ _ _ => intro _ _ _ _ hv; cases hv
 | ite _ _ _ _ _ _ => intro _ _ _ _ hv; cases hv
 | part _ _ => intro _ _ _ _ hv; cases hv
 | ar _ _ _ _ => intro _ _ _ _ hv; cases hv
 | var _ _ => intro _ _ _ _ hv; cases hv
 | _ => intro _ _ _ hU; cases hU
theorem A5s {Γ : GC} {v v' : GE} {U U' : GT} (h : GP Γ v v' U U') : ∀ {A B : GT}, Γ = M7 → U' = .pr A B → GV v' → v'.tx = .p := by
 induction h with
 | castL _ _ _ i => exact i
 | castR _ _ _ _ => intro A B _ hU hv; subst hU; cases hv; rfl
 | castB _ _ _ _ _ => intro A B _ hU hv; subst hU; cases hv; rfl
 | pair _ _ _ _ => intro _ _ _ _ _; rfl
 | app _ _ _ _ => intro _ _ _ _ hv; cases hv
 | ite _ _ _ _ _ _ => intro _ _ _ _ hv; cases hv
 | part _ _ => intro _ _ _ _ hv; cases hv
 | ar _ _ _ _ => intro _ _ _ _ hv; cases hv
 | var _ _ => intro _ _ _ _ hv; cases hv
 | _ => intro _ _ _ hU; cases hU
theorem B2u {Γ : GC} {v v' : GE} {U U' : GT} (h : GP Γ v v' U U') : Γ = M7 → GV v → GV v' → v.tx = v'.tx := by
 induction h with
 | num => intro _ _ _; rfl
 | tru => intro _ _ _; rfl
 | lam _ _ _ => intro _ _ _; rfl
 | pair _ _ _ _ => intro _ _ _; rfl
 | castL h _ _ i =>
  intro hE hv hv'
  have := i hE hv.ofCast hv'
  rw [← this]
  cases hv with
  | pf hv => rw [A79 h hE rfl hv]; rfl
  | pp hv => rw [A8a h hE rfl hv]; rfl
  | inj _ _ => rfl
 | castR h _ _ i =>
  intro hE hv hv'
  have := i hE hv hv'.ofCast
  rw [this]
  cases hv' with
  | pf hv => rw [A5r h hE rfl hv]; rfl
  | pp hv => rw [A5s h hE rfl hv]; rfl
  | inj _ _ => rfl
 | castB h _ _ _ i =>
  intro hE hv hv'
  have := i hE hv.ofCast hv'.ofCast
  cases hv with
  | pf hv =>
   rw [A79 h hE rfl hv] at this
   cases hv' with
   | pf hv' => rfl
   | pp hv' => rw [A5s h hE rfl hv'] at this; cases this
   | inj hv' _ => exact this
  | pp hv =>
   rw [A8a h hE rfl hv] at this
   cases hv' with
   | pp hv' => rfl
   | pf hv' => rw [A5r h hE rfl hv'] at this; cases this
   | inj hv' _ => exact this
  | inj hv _ =>
   cases hv' with
   | pf hv' => rw [A5r h hE rfl hv'] at this; exact this
   | pp hv' => rw [A5s h hE rfl hv'] at this; exact this
   | inj hv' _ => exact this
 | _ => intro _ hv; cases hv
def GT.ty : GT → Ty
 | .any => .mk 1 []
 | .int => .mk 2 []
 | .bool => .mk 3 []
 | .fn a b => .mk 4 [a.ty, b.ty]
 | .pr a b => .mk 5 [a.ty, b.ty]
def GE.tm : GE → Tm
 | .var x => .mk 1 x 0 A7 A7 0 []
 | .num n => .mk 2 ⟨#[]⟩ n A7 A7 0 []
 | .tru b => .mk (if b = true then 3 else 4) ⟨#[]⟩ 0 A7 A7 0 []
 | .lam x A e => .mk 5 x 0 A.ty A7 0 [e.tm]
 | .app f a => .mk 6 ⟨#[]⟩ 0 A7 A7 0 [f.tm, a.tm]
 | .ar s a b => .mk (if s = true then 8 else 7) ⟨#[]⟩ 0 A7 A7 0 [a.tm, b.tm]
 | .ite c a b => .mk 9 ⟨#[]⟩ 0 A7 A7 0 [c.tm, a.tm, b.tm]
 | .pair a b => .mk 10 ⟨#[]⟩ 0 A7 A7 0 [a.tm, b.tm]
 | .part s e => .mk (if s = true then 12 else 11) ⟨#[]⟩ 0 A7 A7 0 [e.tm]
 | .cast A B l e => .mk 14 ⟨#[]⟩ 0 B.ty A.ty l [e.tm]
theorem GT.inj : ∀ {a b : GT}, a.ty = b.ty → a = b := by
 intro a
 induction a with
 | any => intro b h; cases b <;> first | rfl | (simp [GT.ty] at h)
 | int => intro b h; cases b <;> first | rfl | (simp [GT.ty] at h)
 | bool => intro b h; cases b <;> first | rfl | (simp [GT.ty] at h)
 | fn a1 a2 i j =>
  intro b h
  cases b with
  | fn b1 b2 => simp only [GT.ty, Ty.mk.injEq, List.cons.injEq, true_and, and_true] at h; rw [i h.1, j h.2]
  | _ => simp [GT.ty] at h
 | pr a1 a2 i j =>
  intro b h
  cases b with
  | pr b1 b2 => simp only [GT.ty, Ty.mk.injEq, List.cons.injEq, true_and, and_true] at h; rw [i h.1, j h.2]
  | _ => simp [GT.ty] at h
theorem A8b (a : GT) : A0F a.ty = a.gr.ty := by cases a <;> rfl
theorem A1J {a : GT} : a.ty.k = 1 ↔ a = .any := by cases a <;> simp [GT.ty, Ty.k]
theorem A2z {a : GT} : W0 a.ty = true ↔ a.Gd := by
 unfold W0 GT.Gd
 rw [Bool.and_eq_true, decide_eq_true_eq, A08, A8b, Ne, A1J]
 constructor
 ·rintro ⟨h1, h2⟩; exact ⟨h1, (GT.inj h2).symm⟩
 ·rintro ⟨h1, h2⟩; exact ⟨h1, by rw [h2]⟩
theorem B2v {a : GT} (h : ¬a.Gd) : W0 a.ty = false := by
 cases h2 : W0 a.ty with
 | false => rfl
 | true => exact absurd (A2z.1 h2) h
theorem U2 : ∀ e : GE, H7 e.tm = true ↔ GV e := by
 intro e
 induction e with
 | var x => rw [GE.tm, H7]; simp; intro h; cases h
 | num n => rw [GE.tm, H7]; simp; exact .num
 | tru b => rw [GE.tm, H7]; cases b <;> (simp; exact .tru)
 | lam x A e _ => rw [GE.tm, H7]; simp; exact .lam
 | app f a _ _ => rw [GE.tm, H7]; simp; intro h; cases h
 | ar s a b _ _ => rw [GE.tm, H7]; cases s <;> (simp; intro h; cases h)
 | ite c a b _ _ _ => rw [GE.tm, H7]; simp; intro h; cases h
 | pair a b i j =>
  rw [GE.tm, H7, if_pos (.inl rfl), A0Z, A0Z, A0Z, Bool.and_true, Bool.and_eq_true, i, j]
  exact ⟨fun h => .pair h.1 h.2, fun h => by cases h with | pair a b => exact ⟨a, b⟩⟩
 | part s e _ => rw [GE.tm, H7]; cases s <;> (simp; intro h; cases h)
 | cast A B l e i =>
  rw [GE.tm, H7]
  by_cases hp : A.ty.k = B.ty.k ∧ (B.ty.k = 4 ∨ B.ty.k = 5)
  ·rw [if_pos (.inr (.inl ⟨rfl, hp⟩)), A0Z, A0Z, Bool.and_true, i]
   constructor
   ·intro h
    cases B <;> cases A <;> first | exact .pf h | exact .pp h | (exfalso; simp [GT.ty, Ty.k] at hp)
   ·intro h; exact h.ofCast
  ·by_cases hi : B.ty.k = 1 ∧ W0 A.ty = true
   ·rw [if_pos (.inr (.inr ⟨rfl, hi⟩)), A0Z, A0Z, Bool.and_true, i]
    constructor
    ·intro h
     obtain rfl := A1J.1 hi.1
     exact .inj h (A2z.1 hi.2)
    ·intro h; exact h.ofCast
   ·rw [if_neg (by rintro (h | h | h); exact absurd h (by decide); exact hp h.2; exact hi h.2)]
    constructor
    ·intro h; exact absurd (of_decide_eq_true h) (by decide)
    ·intro h
     exfalso
     cases h with
     | pf _ => exact hp ⟨rfl, .inl rfl⟩
     | pp _ => exact hp ⟨rfl, .inr rfl⟩
     | inj _ hg => exact hi ⟨rfl, A2z.2 hg⟩
theorem A4b {e : GE} (h : ¬GV e) : H7 e.tm = false := by
 cases h2 : H7 e.tm with
 | false => rfl
 | true => exact absurd ((U2 e).1 h2) h
theorem nv {e r : GE} (h : GS e r) : H7 e.tm = false := A4b fun hv => hv.noS _ h
theorem B2w (x : ByteArray) (v : GE) : ∀ e : GE, (e.sub x v).tm = W2 x v.tm e.tm := by
 intro e
 induction e with
 | var y =>
  rw [GE.sub, GE.tm, W2]
  by_cases h : y = x
  ·rw [if_pos h, if_pos ⟨rfl, h⟩]
  ·rw [if_neg h, if_neg (fun c => h c.2), if_neg (by rintro ⟨h, _⟩; exact absurd h (by decide)), GE.tm, V1]
 | num n => rw [GE.sub, GE.tm, W2]; simp [V1]
 | tru b => rw [GE.sub, GE.tm, W2]; cases b <;> simp [V1]
 | lam y A e i =>
  by_cases h : y = x
  ·rw [GE.sub, if_pos h, GE.tm, W2, if_neg (by rintro ⟨h, _⟩; exact absurd h (by decide)), if_pos ⟨rfl, h⟩]
  ·rw [GE.sub, if_neg h, GE.tm, GE.tm, W2, if_neg (by rintro ⟨h, _⟩; exact absurd h (by decide)), if_neg (fun c => h c.2), i, V1, V1]
 | app f a i j => rw [GE.sub, GE.tm, GE.tm, W2, i, j]; simp [V1]
 | ar s a b i j => rw [GE.sub, GE.tm, GE.tm, W2, i, j]; cases s <;> simp [V1]
 | ite c a b i j k => rw [GE.sub, GE.tm, GE.tm, W2, i, j, k]; simp [V1]
 | pair a b i j => rw [GE.sub, GE.tm, GE.tm, W2, i, j]; simp [V1]
 | part s e i => rw [GE.sub, GE.tm, GE.tm, W2, i]; cases s <;> simp [V1]
 | cast A B l e i => rw [GE.sub, GE.tm, GE.tm, W2, i]; simp [V1]
section
variable {k : Int} {nm : ByteArray} {num : Int} {ty fr : Ty} {lb : Int} {a b c : Tm} {t : Tm} {l : Int}
theorem A2A (h : H7 a = false) (ks : List Tm) (hn : k = 9 ∨ ks.length < 3) (r : Tm) (hs : I7 a = (r, 1, 0)) : I7 (.mk k nm num ty fr lb (a :: ks)) = (.mk k nm num ty fr lb (r :: ks), 1, 0) := by
 have : ∃ n, (if k = 9 then 1 else (a :: ks).length) = n + 1 := ⟨if k = 9 then 0 else ks.length, by split <;> simp⟩
 obtain ⟨n, hn⟩ := this
 rw [I7, hn, W3, if_neg (by rw [h]; decide), hs]
 simp
theorem B2x (h : H7 a = false) (ks : List Tm) (hs : (I7 a).2.1 = 2) : (I7 (.mk k nm num ty fr lb (a :: ks))).2.1 = 2 := by
 have : ∃ n, (if k = 9 then 1 else (a :: ks).length) = n + 1 := ⟨if k = 9 then 0 else ks.length, by split <;> simp⟩
 obtain ⟨n, hn⟩ := this
 rw [I7, hn, W3, if_neg (by rw [h]; decide), hs]
 simp
theorem A5t (h0 : H7 a = true) (h : H7 b = false) (hk : k ≠ 9) (r : Tm) (hs : I7 b = (r, 1, 0)) : I7 (.mk k nm num ty fr lb [a, b]) = (.mk k nm num ty fr lb [a, r], 1, 0) := by
 rw [I7, if_neg hk]
 simp only [List.length_cons, List.length_nil, W3, h0, h, if_true, hs]
 simp
theorem B2y (h0 : H7 a = true) (h : H7 b = false) (hk : k ≠ 9) (hs : (I7 b).2.1 = 2) : (I7 (.mk k nm num ty fr lb [a, b])).2.1 = 2 := by
 rw [I7, if_neg hk]
 simp only [List.length_cons, List.length_nil, W3, h0, h, if_true, hs]
 simp
theorem A2c (h : H7 a = true) : I7 (.mk k nm num ty fr lb [a]) = A0m k ty fr lb [a] := by
 rw [I7, show (if k = 9 then 1 else [a].length) = 1 by split <;> rfl, W3, h]
 simp [W3]
theorem A5u (h : H7 a = true) (h2 : H7 b = true) (hk : k ≠ 9) : I7 (.mk k nm num ty fr lb [a, b]) = A0m k ty fr lb [a, b] := by
 rw [I7, if_neg hk]
 simp [W3, h, h2]
theorem B2z (h : H7 a = true) : I7 (.mk 9 nm num ty fr lb [a, b, c]) = A0m 9 ty fr lb [a, b, c] := by
 rw [I7, if_pos rfl]
 simp [W3, h]
end
theorem A5v {e r : GE} (h : GS e r) : I7 e.tm = (r.tm, 1, 0) := by
 induction h with
 | app1 s i => rw [GE.tm, A2A (nv s) _ (.inr (by simp)) _ i, GE.tm]
 | app2 v s i => rw [GE.tm, A5t ((U2 _).2 v) (nv s) (by decide) _ i, GE.tm]
 | ar1 s i => rw [GE.tm, A2A (nv s) _ (.inr (by simp)) _ i, GE.tm]
 | @ar2 t _ _ _ v s i => rw [GE.tm, A5t ((U2 _).2 v) (nv s) (by cases t <;> decide) _ i, GE.tm]
 | ite1 s i => rw [GE.tm, A2A (nv s) _ (.inl rfl) _ i, GE.tm]
 | pair1 s i => rw [GE.tm, A2A (nv s) _ (.inr (by simp)) _ i, GE.tm]
 | pair2 v s i => rw [GE.tm, A5t ((U2 _).2 v) (nv s) (by decide) _ i, GE.tm]
 | part1 s i => rw [GE.tm, A2A (nv s) _ (.inr (by simp)) _ i, GE.tm]
 | cast1 s i => rw [GE.tm, A2A (nv s) _ (.inr (by simp)) _ i, GE.tm]
 | beta v =>
  rw [GE.tm, A5u ((U2 _).2 .lam) ((U2 _).2 v) (by decide), B2w]
  rfl
 | appx v w =>
  rw [GE.tm, A5u ((U2 _).2 (.pf v)) ((U2 _).2 w) (by decide)]
  rfl
 | @ar t m n =>
  rw [GE.tm, A5u ((U2 _).2 .num) ((U2 _).2 .num) (by cases t <;> decide)]
  cases t
  ·rfl
  ·unfold A5q
   simp only [if_true]
   show (A1b (m < n), (1 : Int), (0 : Int)) = _
   unfold A1b
   by_cases h : m < n
   ·simp only [h, if_true, GE.tm, decide_true]; rfl
   ·simp only [h, if_false, GE.tm, decide_false]; rfl
 | @ite b x y =>
  rw [GE.tm, B2z ((U2 _).2 .tru)]
  cases b <;> rfl
 | @part t a b v w =>
  rw [GE.tm, A2c ((U2 _).2 (.pair v w))]
  cases t <;> rfl
 | @partx t a b c d l e v =>
  rw [GE.tm, A2c ((U2 _).2 (.pp v))]
  cases t <;> rfl
 | @cid A l v hv hA =>
  rw [GE.tm, A2c ((U2 _).2 hv)]
  rcases hA with rfl | rfl | rfl <;> rfl
 | @up A l v hv hA hg =>
  rw [GE.tm, A2c ((U2 _).2 hv)]
  cases A with
  | any => exact absurd rfl hA
  | int => exact absurd rfl hg
  | bool => exact absurd rfl hg
  | _ => rfl
 | @down B l v hv hB hg =>
  rw [GE.tm, A2c ((U2 _).2 hv)]
  have hg' := B2v (a := B) fun h => hg h.2
  unfold A0m
  rw [if_neg (by decide), if_neg (by decide), if_neg (by decide), if_neg (by decide), if_pos rfl, if_neg, if_neg, if_pos hg', A8b]
  ·rfl
  ·rw [A1J]; exact hB
  ·intro h; exact hB (A1J.1 h.symm)
 | @hit G l m w hv hG =>
  rw [GE.tm, A2c ((U2 _).2 (.inj hv hG))]
  have hg' := A2z.2 hG
  have hi : inj (GE.tm (.cast G .any m w)) = true := by
   rw [GE.tm]; unfold inj; rw [Bool.and_eq_true]; exact ⟨rfl, hg'⟩
  unfold A0m
  rw [if_neg (by decide), if_neg (by decide), if_neg (by decide), if_neg (by decide), if_pos rfl, if_neg, if_neg, if_neg (by rw [hg']; decide), if_neg (by show ¬inj (GE.tm (.cast G .any m w)) = false; rw [hi]; decide), if_pos]
  ·rfl
  ·rfl
  ·rw [A1J]; exact hG.1
  ·intro h; exact hG.1 (A1J.1 h.symm)
def Bd (e : GE) : Prop := H7 e.tm = false ∧ (I7 e.tm).2.1 = 2
theorem B2A {Γ : GC} {v v' : GE} {U U' : GT} (h : GP Γ v v' U U') : Γ = M7 → GV v → ∀ {A B}, U = .fn A B → (∃ x C e, v = .lam x C e) ∨ ∃ a b c d l e, v = .cast (.fn a b) (.fn c d) l e ∧ GV e := by
 induction h with
 | castR _ _ _ i => exact i
 | castL _ _ _ _ => intro _ hv A B hU; subst hU; cases hv with | pf h => exact .inr ⟨_, _, _, _, _, _, rfl, h⟩
 | castB _ _ _ _ _ => intro _ hv A B hU; subst hU; cases hv with | pf h => exact .inr ⟨_, _, _, _, _, _, rfl, h⟩
 | lam _ _ _ => intro _ _ _ _ _; exact .inl ⟨_, _, _, rfl⟩
 | app _ _ _ _ => intro _ hv; cases hv
 | ite _ _ _ _ _ _ => intro _ hv; cases hv
 | part _ _ => intro _ hv; cases hv
 | ar _ _ _ _ => intro _ hv; cases hv
 | var _ _ => intro _ hv; cases hv
 | _ => intro _ _ _ _ hU; cases hU
theorem B2B {Γ : GC} {v v' : GE} {U U' : GT} (h : GP Γ v v' U U') : Γ = M7 → GV v → ∀ {A B}, U = .pr A B → (∃ a b, v = .pair a b ∧ GV a ∧ GV b) ∨ ∃ a b c d l e, v = .cast (.pr a b) (.pr c d) l e ∧ GV e := by
 induction h with
 | castR _ _ _ i => exact i
 | castL _ _ _ _ => intro _ hv A B hU; subst hU; cases hv with | pp h => exact .inr ⟨_, _, _, _, _, _, rfl, h⟩
 | castB _ _ _ _ _ => intro _ hv A B hU; subst hU; cases hv with | pp h => exact .inr ⟨_, _, _, _, _, _, rfl, h⟩
 | pair _ _ _ _ => intro _ hv _ _ _; cases hv with | pair a b => exact .inl ⟨_, _, rfl, a, b⟩
 | app _ _ _ _ => intro _ hv; cases hv
 | ite _ _ _ _ _ _ => intro _ hv; cases hv
 | part _ _ => intro _ hv; cases hv
 | ar _ _ _ _ => intro _ hv; cases hv
 | var _ _ => intro _ hv; cases hv
 | _ => intro _ _ _ _ hU; cases hU
theorem A8c {Γ : GC} {v v' : GE} {U U' : GT} (h : GP Γ v v' U U') : Γ = M7 → GV v → U = .int → ∃ n, v = .num n := by
 induction h with
 | castR _ _ _ i => exact i
 | castL _ _ _ _ => intro _ hv hU; subst hU; cases hv
 | castB _ _ _ _ _ => intro _ hv hU; subst hU; cases hv
 | num => intro _ _ _; exact ⟨_, rfl⟩
 | app _ _ _ _ => intro _ hv; cases hv
 | ite _ _ _ _ _ _ => intro _ hv; cases hv
 | part _ _ => intro _ hv; cases hv
 | ar _ _ _ _ => intro _ hv; cases hv
 | var _ _ => intro _ hv; cases hv
 | _ => intro _ _ hU; cases hU
theorem B2C {Γ : GC} {v v' : GE} {U U' : GT} (h : GP Γ v v' U U') : Γ = M7 → GV v → U = .bool → ∃ b, v = .tru b := by
 induction h with
 | castR _ _ _ i => exact i
 | castL _ _ _ _ => intro _ hv hU; subst hU; cases hv
 | castB _ _ _ _ _ => intro _ hv hU; subst hU; cases hv
 | tru => intro _ _ _; exact ⟨_, rfl⟩
 | app _ _ _ _ => intro _ hv; cases hv
 | ite _ _ _ _ _ _ => intro _ hv; cases hv
 | part _ _ => intro _ hv; cases hv
 | ar _ _ _ _ => intro _ hv; cases hv
 | var _ _ => intro _ hv; cases hv
 | _ => intro _ _ hU; cases hU
theorem B2D {Γ : GC} {v v' : GE} {U U' : GT} (h : GP Γ v v' U U') : Γ = M7 → GV v → U = .any → ∃ H l w, v = .cast H .any l w ∧ GV w ∧ H.Gd := by
 induction h with
 | castR _ _ _ i => exact i
 | castL _ _ _ _ => intro _ hv hU; subst hU; cases hv with | inj h g => exact ⟨_, _, _, rfl, h, g⟩
 | castB _ _ _ _ _ => intro _ hv hU; subst hU; cases hv with | inj h g => exact ⟨_, _, _, rfl, h, g⟩
 | app _ _ _ _ => intro _ hv; cases hv
 | ite _ _ _ _ _ _ => intro _ hv; cases hv
 | part _ _ => intro _ hv; cases hv
 | ar _ _ _ _ => intro _ hv; cases hv
 | var _ _ => intro _ hv; cases hv
 | _ => intro _ _ hU; cases hU
theorem A8d {e e' : GE} {A B A' : GT} {l : Int} (h : GP M7 e e' A A') (hc : Co A B) (hv : GV e) : GV (.cast A B l e) ∨ (∃ r, GS (.cast A B l e) r) ∨ Bd (.cast A B l e) := by
 by_cases hA : A = .any
 ·subst hA
  by_cases hB : B = .any
  ·subst hB; exact .inr (.inl ⟨_, .cid hv (.inl rfl)⟩)
  ·by_cases hg : B.gr = B
   ·obtain ⟨H, m, w, rfl, hw, hH⟩ := B2D h rfl hv rfl
    by_cases he : H = B
    ·subst he; exact .inr (.inl ⟨_, .hit hw hH⟩)
    ·refine .inr (.inr ⟨A4b (by intro h; cases h; exact hB rfl), ?_⟩)
     have hg' := A2z.2 (show B.Gd from ⟨hB, hg⟩)
     have hi : inj (GE.tm (.cast H .any m w)) = true := by
      rw [GE.tm]; unfold inj; rw [Bool.and_eq_true]; exact ⟨rfl, A2z.2 hH⟩
     rw [GE.tm, A2c ((U2 _).2 hv)]
     unfold A0m
     rw [if_neg (by decide), if_neg (by decide), if_neg (by decide), if_neg (by decide), if_pos rfl, if_neg, if_neg, if_neg (by rw [hg']; decide), if_neg (by show ¬inj (GE.tm (.cast H .any m w)) = false; rw [hi]; decide), if_neg]
     ·show ¬H.ty.k = B.ty.k
      intro hk
      apply he
      rw [← hH.2, ← hg]
      cases H <;> cases B <;> first | rfl | (simp [GT.ty, Ty.k] at hk)
     ·rw [A1J]; exact hB
     ·intro h; exact hB (A1J.1 h.symm)
   ·exact .inr (.inl ⟨_, .down hv hB hg⟩)
 ·by_cases hB : B = .any
  ·subst hB
   by_cases hg : A.gr = A
   ·exact .inl (.inj hv ⟨hA, hg⟩)
   ·exact .inr (.inl ⟨_, .up hv hA hg⟩)
  ·cases hc with
   | l => exact absurd rfl hA
   | r => exact absurd rfl hB
   | int => exact .inr (.inl ⟨_, .cid hv (.inr (.inl rfl))⟩)
   | bool => exact .inr (.inl ⟨_, .cid hv (.inr (.inr rfl))⟩)
   | fn _ _ => exact .inl (.pf hv)
   | pr _ _ => exact .inl (.pp hv)
theorem A2d {a : GE} (h : Bd a) {e : GE} {k : Int} {nm : ByteArray} {num : Int} {ty fr : Ty} {lb : Int} {ks : List Tm} (he : e.tm = .mk k nm num ty fr lb (a.tm :: ks)) (hv : ¬GV e) : Bd e :=
 ⟨A4b hv, by rw [he]; exact B2x h.1 ks h.2⟩
theorem A5w {a b : GE} (ha : GV a) (h : Bd b) {e : GE} {k : Int} {nm : ByteArray} {num : Int} {ty fr : Ty} {lb : Int} (hk : k ≠ 9) (he : e.tm = .mk k nm num ty fr lb [a.tm, b.tm]) (hv : ¬GV e) : Bd e :=
 ⟨A4b hv, by rw [he]; exact B2y ((U2 _).2 ha) h.1 hk h.2⟩
theorem A4c {e : GE} (h : Bd e) : ¬GV e := fun hv => by have := (U2 e).2 hv; rw [h.1] at this; cases this
theorem A8e {Γ : GC} {e e' : GE} {A A' : GT} (h : GP Γ e e' A A') : Γ = M7 → GV e ∨ (∃ r, GS e r) ∨ Bd e := by
 induction h with
 | var hx _ => intro hE; subst hE; cases hx
 | num => intro _; exact .inl .num
 | tru => intro _; exact .inl .tru
 | lam _ _ _ => intro _; exact .inl .lam
 | app hf ha i j =>
  intro hE
  refine .inr ?_
  rcases i hE with vf | ⟨r, s⟩ | b
  ·rcases j hE with va | ⟨r, s⟩ | b
   ·rcases B2A hf hE vf rfl with ⟨x, C, e, rfl⟩ | ⟨_, _, _, _, _, _, rfl, hw⟩
    ·exact .inl ⟨_, .beta va⟩
    ·exact .inl ⟨_, .appx hw va⟩
   ·exact .inl ⟨_, .app2 vf s⟩
   ·exact .inr (A5w vf b (k := 6) (by decide) rfl (by intro h; cases h))
  ·exact .inl ⟨_, .app1 s⟩
  ·exact .inr (A2d b (k := 6) rfl (by intro h; cases h))
 | @ar Γ t _ _ _ _ ha hb i j =>
  intro hE
  refine .inr ?_
  rcases i hE with va | ⟨r, s⟩ | b
  ·rcases j hE with vb | ⟨r, s⟩ | b
   ·obtain ⟨m, rfl⟩ := A8c ha hE va rfl
    obtain ⟨n, rfl⟩ := A8c hb hE vb rfl
    exact .inl ⟨_, .ar⟩
   ·exact .inl ⟨_, .ar2 va s⟩
   ·exact .inr (A5w va b (k := if t = true then 8 else 7) (by cases t <;> decide) rfl (by intro h; cases h))
  ·exact .inl ⟨_, .ar1 s⟩
  ·exact .inr (A2d b rfl (by intro h; cases h))
 | ite hc _ _ i _ _ =>
  intro hE
  refine .inr ?_
  rcases i hE with vc | ⟨r, s⟩ | b
  ·obtain ⟨m, rfl⟩ := B2C hc hE vc rfl
   exact .inl ⟨_, .ite⟩
  ·exact .inl ⟨_, .ite1 s⟩
  ·exact .inr (A2d b rfl (by intro h; cases h))
 | pair ha hb i j =>
  intro hE
  rcases i hE with va | ⟨r, s⟩ | b
  ·rcases j hE with vb | ⟨r, s⟩ | b
   ·exact .inl (.pair va vb)
   ·exact .inr (.inl ⟨_, .pair2 va s⟩)
   ·exact .inr (.inr (A5w va b (k := 10) (by decide) rfl (by intro h; cases h with | pair _ h => exact A4c b h)))
  ·exact .inr (.inl ⟨_, .pair1 s⟩)
  ·exact .inr (.inr (A2d b rfl (by intro h; cases h with | pair h _ => exact A4c b h)))
 | part h i =>
  intro hE
  refine .inr ?_
  rcases i hE with vc | ⟨r, s⟩ | b
  ·rcases B2B h hE vc rfl with ⟨_, _, rfl, ha, hb⟩ | ⟨_, _, _, _, _, _, rfl, hw⟩
   ·exact .inl ⟨_, .part ha hb⟩
   ·exact .inl ⟨_, .partx hw⟩
  ·exact .inl ⟨_, .part1 s⟩
  ·exact .inr (A2d b rfl (by intro h; cases h))
 | castL h hc _ i =>
  intro hE
  rcases i hE with hv | ⟨r, s⟩ | b
  ·subst hE; exact A8d h hc hv
  ·exact .inr (.inl ⟨_, .cast1 s⟩)
  ·exact .inr (.inr (A2d b rfl (fun h => A4c b h.ofCast)))
 | castR _ _ _ i => exact i
 | castB h hc _ _ i =>
  intro hE
  rcases i hE with hv | ⟨r, s⟩ | b
  ·subst hE; exact A8d h hc hv
  ·exact .inr (.inl ⟨_, .cast1 s⟩)
  ·exact .inr (.inr (A2d b rfl (fun h => A4c b h.ofCast)))
theorem B2E {e : Tm} (h : (E3 e).2.1 = 1) : P9 e = true ∧ H7 e = false ∧ (I7 e).2.1 = 1 ∧ (E3 e).1 = (I7 e).1 := by
 unfold E3 at h ⊢
 split at h
 ·cases h
 ·rename_i h1
  split at h
  ·cases h
  ·rename_i h2
   split at h
   ·rename_i h3; exact absurd h h3
   ·rename_i h3
    split at h
    ·cases h
    ·rename_i h4
     rw [if_neg h1, if_neg h2, if_neg h3, if_neg h4]
     refine ⟨by cases hv : P9 e with | true => rfl | false => exact absurd hv h1, by cases hv : H7 e with | false => rfl | true => exact absurd hv h2, ?_, rfl⟩
     apply Classical.byContradiction
     intro hc; exact h3 hc
theorem A8f {e : Tm} (h : (E3 e).2.1 = 0) (hc : (I7 e).2.1 ≠ 0) : H7 e = true ∧ (E3 e).1 = e := by
 unfold E3 at h ⊢
 split at h
 ·cases h
 ·rename_i h1
  split at h
  ·rename_i h2; rw [if_neg h1, if_pos h2]; exact ⟨h2, rfl⟩
  ·split at h
   ·exact absurd h hc
   ·split at h <;> cases h
theorem A8g {n : Nat} {e : Tm} (h : (E3 e).2.1 = 1) : J2 (n + 1) e = ((J2 n (E3 e).1).1, (J2 n (E3 e).1).2.1, (J2 n (E3 e).1).2.2.1, (J2 n (E3 e).1).2.2.2 + 1) := by rw [J2, if_pos h]
theorem B2F : ∀ (n : Nat) {e e' : GE} {A A' : GT}, GP M7 e e' A A' → (J2 n e.tm).2.1 = 0 → ∃ w, (J2 n e.tm).1 = w.tm ∧ GV w ∧ Ss e w := by
 intro n
 have fin : ∀ {e e' : GE} {A A' : GT}, GP M7 e e' A A' → (E3 e.tm).2.1 ≠ 1 → (E3 e.tm).2.1 = 0 → ∃ w, (E3 e.tm).1 = w.tm ∧ GV w ∧ Ss e w := by
  intro e e' A A' hp _ h0
  have hv : H7 e.tm = true := by
   rcases A8e hp rfl with hv | ⟨r, s⟩ | b
   ·exact (U2 _).2 hv
   ·exact (A8f h0 (by rw [A5v s]; show (1 : Int) ≠ 0; decide)).1
   ·exact (A8f h0 (by rw [b.2]; decide)).1
  refine ⟨e, ?_, (U2 _).1 hv, .refl⟩
  unfold E3 at h0 ⊢
  split at h0
  ·cases h0
  ·rename_i h1; rw [if_neg h1, if_pos hv]
 induction n with
 | zero =>
  intro e e' A A' hp h
  rw [J2] at h ⊢
  by_cases h1 : (E3 e.tm).2.1 = 1
  ·rw [if_pos h1] at h; cases h
  ·rw [if_neg h1] at h ⊢; exact fin hp h1 h
 | succ n ih =>
  intro e e' A A' hp h
  by_cases h1 : (E3 e.tm).2.1 = 1
  ·obtain ⟨_, hv, hs, he⟩ := B2E h1
   rcases A8e hp rfl with hv' | ⟨r, s⟩ | b
   ·rw [(U2 _).2 hv'] at hv; cases hv
   ·rw [A8g h1] at h ⊢
    have hr : (E3 e.tm).1 = r.tm := by rw [he, A5v s]
    rw [hr] at h ⊢
    obtain ⟨r', _, hp'⟩ := sim hp rfl s
    obtain ⟨w, h2, h3, h4⟩ := ih hp' h
    exact ⟨w, h2, h3, .step s h4⟩
   ·rw [b.2] at hs; cases hs
  ·rw [J2, if_neg h1] at h ⊢; exact fin hp h1 h
theorem B2G : ∀ {e w : GE}, Ss e w → GV w → ∀ (n : Nat), P9 e.tm = true → ((J2 n e.tm).2.1 = 0 ∧ (J2 n e.tm).1 = w.tm) ∨ (J2 n e.tm).2.1 = 4 ∨ (J2 n e.tm).2.1 = 5 := by
 intro e w h
 induction h with
 | @refl e =>
  intro hv n hc
  have : E3 e.tm = (e.tm, 0, 0) := by unfold E3; rw [if_neg (by rw [hc]; decide), if_pos ((U2 _).2 hv)]
  cases n with
  | zero => rw [J2, this]; exact .inl ⟨rfl, rfl⟩
  | succ n => rw [J2, this]; exact .inl ⟨rfl, rfl⟩
 | @step a b c s _ ih =>
  intro hv n hc
  have hs := A5v s
  have : E3 a.tm = if P9 b.tm = false then (J4, 4, 0) else (b.tm, 1, 0) := by
   unfold E3; rw [if_neg (by rw [hc]; decide), if_neg (by rw [nv s]; decide), hs, if_neg (by show ¬(1 : Int) ≠ 1; decide)]
  cases hcb : P9 b.tm with
  | false =>
   rw [if_pos hcb] at this
   cases n with
   | zero => rw [J2, this]; exact .inr (.inl rfl)
   | succ n => rw [J2, this]; exact .inr (.inl rfl)
  | true =>
   rw [if_neg (by rw [hcb]; decide)] at this
   cases n with
   | zero => rw [J2, this]; exact .inr (.inr rfl)
   | succ n =>
    rw [A8g (by rw [this]), this]
    exact ih hv n hcb
theorem B2H {n : Nat} {e e' : GE} {A A' : GT} (hp : GP M7 e e' A A') (h : (J2 n e.tm).2.1 = 0) (m : Nat) (hc : P9 e'.tm = true) :
  ∃ w, (J2 n e.tm).1 = w.tm ∧ GV w ∧ (((J2 m e'.tm).2.1 = 0 ∧ ∃ w', (J2 m e'.tm).1 = w'.tm ∧ GV w' ∧ w.tx = w'.tx) ∨ (J2 m e'.tm).2.1 = 4 ∨ (J2 m e'.tm).2.1 = 5) := by
 obtain ⟨w, h1, h2, h3⟩ := B2F n hp h
 obtain ⟨r', s, hp2⟩ := B2t h3 hp
 obtain ⟨w', s2, hw', hp3⟩ := A0H hp2 rfl h2
 refine ⟨w, h1, h2, ?_⟩
 rcases B2G (s.trans s2) hw' m hc with ⟨a, b⟩ | a | a
 ·exact .inl ⟨a, w', b, hw', B2u hp3 rfl h2 hw'⟩
 ·exact .inr (.inl a)
 ·exact .inr (.inr a)
theorem B2I (G : IM) (p : Option Addr) (n c : Nat) (es : List (List Value)) (h : B9 G p n c 9 es) (h0 : 0 < n) (hn : n ≤ 4294967296) :
  Fn Tryz.prog 130 [.slice p n c] [] G (fun G' v outs => G' = G ∧ ∃ p' c', v = .slice p' n c' ∧ outs = [.slc p' c' 28 9 n es.flatten]) := by
 obtain ⟨hl, hc, hm, hat⟩ := h.sl
 obtain ⟨b, o, full, rfl, hg, hv⟩ := hat.resolve_left (by omega)
 have ho : ∀ u ∈ es.flatten, u.oneCell' = true := by
  intro u hu
  obtain ⟨e, he, hue⟩ := List.mem_flatten.1 hu
  exact List.all_eq_true.1 (h.one e he) u hue
 refine B7 Tryz.func130 rfl Tryz.ntmps130 Tryz.results130 rfl ?_
 intro w0
 refine D2 ?_
 refine sQ (A4E rfl rfl rfl) rfl ?_
 refine sD (nS (cF rfl (tK (nS (tS (tR ?_))))))
 (refine I8 (C3 rfl rfl rfl (by omega) (by unfold maxLen; omega) rfl) rfl ?_; rintro _ ⟨b18, rfl⟩)
 refine sQ (qM rfl) rfl ?_
 refine W7 rfl rfl rfl rfl rfl (fun _ _ => by repeat (first | exact Sw.here | apply Sw.there)) (A2Q hg hv) hl ho (by unfold maxLen; omega) (by omega) rfl (fun pn cn => ?_)
 refine sQ (qA rfl) rfl (sD (nS (tT ?_)))
 refine H0 (rT rfl) A0.refl ?_
 exact ⟨rfl, _, _, by rw [Nat.zero_add], by rw [Nat.zero_add]; rfl⟩
theorem At.mono' {hp : List A4} {G G' : IM} {b o : Nat} {vs : List Value} (hg : B1 G G') (h : At [] G b o vs) : At hp G' b o vs := by
 rcases h with ⟨cs, hm, hv⟩ | ⟨n, c, el, sz, cs, hm, hv⟩ | ⟨full, hx, hv⟩
 ·cases hm
 ·cases hm
 ·exact .inr (.inr ⟨full, hg _ _ hx, hv⟩)
end Gw
end Go.Proofs.YtipblncpnffmbaaGreatDoor
