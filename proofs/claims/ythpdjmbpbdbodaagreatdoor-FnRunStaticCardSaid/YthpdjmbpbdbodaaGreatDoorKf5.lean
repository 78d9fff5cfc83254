/-
  The type of a term with casts. castType and CastTypeOf compute the type of a term with casts. What a step gives is small. A function that only reads may be handed an own slice. The program's evaluator: proxies, injections, values, casts. The program's evaluator: values, casts, nodes. The program's evaluator: replacing a name, casts, nodes. The program's insertion of casts: a cast. The program's evaluator: casts, nodes, the rules without casts. The program's evaluator: the rules of casts. The program's evaluator: the rules of casts, selections and casts themselves. The program's evaluator: a step. The program's evaluator: step. The program's evaluator: StepCast, runs of steps, their results.
-/
import Derived.Test.YthpdjmbpbdbodaaGreatDoorKf4
import Derived.Test.YthpdjmbpbdbodaaGreatDoorKf2
import Derived.Test.YthpdjmbpbdbodaaGreatDoorKf3
import Derived.Test.YthpdjmbpbdbodaaGreatDoorKf0
import Derived.Test.YthpdjmbpbdbodaaGreatDoorKf1
set_option linter.unusedVariables false
set_option linter.unusedSimpArgs false
set_option maxHeartbeats 0
set_option maxRecDepth 100000
set_option synthInstance.maxSize 4000
set_option synthInstance.maxHeartbeats 0
namespace Go.Proofs.YthpdjmbpbdbodaaGreatDoor
open Go Go.RowKit
namespace Gw
theorem A3w {cx : Cx} {k : Int} {nm : ByteArray} {ty : Ty} {h w : List Ty} {t : Ty} (he : S1 cx k nm ty h = some (w, t)) : E4 t = true ∧ K0 cx k nm ty h = some (w, t) := by
 unfold S1 at he
 split at he
 ·rename_i w' t' hw
  split at he
  ·cases he; exact ⟨by assumption, hw⟩
  ·cases he
 ·cases he
theorem B1Z {cx : Cx} {k : Int} {nm : ByteArray} {num : Int} {ty fr : Ty} {lb : Int} {ks : List Tm} {t : Ty} (h14 : k = 14 → E4 ty = true) (h : H1 cx (.mk k nm num ty fr lb ks) = some t) : E4 t = true := by
 rw [H1] at h
 split at h
 ·cases h
 ·split at h
  ·rename_i hk
   split at h
   ·cases h; exact h14 hk
   ·cases h
  ·split at h
   ·cases h
   ·rename_i w u hw
    split at h
    ·cases h; exact (A3w hw).1
    ·cases h
theorem B10 {cx : Cx} {k : Int} {nm : ByteArray} {ty : Ty} {h w : List Ty} {t : Ty} (hop : (k = 6 ∨ k = 7 ∨ k = 8 ∨ k = 10 → h.length = 2) ∧ (k = 9 → h.length = 3) ∧ (k = 5 ∨ k = 11 ∨ k = 12 ∨ k = 13 → h.length = 1)) (hk : 1 ≤ k ∧ k ≤ 14) (h14 : k ≠ 14) (he : K0 cx k nm ty h = some (w, t)) : w.length ≤ h.length := by
 have hkk : k = 1 ∨ k = 2 ∨ (k = 3 ∨ k = 4) ∨ k = 5 ∨ k = 6 ∨ (k = 7 ∨ k = 8) ∨ k = 9 ∨ k = 10 ∨ (k = 11 ∨ k = 12) ∨ k = 13 := by omega
 rcases hkk with rfl | rfl | hk | rfl | rfl | hk | rfl | rfl | hk | rfl
 ·rw [mW1] at he; split at he <;> cases he; simp
 ·rw [mW2] at he; cases he; simp
 ·rw [A3v hk] at he; cases he; simp
 ·rw [mW5] at he; cases he; simp
 ·rw [mW6] at he
  split at he
  ·split at he <;> cases he
   have := hop.1 (by omega); simp [this]
  ·cases he
 ·rw [U7 hk] at he
  split at he <;> cases he
  have := hop.1 (by omega); simp [this]
 ·rw [mW9] at he
  split at he <;> cases he
  have := hop.2.1 (by omega); simp [this]
 ·rw [A4n] at he; cases he; simp
 ·rw [A2K hk] at he
  split at he
  ·cases he; have := hop.2.2 (by omega); simp [this]
  ·cases he
 ·rw [A2d] at he
  split at he <;> cases he
  have := hop.2.2 (by omega); simp [this]
theorem R3.snoc {G G' : IM} {cx : Cx} {n : Nat} {p' : Option Addr} {c' : Nat} {es : List (List Value)} {e : List Value} {nm : ByteArray} {t : Ty} (h1 : n = cx.length) (hl : es.length = n) (h2 : ∀ x ∈ es, x.length = 3) (h3 : ∀ x ∈ es, x.all (·.oneCell') = true)
  (h4 : ∀ (i : Nat) (b : ByteArray × Ty), cx[i]? = some b → ∃ e, es[i]? = some e ∧ A2H G b e) (hg : B8 G G') (he : A2H G' (nm, t) e) (hs : Sl G' p' (n + 1) c' 3 (es.flatten ++ e)) : R3 G' (cx ++ [(nm, t)]) p' (n + 1) c' := by
 have hel : e.length = 3 ∧ e.all (·.oneCell') = true := by obtain ⟨q, d, rfl, _⟩ := he; exact ⟨rfl, rfl⟩
 refine ⟨by simp [h1], es ++ [e], D2.of (by simpa using hs) (by simp [hl]) ?_ ?_, ?_⟩
 ·simp only [List.forall_mem_append, List.forall_mem_singleton]; exact ⟨h2, hel.1⟩
 ·simp only [List.forall_mem_append, List.forall_mem_singleton]; exact ⟨h3, hel.2⟩
 ·intro i b hb
  rw [List.getElem?_append] at hb ⊢
  split at hb
  ·rename_i hi
   obtain ⟨e', he', hr⟩ := h4 i b hb
   rw [if_pos (by omega)]
   exact ⟨e', he', hr.mono hg⟩
  ·rename_i hi
   have : i - cx.length = 0 := by
    apply Classical.byContradiction; intro hc
    rw [List.getElem?_eq_none (by simp; omega)] at hb; cases hb
   rw [this] at hb
   simp only [List.getElem?_cons_zero, Option.some.injEq] at hb
   subst hb
   rw [if_neg (by omega)]
   exact ⟨e, by rw [show i - es.length = 0 by omega]; rfl, he⟩
theorem B11 (G : IM) (p : Option Addr) (n c : Nat) (es : List (List Value)) (h : D2 G p n c 3 es) (hn : n ≤ 4294967296) :
  Fn Tryz.prog 66 [.slice p n c] [] G (fun G' v outs => G' = G ∧ ∃ p' c', v = .slice p' n c' ∧ outs = [.slc p' c' 83 3 n es.flatten]) := by
 have hp := h.sl.nn
 have hS := h.sl
 have hone : ∀ u ∈ es.flatten, u.oneCell' = true := by
  intro u hu
  obtain ⟨e, he, hue⟩ := List.mem_flatten.1 hu
  exact List.all_eq_true.1 (h.one e he) u hue
 refine C0 Tryz.func66 rfl Tryz.ntmps66 Tryz.results66 rfl ?_
 intro w0
 cases p with
 | none =>
  obtain rfl := hp rfl
  obtain rfl : es = [] := List.length_eq_zero_iff.1 h.len
  refine S0 83 3 ?_
  refine tS (tR (sQ (qA rfl) rfl (sD (nS (tS (tS (tR (sQ (qM rfl) rfl ?_))))))))
  refine sQ (A9W rfl rfl rfl) rfl ?_
  refine sD (nS (qT rfl (tS (tR (sQ (qA rfl) rfl (sD (nS (tT (rS ?_)))))))))
  refine F9 (rT rfl) A1.refl ?_
  exact ⟨rfl, _, _, rfl, rfl⟩
 | some a =>
  refine tS (tR (sQ (qA rfl) rfl (sD (nS (tS (tS (tR (sQ (qM rfl) rfl ?_))))))))
  refine sQ (A6q rfl rfl rfl) rfl ?_
  refine sD (nS (cF rfl (tK (nS (tS (tR ?_))))))
  (refine I5 (C7 rfl rfl rfl (by omega) (by unfold maxLen; omega) rfl) rfl ?_; rintro _ ⟨b18, rfl⟩)
  refine sQ (qM rfl) rfl ?_
  refine A3g rfl rfl rfl rfl rfl (fun _ _ => by repeat (first | exact Sw.here | apply Sw.there)) hS hone (Nat.zero_le _) (by unfold maxLen; omega) (by omega) rfl (fun pn cn => ?_)
  refine sQ (qA rfl) rfl (sD (nS (tT ?_)))
  refine F9 (rT rfl) A1.refl ?_
  exact ⟨rfl, _, _, by rw [Nat.zero_add], by rw [Nat.zero_add]; rfl⟩
theorem A1v.no {r : Option Ty} {G G' : IM} {cu : List Value} {u : Ty} {b : Bool} (hu : B7 G' u cu) (hb : b = false) (h : r = none) : A1v r G G' (.tuple ⟨[.agg ⟨cu⟩, .bool b]⟩) [] := by
 subst hb h
 exact ⟨rfl, cu, u, rfl, hu, by simp⟩
section
variable {cx : Cx} {k : Int} {nm : ByteArray} {num : Int} {ty fr : Ty} {lb : Int} {ks : List Tm}
theorem A3x {us w : List Ty} {t : Ty} (h : K0 cx k nm ty us = some (w, t)) {b : Bool} (hb : E4 t = b) : S1 cx k nm ty us = if b = true then some (w, t) else none := by
 unfold S1; rw [h]; simp only [hb]
theorem B12 {us : List Ty} (h : K0 cx k nm ty us = none) : S1 cx k nm ty us = none := by
 unfold S1; rw [h]
end
theorem B13 {t : Tm} (h : t.small) : t.nm.size ≤ 4294967296 ∧ t.ty.small ∧ t.fr.small ∧ t.ks.length ≤ 4294967296 ∧ Tm.smallL t.ks := by
 cases t; exact Z5.1 h
theorem A76 {ks : List Ty} (h : Ty.smallL ks) (i : Nat) : (kt ks i).small := by
 unfold kt
 rw [List.getD_eq_getElem?_getD]
 cases hi : ks[i]? with
 | none => exact A2a
 | some t => exact Ty.smallL_mem h t (List.mem_of_getElem? hi)
theorem A77 {t : Ty} (h : t.small) : Ty.smallL t.ks := by cases t; simp only [Ty.small] at h; exact h.2
theorem A2L (t : Ty) : (R9 t).small := by
 unfold R9; split <;> simp [P3, Ty.small, Ty.smallL]
theorem A2e {e : Tm} {a b : Ty} {l : Int} (h : e.small) (ha : a.small) (hb : b.small) : (J9 e a b l).small := Z5.2 ⟨by decide, hb, ha, by simp, by simp [Tm.smallL, h]⟩
theorem A1N (e : Tm) (a b : Ty) (l : Int) : D1 (J9 e a b l) = D1 e + 1 := by rw [J9, W6, E1, E1]
theorem A5K {k : Int} {ks : List Tm} (h : Tm.smallL ks) (hl : ks.length ≤ 4294967296) : (V9 k ks).small := Z5.2 ⟨by decide, A2a, A2a, hl, h⟩
theorem A5L (k : Int) (ks : List Tm) : D1 (V9 k ks) = E1 ks + 1 := by rw [V9, W6]
theorem B14 {a : Tm} (h : a.small) : Tm.smallL [a] := by simp [Tm.smallL, h]
theorem B15 {a b : Tm} (h : a.small) (h2 : b.small) : Tm.smallL [a, b] := by simp [Tm.smallL, h, h2]
theorem A78 : D1 J6 = 1 := by simp [J6, D1, E1]
theorem B16 (t : Tm) : D1 t = E1 t.ks + 1 := by cases t; rw [W6]; rfl
theorem B17 {k : Int} {ty fr : Ty} {lb : Int} {ks : List Tm} (hk : Tm.smallL ks) (hc : E1 ks ≤ 199) (ht : ty.small) (hf : fr.small) : (O2 k ty fr lb ks).1.small ∧ D1 (O2 k ty fr lb ks).1 ≤ 40100 := by
 have a0 := A1K hk 0
 have a1 := A1K hk 1
 have a2 := A1K hk 2
 have n0 := A4h (ks := ks) 0
 have n1 := A4h (ks := ks) 1
 have n2 := A4h (ks := ks) 2
 obtain ⟨_, b2, b3, _, b5⟩ := B13 a0
 have e0 := B16 (kd ks 0)
 have m := fun i => A4h (ks := (kd ks 0).ks) i
 have st : P5.1.small ∧ D1 P5.1 ≤ 40100 := ⟨A3l, by simp [P5, J6, D1, E1]⟩
 have hty := fun i => A76 (A77 b2) i
 have hfr := fun i => A76 (A77 b3) i
 unfold O2
 split
 ·split
  ·obtain ⟨s1, s2⟩ := A7P (x := (kd ks 0).nm) a1 (kd (kd ks 0).ks 0) (A1K b5 0)
   refine ⟨s1, Nat.le_trans s2 ?_⟩
   have : D1 (kd (kd ks 0).ks 0) * D1 (kd ks 1) ≤ 200 * 200 := Nat.mul_le_mul (by have := m 0; omega) (by omega)
   omega
  ·split
   ·refine ⟨A2e (A5K (B15 (A1K b5 0) (A2e a1 (hty 0) (hfr 0))) (by simp)) (hfr 1) (hty 1), ?_⟩
    have := m 0
    show D1 (J9 _ _ _ _) ≤ 40100
    rw [A1N, A5L, E1, E1, E1, A1N]
    omega
   ·exact st
 ·split
  ·split
   ·split
    ·exact ⟨Z5.2 ⟨by decide, A2a, A2a, by simp, by simp [Tm.smallL]⟩, by simp [A1I, D1, E1]⟩
    ·exact ⟨A5K (by simp [Tm.smallL]) (by simp), by simp [X7, A5L, E1]⟩
   ·exact st
  ·split
   ·split
    ·exact ⟨a1, by show D1 (kd ks 1) ≤ _; omega⟩
    ·split
     ·exact ⟨a2, by show D1 (kd ks 2) ≤ _; omega⟩
     ·exact st
   ·split
    ·split
     ·exact ⟨A1K b5 _, by have := m (k - 11).toNat; show D1 (kd _ _) ≤ _; omega⟩
     ·split
      ·refine ⟨A2e (A5K (B14 (A1K b5 0)) (by simp)) (hfr _) (hty _), ?_⟩
       have := m 0
       show D1 (J9 _ _ _ _) ≤ 40100
       rw [A1N, A5L, E1, E1]
       omega
      ·exact st
    ·split
     ·split
      ·exact ⟨a0, by show D1 (kd ks 0) ≤ _; omega⟩
      ·split
       ·refine ⟨A2e (A2e a0 hf (A2L fr)) (A2L fr) ht, ?_⟩
        show D1 (J9 _ _ _ _) ≤ 40100
        rw [A1N, A1N]; omega
       ·split
        ·refine ⟨A2e (A2e a0 hf (A2L ty)) (A2L ty) ht, ?_⟩
         show D1 (J9 _ _ _ _) ≤ 40100
         rw [A1N, A1N]; omega
        ·split
         ·exact st
         ·split
          ·exact ⟨A1K b5 0, by have := m 0; show D1 (kd _ _) ≤ _; omega⟩
          ·exact ⟨A3l, by simp [J6, D1, E1]⟩
     ·exact st
theorem B18 (ks : List Tm) (ih : ∀ t ∈ ks, t.small → D1 t ≤ 200 → (I0 t).1.small ∧ D1 (I0 t).1 ≤ D1 t + 40100) : ∀ (n : Nat), Tm.smallL ks → E1 ks ≤ 199 → ∀ us c l, Y6 n ks = some (us, c, l) → Tm.smallL us ∧ us.length = ks.length ∧ E1 us ≤ E1 ks + 40100 := by
 induction ks with
 | nil => intro n _ _ us c l h; simp [Y6] at h
 | cons t ts ihl =>
  intro n hs hc us c l h
  simp only [Tm.smallL] at hs
  simp only [E1] at hc ⊢
  cases n with
  | zero => simp [Y6] at h
  | succ n =>
   rw [Y6] at h
   split at h
   ·split at h
    ·rename_i us' c' l' hs'
     cases h
     obtain ⟨l1, l2, l3⟩ := ihl (fun u hu => ih u (List.mem_cons_of_mem _ hu)) n hs.2 (by omega) us' c l hs'
     exact ⟨by simp only [Tm.smallL]; exact ⟨hs.1, l1⟩, by simp [l2], by simp only [E1]; omega⟩
    ·cases h
   ·cases h
    obtain ⟨s1, s2⟩ := ih t List.mem_cons_self hs.1 (by omega)
    exact ⟨by simp only [Tm.smallL]; exact ⟨s1, hs.2⟩, by simp, by simp only [E1]; omega⟩
theorem B19 : ∀ (t : Tm), t.small → D1 t ≤ 200 → (I0 t).1.small ∧ D1 (I0 t).1 ≤ D1 t + 40100 := by
 refine Tm.ind fun k nm num ty fr lb ks ih h hc => ?_
 obtain ⟨h1, h2, h3, h4, h5⟩ := Z5.1 h
 rw [W6] at hc
 have hL := B18 ks ih (if k = 9 then 1 else ks.length) h5 (by omega)
 rw [I0]
 split
 ·rename_i us c l hs
  obtain ⟨l1, l2, l3⟩ := hL us c l hs
  split
  ·refine ⟨Z5.2 ⟨h1, h2, h3, by omega, l1⟩, ?_⟩
   show D1 (.mk k nm num ty fr lb us) ≤ _
   rw [W6, W6]; omega
  ·exact ⟨A3l, by show D1 J6 ≤ _; rw [A78]; omega⟩
 ·have := B17 (k := k) (lb := lb) h5 (by omega) h2 h3
  rw [W6]
  exact ⟨this.1, by omega⟩
variable {P : Program} {G : IM}
theorem Fn.forget {f : FuncId} {args : List Value} {v0 : Value} {post : IM → Value → List A6 → Prop} (h : Fn P f args [] G post) (hv : ∀ G' v outs, post G' v outs → v = v0) : Fn P f args [] G (H4 v0 G) := by
 refine ⟨fun w hw => (h.run w hw).mono ?_⟩
 rintro e w' ⟨u, G', outs, rfl, hres, hp⟩
 refine ⟨u, G, [], rfl, ⟨⟨fun b l hb => hres.own.inn b l (hres.le b l hb), by simp, by simp [Fp], by simp [Fp]⟩, hres.ext, B8.refl _, fun _ _ h => .inl h, by simp [Fp], fun b l h h0 => absurd h (by rw [h0]; simp)⟩, rfl, hv _ _ _ hp, rfl⟩
def Q8 (t : Tm) : IM → Value → List A6 → Prop := L8 fun G' v => ∃ cells, v = .agg ⟨cells⟩ ∧ B0 G' t cells
theorem Q8.mk {G : IM} {t : Tm} {cells : List Value} (h : B0 G t cells) : Q8 t G (.agg ⟨cells⟩) [] := ⟨rfl, cells, rfl, h⟩
def mGk (k : Int) : Ty := if k = 4 ∨ k = 5 then .mk k [P3, P3] else .mk k []
theorem A0C {G : IM} {k : Int} {ks : List Tm} {p : Option Addr} {n c : Nat} {es : List (List Value)} (hk : E6 k) (hn : n = ks.length) (hs : D2 G p n c 9 es) (hr : D3 G ks es) : B0 G (V9 k ks) [.int .i64 k, .string ⟨⟨[]⟩⟩, .int .i64 0, .int .i64 0, .slice none 0 0, .int .i64 0, .slice none 0 0, .int .i64 0, .slice p n c] := by
 subst hn
 simp only [V9, B0]
 exact ⟨[.int .i64 0, .slice none 0 0], [.int .i64 0, .slice none 0 0], p, c, es, rfl, hk, ⟨by decide, by decide⟩, ⟨by decide, by decide⟩, A05 G, A05 G, hs, hr⟩
theorem A5M (k : Int) (G : IM) (hk : E6 k) : Fn Tryz.prog 153 [.int .i64 k] [] G (L8 fun G' v => ∃ cells, v = .agg ⟨cells⟩ ∧ B7 G' (mGk k) cells) := by
 have hB := A1M k P3 P3 G _ _ hk (A0o G) (A0o G)
 refine C0 Tryz.func153 rfl Tryz.ntmps153 Tryz.results153 rfl ?_
 intro w0
 refine tS (tR ?_)
 refine sE (A7 rfl) rfl (fun b3 => ?_)
 refine sD (nS (tS (tS (tR (sQ (qM rfl) rfl ?_)))))
 refine sB (qE rfl rfl) rfl rfl (fun h10 => ?_) (fun h10 => ?_)
 refine sQ (qM rfl) rfl (sK rfl rfl (sK rfl rfl (sQ (C2 rfl rfl) rfl (sD (nS (qT rfl (tS (tR (sQ (qM rfl) rfl ?_)))))))))
 refine H0 rfl ((A1p _ _)) rfl rfl ?_
 refine H0 rfl ((A1p _ _)) rfl rfl ?_
 (refine E5 rfl hB rfl rfl (fun v G1 hle1 hh => ?_); obtain ⟨cb, rfl, hrb⟩ := hh; obtain ⟨p1, c1, e1, rfl, _⟩ := hrb.open)
 refine B1 ?_
 refine sD (nS (tT (rS ?_)))
 refine A9 (rC rfl (A2 rfl rfl)) ?_
 (exact ⟨rfl, _, rfl, by unfold mGk; rw [if_pos (by omega)]; exact hrb⟩)
 refine sQ (qM rfl) rfl (sQ (qM rfl) rfl ?_)
 refine sB (qE rfl rfl) rfl rfl (fun h33 => ?_) (fun h33 => ?_)
 refine sQ (D7 rfl rfl) rfl (sD (nS (qT rfl (tS (tR (sQ (qM rfl) rfl ?_))))))
 refine H0 rfl ((A1p _ _)) rfl rfl ?_
 refine H0 rfl ((A1p _ _)) rfl rfl ?_
 (refine E5 rfl hB rfl rfl (fun v G1 hle1 hh => ?_); obtain ⟨cb, rfl, hrb⟩ := hh; obtain ⟨p1, c1, e1, rfl, _⟩ := hrb.open)
 refine B1 ?_
 refine sD (nS (tT (rS ?_)))
 refine A9 (rC rfl (A2 rfl rfl)) ?_
 (exact ⟨rfl, _, rfl, by unfold mGk; rw [if_pos (by omega)]; exact hrb⟩)
 refine sQ (D7 rfl rfl) rfl (sD (nS (cF rfl (tK (nS (tS (tR (sQ (qM rfl) rfl ?_))))))))
 refine H0 rfl ((A1p _ _)) rfl rfl ?_
 refine B1 ?_
 refine sD (nS (tT ?_))
 refine A9 (rC rfl (A2 rfl rfl)) ?_
 (exact ⟨rfl, _, rfl, by unfold mGk; rw [if_neg (by omega)]; exact M1 _ hk⟩)
theorem A79 (t : Ty) (G : IM) (cells : List Value) (hr : B7 G t cells) : Fn Tryz.prog 111 [.agg ⟨cells⟩] [] G (H4 (.bool (S3 t)) G) := by
 refine Fn.forget (post := L8 fun _ v => v = .bool (S3 t)) ?_ (fun _ _ _ h => h.2)
 have hr0 := hr
 obtain ⟨tk, tks⟩ := t
 obtain ⟨p, c, es, rfl, hk, _⟩ := hr.open
 simp only [Ty.k, Ty.ks] at hk hr0 ⊢
 rw [show S3 (.mk tk tks) = (decide (tk ≠ 1) && N1 (.mk tk tks) (mGk tk)) from rfl]
 refine C0 Tryz.func111 rfl Tryz.ntmps111 Tryz.results111 rfl ?_
 intro w0
 refine tS (tR ?_)
 refine sE (C5 rfl rfl) rfl (fun b3 => ?_)
 refine sQ (qA rfl) rfl (sD (nS (tS ?_)))
 refine D4 D6 rfl ?_
 refine I6 (i := 0) (l' := [tt,ff,ff,ff,ff,ff,ff,ff,ff,ff,ff]) rfl C9 (A0 rfl) rfl (by kernel_rfl) rfl rfl ?_
 refine aL 1 rfl (A3 rfl rfl) rfl ?_
 refine A0t (i := 2) (l' := [tt,tt,tt,ff,ff,ff,ff,ff,ff,ff,ff]) rfl C9 (N9 rfl rfl) rfl (by kernel_rfl) rfl rfl (fun h11 => ?_) (fun h11 => ?_)
 refine aP 3 rfl (qM rfl) rfl ?_
 refine aL 4 rfl (A2 rfl rfl) rfl ?_
 refine aP 5 rfl (A0 rfl) rfl ?_
 refine aL 6 rfl (A3 rfl rfl) rfl ?_
 refine A4 7 ?_
 (refine F0 rfl rfl (A5M tk G hk) rfl rfl rfl (fun v G1 hle1 hh => ?_); obtain ⟨cg, rfl, hrg⟩ := hh; have hT := A5G (.mk tk tks) (mGk tk) G1 _ _ (hr0.mono hle1) hrg; obtain ⟨pg, cgg, eg, rfl, _⟩ := hrg.open)
 refine A4 8 ?_
 refine M7 rfl rfl (hT) rfl rfl rfl ?_
 refine aP 9 rfl (C2 rfl rfl) rfl ?_
 refine aP 10 rfl (qA rfl) rfl ?_
 refine B5 (nS (tT (A9 (rT rfl) ?_)))
 (exact ⟨rfl, by rw [decide_eq_true (by omega), Bool.true_and]⟩)
 refine aP 3 rfl (qM rfl) rfl ?_
 refine C1 4 rfl rfl rfl ?_
 refine C1 5 rfl rfl rfl ?_
 refine C1 6 rfl rfl rfl ?_
 refine C1 7 rfl rfl rfl ?_
 refine C1 8 rfl rfl rfl ?_
 refine aP 9 rfl (D7 rfl rfl) rfl ?_
 refine aP 10 rfl (qA rfl) rfl ?_
 refine B5 (nS (tT (A9 (rT rfl) ?_)))
 (exact ⟨rfl, by rw [decide_eq_false (by omega), Bool.false_and]⟩)
theorem A2f (t : Tm) (G : IM) (cells : List Value) (hr : B0 G t cells) : Fn Tryz.prog 69 [.agg ⟨cells⟩] [] G (H4 (.bool (O4 t)) G) := by
 obtain ⟨k, nm, num, ⟨tk, tks⟩, ⟨fk, fks⟩, lb, ks⟩ := t
 obtain ⟨pt, ct, pf, cf, p, c, es, rfl, hk, hnum, hlb, hty, hfr, hsl, hkl⟩ := hr.open9
 have hd : O4 (.mk k nm num (.mk tk tks) (.mk fk fks) lb ks) = decide (k = 14 ∧ fk = tk ∧ (tk = 4 ∨ tk = 5)) := rfl
 rw [hd]
 refine C0 Tryz.func69 rfl Tryz.ntmps69 Tryz.results69 rfl ?_
 intro w0
 refine tS (tR ?_)
 refine sE (C5 rfl rfl) rfl (fun b3 => ?_)
 refine sQ (qA rfl) rfl (sD (nS (tS (tR (sQ (A0 rfl) rfl (sL (A3 rfl rfl) rfl rfl ?_))))))
 refine sB (qE rfl rfl) rfl rfl (fun h11 => ?_) (fun h11 => ?_)
 refine wk7 ?_
 refine sB (qE rfl rfl) rfl rfl (fun h19 => ?_) (fun h19 => ?_)
 refine sQ (C2 rfl rfl) rfl (sQ (qM rfl) rfl (sQ (A0 rfl) rfl (sQ (qF rfl) rfl (sL (A3 rfl rfl) rfl rfl ?_))))
 refine sB (qE rfl rfl) rfl rfl (fun h25 => ?_) (fun h25 => ?_)
 refine U4 ?_
 (exact ⟨rfl, by rw [decide_eq_true (by omega)], rfl⟩)
 refine sQ (qM rfl) rfl (sQ (A0 rfl) rfl (sQ (qF rfl) rfl (sL (A3 rfl rfl) rfl rfl ?_)))
 refine sB (qE rfl rfl) rfl rfl (fun h43 => ?_) (fun h43 => ?_)
 refine sQ (D7 rfl rfl) rfl (sQ (C2 rfl rfl) rfl (sQ (qA rfl) rfl (sD (nS (tT (A9 (rT rfl) ?_))))))
 (exact ⟨rfl, by rw [decide_eq_true (by omega)], rfl⟩)
 refine sQ (D7 rfl rfl) rfl (sQ (C2 rfl rfl) rfl (sQ (qA rfl) rfl (sD (nS (tT (A9 (rT rfl) ?_))))))
 (exact ⟨rfl, by rw [decide_eq_false (by omega)], rfl⟩)
 refine U5 ?_
 (exact ⟨rfl, by rw [decide_eq_false (by omega)], rfl⟩)
 refine A3V ?_
 (exact ⟨rfl, by rw [decide_eq_false (by omega)], rfl⟩)
theorem A3y (t : Tm) (G : IM) (cells : List Value) (hr : B0 G t cells) : Fn Tryz.prog 70 [.agg ⟨cells⟩] [] G (H4 (.bool (inj t)) G) := by
 obtain ⟨k, nm, num, ⟨tk, tks⟩, ⟨fk, fks⟩, lb, ks⟩ := t
 obtain ⟨pt, ct, pf, cf, p, c, es, rfl, hk, hnum, hlb, hty, hfr, hsl, hkl⟩ := hr.open9
 have hd : inj (.mk k nm num (.mk tk tks) (.mk fk fks) lb ks) = (decide (k = 14 ∧ tk = 1) && S3 (.mk fk fks)) := rfl
 rw [hd]
 refine C0 Tryz.func70 rfl Tryz.ntmps70 Tryz.results70 rfl ?_
 intro w0
 refine tS (tR ?_)
 refine sE (C5 rfl rfl) rfl (fun b3 => ?_)
 refine sQ (qA rfl) rfl (sD (nS (tS (tR (sQ (A0 rfl) rfl (sL (A3 rfl rfl) rfl rfl ?_))))))
 refine sB (qE rfl rfl) rfl rfl (fun h11 => ?_) (fun h11 => ?_)
 refine sQ (qM rfl) rfl (sQ (A0 rfl) rfl (sQ (qF rfl) rfl (sL (A3 rfl rfl) rfl rfl ?_)))
 refine sB (qE rfl rfl) rfl rfl (fun h16 => ?_) (fun h16 => ?_)
 refine sQ (C2 rfl rfl) rfl (sQ (qM rfl) rfl (sQ (A0 rfl) rfl (sL (A2 rfl rfl) rfl rfl ?_)))
 refine H0 rfl ((A79 (.mk fk fks) G _ hfr)) rfl rfl ?_
 refine sQ (C2 rfl rfl) rfl (sQ (qA rfl) rfl (sD (nS (tT (A9 (rT rfl) ?_)))))
 (exact ⟨rfl, by rw [decide_eq_true (by omega), Bool.true_and], rfl⟩)
 refine A0l ?_
 (exact ⟨rfl, by rw [decide_eq_false (by omega), Bool.false_and], rfl⟩)
 refine O9 ?_
 (exact ⟨rfl, by rw [decide_eq_false (by omega), Bool.false_and], rfl⟩)
theorem B2a (t : Tm) (G : IM) (cells : List Value) (hr : B0 G t cells) : Fn Tryz.prog 73 [.agg ⟨cells⟩] [] G (H4 (.bool (decide (t.k = 2 ∨ t.k = 3 ∨ t.k = 4 ∨ t.k = 5))) G) := by
 obtain ⟨k, nm, num, ⟨tk, tks⟩, ⟨fk, fks⟩, lb, ks⟩ := t
 obtain ⟨pt, ct, pf, cf, p, c, es, rfl, hk, hnum, hlb, hty, hfr, hsl, hkl⟩ := hr.open9
 rw [show (Tm.mk k nm num (.mk tk tks) (.mk fk fks) lb ks).k = k from rfl]
 refine C0 Tryz.func73 rfl Tryz.ntmps73 Tryz.results73 rfl ?_
 intro w0
 refine tS (tR ?_)
 refine sE (C5 rfl rfl) rfl (fun b3 => ?_)
 refine sQ (qA rfl) rfl (sD (nS (tS (tR (sQ (A0 rfl) rfl (sL (A3 rfl rfl) rfl rfl ?_))))))
 refine sB (qE rfl rfl) rfl rfl (fun h11 => ?_) (fun h11 => ?_)
 refine A0b ?_
 (exact ⟨rfl, by rw [decide_eq_true (by omega)], rfl⟩)
 refine sQ (qM rfl) rfl (sQ (A0 rfl) rfl (sL (A3 rfl rfl) rfl rfl ?_))
 refine sB (qE rfl rfl) rfl rfl (fun h36 => ?_) (fun h36 => ?_)
 refine O9 ?_
 (exact ⟨rfl, by rw [decide_eq_true (by omega)], rfl⟩)
 refine sQ (D7 rfl rfl) rfl (sQ (qM rfl) rfl (sQ (A0 rfl) rfl (sL (A3 rfl rfl) rfl rfl ?_)))
 refine sB (qE rfl rfl) rfl rfl (fun h58 => ?_) (fun h58 => ?_)
 refine A0l ?_
 (exact ⟨rfl, by rw [decide_eq_true (by omega)], rfl⟩)
 refine sQ (D7 rfl rfl) rfl (sQ (qM rfl) rfl (sQ (A0 rfl) rfl (sL (A3 rfl rfl) rfl rfl ?_)))
 refine sB (qE rfl rfl) rfl rfl (fun h75 => ?_) (fun h75 => ?_)
 refine sQ (D7 rfl rfl) rfl (sQ (qA rfl) rfl (sD (nS (tT (A9 (rT rfl) ?_)))))
 (exact ⟨rfl, by rw [decide_eq_true (by omega)], rfl⟩)
 refine sQ (D7 rfl rfl) rfl (sQ (qA rfl) rfl (sD (nS (tT (A9 (rT rfl) ?_)))))
 (exact ⟨rfl, by rw [decide_eq_false (by omega)], rfl⟩)
theorem B2b (G : IM) (p : Option Addr) (n c : Nat) (es : List (List Value)) (hsl : D2 G p n c 9 es) (fid : FuncId) [B6 Tryz.prog fid] (us cs : List Value) (ins : List A6) (q : Nat → Bool)
  (hq : ∀ i e, es[i]? = some e → Fn Tryz.prog fid (us ++ [.agg ⟨e⟩] ++ cs) ins G (S8 (.bool (q i)) ins G)) :
  Fn Tryz.prog 112 [.slice p n c, .func (.func fid) ⟨us⟩ ⟨cs⟩] ins G (S8 (.int .i64 (A0n q n)) ins G) := by
 have hn := hsl.le
 refine C0 Tryz.func112 rfl Tryz.ntmps112 Tryz.results112 rfl ?_
 intro w0
 refine tS (tR (sQ (qA rfl) rfl (sD (nS (tS (tS (tR (sQ (qM rfl) rfl (sQ (H8 rfl rfl) rfl (sQ (qM rfl) rfl (sD (nS ?_))))))))))))
 refine B9 ?_
 refine J4 (fun i : Nat => ⟨[(8, .int .i64 i), (7, .int .i64 n), (1, .func (.func fid) ⟨us⟩ ⟨cs⟩), (0, .slice p n c)], ins, G⟩) (fun i => i ≤ n ∧ ∀ j, j < i → q j = false) (fun i => n - i) 0 ?_ ?_ ?_
 exact D9
 exact ⟨by omega, by omega⟩
 rintro i ⟨hi, hf⟩
 refine tS (tR ?_)
 refine sB (J1 rfl rfl) rfl rfl (fun h21 => ?_) (fun h21 => ?_)
 refine sD (nS (tS (qT rfl (tK (nS (tS ?_))))))
 refine B9 ?_
 refine tS (tR (sQ (qM rfl) rfl (sQ (qA rfl) rfl (sD (nS (tS (tR (sQ (qM rfl) rfl (sQ (qM rfl) rfl (sQ (qM rfl) rfl ?_))))))))))
 (obtain ⟨e, b, o, he, rfl, hl, _, hat, _⟩ := hsl.get (i := i) (by omega); refine sP (B3 rfl rfl rfl (by omega)) rfl rfl ?_)
 refine sL (A5 rfl rfl (hat _) hl) rfl rfl ?_
 refine A4U rfl rfl (hq i e he) Z0 rfl rfl (fun h43 => ?_) (fun h43 => ?_)
 refine sD (nS (qT rfl (tS (tR (sQ (qM rfl) rfl (sQ (qA rfl) rfl (sD (nS (tT (rB (rS (T4 (rB (rS ?_))))))))))))))
 refine F9 (rT rfl) A1.refl ?_
 exact ⟨rfl, by rw [A6I (by omega) hf (by assumption)], rfl⟩
 refine sD (nS (cF rfl (tK (E3 (nS (tR ?_))))))
 refine sP (I7 rfl rfl (by omega) (by omega)) rfl rfl ?_
 refine sQ (qM rfl) rfl (sD ?_)
 refine J3 (i + 1) ?_ ?_ ?_
 exact D9
 exact ⟨by omega, fun j hj => by by_cases hji : j = i; (subst hji; assumption); exact hf j (by omega)⟩
 omega
 refine sD (nS (tS (cF rfl (M3 (M5 (N7 (M6 (nS (tS (tR (sQ (qA rfl) rfl (sD (nS (tT ?_))))))))))))))
 refine F9 (rT rfl) A1.refl ?_
 exact ⟨rfl, by rw [A4Y (fun j hj => hf j (by omega))], rfl⟩
theorem B2c (G : IM) (p : Option Addr) (n c : Nat) (es : List (List Value)) (hsl : D2 G p n c 9 es) (fid : FuncId) [B6 Tryz.prog fid] (us cs : List Value) (ins : List A6) (q : Nat → Bool)
  (hq : ∀ i e, es[i]? = some e → Fn Tryz.prog fid (us ++ [.agg ⟨e⟩] ++ cs) ins G (S8 (.bool (q i)) ins G)) :
  Fn Tryz.prog 71 [.slice p n c, .func (.func fid) ⟨us⟩ ⟨cs⟩] ins G (S8 (.bool (decide (0 ≤ A0n q n))) ins G) := by
 refine C0 Tryz.func71 rfl Tryz.ntmps71 Tryz.results71 rfl ?_
 intro w0
 refine tS (tR (sQ (qA rfl) rfl (sD (nS (tS (tR (sQ (qM rfl) rfl (sQ (qM rfl) rfl ?_))))))))
 refine A1X rfl (B2b G p n c es hsl fid us cs ins q hq) Z0 rfl rfl ?_
 refine sQ (A0I rfl rfl) rfl ?_
 refine sQ (qA rfl) rfl (sD (nS (tT ?_)))
 refine F9 (rT rfl) A1.refl ?_
 exact ⟨rfl, rfl, rfl⟩
theorem B2d (G : IM) (p : Option Addr) (n c : Nat) (es : List (List Value)) (hsl : D2 G p n c 9 es) (fid : FuncId) [B6 Tryz.prog fid] (us cs : List Value) (ins : List A6) (f : Tm → Bool) (ks : List Tm)
  (hn : ks.length = n) {A : Bool} (hA : ks.all f = A) (hq : ∀ i e, es[i]? = some e → Fn Tryz.prog fid (us ++ [.agg ⟨e⟩] ++ cs) ins G (S8 (.bool (!f (ks.getD i J6))) ins G)) :
  Fn Tryz.prog 71 [.slice p n c, .func (.func fid) ⟨us⟩ ⟨cs⟩] ins G (S8 (.bool (!A)) ins G) := by
 subst hn hA
 rw [← A6L f ks J6]
 exact B2c G p _ c es hsl fid us cs ins _ hq
theorem A8a : ∀ ks, A4f ks = ks.all E8
 | [] => rfl
 | t :: ts => by rw [A4f, A8a ts, List.all_cons]
theorem B2e (t : Tm) (G : IM) (cells : List Value) (hl : cells.length = 9) (ho : cells.all (·.oneCell') = true) (h : Fn Tryz.prog 37 [.agg ⟨cells⟩] [] G (H4 (.bool (E8 t)) G)) :
  Fn Tryz.prog 72 [.agg ⟨cells⟩] [] G (S8 (.bool (!E8 t)) [] G) := by
 refine C0 Tryz.func72 rfl Tryz.ntmps72 Tryz.results72 rfl ?_
 intro w0
 refine tS (tR ?_)
 refine sE (C5 rfl rfl) rfl (fun b3 => ?_)
 refine sQ (qA rfl) rfl (sD (nS (tS (tR ?_))))
 refine sL (A5 rfl rfl (B2 (by repeat first | exact mH | apply mT)) hl) rfl rfl ?_
 refine H0 rfl (h) rfl rfl ?_
 refine sQ (A2k rfl) rfl ?_
 refine sQ (qA rfl) rfl (sD (nS (tT (A9 (rT rfl) ?_))))
 (exact ⟨rfl, rfl, rfl⟩)
theorem A0D (k : Int) (nm : ByteArray) (num : Int) (ty fr : Ty) (lb : Int) (ks : List Tm) : O4 (.mk k nm num ty fr lb ks) = decide (k = 14 ∧ fr.k = ty.k ∧ (ty.k = 4 ∨ ty.k = 5)) := rfl
theorem A3z (k : Int) (nm : ByteArray) (num : Int) (ty fr : Ty) (lb : Int) (ks : List Tm) : inj (.mk k nm num ty fr lb ks) = (decide (k = 14 ∧ ty.k = 1) && S3 fr) := rfl
theorem A2M {k : Int} {nm : ByteArray} {num : Int} {ty fr : Ty} {lb : Int} {ks : List Tm} (h : k = 10 ∨ O4 (.mk k nm num ty fr lb ks) = true ∨ inj (.mk k nm num ty fr lb ks) = true) : E8 (.mk k nm num ty fr lb ks) = ks.all E8 := by
 rw [E8, if_pos, A8a]
 rw [A0D, A3z] at h
 simp only [Bool.and_eq_true, decide_eq_true_eq] at h
 rcases h with h | h | h
 ·exact .inl h
 ·exact .inr (.inl h)
 ·exact .inr (.inr ⟨h.1.1, h.1.2, h.2⟩)
theorem A4o {k : Int} {nm : ByteArray} {num : Int} {ty fr : Ty} {lb : Int} {ks : List Tm} (h : ¬k = 10) (h2 : O4 (.mk k nm num ty fr lb ks) = false) (h3 : inj (.mk k nm num ty fr lb ks) = false) : E8 (.mk k nm num ty fr lb ks) = decide (k = 2 ∨ k = 3 ∨ k = 4 ∨ k = 5) := by
 rw [E8, if_neg]
 rw [A0D] at h2
 rw [A3z] at h3
 simp only [Bool.and_eq_false_iff, decide_eq_false_iff_not] at h2 h3
 rintro (h' | h' | h')
 ·exact h h'
 ·exact h2 h'
 ·rcases h3 with h3 | h3
  ·exact h3 ⟨h'.1, h'.2.1⟩
  ·rw [h3] at h'; cases h'.2.2
theorem A8b : ∀ (t : Tm) (G : IM) (cells : List Value), B0 G t cells → Fn Tryz.prog 37 [.agg ⟨cells⟩] [] G (H4 (.bool (E8 t)) G) := by
 refine Tm.ind fun k nm num ty fr lb ks ih G cells hr => ?_
 have hr0 := hr
 have hP := A2f _ G _ hr
 have hI := A3y _ G _ hr
 have hPl := B2a _ G _ hr
 have hy := @A2M k nm num ty fr lb ks
 have hn := @A4o k nm num ty fr lb ks
 rw [show (Tm.mk k nm num ty fr lb ks).k = k from rfl] at hPl
 obtain ⟨A, hA⟩ : ∃ A, ks.all E8 = A := ⟨_, rfl⟩
 rw [hA] at hy
 generalize hpx : O4 (.mk k nm num ty fr lb ks) = bp at hP hy hn
 generalize hij : inj (.mk k nm num ty fr lb ks) = bi at hI hy hn
 generalize E8 (.mk k nm num ty fr lb ks) = R at hy hn ⊢
 obtain ⟨tk, tks⟩ := ty
 obtain ⟨fk, fks⟩ := fr
 obtain ⟨pt, ct, pf, cf, p, c, es, rfl, hk, hnum, hlb, hty, hfr, hsl, hkl⟩ := hr.open9
 have hC := B2d G p ks.length c es hsl 72 [] [] [] E8 ks rfl hA (fun i e he => by
  have hx := hkl.inv he J6
  exact B2e _ G e hx.2.len hx.2.one (ih _ hx.1 G e hx.2))
 refine C0 Tryz.func37 rfl Tryz.ntmps37 Tryz.results37 rfl ?_
 intro w0
 refine tS (tR ?_)
 refine sE (C5 rfl rfl) rfl (fun b3 => ?_)
 refine sQ (qA rfl) rfl (sD (nS (tS (tS (tR (sQ (A0 rfl) rfl (sL (A3 rfl rfl) rfl rfl ?_)))))))
 refine sB (qE rfl rfl) rfl rfl (fun h12 => ?_) (fun h12 => ?_)
 refine L9 ?_
 refine A1X rfl hC Z0 rfl rfl ?_
 refine sQ (A2k rfl) rfl ?_
 refine sQ (qA rfl) rfl (sD (nS (tT (rS (A9 (rT rfl) ?_)))))
 (exact ⟨rfl, by rw [hy (by first | exact .inl (by omega) | exact .inr (.inl (by assumption)) | exact .inr (.inr (by assumption)))]; cases A <;> rfl, rfl⟩)
 refine sQ (qM rfl) rfl (sL (A2 rfl rfl) rfl rfl ?_)
 refine E7 rfl (hP) rfl rfl (fun h39 => ?_) (fun h39 => ?_)
 refine U4 ?_
 refine A1X rfl hC Z0 rfl rfl ?_
 refine sQ (A2k rfl) rfl ?_
 refine sQ (qA rfl) rfl (sD (nS (tT (rS (A9 (rT rfl) ?_)))))
 (exact ⟨rfl, by rw [hy (by first | exact .inl (by omega) | exact .inr (.inl (by assumption)) | exact .inr (.inr (by assumption)))]; cases A <;> rfl, rfl⟩)
 refine sQ (D7 rfl rfl) rfl (sQ (qM rfl) rfl (sL (A2 rfl rfl) rfl rfl ?_))
 refine E7 rfl (hI) rfl rfl (fun h64 => ?_) (fun h64 => ?_)
 refine sQ (D7 rfl rfl) rfl (sD (nS (qT rfl (tS (tR (sQ (A0 rfl) rfl (sL (A3 rfl rfl) rfl rfl ?_)))))))
 refine A1X rfl hC Z0 rfl rfl ?_
 refine sQ (A2k rfl) rfl ?_
 refine sQ (qA rfl) rfl (sD (nS (tT (rS (A9 (rT rfl) ?_)))))
 (exact ⟨rfl, by rw [hy (by first | exact .inl (by omega) | exact .inr (.inl (by assumption)) | exact .inr (.inr (by assumption)))]; cases A <;> rfl, rfl⟩)
 refine sQ (D7 rfl rfl) rfl (sD (nS (cF rfl (tK (nS (tS (tR (sL (A2 rfl rfl) rfl rfl ?_))))))))
 refine H0 rfl (hPl) rfl rfl ?_
 refine sQ (qA rfl) rfl (sD (nS (tT (A9 (rT rfl) ?_))))
 (exact ⟨rfl, by rw [hn (by omega) (by assumption) (by assumption)], rfl⟩)
theorem B0.put {G : IM} {k : Int} {nm : ByteArray} {num tk fk lb : Int} {tks fks : List Ty} {us : List Tm} {pt pf p : Option Addr} {ct cf n c : Nat} {es : List (List Value)} (hk : E6 k) (hnum : E6 num) (hlb : E6 lb) (hty : B7 G (.mk tk tks) [.int .i64 tk, .slice pt tks.length ct]) (hfr : B7 G (.mk fk fks) [.int .i64 fk, .slice pf fks.length cf])
  (hn : n = us.length) (hs : D2 G p n c 9 es) (hr : D3 G us es) : B0 G (.mk k nm num (.mk tk tks) (.mk fk fks) lb us) [.int .i64 k, .string nm, .int .i64 num, .int .i64 tk, .slice pt tks.length ct, .int .i64 fk, .slice pf fks.length cf, .int .i64 lb, .slice p n c] := by
 subst hn
 simp only [B0]
 exact ⟨_, _, p, c, es, rfl, hk, hnum, hlb, hty, hfr, hs, hr⟩
theorem nine {uc : List Value} (h : uc.length = 9) : ∃ v1 v2 v3 v4 v5 v6 v7 v8 v9, uc = [v1, v2, v3, v4, v5, v6, v7, v8, v9] := by
 match uc, h with
 | [a, b, c, d, e, f, g, i, j], _ => exact ⟨a, b, c, d, e, f, g, i, j, rfl⟩
theorem A2N {x : ByteArray} {v : Tm} {ks : List Tm} {i : Nat} (h : i < ks.length) : (T3 x v ks).take (i + 1) = (T3 x v ks).take i ++ [V8 x v ks[i]] := by
 rw [A4g, List.take_succ_eq_append_getElem (by rw [List.length_map]; exact h), List.getElem_map]
theorem W8 (x : ByteArray) (v : Tm) (ks : List Tm) : (T3 x v ks).length = ks.length := by rw [A4g, List.length_map]
theorem B2f (y : ByteArray) (v : Tm) (vc : List Value) : ∀ (t : Tm) (G : IM) (cells : List Value), t.small → B0 G t cells → B0 G v vc → Fn Tryz.prog 168 [.agg ⟨cells⟩, .string y, .agg ⟨vc⟩] [] G (Q8 (V8 y v t)) := by
 refine Tm.ind fun k nm num ty fr lb ks ih G cells hts hr hv => ?_
 have hr0 := hr
 obtain ⟨_, _, _, hsm, hks⟩ := Z5.1 hts
 have hvl := hv.len
 have hvo := hv.one
 have hRl := hr.len
 have hRo := hr.one
 rw [V8]
 obtain ⟨tk, tks⟩ := ty
 obtain ⟨fk, fks⟩ := fr
 obtain ⟨pt, ct, pf, cf, p, c, es, rfl, hk, hnum, hlb, hty, hfr, hsl, hkl⟩ := hr.open9
 have hn := hsl.le
 refine C0 Tryz.func168 rfl Tryz.ntmps168 Tryz.results168 rfl ?_
 intro w0
 refine tS (tR ?_)
 refine sE (C5 rfl rfl) rfl (fun b3 => ?_)
 refine sE (C5 rfl rfl) rfl (fun b4 => ?_)
 refine sE (A7 rfl) rfl (fun b5 => ?_)
 refine sD (nS (tS ?_))
 refine B9 ?_
 refine tS (tR (sQ (A0 rfl) rfl (sL (A3 rfl rfl) rfl rfl ?_)))
 refine sB (qE rfl rfl) rfl rfl (fun h14 => ?_) (fun h14 => ?_)
 refine sQ (qM rfl) rfl (sQ (A0 rfl) rfl (sL (A3 rfl rfl) rfl rfl (sQ (qM rfl) rfl ?_)))
 refine sB (A0J rfl rfl) rfl rfl (fun h19 => ?_) (fun h19 => ?_)
 refine sQ (C2 rfl rfl) rfl (sQ (qA rfl) rfl (sD (nS (qT rfl (tS (tR ?_))))))
 refine sL (A5 rfl rfl (B2 (by repeat first | exact mH | apply mT)) hvl) rfl rfl ?_
 refine sS rfl rfl rfl hvl hvo rfl ?_ (hu := by exact D5 hvl.symm)
 refine sD (nS (tT (rB (rS ?_))))
 refine A9 (rC rfl (A5 rfl rfl (B2 (by repeat first | exact mH | apply mT)) hvl)) ?_
 (rw [if_pos (by refine ⟨by omega, by assumption⟩)]; exact Q8.mk hv)
 refine sQ (C2 rfl rfl) rfl (sQ (qA rfl) rfl (sD (nS (cF rfl (tS (tR (sQ (A0 rfl) rfl (sL (A3 rfl rfl) rfl rfl ?_))))))))
 refine sP (I2 rfl rfl (by omega)) rfl rfl ?_
 refine O9 ?_
 refine sE (A7 rfl) rfl (fun b62 => ?_)
 refine U5 ?_
 refine B9 ?_
 (refine S0 28 9 ?_; refine J4 (fun (x : Nat × Option Addr × Nat × List (List Value) × IM) => ⟨[(37, .int .i64 x.1), (36, .int .i64 ks.length), (35, .slice p ks.length c), (1, .string y), (3, .pointer (some ⟨b3, 0, none⟩)), (5, .pointer (some ⟨b4, 0, none⟩)), (6, .pointer (some ⟨b5, 0, none⟩)), (7, .pointer (some ⟨b62, 0, none⟩))], [.blk b62 [.int .i64 k, .string nm, .int .i64 num, .int .i64 tk, .slice pt tks.length ct, .int .i64 fk, .slice pf fks.length cf, .int .i64 lb, .slice x.2.1 x.1 x.2.2.1], .slc x.2.1 x.2.2.1 28 9 x.1 x.2.2.2.1.flatten, .blk b5 [.int .i64 0, .string ⟨⟨[]⟩⟩, .int .i64 0, .int .i64 0, .slice none 0 0, .int .i64 0, .slice none 0 0, .int .i64 0, .slice none 0 0], .blk b4 vc, .blk b3 [.int .i64 k, .string nm, .int .i64 num, .int .i64 tk, .slice pt tks.length ct, .int .i64 fk, .slice pf fks.length cf, .int .i64 lb, .slice p ks.length c]], x.2.2.2.2⟩) (fun x => x.1 ≤ ks.length ∧ B8 G x.2.2.2.2 ∧ D3 x.2.2.2.2 ((T3 y v ks).take x.1) x.2.2.2.1) (fun x => ks.length - x.1) (0, none, 0, [], G) ?_ ?_ ?_)
 (simp only [I3]; exact D9)
 (exact ⟨Nat.zero_le _, B8.refl _, by simp [D3]⟩)
 (rintro ⟨i, pn, cn, es', Gi⟩ ⟨hi, hle, hst⟩; simp only [] at hi hle hst ⊢; replace hsl := hsl.mono hle; replace hkl := hkl.mono hle; replace hv := hv.mono hle; replace hty := hty.mono hle; replace hfr := hfr.mono hle; have hsl' := hst.len; rw [List.length_take, W8] at hsl')
 refine tS (tR ?_)
 refine sB (J1 rfl rfl) rfl rfl (fun h88 => ?_) (fun h88 => ?_)
 refine sD (nS (tS (qT rfl (tK (nS (tS ?_))))))
 refine B9 ?_
 refine tS (tR ?_)
 (have hil : i < ks.length := (by omega); obtain ⟨bx, ox, e, rfl, hl, hat, hre, hgb⟩ := hsl.kidTm hkl (i := i) (by omega) (by omega); have hel := hre.len; have heo := hre.one; refine sP (B3 (j := i) rfl rfl rfl (by omega)) rfl rfl ?_)
 refine sL (A5 rfl rfl (hat _) hl) rfl rfl ?_
 refine sE (A7 rfl) rfl (fun b101 => ?_)
 refine sS rfl rfl rfl hel heo rfl ?_ (hu := by exact D5 hel.symm)
 refine sD (nS ?_)
 refine D4 D6 rfl ?_
 refine K2 (i := 2) (l' := [ff,ff,tt,ff,ff,ff,ff,ff,ff,ff]) rfl C9 (A5 rfl rfl (B2 (by repeat first | exact mH | apply mT)) hel) rfl (by kernel_rfl) rfl rfl ?_
 refine aL 4 rfl (A5 rfl rfl (B2 (by repeat first | exact mH | apply mT)) hvl) rfl ?_
 refine aP 0 rfl (A0 rfl) rfl ?_
 refine aL 1 rfl (A3 rfl rfl) rfl ?_
 refine aP 3 rfl (qM rfl) rfl ?_
 refine A4 5 ?_
 (refine F0 rfl rfl (ih ks[i] (List.getElem_mem (by omega)) Gi _ (Tm.smallL_mem hks _ (List.getElem_mem (by omega))) hre hv) rfl rfl rfl (fun u G1 hle1 hh => ?_); obtain ⟨uc, rfl, hru⟩ := hh; have hul := hru.len; have huo := hru.one; obtain ⟨v1, v2, v3, v4, v5, v6, v7, v8, v9, rfl⟩ := nine hul)
 refine A4 6 ?_
 (refine E0 rfl (C7 rfl rfl rfl (by omega) (by unfold maxLen; omega) rfl) rfl rfl ?_; rintro _ ⟨b114, rfl⟩)
 refine A4 7 ?_
 (refine Q2 rfl rfl rfl rfl rfl rfl (fun _ _ => by repeat (first | exact Sw.here | apply Sw.there)) (M9 (by repeat first | exact mH | apply mT)) rfl (fun u hu => List.all_eq_true.1 huo u hu) (by unfold maxLen; omega) (by omega) rfl rfl (by repeat (first | exact A8.nil | apply A8.dep (by decide +kernel) | apply A8.im (by decide +kernel) (by assumption) (by repeat first | exact mH | apply mT) | apply A8.blk (by decide +kernel) (by repeat (first | exact Pk.here | apply Pk.there)) (by repeat first | exact mH | apply mT))) (fun p7 c7 => ?_))
 refine aP 8 rfl (A0 rfl) rfl ?_
 refine A4 9 ?_
 refine Q6 rfl rfl rfl rfl rfl rfl rfl rfl (by decide +kernel) (by repeat first | exact Sw.here | apply Sw.there) (by rfl) ?_
 refine B5 (E3 (nS (tR ?_)))
 refine sP (I7 rfl rfl (by omega) (by omega)) rfl rfl ?_
 refine sQ (qM rfl) rfl (sD ?_)
 refine J3 (i + 1, p7, c7, es' ++ [[v1, v2, v3, v4, v5, v6, v7, v8, v9]], G1) ?_ ?_ ?_
 (simp only [I3]; exact D9)
 (dsimp only; exact ⟨by omega, hle.trans hle1, by rw [A2N (by omega)]; exact D3.snoc (hst.mono hle1) hru⟩)
 (show ks.length - (i + 1) < ks.length - i; omega)
 refine sD (nS (tS (cF rfl (M3 (M5 (N7 (M6 (nS (tS (tR (sL (A2 rfl rfl) rfl rfl (B1 ?_))))))))))))
 refine sD (nS ?_)
 (refine E9 (cs := es'.flatten) (by repeat (first | exact Pk.here | apply Pk.there)) (fun G2 hle2 hsl2 hno2 => ?_); obtain rfl : i = ks.length := (by omega))
 refine tT ?_
 refine A9 (rC rfl (A2 rfl rfl)) ?_
 (rw [if_neg (by rintro ⟨h1, h2⟩; first | omega | contradiction), if_neg (by rintro ⟨h1, h2⟩; first | omega | contradiction)]; rw [List.take_of_length_le (by rw [W8]; omega)] at hst; exact Q8.mk (B0.put hk hnum hlb (hty.mono hle2) (hfr.mono hle2) (by rw [W8]) (D2.of hsl2 (by omega) hst.all (fun e he => (hst.each e he).2)) (hst.mono hle2)))
 refine R2 ?_
 refine sB (qE rfl rfl) rfl rfl (fun h164 => ?_) (fun h164 => ?_)
 refine sQ (qM rfl) rfl (sQ (A0 rfl) rfl (sL (A3 rfl rfl) rfl rfl (sQ (qM rfl) rfl ?_)))
 refine sB (A0J rfl rfl) rfl rfl (fun h169 => ?_) (fun h169 => ?_)
 refine sQ (C2 rfl rfl) rfl (sQ (qA rfl) rfl (sD (nS (qT rfl (tS (tR (sL (A2 rfl rfl) rfl rfl (B1 ?_))))))))
 refine sD (nS (tT (rB (rS ?_))))
 refine A9 (rC rfl (A2 rfl rfl)) ?_
 (rw [if_neg (by rintro ⟨h1, h2⟩; first | omega | contradiction), if_pos (by refine ⟨by omega, by assumption⟩)]; exact Q8.mk hr0)
 refine sQ (C2 rfl rfl) rfl (sQ (qA rfl) rfl (sD (nS (cF rfl (tK (E3 (nS (tS (tR (sL (A2 rfl rfl) rfl rfl ?_))))))))))
 refine sE (A7 rfl) rfl (fun b197 => ?_)
 refine U5 ?_
 refine B9 ?_
 (refine S0 28 9 ?_; refine J4 (fun (x : Nat × Option Addr × Nat × List (List Value) × IM) => ⟨[(37, .int .i64 x.1), (36, .int .i64 ks.length), (35, .slice p ks.length c), (1, .string y), (3, .pointer (some ⟨b3, 0, none⟩)), (5, .pointer (some ⟨b4, 0, none⟩)), (6, .pointer (some ⟨b5, 0, none⟩)), (7, .pointer (some ⟨b197, 0, none⟩))], [.blk b197 [.int .i64 k, .string nm, .int .i64 num, .int .i64 tk, .slice pt tks.length ct, .int .i64 fk, .slice pf fks.length cf, .int .i64 lb, .slice x.2.1 x.1 x.2.2.1], .slc x.2.1 x.2.2.1 28 9 x.1 x.2.2.2.1.flatten, .blk b5 [.int .i64 0, .string ⟨⟨[]⟩⟩, .int .i64 0, .int .i64 0, .slice none 0 0, .int .i64 0, .slice none 0 0, .int .i64 0, .slice none 0 0], .blk b4 vc, .blk b3 [.int .i64 k, .string nm, .int .i64 num, .int .i64 tk, .slice pt tks.length ct, .int .i64 fk, .slice pf fks.length cf, .int .i64 lb, .slice p ks.length c]], x.2.2.2.2⟩) (fun x => x.1 ≤ ks.length ∧ B8 G x.2.2.2.2 ∧ D3 x.2.2.2.2 ((T3 y v ks).take x.1) x.2.2.2.1) (fun x => ks.length - x.1) (0, none, 0, [], G) ?_ ?_ ?_)
 (simp only [I3]; exact D9)
 (exact ⟨Nat.zero_le _, B8.refl _, by simp [D3]⟩)
 (rintro ⟨i, pn, cn, es', Gi⟩ ⟨hi, hle, hst⟩; simp only [] at hi hle hst ⊢; replace hsl := hsl.mono hle; replace hkl := hkl.mono hle; replace hv := hv.mono hle; replace hty := hty.mono hle; replace hfr := hfr.mono hle; have hsl' := hst.len; rw [List.length_take, W8] at hsl')
 refine tS (tR ?_)
 refine sB (J1 rfl rfl) rfl rfl (fun h223 => ?_) (fun h223 => ?_)
 refine sD (nS (tS (qT rfl (tK (nS (tS ?_))))))
 refine B9 ?_
 refine tS (tR ?_)
 (have hil : i < ks.length := (by omega); obtain ⟨bx, ox, e, rfl, hl, hat, hre, hgb⟩ := hsl.kidTm hkl (i := i) (by omega) (by omega); have hel := hre.len; have heo := hre.one; refine sP (B3 (j := i) rfl rfl rfl (by omega)) rfl rfl ?_)
 refine sL (A5 rfl rfl (hat _) hl) rfl rfl ?_
 refine sE (A7 rfl) rfl (fun b236 => ?_)
 refine sS rfl rfl rfl hel heo rfl ?_ (hu := by exact D5 hel.symm)
 refine sD (nS ?_)
 refine D4 D6 rfl ?_
 refine K2 (i := 2) (l' := [ff,ff,tt,ff,ff,ff,ff,ff,ff,ff]) rfl C9 (A5 rfl rfl (B2 (by repeat first | exact mH | apply mT)) hel) rfl (by kernel_rfl) rfl rfl ?_
 refine aL 4 rfl (A5 rfl rfl (B2 (by repeat first | exact mH | apply mT)) hvl) rfl ?_
 refine aP 0 rfl (A0 rfl) rfl ?_
 refine aL 1 rfl (A3 rfl rfl) rfl ?_
 refine aP 3 rfl (qM rfl) rfl ?_
 refine A4 5 ?_
 (refine F0 rfl rfl (ih ks[i] (List.getElem_mem (by omega)) Gi _ (Tm.smallL_mem hks _ (List.getElem_mem (by omega))) hre hv) rfl rfl rfl (fun u G1 hle1 hh => ?_); obtain ⟨uc, rfl, hru⟩ := hh; have hul := hru.len; have huo := hru.one; obtain ⟨v1, v2, v3, v4, v5, v6, v7, v8, v9, rfl⟩ := nine hul)
 refine A4 6 ?_
 (refine E0 rfl (C7 rfl rfl rfl (by omega) (by unfold maxLen; omega) rfl) rfl rfl ?_; rintro _ ⟨b249, rfl⟩)
 refine A4 7 ?_
 (refine Q2 rfl rfl rfl rfl rfl rfl (fun _ _ => by repeat (first | exact Sw.here | apply Sw.there)) (M9 (by repeat first | exact mH | apply mT)) rfl (fun u hu => List.all_eq_true.1 huo u hu) (by unfold maxLen; omega) (by omega) rfl rfl (by repeat (first | exact A8.nil | apply A8.dep (by decide +kernel) | apply A8.im (by decide +kernel) (by assumption) (by repeat first | exact mH | apply mT) | apply A8.blk (by decide +kernel) (by repeat (first | exact Pk.here | apply Pk.there)) (by repeat first | exact mH | apply mT))) (fun p7 c7 => ?_))
 refine aP 8 rfl (A0 rfl) rfl ?_
 refine A4 9 ?_
 refine Q6 rfl rfl rfl rfl rfl rfl rfl rfl (by decide +kernel) (by repeat first | exact Sw.here | apply Sw.there) (by rfl) ?_
 refine B5 (E3 (nS (tR ?_)))
 refine sP (I7 rfl rfl (by omega) (by omega)) rfl rfl ?_
 refine sQ (qM rfl) rfl (sD ?_)
 refine J3 (i + 1, p7, c7, es' ++ [[v1, v2, v3, v4, v5, v6, v7, v8, v9]], G1) ?_ ?_ ?_
 (simp only [I3]; exact D9)
 (dsimp only; exact ⟨by omega, hle.trans hle1, by rw [A2N (by omega)]; exact D3.snoc (hst.mono hle1) hru⟩)
 (show ks.length - (i + 1) < ks.length - i; omega)
 refine sD (nS (tS (cF rfl (M3 (M5 (N7 (M6 (nS (tS (tR (sL (A2 rfl rfl) rfl rfl (B1 ?_))))))))))))
 refine sD (nS ?_)
 (refine E9 (cs := es'.flatten) (by repeat (first | exact Pk.here | apply Pk.there)) (fun G2 hle2 hsl2 hno2 => ?_); obtain rfl : i = ks.length := (by omega))
 refine tT ?_
 refine A9 (rC rfl (A2 rfl rfl)) ?_
 (rw [if_neg (by rintro ⟨h1, h2⟩; first | omega | contradiction), if_neg (by rintro ⟨h1, h2⟩; first | omega | contradiction)]; rw [List.take_of_length_le (by rw [W8]; omega)] at hst; exact Q8.mk (B0.put hk hnum hlb (hty.mono hle2) (hfr.mono hle2) (by rw [W8]) (D2.of hsl2 (by omega) hst.all (fun e he => (hst.each e he).2)) (hst.mono hle2)))
 refine O9 ?_
 refine sE (A7 rfl) rfl (fun b301 => ?_)
 refine U5 ?_
 refine B9 ?_
 (refine S0 28 9 ?_; refine J4 (fun (x : Nat × Option Addr × Nat × List (List Value) × IM) => ⟨[(37, .int .i64 x.1), (36, .int .i64 ks.length), (35, .slice p ks.length c), (1, .string y), (3, .pointer (some ⟨b3, 0, none⟩)), (5, .pointer (some ⟨b4, 0, none⟩)), (6, .pointer (some ⟨b5, 0, none⟩)), (7, .pointer (some ⟨b301, 0, none⟩))], [.blk b301 [.int .i64 k, .string nm, .int .i64 num, .int .i64 tk, .slice pt tks.length ct, .int .i64 fk, .slice pf fks.length cf, .int .i64 lb, .slice x.2.1 x.1 x.2.2.1], .slc x.2.1 x.2.2.1 28 9 x.1 x.2.2.2.1.flatten, .blk b5 [.int .i64 0, .string ⟨⟨[]⟩⟩, .int .i64 0, .int .i64 0, .slice none 0 0, .int .i64 0, .slice none 0 0, .int .i64 0, .slice none 0 0], .blk b4 vc, .blk b3 [.int .i64 k, .string nm, .int .i64 num, .int .i64 tk, .slice pt tks.length ct, .int .i64 fk, .slice pf fks.length cf, .int .i64 lb, .slice p ks.length c]], x.2.2.2.2⟩) (fun x => x.1 ≤ ks.length ∧ B8 G x.2.2.2.2 ∧ D3 x.2.2.2.2 ((T3 y v ks).take x.1) x.2.2.2.1) (fun x => ks.length - x.1) (0, none, 0, [], G) ?_ ?_ ?_)
 (simp only [I3]; exact D9)
 (exact ⟨Nat.zero_le _, B8.refl _, by simp [D3]⟩)
 (rintro ⟨i, pn, cn, es', Gi⟩ ⟨hi, hle, hst⟩; simp only [] at hi hle hst ⊢; replace hsl := hsl.mono hle; replace hkl := hkl.mono hle; replace hv := hv.mono hle; replace hty := hty.mono hle; replace hfr := hfr.mono hle; have hsl' := hst.len; rw [List.length_take, W8] at hsl')
 refine tS (tR ?_)
 refine sB (J1 rfl rfl) rfl rfl (fun h327 => ?_) (fun h327 => ?_)
 refine sD (nS (tS (qT rfl (tK (nS (tS ?_))))))
 refine B9 ?_
 refine tS (tR ?_)
 (have hil : i < ks.length := (by omega); obtain ⟨bx, ox, e, rfl, hl, hat, hre, hgb⟩ := hsl.kidTm hkl (i := i) (by omega) (by omega); have hel := hre.len; have heo := hre.one; refine sP (B3 (j := i) rfl rfl rfl (by omega)) rfl rfl ?_)
 refine sL (A5 rfl rfl (hat _) hl) rfl rfl ?_
 refine sE (A7 rfl) rfl (fun b340 => ?_)
 refine sS rfl rfl rfl hel heo rfl ?_ (hu := by exact D5 hel.symm)
 refine sD (nS ?_)
 refine D4 D6 rfl ?_
 refine K2 (i := 2) (l' := [ff,ff,tt,ff,ff,ff,ff,ff,ff,ff]) rfl C9 (A5 rfl rfl (B2 (by repeat first | exact mH | apply mT)) hel) rfl (by kernel_rfl) rfl rfl ?_
 refine aL 4 rfl (A5 rfl rfl (B2 (by repeat first | exact mH | apply mT)) hvl) rfl ?_
 refine aP 0 rfl (A0 rfl) rfl ?_
 refine aL 1 rfl (A3 rfl rfl) rfl ?_
 refine aP 3 rfl (qM rfl) rfl ?_
 refine A4 5 ?_
 (refine F0 rfl rfl (ih ks[i] (List.getElem_mem (by omega)) Gi _ (Tm.smallL_mem hks _ (List.getElem_mem (by omega))) hre hv) rfl rfl rfl (fun u G1 hle1 hh => ?_); obtain ⟨uc, rfl, hru⟩ := hh; have hul := hru.len; have huo := hru.one; obtain ⟨v1, v2, v3, v4, v5, v6, v7, v8, v9, rfl⟩ := nine hul)
 refine A4 6 ?_
 (refine E0 rfl (C7 rfl rfl rfl (by omega) (by unfold maxLen; omega) rfl) rfl rfl ?_; rintro _ ⟨b353, rfl⟩)
 refine A4 7 ?_
 (refine Q2 rfl rfl rfl rfl rfl rfl (fun _ _ => by repeat (first | exact Sw.here | apply Sw.there)) (M9 (by repeat first | exact mH | apply mT)) rfl (fun u hu => List.all_eq_true.1 huo u hu) (by unfold maxLen; omega) (by omega) rfl rfl (by repeat (first | exact A8.nil | apply A8.dep (by decide +kernel) | apply A8.im (by decide +kernel) (by assumption) (by repeat first | exact mH | apply mT) | apply A8.blk (by decide +kernel) (by repeat (first | exact Pk.here | apply Pk.there)) (by repeat first | exact mH | apply mT))) (fun p7 c7 => ?_))
 refine aP 8 rfl (A0 rfl) rfl ?_
 refine A4 9 ?_
 refine Q6 rfl rfl rfl rfl rfl rfl rfl rfl (by decide +kernel) (by repeat first | exact Sw.here | apply Sw.there) (by rfl) ?_
 refine B5 (E3 (nS (tR ?_)))
 refine sP (I7 rfl rfl (by omega) (by omega)) rfl rfl ?_
 refine sQ (qM rfl) rfl (sD ?_)
 refine J3 (i + 1, p7, c7, es' ++ [[v1, v2, v3, v4, v5, v6, v7, v8, v9]], G1) ?_ ?_ ?_
 (simp only [I3]; exact D9)
 (dsimp only; exact ⟨by omega, hle.trans hle1, by rw [A2N (by omega)]; exact D3.snoc (hst.mono hle1) hru⟩)
 (show ks.length - (i + 1) < ks.length - i; omega)
 refine sD (nS (tS (cF rfl (M3 (M5 (N7 (M6 (nS (tS (tR (sL (A2 rfl rfl) rfl rfl (B1 ?_))))))))))))
 refine sD (nS ?_)
 (refine E9 (cs := es'.flatten) (by repeat (first | exact Pk.here | apply Pk.there)) (fun G2 hle2 hsl2 hno2 => ?_); obtain rfl : i = ks.length := (by omega))
 refine tT ?_
 refine A9 (rC rfl (A2 rfl rfl)) ?_
 (rw [if_neg (by rintro ⟨h1, h2⟩; first | omega | contradiction), if_neg (by rintro ⟨h1, h2⟩; first | omega | contradiction)]; rw [List.take_of_length_le (by rw [W8]; omega)] at hst; exact Q8.mk (B0.put hk hnum hlb (hty.mono hle2) (hfr.mono hle2) (by rw [W8]) (D2.of hsl2 (by omega) hst.all (fun e he => (hst.each e he).2)) (hst.mono hle2)))
section fin
variable {P : Program} {Γ : L4} {env : L7} {hp : List A6} {G : IM}
theorem A2g {r r2 r3 : ResultVar} {post : IM → Value → List A6 → Prop} {v v2 v3 : Value} {outs : List A6} (h : X5 P Γ ⟨env, hp, G⟩ r v) (h2 : X5 P Γ ⟨env, hp, G⟩ r2 v2) (h3 : X5 P Γ ⟨env, hp, G⟩ r3 v3) (ho : A1 hp outs) (hk : post G (.tuple ⟨[v, v2, v3]⟩) outs) :
  A0k P Γ [r, r2, r3] post .ret ⟨env, hp, G⟩ := A6v (.cons h (.cons h2 (.cons h3 .nil))) ho.spec hk
end fin
def CsP (bx : Nat) (e : Tm) (a b : Ty) (l : Int) : IM → Value → List A6 → Prop := fun G' v outs => ∃ cells, v = .agg ⟨cells⟩ ∧ outs = [.blk bx [.int .i64 (if N1 a b = true then l else l + 1)]] ∧ B0 G' (if N1 a b = true then e else J9 e a b (l + 1)) cells
theorem CsP.yes {G : IM} {bx : Nat} {e : Tm} {a b : Ty} {l : Int} {cells : List Value} (h : N1 a b = true) (hr : B0 G e cells) : CsP bx e a b l G (.agg ⟨cells⟩) [.blk bx [.int .i64 l]] := ⟨cells, rfl, by rw [if_pos h], by rw [if_pos h]; exact hr⟩
theorem CsP.no {G : IM} {bx : Nat} {e : Tm} {a b : Ty} {l : Int} {cells : List Value} (h : N1 a b = false) (hr : B0 G (J9 e a b (l + 1)) cells) : CsP bx e a b l G (.agg ⟨cells⟩) [.blk bx [.int .i64 (l + 1)]] := ⟨cells, rfl, by rw [if_neg (by rw [h]; decide)], by rw [if_neg (by rw [h]; decide)]; exact hr⟩
theorem B2g (bx : Nat) (e : Tm) (a b : Ty) (l : Int) (G : IM) (ce ca cb : List Value) (hl : -1000000000000 ≤ l ∧ l ≤ 1000000000000) (hre : B0 G e ce) (hra : B7 G a ca) (hrb : B7 G b cb) :
  Fn Tryz.prog 126 [.pointer (some ⟨bx, 0, none⟩), .agg ⟨ce⟩, .agg ⟨ca⟩, .agg ⟨cb⟩] [.blk bx [.int .i64 l]] G (CsP bx e a b l) := by
 have hel := hre.len
 have heo := hre.one
 have hS := A5G a b G ca cb hra hrb
 obtain ⟨v1, v2, v3, v4, v5, v6, v7, v8, v9, rfl⟩ := nine hel
 obtain ⟨ak, aks⟩ := a
 obtain ⟨bk, bks⟩ := b
 obtain ⟨pa, cca, ea, rfl, hka, _⟩ := hra.open
 obtain ⟨pb, ccb, eb, rfl, hkb, _⟩ := hrb.open
 refine C0 Tryz.func126 rfl Tryz.ntmps126 Tryz.results126 rfl ?_
 intro w0
 refine tS (tR ?_)
 refine sE (C5 rfl rfl) rfl (fun b3 => ?_)
 refine sE (C5 rfl rfl) rfl (fun b4 => ?_)
 refine sE (C5 rfl rfl) rfl (fun b5 => ?_)
 refine sE (A7 rfl) rfl (fun b6 => ?_)
 refine sD (nS (tS (tS (tR (sL (A2 rfl rfl) rfl rfl (sL (A2 rfl rfl) rfl rfl ?_))))))
 refine E7 rfl (hS) rfl rfl (fun h14 => ?_) (fun h14 => ?_)
 refine sD (nS (qT rfl (tS (tR ?_))))
 refine sL (A5 rfl rfl (B2 (by repeat first | exact mH | apply mT)) hel) rfl rfl ?_
 refine sS rfl rfl rfl hel heo rfl ?_ (hu := by exact D5 hel.symm)
 refine sD (nS (tT (rS ?_)))
 refine F9 (outs := [.blk bx [.int .i64 _]]) (rC rfl (A2 rfl rfl)) (A1.cons (by repeat (first | exact Pk.here | apply Pk.there)) A1.nil) ?_
 (exact CsP.yes (by assumption) hre)
 refine sD (nS (cF rfl (tK (nS (tS (tR (sQ (qM rfl) rfl ?_)))))))
 refine sQ (X3 rfl) rfl ?_
 refine sQ (A0 rfl) rfl (sL (A3 rfl rfl) rfl rfl ?_)
 refine sP (I7 rfl rfl (by omega) (by omega)) rfl rfl ?_
 refine sQ (X3 rfl) rfl ?_
 refine sQ (A0 rfl) rfl (B1 ?_)
 refine sD (nS (tS ?_))
 refine D4 D6 rfl ?_
 refine K2 (i := 6) (l' := [ff,ff,ff,ff,ff,ff,tt,ff,ff,ff]) rfl C9 (A5 rfl rfl (B2 (by repeat first | exact mH | apply mT)) hel) rfl (by kernel_rfl) rfl rfl ?_
 refine aL 0 rfl (A2 rfl rfl) rfl ?_
 refine aL 1 rfl (A2 rfl rfl) rfl ?_
 refine aP 2 rfl (qM rfl) rfl ?_
 refine aP 3 rfl (X3 rfl) rfl ?_
 refine aP 4 rfl (A0 rfl) rfl ?_
 refine aL 5 rfl (A3 rfl rfl) rfl ?_
 refine A4 7 ?_
 (refine E0 rfl (C7 rfl rfl rfl (by omega) (by unfold maxLen; omega) rfl) rfl rfl ?_; rintro _ ⟨b55, rfl⟩)
 refine aP 8 rfl (H6 rfl rfl) rfl ?_
 refine A4 9 ?_
 refine F8 rfl ?_
 refine B5 (nS ?_)
 (refine E9 (cs := [v1, v2, v3, v4, v5, v6, v7, v8, v9]) (by repeat (first | exact Pk.here | apply Pk.there)) (fun G2 hle2 hsl2 hno2 => ?_))
 refine tT ?_
 refine F9 (outs := [.blk bx [.int .i64 _]]) (rC rfl (A2 rfl rfl)) (A1.cons (by repeat (first | exact Pk.here | apply Pk.there)) A1.nil) ?_
 (exact CsP.no (by assumption) (B0.put (us := [e]) (es := [[v1, v2, v3, v4, v5, v6, v7, v8, v9]]) ⟨by decide, by decide⟩ ⟨by decide, by decide⟩ ⟨by omega, by omega⟩ (hrb.mono hle2) (hra.mono hle2) rfl (D2.of hsl2 rfl (by intro x hx; obtain rfl := List.mem_singleton.1 hx; rfl) (by intro x hx; obtain rfl := List.mem_singleton.1 hx; exact heo)) (by simp only [D3]; exact ⟨_, _, rfl, hre.mono hle2, rfl⟩)))
theorem A1a (e : Tm) (a b : Ty) (l : Int) (G : IM) (ce ca cb : List Value) (hl : E6 l) (he : B0 G e ce) (ha : B7 G a ca) (hb : B7 G b cb) : Fn Tryz.prog 170 [.agg ⟨ce⟩, .agg ⟨ca⟩, .agg ⟨cb⟩, .int .i64 l] [] G (Q8 (J9 e a b l)) := by
 have hel := he.len
 have heo := he.one
 obtain ⟨v1, v2, v3, v4, v5, v6, v7, v8, v9, rfl⟩ := nine hel
 obtain ⟨ak, aks⟩ := a
 obtain ⟨bk, bks⟩ := b
 obtain ⟨pa, cca, ea, rfl, _⟩ := ha.open
 obtain ⟨pb, ccb, eb, rfl, _⟩ := hb.open
 refine C0 Tryz.func170 rfl Tryz.ntmps170 Tryz.results170 rfl ?_
 intro w0
 refine tS (tR ?_)
 refine sE (C5 rfl rfl) rfl (fun b3 => ?_)
 refine sE (C5 rfl rfl) rfl (fun b4 => ?_)
 refine sE (C5 rfl rfl) rfl (fun b5 => ?_)
 refine sE (A7 rfl) rfl (fun b6 => ?_)
 refine sD (nS (tS (tR ?_)))
 refine sL (A5 rfl rfl (B2 (by repeat first | exact mH | apply mT)) rfl) rfl rfl ?_
 refine sL (A5 rfl rfl (B2 (by repeat first | exact mH | apply mT)) rfl) rfl rfl ?_
 refine sQ (qM rfl) rfl ?_
 refine sL (A5 rfl rfl (B2 (by repeat first | exact mH | apply mT)) rfl) rfl rfl ?_
 (refine I5 (C7 rfl rfl rfl (by omega) (by unfold maxLen; omega) rfl) rfl ?_; rintro _ ⟨b15, rfl⟩)
 refine sQ (H6 rfl rfl) rfl (B1 ?_)
 refine sD (nS ?_)
 (refine E9 (cs := [v1, v2, v3, v4, v5, v6, v7, v8, v9]) (by repeat (first | exact Pk.here | apply Pk.there)) (fun G2 hle2 hsl2 hno2 => ?_))
 refine tT ?_
 refine A9 (rC rfl (A2 rfl rfl)) ?_
 (exact Q8.mk (B0.put (us := [e]) (es := [[v1, v2, v3, v4, v5, v6, v7, v8, v9]]) ⟨by decide, by decide⟩ ⟨by decide, by decide⟩ hl (hb.mono hle2) (ha.mono hle2) rfl (D2.of hsl2 rfl (by intro x hx; obtain rfl := List.mem_singleton.1 hx; rfl) (by intro x hx; obtain rfl := List.mem_singleton.1 hx; exact heo)) (by simp only [D3]; exact ⟨_, _, rfl, he.mono hle2, rfl⟩)))
theorem A2O (k : Int) (p : Option Addr) (n c : Nat) (G : IM) : Fn Tryz.prog 171 [.int .i64 k, .slice p n c] [] G (H4 (.agg ⟨[.int .i64 k, .string ⟨⟨[]⟩⟩, .int .i64 0, .int .i64 0, .slice none 0 0, .int .i64 0, .slice none 0 0, .int .i64 0, .slice p n c]⟩) G) := by
 refine C0 Tryz.func171 rfl Tryz.ntmps171 Tryz.results171 rfl ?_
 intro w0
 refine tS (tR ?_)
 refine sE (A7 rfl) rfl (fun b3 => ?_)
 refine sD (nS (tS (tR (sQ (qM rfl) rfl (sQ (qM rfl) rfl (sQ (H6 rfl rfl) rfl (B1 ?_)))))))
 refine sD (nS (tT ?_))
 refine A9 (rC rfl (A2 rfl rfl)) ?_
 (exact ⟨rfl, rfl, rfl⟩)
theorem A4p (G : IM) {k : Int} (hk : E6 k) : B0 G (V9 k []) [.int .i64 k, .string ⟨⟨[]⟩⟩, .int .i64 0, .int .i64 0, .slice none 0 0, .int .i64 0, .slice none 0 0, .int .i64 0, .slice none 0 0] := A0C hk rfl (D2.nil _ _) rfl
theorem B2h (G : IM) : Fn Tryz.prog 169 [.bool true] [] G (Q8 (X7 (true = true))) := by
 refine C0 Tryz.func169 rfl Tryz.ntmps169 Tryz.results169 rfl ?_
 intro w0
 refine tS (tR ?_)
 refine sE (A7 rfl) rfl (fun b3 => ?_)
 refine sD (nS (tS (tS (tR (sQ (qM rfl) rfl (sD (nS (qT rfl (tS (tR ?_))))))))))
 refine H0 rfl ((A2O _ _ _ _ _)) rfl rfl ?_
 refine B1 ?_
 refine sD (nS (tT (rS ?_)))
 refine A9 (rC rfl (A2 rfl rfl)) ?_
 (exact Q8.mk (A4p _ ⟨by decide, by decide⟩))
theorem B2i (G : IM) : Fn Tryz.prog 169 [.bool false] [] G (Q8 (X7 (false = true))) := by
 refine C0 Tryz.func169 rfl Tryz.ntmps169 Tryz.results169 rfl ?_
 intro w0
 refine tS (tR ?_)
 refine sE (A7 rfl) rfl (fun b3 => ?_)
 refine sD (nS (tS (tS (tR (sQ (qM rfl) rfl (sD (nS (cF rfl (tK (nS (tS (tR ?_))))))))))))
 refine H0 rfl ((A2O _ _ _ _ _)) rfl rfl ?_
 refine B1 ?_
 refine sD (nS (tT ?_))
 refine A9 (rC rfl (A2 rfl rfl)) ?_
 (exact Q8.mk (A4p _ ⟨by decide, by decide⟩))
theorem A8c (b : Bool) (G : IM) : Fn Tryz.prog 169 [.bool b] [] G (Q8 (X7 (b = true))) := by
 cases b
 ·exact B2i G
 ·exact B2h G
theorem A8d {a b : Int} (h : 0 ≤ a ∧ a ≤ 999) (h' : 0 ≤ b ∧ b ≤ 999) : (a + b).tmod 1000 = (a + b) % 1000 := by
 rw [Int.tmod_eq_emod_of_nonneg (by omega)]
def W0 (k : Int) (ks : List Tm) : Option Tm :=
 if k = 6 then (if (kd ks 0).k = 5 then some (V8 (kd ks 0).nm (kd ks 1) (kd (kd ks 0).ks 0)) else none)
 else if k = 7 ∨ k = 8 then (if (kd ks 0).k = 2 ∧ (kd ks 1).k = 2 then some (if k = 7 then A1I (((kd ks 0).num + (kd ks 1).num) % 1000) else X7 ((kd ks 0).num < (kd ks 1).num)) else none)
 else if k = 9 then (if (kd ks 0).k = 3 then some (kd ks 1) else if (kd ks 0).k = 4 then some (kd ks 2) else none)
 else if k = 11 ∨ k = 12 then (if (kd ks 0).k = 10 then some (kd (kd ks 0).ks (k - 11).toNat) else none)
 else none
def Q9 (o : Option Tm) : IM → Value → List A6 → Prop := L8 fun G' v => ∃ u cells c, v = .tuple ⟨[.agg ⟨cells⟩, .int .i64 c]⟩ ∧ B0 G' u cells ∧ (∀ x, o = some x → c = 1 ∧ u = x) ∧ (o = none → c = 3)
theorem Q9.yes {G : IM} {o : Option Tm} {u : Tm} {cells : List Value} (h : o = some u) (hr : B0 G u cells) : Q9 o G (.tuple ⟨[.agg ⟨cells⟩, .int .i64 1]⟩) [] := by
 subst h; exact ⟨rfl, u, cells, 1, rfl, hr, fun x hx => (by cases hx; exact ⟨rfl, rfl⟩), fun h => (by cases h)⟩
theorem Q9.no {G : IM} {o : Option Tm} {u : Tm} {cells : List Value} (h : o = none) (hr : B0 G u cells) : Q9 o G (.tuple ⟨[.agg ⟨cells⟩, .int .i64 3]⟩) [] := by
 subst h; exact ⟨rfl, u, cells, 3, rfl, hr, fun x hx => (by cases hx), fun _ => rfl⟩
theorem L3 (G : IM) : B0 G J6 [.int .i64 0, .string ⟨⟨[]⟩⟩, .int .i64 0, .int .i64 0, .slice none 0 0, .int .i64 0, .slice none 0 0, .int .i64 0, .slice none 0 0] := (P2.zero G).R
theorem B2j (a b : Tm) (nm : ByteArray) (num : Int) (ty fr : Ty) (lb : Int) (G : IM) (cells : List Value) (hca : cv a) (hr : B0 G (.mk 6 nm num ty fr lb [a, b]) cells) : Fn Tryz.prog 143 [.agg ⟨cells⟩] [] G (Q9 (W0 6 [a, b])) := by
 have hsm := A19 a hca
 obtain ⟨ak, anm, anum, ⟨atk, atks⟩, ⟨afk, afks⟩, alb, aks⟩ := a
 obtain ⟨tk, tks⟩ := ty
 obtain ⟨fk, fks⟩ := fr
 obtain ⟨pt, ct, pf, cf, p, c, es, rfl, hk, hnum, hlb, hty, hfr, hsl, hkl⟩ := hr.open9
 obtain ⟨bx, ox, e0, rfl, hl0, hat0, hre0, hgb0⟩ := hsl.kidTm hkl (i := 0) (by simp) (by simp)
 replace hre0 : B0 G (.mk ak anm anum (.mk atk atks) (.mk afk afks) alb aks) e0 := hre0
 obtain ⟨apt, act, apf, acf, ap, ac, aes, rfl, hak, hanum, halb, haty, hafr, hasl, hakl⟩ := hre0.open9
 obtain ⟨_, _, e1, hp1, hl1, hat1, hre1, hgb1⟩ := hsl.kidTm hkl (i := 1) (by simp) (by simp)
 cases hp1
 replace hre1 : B0 G b e1 := hre1
 have ho1 := hre1.one
 obtain ⟨hN, _⟩ := hca.node
 have hops := hN.ops
 obtain ⟨_, _, _, _, hksm⟩ := Z5.1 hsm
 have h1 : ak = 5 → aks.length = 1 := fun h => by rw [h] at hops; have : D0 5 = 1 := rfl; omega
 have hL : ([Tm.mk ak anm anum (.mk atk atks) (.mk afk afks) alb aks, b] : List Tm).length = 2 := rfl
 rw [show W0 6 [Tm.mk ak anm anum (.mk atk atks) (.mk afk afks) alb aks, b] = (if ak = 5 then some (V8 anm b (kd aks 0)) else none) from rfl]
 refine C0 Tryz.func143 rfl Tryz.ntmps143 Tryz.results143 rfl ?_
 intro w0
 refine tS (tR ?_)
 refine sE (C5 rfl rfl) rfl (fun b3 => ?_)
 refine sE (A7 rfl) rfl (fun b4 => ?_)
 refine sQ (qA rfl) rfl (sD (nS (tS (tR (sQ (H6 rfl rfl) rfl ?_)))))
 refine sE (A7 rfl) rfl (fun b11 => ?_)
 refine B1 ?_
 refine sD (nS (tS (tS (tR (sQ (A0 rfl) rfl (sL (A3 rfl rfl) rfl rfl (sQ (H8 rfl rfl) rfl ?_)))))))
 refine sP (A2Z rfl rfl (by omega)) rfl rfl ?_
 refine sD (nS (qT rfl (tR (sQ (A0 rfl) rfl (sL (A3 rfl rfl) rfl rfl ?_)))))
 refine sP (B3 (j := 0) rfl rfl rfl (by simp)) rfl rfl ?_
 refine sL (A5 rfl rfl (hat0 _) rfl) rfl rfl ?_
 refine B1 ?_
 refine sD (nS (tS (tS (tR (sQ (A0 rfl) rfl (sL (A3 rfl rfl) rfl rfl (sD (nS ?_))))))))
 refine B9 ?_
 refine tS (tR ?_)
 refine sP (V5 rfl rfl (by omega)) rfl rfl ?_
 refine sQ (qA rfl) rfl (sD (nS (qT rfl (tS (tR (sQ (A0 rfl) rfl (sL (A3 rfl rfl) rfl rfl ?_)))))))
 refine sB (qE rfl rfl) rfl rfl (fun h52 => ?_) (fun h52 => ?_)
 refine sD (nS (qT rfl (tS ?_)))
 (have hq : ak = 5 := (by omega); have hq1 := h1 hq; obtain ⟨bq, oq, e3, rfl, hl3, hat3, hre3, hgb3⟩ := hasl.kidTm hakl (i := 0) (by omega) (by omega); have hS := B2f anm b e1 aks[0] G e3 (Tm.smallL_mem hksm _ (List.getElem_mem (by omega))) hre3 hre1; refine D4 D6 rfl ?_)
 refine I6 (i := 0) (l' := [tt,ff,ff,ff,ff,ff,ff,ff,ff,ff,ff,ff,ff]) rfl C9 (A0 rfl) rfl (by kernel_rfl) rfl rfl ?_
 refine aL 1 rfl (A3 rfl rfl) rfl ?_
 refine aP 2 rfl (B3 (j := 0) rfl rfl rfl (by omega)) rfl ?_
 refine aL 3 rfl (A5 rfl rfl (hat3 _) hl3) rfl ?_
 refine aP 4 rfl (A0 rfl) rfl ?_
 refine aL 5 rfl (A3 rfl rfl) rfl ?_
 refine aP 6 rfl (A0 rfl) rfl ?_
 refine aL 7 rfl (A3 rfl rfl) rfl ?_
 refine aP 8 rfl (B3 (j := 1) rfl rfl rfl (by simp)) rfl ?_
 refine aL 9 rfl (A5 rfl rfl (hat1 _) hl1) rfl ?_
 refine A4 10 ?_
 (refine F0 rfl rfl hS rfl rfl rfl (fun u G1 hle1 hh => ?_); obtain ⟨uc, rfl, hru⟩ := hh; have hul := hru.len; have huo := hru.one)
 refine A4 11 ?_
 (refine oS rfl rfl rfl rfl hul huo rfl rfl ?_ (hu := by exact D5 hul.symm))
 refine aP 12 rfl (qA rfl) rfl ?_
 refine B5 (nS (tT (rB (rS ?_))))
 refine H7 (rC rfl (A5 rfl rfl (B2 (by repeat first | exact mH | apply mT)) hul)) (rT rfl) ?_
 (exact Q9.yes (by rw [if_pos (by omega)]; unfold kd; rw [List.getD_eq_getElem?_getD, List.getElem?_eq_getElem (by omega), Option.getD_some]) hru)
 refine sD (nS (cF rfl (tK (E3 (nS (tS (tR (sQ (H6 rfl rfl) rfl (B1 ?_)))))))))
 refine sQ (qA rfl) rfl (sD (nS (tT ?_)))
 refine H7 (rC rfl (A2 rfl rfl)) (rT rfl) ?_
 (exact Q9.no (by rw [if_neg (by omega)]) (L3 _))
theorem A8e (k : Int) (a b : Tm) (nm : ByteArray) (num : Int) (ty fr : Ty) (lb : Int) (G : IM) (cells : List Value) (hk78 : k = 7 ∨ k = 8) (hca : cv a) (hcb : cv b) (hr : B0 G (.mk k nm num ty fr lb [a, b]) cells) : Fn Tryz.prog 143 [.agg ⟨cells⟩] [] G (Q9 (W0 k [a, b])) := by
 obtain ⟨ak, anm, anum, ⟨atk, atks⟩, ⟨afk, afks⟩, alb, aks⟩ := a
 obtain ⟨tk, tks⟩ := ty
 obtain ⟨fk, fks⟩ := fr
 obtain ⟨pt, ct, pf, cf, p, c, es, rfl, hk, hnum, hlb, hty, hfr, hsl, hkl⟩ := hr.open9
 obtain ⟨bx, ox, e0, rfl, hl0, hat0, hre0, hgb0⟩ := hsl.kidTm hkl (i := 0) (by simp) (by simp)
 replace hre0 : B0 G (.mk ak anm anum (.mk atk atks) (.mk afk afks) alb aks) e0 := hre0
 obtain ⟨apt, act, apf, acf, ap, ac, aes, rfl, hak, hanum, halb, haty, hafr, hasl, hakl⟩ := hre0.open9
 obtain ⟨bk, bnm, bnum, ⟨btk, btks⟩, ⟨bfk, bfks⟩, blb, bks⟩ := b
 obtain ⟨_, _, e1, hp1, hl1, hat1, hre1, hgb1⟩ := hsl.kidTm hkl (i := 1) (by simp) (by simp)
 cases hp1
 replace hre1 : B0 G (.mk bk bnm bnum (.mk btk btks) (.mk bfk bfks) blb bks) e1 := hre1
 obtain ⟨bpt, bct, bpf, bcf, bp, bc, bes, rfl, hbk, hbnum, hblb, hbty, hbfr, hbsl, hbkl⟩ := hre1.open9
 obtain ⟨hN, _⟩ := hca.node
 obtain ⟨hM, _⟩ := hcb.node
 obtain ⟨hn1, hn2⟩ := hN.num0
 obtain ⟨hm1, hm2⟩ := hM.num0
 have hL : ([Tm.mk ak anm anum (.mk atk atks) (.mk afk afks) alb aks, Tm.mk bk bnm bnum (.mk btk btks) (.mk bfk bfks) blb bks] : List Tm).length = 2 := rfl
 have hR : W0 k [Tm.mk ak anm anum (.mk atk atks) (.mk afk afks) alb aks, Tm.mk bk bnm bnum (.mk btk btks) (.mk bfk bfks) blb bks] = (if ak = 2 ∧ bk = 2 then some (if k = 7 then A1I ((anum + bnum) % 1000) else X7 (anum < bnum)) else none) := by
  unfold W0; rw [if_neg (by omega), if_pos hk78]; rfl
 rw [hR]
 have htm : (anum + bnum).tmod 1000 = (anum + bnum) % 1000 := A8d ⟨hn1, hn2⟩ ⟨hm1, hm2⟩
 have hb : E6 ((anum + bnum) % 1000) := ⟨by omega, by omega⟩
 refine C0 Tryz.func143 rfl Tryz.ntmps143 Tryz.results143 rfl ?_
 intro w0
 refine tS (tR ?_)
 refine sE (C5 rfl rfl) rfl (fun b3 => ?_)
 refine sE (A7 rfl) rfl (fun b4 => ?_)
 refine sQ (qA rfl) rfl (sD (nS (tS (tR (sQ (H6 rfl rfl) rfl ?_)))))
 refine sE (A7 rfl) rfl (fun b11 => ?_)
 refine B1 ?_
 refine sD (nS (tS (tS (tR (sQ (A0 rfl) rfl (sL (A3 rfl rfl) rfl rfl (sQ (H8 rfl rfl) rfl ?_)))))))
 refine sP (A2Z rfl rfl (by omega)) rfl rfl ?_
 refine sD (nS (qT rfl (tR (sQ (A0 rfl) rfl (sL (A3 rfl rfl) rfl rfl ?_)))))
 refine sP (B3 (j := 0) rfl rfl rfl (by simp)) rfl rfl ?_
 refine sL (A5 rfl rfl (hat0 _) rfl) rfl rfl ?_
 refine B1 ?_
 refine sD (nS (tS (tS (tR (sQ (A0 rfl) rfl (sL (A3 rfl rfl) rfl rfl (sD (nS ?_))))))))
 refine B9 ?_
 refine tS (tR ?_)
 refine sP (I2 rfl rfl (by omega)) rfl rfl ?_
 refine sQ (qA rfl) rfl (sD (nS (cF rfl (tS (tS (tR ?_))))))
 refine sB (qE rfl rfl) rfl rfl (fun h51 => ?_) (fun h51 => ?_)
 refine sQ (qA rfl) rfl (sD (nS (qT rfl (tK (nS (qT rfl (tS (tR (sQ (A0 rfl) rfl (sL (A3 rfl rfl) rfl rfl ?_))))))))))
 refine sP (B3 (j := 1) rfl rfl rfl (by simp)) rfl rfl ?_
 refine sL (A5 rfl rfl (hat1 _) rfl) rfl rfl ?_
 refine sE (A7 rfl) rfl (fun b65 => ?_)
 refine B1 ?_
 refine sD (nS ?_)
 refine B9 ?_
 refine tS (tR (sQ (A0 rfl) rfl (sL (A3 rfl rfl) rfl rfl ?_)))
 refine sB (N9 rfl rfl) rfl rfl (fun h74 => ?_) (fun h74 => ?_)
 refine A0m ?_
 refine H7 (rC rfl (A2 rfl rfl)) (rT rfl) ?_
 (exact Q9.no (by rw [if_neg (by omega)]) (L3 _))
 refine sQ (qM rfl) rfl (sQ (A0 rfl) rfl (sL (A3 rfl rfl) rfl rfl ?_))
 refine sB (N9 rfl rfl) rfl rfl (fun h101 => ?_) (fun h101 => ?_)
 refine S9 ?_
 refine H7 (rC rfl (A2 rfl rfl)) (rT rfl) ?_
 (exact Q9.no (by rw [if_neg (by omega)]) (L3 _))
 refine sQ (D7 rfl rfl) rfl (sQ (qA rfl) rfl (sD (nS (cF rfl (tS (tR (sQ (A0 rfl) rfl (sL (A3 rfl rfl) rfl rfl ?_))))))))
 refine sP (V5 rfl rfl (by omega)) rfl rfl ?_
 refine A3U ?_
 refine sP (I7 rfl rfl (by omega) (by omega)) rfl rfl ?_
 refine sP (A2Y rfl rfl (by omega)) rfl rfl ?_
 refine sQ (H6 rfl rfl) rfl ?_
 (rw [htm]; refine B1 ?_)
 refine sQ (qA rfl) rfl (sD (nS (tT (rB (rB (rS ?_))))))
 refine H7 (rC rfl (A2 rfl rfl)) (rT rfl) ?_
 (exact Q9.yes (u := A1I (HMod.hMod (anum + bnum) 1000)) (by rw [if_pos ⟨by omega, by omega⟩, if_pos (by omega)]) (B0.put (us := []) ⟨by decide, by decide⟩ hb ⟨by decide, by decide⟩ (A05 _) (A05 _) rfl (D2.nil _ _) rfl))
 refine sQ (qA rfl) rfl (sD (nS (cF rfl (tR ?_))))
 refine sP (V5 rfl rfl (by omega)) rfl rfl ?_
 refine sQ (qA rfl) rfl (sD (nS (qT rfl (tS (tR (sQ (A0 rfl) rfl (sL (A3 rfl rfl) rfl rfl ?_)))))))
 refine sP (B3 (j := 1) rfl rfl rfl (by simp)) rfl rfl ?_
 refine sL (A5 rfl rfl (hat1 _) rfl) rfl rfl ?_
 refine sE (A7 rfl) rfl (fun b170 => ?_)
 refine B1 ?_
 refine sD (nS ?_)
 refine B9 ?_
 refine tS (tR (sQ (A0 rfl) rfl (sL (A3 rfl rfl) rfl rfl ?_)))
 refine sB (N9 rfl rfl) rfl rfl (fun h179 => ?_) (fun h179 => ?_)
 refine A0m ?_
 refine H7 (rC rfl (A2 rfl rfl)) (rT rfl) ?_
 (exact Q9.no (by rw [if_neg (by omega)]) (L3 _))
 refine sQ (qM rfl) rfl (sQ (A0 rfl) rfl (sL (A3 rfl rfl) rfl rfl ?_))
 refine sB (N9 rfl rfl) rfl rfl (fun h206 => ?_) (fun h206 => ?_)
 refine S9 ?_
 refine H7 (rC rfl (A2 rfl rfl)) (rT rfl) ?_
 (exact Q9.no (by rw [if_neg (by omega)]) (L3 _))
 refine sQ (D7 rfl rfl) rfl (sQ (qA rfl) rfl (sD (nS (cF rfl (tS (tR (sQ (A0 rfl) rfl (sL (A3 rfl rfl) rfl rfl ?_))))))))
 refine sP (I2 rfl rfl (by omega)) rfl rfl ?_
 refine A3U ?_
 (refine sB (J1 rfl rfl) rfl rfl (fun h246 => ?_) (fun h246 => ?_))
 (refine E5 rfl (A8c _ _) rfl rfl (fun u G1 hle1 hh => ?_); obtain ⟨uc, rfl, hru⟩ := hh; have hul := hru.len; have huo := hru.one)
 refine sS rfl rfl rfl hul huo rfl ?_ (hu := by exact D5 hul.symm)
 refine sQ (qA rfl) rfl (sD (nS (tT (rB (rB (rS ?_))))))
 refine H7 (rC rfl (A5 rfl rfl (B2 (by repeat first | exact mH | apply mT)) hul)) (rT rfl) ?_
 (exact Q9.yes (by rw [if_pos ⟨by omega, by omega⟩, if_neg (by omega)]; unfold X7; rw [if_pos (by omega), if_pos rfl]) hru)
 (refine E5 rfl (A8c _ _) rfl rfl (fun u G1 hle1 hh => ?_); obtain ⟨uc, rfl, hru⟩ := hh; have hul := hru.len; have huo := hru.one)
 refine sS rfl rfl rfl hul huo rfl ?_ (hu := by exact D5 hul.symm)
 refine sQ (qA rfl) rfl (sD (nS (tT (rB (rB (rS ?_))))))
 refine H7 (rC rfl (A5 rfl rfl (B2 (by repeat first | exact mH | apply mT)) hul)) (rT rfl) ?_
 (exact Q9.yes (by rw [if_pos ⟨by omega, by omega⟩, if_neg (by omega)]; unfold X7; rw [if_neg (by omega), if_neg (by decide)]) hru)
theorem B2k (a b c0 : Tm) (nm : ByteArray) (num : Int) (ty fr : Ty) (lb : Int) (G : IM) (cells : List Value) (hr : B0 G (.mk 9 nm num ty fr lb [a, b, c0]) cells) : Fn Tryz.prog 143 [.agg ⟨cells⟩] [] G (Q9 (W0 9 [a, b, c0])) := by
 obtain ⟨ak, anm, anum, ⟨atk, atks⟩, ⟨afk, afks⟩, alb, aks⟩ := a
 obtain ⟨tk, tks⟩ := ty
 obtain ⟨fk, fks⟩ := fr
 obtain ⟨pt, ct, pf, cf, p, c, es, rfl, hk, hnum, hlb, hty, hfr, hsl, hkl⟩ := hr.open9
 obtain ⟨bx, ox, e0, rfl, hl0, hat0, hre0, hgb0⟩ := hsl.kidTm hkl (i := 0) (by simp) (by simp)
 replace hre0 : B0 G (.mk ak anm anum (.mk atk atks) (.mk afk afks) alb aks) e0 := hre0
 obtain ⟨apt, act, apf, acf, ap, ac, aes, rfl, hak, hanum, halb, haty, hafr, hasl, hakl⟩ := hre0.open9
 obtain ⟨_, _, e1, hp1, hl1, hat1, hre1, hgb1⟩ := hsl.kidTm hkl (i := 1) (by simp) (by simp)
 cases hp1
 replace hre1 : B0 G b e1 := hre1
 have ho1 := hre1.one
 obtain ⟨_, _, e2, hp2, hl2, hat2, hre2, hgb2⟩ := hsl.kidTm hkl (i := 2) (by simp) (by simp)
 cases hp2
 replace hre2 : B0 G c0 e2 := hre2
 have ho2 := hre2.one
 have hL : ([Tm.mk ak anm anum (.mk atk atks) (.mk afk afks) alb aks, b, c0] : List Tm).length = 3 := rfl
 rw [show W0 9 [Tm.mk ak anm anum (.mk atk atks) (.mk afk afks) alb aks, b, c0] = (if ak = 3 then some b else if ak = 4 then some c0 else none) from rfl]
 refine C0 Tryz.func143 rfl Tryz.ntmps143 Tryz.results143 rfl ?_
 intro w0
 refine tS (tR ?_)
 refine sE (C5 rfl rfl) rfl (fun b3 => ?_)
 refine sE (A7 rfl) rfl (fun b4 => ?_)
 refine sQ (qA rfl) rfl (sD (nS (tS (tR (sQ (H6 rfl rfl) rfl ?_)))))
 refine sE (A7 rfl) rfl (fun b11 => ?_)
 refine B1 ?_
 refine sD (nS (tS (tS (tR (sQ (A0 rfl) rfl (sL (A3 rfl rfl) rfl rfl (sQ (H8 rfl rfl) rfl ?_)))))))
 refine sP (A2Z rfl rfl (by omega)) rfl rfl ?_
 refine sD (nS (qT rfl (tR (sQ (A0 rfl) rfl (sL (A3 rfl rfl) rfl rfl ?_)))))
 refine sP (B3 (j := 0) rfl rfl rfl (by simp)) rfl rfl ?_
 refine sL (A5 rfl rfl (hat0 _) rfl) rfl rfl ?_
 refine B1 ?_
 refine sD (nS (tS (tS (tR (sQ (A0 rfl) rfl (sL (A3 rfl rfl) rfl rfl (sD (nS ?_))))))))
 refine B9 ?_
 refine tS (tR ?_)
 refine sP (I2 rfl rfl (by omega)) rfl rfl ?_
 refine sQ (qA rfl) rfl (sD (nS (cF rfl (tS (tS (tR ?_))))))
 refine sP (I2 rfl rfl (by omega)) rfl rfl ?_
 refine sQ (qA rfl) rfl (sD (nS (cF rfl (tR ?_))))
 refine sP (I2 rfl rfl (by omega)) rfl rfl ?_
 refine sQ (qA rfl) rfl (sD (nS (cF rfl (tS (tR ?_)))))
 refine sP (V5 rfl rfl (by omega)) rfl rfl ?_
 refine sQ (qA rfl) rfl (sD (nS (qT rfl (tS (tR (sQ (A0 rfl) rfl (sL (A3 rfl rfl) rfl rfl (sD (nS ?_)))))))))
 refine B9 (tS (tR (sB (qE rfl rfl) rfl rfl (fun h78 => ?_) (fun h78 => ?_))))
 refine sQ (qA rfl) rfl (sD (nS (qT rfl (tS (tR (sQ (A0 rfl) rfl (sL (A3 rfl rfl) rfl rfl ?_)))))))
 refine sP (B3 (j := 1) rfl rfl rfl (by simp)) rfl rfl ?_
 refine sL (A5 rfl rfl (hat1 _) hl1) rfl rfl ?_
 refine sS rfl rfl rfl hl1 ho1 rfl ?_ (hu := by exact D5 hl1.symm)
 refine sQ (qA rfl) rfl (sD (nS (tT (rB (rB (rS ?_))))))
 refine H7 (rC rfl (A5 rfl rfl (B2 (by repeat first | exact mH | apply mT)) hl1)) (rT rfl) ?_
 (exact Q9.yes (by rw [if_pos (by omega)]) hre1)
 refine sQ (qA rfl) rfl (sD (nS (cF rfl (tS (tR ?_)))))
 refine sB (qE rfl rfl) rfl rfl (fun h105 => ?_) (fun h105 => ?_)
 refine sQ (qA rfl) rfl (sD (nS (qT rfl (tS (tR (sQ (A0 rfl) rfl (sL (A3 rfl rfl) rfl rfl ?_)))))))
 refine sP (B3 (j := 2) rfl rfl rfl (by simp)) rfl rfl ?_
 refine sL (A5 rfl rfl (hat2 _) hl2) rfl rfl ?_
 refine sS rfl rfl rfl hl2 ho2 rfl ?_ (hu := by exact D5 hl2.symm)
 refine sQ (qA rfl) rfl (sD (nS (tT (rB (rB (rS ?_))))))
 refine H7 (rC rfl (A5 rfl rfl (B2 (by repeat first | exact mH | apply mT)) hl2)) (rT rfl) ?_
 (exact Q9.yes (by rw [if_neg (by omega), if_pos (by omega)]) hre2)
 refine O9 ?_
 refine H7 (rC rfl (A2 rfl rfl)) (rT rfl) ?_
 (exact Q9.no (by rw [if_neg (by omega), if_neg (by omega)]) (L3 _))
theorem A8f (k : Int) (a : Tm) (nm : ByteArray) (num : Int) (ty fr : Ty) (lb : Int) (G : IM) (cells : List Value) (hk1 : k = 11 ∨ k = 12) (hca : cv a) (hr : B0 G (.mk k nm num ty fr lb [a]) cells) : Fn Tryz.prog 143 [.agg ⟨cells⟩] [] G (Q9 (W0 k [a])) := by
 obtain ⟨ak, anm, anum, ⟨atk, atks⟩, ⟨afk, afks⟩, alb, aks⟩ := a
 obtain ⟨tk, tks⟩ := ty
 obtain ⟨fk, fks⟩ := fr
 obtain ⟨pt, ct, pf, cf, p, c, es, rfl, hk, hnum, hlb, hty, hfr, hsl, hkl⟩ := hr.open9
 obtain ⟨bx, ox, e0, rfl, hl0, hat0, hre0, hgb0⟩ := hsl.kidTm hkl (i := 0) (by simp) (by simp)
 replace hre0 : B0 G (.mk ak anm anum (.mk atk atks) (.mk afk afks) alb aks) e0 := hre0
 obtain ⟨apt, act, apf, acf, ap, ac, aes, rfl, hak, hanum, halb, haty, hafr, hasl, hakl⟩ := hre0.open9
 obtain ⟨hN, _⟩ := hca.node
 have hops := hN.ops
 have h2 : ak = 10 → aks.length = 2 := fun h => by rw [h] at hops; have : D0 10 = 2 := rfl; omega
 have hL : ([Tm.mk ak anm anum (.mk atk atks) (.mk afk afks) alb aks] : List Tm).length = 1 := rfl
 have hR : W0 k [Tm.mk ak anm anum (.mk atk atks) (.mk afk afks) alb aks] = (if ak = 10 then some (kd aks (k - 11).toNat) else none) := by
  unfold W0; rw [if_neg (by omega), if_neg (by omega), if_neg (by omega), if_pos hk1]; rfl
 rw [hR]
 obtain ⟨i, hi⟩ : ∃ i : Nat, (k - 11).toNat = i := ⟨_, rfl⟩
 rw [hi]
 refine C0 Tryz.func143 rfl Tryz.ntmps143 Tryz.results143 rfl ?_
 intro w0
 refine tS (tR ?_)
 refine sE (C5 rfl rfl) rfl (fun b3 => ?_)
 refine sE (A7 rfl) rfl (fun b4 => ?_)
 refine sQ (qA rfl) rfl (sD (nS (tS (tR (sQ (H6 rfl rfl) rfl ?_)))))
 refine sE (A7 rfl) rfl (fun b11 => ?_)
 refine B1 ?_
 refine sD (nS (tS (tS (tR (sQ (A0 rfl) rfl (sL (A3 rfl rfl) rfl rfl (sQ (H8 rfl rfl) rfl ?_)))))))
 refine sP (A2Z rfl rfl (by omega)) rfl rfl ?_
 refine sD (nS (qT rfl (tR (sQ (A0 rfl) rfl (sL (A3 rfl rfl) rfl rfl ?_)))))
 refine sP (B3 (j := 0) rfl rfl rfl (by simp)) rfl rfl ?_
 refine sL (A5 rfl rfl (hat0 _) rfl) rfl rfl ?_
 refine B1 ?_
 refine sD (nS (tS (tS (tR (sQ (A0 rfl) rfl (sL (A3 rfl rfl) rfl rfl (sD (nS ?_))))))))
 refine B9 ?_
 refine tS (tR ?_)
 refine sP (I2 rfl rfl (by omega)) rfl rfl ?_
 refine sQ (qA rfl) rfl (sD (nS (cF rfl (tS (tS (tR ?_))))))
 refine sP (I2 rfl rfl (by omega)) rfl rfl ?_
 refine sQ (qA rfl) rfl (sD (nS (cF rfl (tR ?_))))
 refine sP (I2 rfl rfl (by omega)) rfl rfl ?_
 refine sQ (qA rfl) rfl (sD (nS (cF rfl (tS (tR ?_)))))
 refine sP (I2 rfl rfl (by omega)) rfl rfl ?_
 refine sQ (qA rfl) rfl (sD (nS (cF rfl (tS (tS (tR ?_))))))
 refine sB (qE rfl rfl) rfl rfl (fun h72 => ?_) (fun h72 => ?_)
 refine sQ (qA rfl) rfl (sD (nS (qT rfl (tK (nS (qT rfl (tS (tR (sQ (A0 rfl) rfl (sL (A3 rfl rfl) rfl rfl ?_))))))))))
 refine sB (qE rfl rfl) rfl rfl (fun h84 => ?_) (fun h84 => ?_)
 refine sD (nS (qT rfl (tS ?_)))
 (have hq : ak = 10 := (by omega); have hq1 := h2 hq; obtain ⟨bq, oq, e3, rfl, hl3, hat3, hre3, hgb3⟩ := hasl.kidTm hakl (i := i) (by omega) (by omega); have ho3 := hre3.one)
 refine tR (sQ (A0 rfl) rfl (sL (A3 rfl rfl) rfl rfl (sQ (A0 rfl) rfl (sL (A3 rfl rfl) rfl rfl ?_))))
 refine sP (O7 rfl rfl (by omega) (by omega)) rfl rfl ?_
 (rw [show (k - 11 : Int) = ((i : Nat) : Int) from (by omega)]; refine sP (B3 (j := i) rfl rfl rfl (by omega)) rfl rfl ?_)
 refine sL (A5 rfl rfl (hat3 _) hl3) rfl rfl ?_
 refine sS rfl rfl rfl hl3 ho3 rfl ?_ (hu := by exact D5 hl3.symm)
 refine sQ (qA rfl) rfl (sD (nS (tT (rB (rS ?_)))))
 refine H7 (rC rfl (A5 rfl rfl (B2 (by repeat first | exact mH | apply mT)) hl3)) (rT rfl) ?_
 (exact Q9.yes (by rw [if_pos (by omega)]; unfold kd; rw [List.getD_eq_getElem?_getD, List.getElem?_eq_getElem (by omega), Option.getD_some]) hre3)
 refine sD (nS (cF rfl (tK (E3 (nS (tS (tR (sQ (H6 rfl rfl) rfl (B1 ?_)))))))))
 refine sQ (qA rfl) rfl (sD (nS (tT ?_)))
 refine H7 (rC rfl (A2 rfl rfl)) (rT rfl) ?_
 (exact Q9.no (by rw [if_neg (by omega)]) (L3 _))
 refine sQ (qA rfl) rfl (sD (nS (cF rfl (tR ?_))))
 refine sP (V5 rfl rfl (by omega)) rfl rfl ?_
 refine sQ (qA rfl) rfl (sD (nS (qT rfl (tS (tR (sQ (A0 rfl) rfl (sL (A3 rfl rfl) rfl rfl ?_)))))))
 refine sB (qE rfl rfl) rfl rfl (fun h137 => ?_) (fun h137 => ?_)
 refine sD (nS (qT rfl (tS ?_)))
 (have hq : ak = 10 := (by omega); have hq1 := h2 hq; obtain ⟨bq, oq, e3, rfl, hl3, hat3, hre3, hgb3⟩ := hasl.kidTm hakl (i := i) (by omega) (by omega); have ho3 := hre3.one)
 refine tR (sQ (A0 rfl) rfl (sL (A3 rfl rfl) rfl rfl (sQ (A0 rfl) rfl (sL (A3 rfl rfl) rfl rfl ?_))))
 refine sP (O7 rfl rfl (by omega) (by omega)) rfl rfl ?_
 (rw [show (k - 11 : Int) = ((i : Nat) : Int) from (by omega)]; refine sP (B3 (j := i) rfl rfl rfl (by omega)) rfl rfl ?_)
 refine sL (A5 rfl rfl (hat3 _) hl3) rfl rfl ?_
 refine sS rfl rfl rfl hl3 ho3 rfl ?_ (hu := by exact D5 hl3.symm)
 refine sQ (qA rfl) rfl (sD (nS (tT (rB (rS ?_)))))
 refine H7 (rC rfl (A5 rfl rfl (B2 (by repeat first | exact mH | apply mT)) hl3)) (rT rfl) ?_
 (exact Q9.yes (by rw [if_pos (by omega)]; unfold kd; rw [List.getD_eq_getElem?_getD, List.getElem?_eq_getElem (by omega), Option.getD_some]) hre3)
 refine sD (nS (cF rfl (tK (E3 (nS (tS (tR (sQ (H6 rfl rfl) rfl (B1 ?_)))))))))
 refine sQ (qA rfl) rfl (sD (nS (tT ?_)))
 refine H7 (rC rfl (A2 rfl rfl)) (rT rfl) ?_
 (exact Q9.no (by rw [if_neg (by omega)]) (L3 _))
section
variable {P : Program} {Γ : L4} {K : Po} {ops : Array Oper} {env : L7} {hp : List A6} {G : IM}
theorem A0X {H : List (Nat × Nat)} {fuel j : Nat} {listed : List Bool} {hp' : List A6} {p : Option Addr} {c el sz n : Nat} {cs : List Value} (hk : Pk hp (.slc p c el sz n cs) hp')
  (h : ∀ G', B8 G G' → Sl G' p n c sz cs → (∀ b ∈ I9 p, G b = none ∧ G' b ≠ none) → T5 P Γ ops K H fuel listed j ⟨env, hp', G'⟩) : T5 P Γ ops K H fuel listed j ⟨env, hp, G⟩ :=
 ⟨fun a w hs => let ⟨G', h1, h2, h3, h4⟩ := hs.freeze hk; (h G' h2 h3 h4).run a w h1⟩
end
theorem B7.kids {G : IM} {t : Ty} {a : Value} {p : Option Addr} {n c : Nat} (h : B7 G t [a, .slice p n c]) : ∃ es, D2 G p t.ks.length c 2 es ∧ C6 G t.ks es := by
 obtain ⟨p', c', es, he, _, h1, h2⟩ := h.open
 simp only [List.cons.injEq, Value.slice.injEq, and_true] at he
 obtain ⟨_, rfl, _, rfl⟩ := he
 exact ⟨es, h1, h2⟩
def W9 (k : Int) (ty fr : Ty) (lb : Int) (ks : List Tm) : Stp :=
 if k = 6 then
  (if O4 (kd ks 0) = true ∧ (kd ks 0).ty.k = 4 then (J9 (V9 6 [kd (kd ks 0).ks 0, J9 (kd ks 1) (kt (kd ks 0).ty.ks 0) (kt (kd ks 0).fr.ks 0) (-(kd ks 0).lb)]) (kt (kd ks 0).fr.ks 1) (kt (kd ks 0).ty.ks 1) (kd ks 0).lb, 1, 0) else P5)
 else if k = 11 ∨ k = 12 then
  (if O4 (kd ks 0) = true ∧ (kd ks 0).ty.k = 5 then (J9 (V9 k [kd (kd ks 0).ks 0]) (kt (kd ks 0).fr.ks (k - 11).toNat) (kt (kd ks 0).ty.ks (k - 11).toNat) (kd ks 0).lb, 1, 0) else P5)
 else if k = 14 then
  (if fr.k = ty.k then (kd ks 0, 1, 0)
   else if ty.k = 1 then (J9 (J9 (kd ks 0) fr (R9 fr) lb) (R9 fr) ty lb, 1, 0)
   else if S3 ty = false then (J9 (J9 (kd ks 0) fr (R9 ty) lb) (R9 ty) ty lb, 1, 0)
   else if inj (kd ks 0) = false then P5
   else if (kd ks 0).fr.k = ty.k then (kd (kd ks 0).ks 0, 1, 0)
   else (J6, 2, lb))
 else P5
theorem B2l (k : Int) (ty fr : Ty) (lb : Int) (ks : List Tm) : O2 k ty fr lb ks = match W0 k ks with | some u => (u, 1, 0) | none => W9 k ty fr lb ks := by
 unfold O2 W0 W9
 by_cases h6 : k = 6
 ·rw [if_pos h6, if_pos h6, if_pos h6]
  by_cases h : (kd ks 0).k = 5
  ·rw [if_pos h, if_pos h]
  ·rw [if_neg h, if_neg h]
 rw [if_neg h6, if_neg h6, if_neg h6]
 by_cases h7 : k = 7 ∨ k = 8
 ·rw [if_pos h7, if_pos h7]
  by_cases h : (kd ks 0).k = 2 ∧ (kd ks 1).k = 2
  ·rw [if_pos h, if_pos h]
  ·rw [if_neg h, if_neg h]; simp only; rw [if_neg (by omega), if_neg (by omega)]
 rw [if_neg h7, if_neg h7]
 by_cases h9 : k = 9
 ·rw [if_pos h9, if_pos h9]
  by_cases h : (kd ks 0).k = 3
  ·rw [if_pos h, if_pos h]
  ·rw [if_neg h, if_neg h]
   by_cases h' : (kd ks 0).k = 4
   ·rw [if_pos h', if_pos h']
   ·rw [if_neg h', if_neg h']; simp only; rw [if_neg (by omega), if_neg (by omega)]
 rw [if_neg h9, if_neg h9]
 by_cases h11 : k = 11 ∨ k = 12
 ·rw [if_pos h11, if_pos h11, if_pos h11]
  by_cases h : (kd ks 0).k = 10
  ·rw [if_pos h, if_pos h]
  ·rw [if_neg h, if_neg h]
 rw [if_neg h11, if_neg h11, if_neg h11]
def R0 (r : Stp) : IM → Value → List A6 → Prop := L8 fun G' v => ∃ u cells, v = .tuple ⟨[.agg ⟨cells⟩, .int .i64 r.2.1, .int .i64 r.2.2]⟩ ∧ B0 G' u cells ∧ (r.2.1 = 1 → u = r.1)
theorem R0.mk {G : IM} {r : Stp} {u : Tm} {cells : List Value} {c l : Int} (h : r = (u, c, l)) (hr : B0 G u cells) : R0 r G (.tuple ⟨[.agg ⟨cells⟩, .int .i64 c, .int .i64 l]⟩) [] := by
 subst h; exact ⟨rfl, u, cells, rfl, hr, fun _ => rfl⟩
theorem Z6 {ks : List Tm} {i : Nat} (h : i < ks.length) : kd ks i = ks[i] := by unfold kd; rw [List.getD_eq_getElem?_getD, List.getElem?_eq_getElem h, Option.getD_some]
theorem O5 {ks : List Ty} {i : Nat} (h : i < ks.length) : kt ks i = ks[i] := by unfold kt; rw [List.getD_eq_getElem?_getD, List.getElem?_eq_getElem h, Option.getD_some]
theorem A8g {t : Ty} (h : S3 t = true) : t = R9 t := by
 unfold S3 at h
 rw [Bool.and_eq_true] at h
 exact (A0d _ _).1 h.2
theorem B2m (a b : Tm) (nm : ByteArray) (num : Int) (ty fr : Ty) (lb : Int) (G : IM) (cells : List Value) (hca : cv a) (hr : B0 G (.mk 6 nm num ty fr lb [a, b]) cells) : Fn Tryz.prog 144 [.agg ⟨cells⟩] [] G (R0 (W9 6 ty fr lb [a, b])) := by
 obtain ⟨ak, anm, anum, ⟨atk, atks⟩, ⟨afk, afks⟩, alb, aks⟩ := a
 obtain ⟨hN, hkk⟩ := hca.node
 have hops := hN.ops
 have hbl := hN.lbB
 have htyA := hN.tyA
 have hfrA := hN.frA
 rw [E2] at htyA hfrA
 have h14 : ak = 14 → aks.length = 1 := fun h => by rw [h] at hops; have : D0 14 = 1 := rfl; omega
 obtain ⟨tk, tks⟩ := ty
 obtain ⟨fk, fks⟩ := fr
 obtain ⟨pt, ct, pf, cf, p, c, es, rfl, hk, hnum, hlb, hty, hfr, hsl, hkl⟩ := hr.open9
 obtain ⟨bx, ox, e0, rfl, hl0, hat0, hre0, hgb0⟩ := hsl.kidTm hkl (i := 0) (by simp) (by simp)
 replace hre0 : B0 G (Tm.mk ak anm anum (.mk atk atks) (.mk afk afks) alb aks) e0 := hre0
 have hP : Fn Tryz.prog 69 [.agg ⟨e0⟩] [] G (H4 (.bool (decide (ak = 14 ∧ afk = atk ∧ (atk = 4 ∨ atk = 5)))) G) := A2f _ G _ hre0
 obtain ⟨apt, act, apf, acf, ap, ac, aes, rfl, hak, hanum, halb, haty, hafr, hasl, hakl⟩ := hre0.open9
 obtain ⟨tes, htS, htL⟩ := haty.kids
 obtain ⟨fes, hfS, hfL⟩ := hafr.kids
 simp only [Ty.ks] at htS htL hfS hfL
 obtain ⟨_, _, e1, hp1, hl1, hat1, hre1, hgb1⟩ := hsl.kidTm hkl (i := 1) (by simp) (by simp)
 cases hp1
 replace hre1 : B0 G b e1 := hre1
 have ho1 := hre1.one
 have hR : W9 6 (.mk tk tks) (.mk fk fks) lb [Tm.mk ak anm anum (.mk atk atks) (.mk afk afks) alb aks, b] = (if (ak = 14 ∧ afk = atk ∧ (atk = 4 ∨ atk = 5)) ∧ atk = 4 then (J9 (V9 6 [kd aks 0, J9 b (kt atks 0) (kt afks 0) (-alb)]) (kt afks 1) (kt atks 1) alb, 1, 0) else P5) := by
  unfold W9
  rw [if_pos rfl, show kd [Tm.mk ak anm anum (.mk atk atks) (.mk afk afks) alb aks, b] 0 = Tm.mk ak anm anum (.mk atk atks) (.mk afk afks) alb aks from rfl, A0D]
  simp only [decide_eq_true_eq]
  rfl
 rw [hR]
 refine C0 Tryz.func144 rfl Tryz.ntmps144 Tryz.results144 rfl ?_
 intro w0
 refine tS (tR ?_)
 refine sE (C5 rfl rfl) rfl (fun b3 => ?_)
 refine sE (A7 rfl) rfl (fun b4 => ?_)
 refine sQ (qA rfl) rfl (sQ (qA rfl) rfl (sD (nS (tS (tR (sQ (A0 rfl) rfl (sL (A3 rfl rfl) rfl rfl ?_)))))))
 refine sP (B3 (j := 0) rfl rfl rfl (by simp)) rfl rfl ?_
 refine sL (A5 rfl rfl (hat0 _) rfl) rfl rfl ?_
 refine sE (A7 rfl) rfl (fun b15 => ?_)
 refine B1 ?_
 refine sD (nS (tS ?_))
 refine B9 ?_
 refine tS (tR (sQ (A0 rfl) rfl (sL (A3 rfl rfl) rfl rfl ?_)))
 refine sP (V5 rfl rfl (by omega)) rfl rfl ?_
 refine sQ (qM rfl) rfl (sL (A2 rfl rfl) rfl rfl ?_)
 focus (by_cases hpx : (ak = 14 ∧ afk = atk ∧ (atk = 4 ∨ atk = 5)); rw [decide_eq_true hpx] at hP; rotate_left; rw [decide_eq_false hpx] at hP; rotate_left; all_goals (refine H0 rfl hP rfl rfl ?_))
 refine sQ (C2 rfl rfl) rfl (sQ (qM rfl) rfl (sQ (A0 rfl) rfl (sQ (qF rfl) rfl (sL (A3 rfl rfl) rfl rfl ?_))))
 refine sB (qE rfl rfl) rfl rfl (fun h34 => ?_) (fun h34 => ?_)
 refine sQ (C2 rfl rfl) rfl (sQ (qA rfl) rfl (sD (nS (qT rfl (tS ?_)))))
 (have hq : (ak = 14 ∧ afk = atk ∧ (atk = 4 ∨ atk = 5)) ∧ atk = 4 := ⟨hpx, by omega⟩; have hq1 := h14 hq.1.1; have hq2 := htyA.1 (by omega); have hq3 := hfrA.1 (by omega); obtain ⟨bq, oq, e3, rfl, hl3, hat3, hre3, hgb3⟩ := hasl.kidTm hakl (i := 0) (by omega) (by omega); have ho3 := hre3.one; obtain ⟨b5, o5, q5, d5, rfl, hat5, hre5, hgb5⟩ := htS.kidTy htL (i := 0) (by omega) (by omega); obtain ⟨_, _, q6, d6, hp6, hat6, hre6, hgb6⟩ := htS.kidTy htL (i := 1) (by omega) (by omega); cases hp6; obtain ⟨b7, o7, q7, d7, rfl, hat7, hre7, hgb7⟩ := hfS.kidTy hfL (i := 0) (by omega) (by omega); obtain ⟨_, _, q8, d8, hp8, hat8, hre8, hgb8⟩ := hfS.kidTy hfL (i := 1) (by omega) (by omega); cases hp8; obtain ⟨x1, x2, x3, x4, x5, x6, x7, x8, x9, rfl⟩ := nine hl3; obtain ⟨y1, y2, y3, y4, y5, y6, y7, y8, y9, rfl⟩ := nine hl1; refine D4 D6 rfl ?_)
 refine I6 (i := 0) (l' := [tt,ff,ff,ff,ff,ff,ff,ff,ff,ff,ff,ff]) rfl C9 (A0 rfl) rfl (by kernel_rfl) rfl rfl ?_
 refine aL 1 rfl (A3 rfl rfl) rfl ?_
 refine aP 2 rfl (B3 (j := 0) rfl rfl rfl (by omega)) rfl ?_
 refine aL 3 rfl (A5 rfl rfl (hat3 _) rfl) rfl ?_
 refine aP 4 rfl (A0 rfl) rfl ?_
 refine aL 5 rfl (A3 rfl rfl) rfl ?_
 refine aP 6 rfl (B3 (j := 1) rfl rfl rfl (by simp)) rfl ?_
 refine aL 7 rfl (A5 rfl rfl (hat1 _) rfl) rfl ?_
 refine Q1 (j := 8) (j' := 9) (by kernel_rfl) ?_ ?_
 (refine E0 rfl (A7 rfl) rfl rfl ?_; rintro _ ⟨b51, rfl⟩)
 refine A4 9 ?_
 (refine E0 rfl (A7 rfl) rfl rfl ?_; rintro _ ⟨b53, rfl⟩)
 refine A4 10 ?_
 (refine oS rfl rfl rfl rfl rfl ho3 rfl rfl ?_ (hu := by exact D5 rfl.symm))
 refine A4 11 ?_
 (refine oS rfl rfl rfl rfl rfl ho1 rfl rfl ?_ (hu := by exact D5 rfl.symm))
 refine B5 (nS (tS ?_))
 refine D4 D6 rfl ?_
 refine K2 (i := 0) (l' := [tt,ff,ff,ff,ff,ff,ff,ff,ff,ff,ff,ff,ff,ff,ff,ff,ff,ff,ff,ff,ff,ff,ff,ff,ff,ff,ff,ff,ff,ff,ff,ff,ff,ff]) rfl C9 (A5 rfl rfl (B2 (by repeat first | exact mH | apply mT)) rfl) rfl (by kernel_rfl) rfl rfl ?_
 refine aL 1 rfl (A5 rfl rfl (B2 (by repeat first | exact mH | apply mT)) rfl) rfl ?_
 refine aP 2 rfl (A0 rfl) rfl ?_
 refine aP 3 rfl (qF rfl) rfl ?_
 refine aL 4 rfl (A3 rfl rfl) rfl ?_
 refine aP 5 rfl (B3 (j := 0) rfl rfl rfl (by omega)) rfl ?_
 refine aL 6 rfl (A5 rfl rfl (hat5 _) rfl) rfl ?_
 refine aP 7 rfl (A0 rfl) rfl ?_
 refine aP 8 rfl (qF rfl) rfl ?_
 refine aL 9 rfl (A3 rfl rfl) rfl ?_
 refine aP 10 rfl (B3 (j := 0) rfl rfl rfl (by omega)) rfl ?_
 refine aL 11 rfl (A5 rfl rfl (hat7 _) rfl) rfl ?_
 refine aP 12 rfl (A0 rfl) rfl ?_
 refine aL 13 rfl (A3 rfl rfl) rfl ?_
 refine aP 14 rfl (A3M rfl (by omega) (by omega)) rfl ?_
 refine aP 18 rfl (A0 rfl) rfl ?_
 refine aP 19 rfl (qF rfl) rfl ?_
 refine aL 20 rfl (A3 rfl rfl) rfl ?_
 refine aP 21 rfl (B3 (j := 1) rfl rfl rfl (by omega)) rfl ?_
 refine aL 22 rfl (A5 rfl rfl (hat8 _) rfl) rfl ?_
 refine aP 23 rfl (A0 rfl) rfl ?_
 refine aP 24 rfl (qF rfl) rfl ?_
 refine aL 25 rfl (A3 rfl rfl) rfl ?_
 refine aP 26 rfl (B3 (j := 1) rfl rfl rfl (by omega)) rfl ?_
 refine aL 27 rfl (A5 rfl rfl (hat6 _) rfl) rfl ?_
 refine aP 28 rfl (A0 rfl) rfl ?_
 refine aL 29 rfl (A3 rfl rfl) rfl ?_
 refine A4 15 ?_
 (refine F0 rfl rfl (A1a b atks[0] afks[0] (-alb) G _ _ _ ⟨by omega, by omega⟩ hre1 hre5 hre7) rfl rfl rfl (fun u G1 hle1 hh => ?_); obtain ⟨uc, rfl, hru⟩ := hh; have hul := hru.len; have huo := hru.one; obtain ⟨z1, z2, z3, z4, z5, z6, z7, z8, z9, rfl⟩ := nine hul; replace hre3 := hre3.mono hle1; replace hre6 := hre6.mono hle1; replace hre8 := hre8.mono hle1)
 refine A4 16 ?_
 (refine E0 rfl (C7 rfl rfl rfl (by omega) (by unfold maxLen; omega) rfl) rfl rfl ?_; rintro _ ⟨b92, rfl⟩)
 refine A4 17 ?_
 (refine A0X (cs := [x1, x2, x3, x4, x5, x6, x7, x8, x9, z1, z2, z3, z4, z5, z6, z7, z8, z9]) (by repeat (first | exact Pk.here | apply Pk.there)) (fun G2 hle2 hsl2 hno2 => ?_); have hrN := A0C (k := 6) (ks := [aks[0], J9 b atks[0] afks[0] (-alb)]) (es := [[x1, x2, x3, x4, x5, x6, x7, x8, x9], [z1, z2, z3, z4, z5, z6, z7, z8, z9]]) ⟨by decide, by decide⟩ rfl (D2.of hsl2 rfl (by simp) (by intro x hx; rcases List.mem_cons.1 hx with rfl | hx; exact ho3; obtain rfl := List.mem_singleton.1 hx; exact huo)) (by simp only [D3]; exact ⟨_, _, rfl, hre3.mono hle2, _, _, rfl, hru.mono hle2, rfl⟩); replace hre6 := hre6.mono hle2; replace hre8 := hre8.mono hle2; refine M7 rfl rfl (A2O _ _ _ _ _) rfl rfl rfl ?_)
 refine A4 30 ?_
 (refine F0 rfl rfl (A1a _ afks[1] atks[1] alb G2 _ _ _ ⟨by omega, by omega⟩ hrN hre8 hre6) rfl rfl rfl (fun u G3 hle3 hh => ?_); obtain ⟨wc, rfl, hrw⟩ := hh; have hwl := hrw.len; have hwo := hrw.one)
 refine A4 31 ?_
 (refine oS rfl rfl rfl rfl hwl hwo rfl rfl ?_ (hu := by exact D5 hwl.symm))
 refine aP 32 rfl (qA rfl) rfl ?_
 refine aP 33 rfl (qA rfl) rfl ?_
 refine B5 (nS (tT (rB (rS ?_))))
 refine C8 (rC rfl (A5 rfl rfl (B2 (by repeat first | exact mH | apply mT)) hwl)) (rT rfl) (rT rfl) ?_
 (exact R0.mk (by rw [if_pos hq, Z6 (by omega), O5 (by omega), O5 (by omega), O5 (by omega), O5 (by omega)]) hrw)
 (refine E0 rfl (A7 rfl) rfl rfl ?_; rintro _ ⟨b108, rfl⟩)
 refine A4 8 ?_
 (refine E0 rfl (A7 rfl) rfl rfl ?_; rintro _ ⟨b110, rfl⟩)
 refine A4 10 ?_
 (refine oS rfl rfl rfl rfl rfl ho3 rfl rfl ?_ (hu := by exact D5 rfl.symm))
 refine A4 11 ?_
 (refine oS rfl rfl rfl rfl rfl ho1 rfl rfl ?_ (hu := by exact D5 rfl.symm))
 refine B5 (nS (tS ?_))
 refine D4 D6 rfl ?_
 refine K2 (i := 0) (l' := [tt,ff,ff,ff,ff,ff,ff,ff,ff,ff,ff,ff,ff,ff,ff,ff,ff,ff,ff,ff,ff,ff,ff,ff,ff,ff,ff,ff,ff,ff,ff,ff,ff,ff]) rfl C9 (A5 rfl rfl (B2 (by repeat first | exact mH | apply mT)) rfl) rfl (by kernel_rfl) rfl rfl ?_
 refine aL 1 rfl (A5 rfl rfl (B2 (by repeat first | exact mH | apply mT)) rfl) rfl ?_
 refine aP 2 rfl (A0 rfl) rfl ?_
 refine aP 3 rfl (qF rfl) rfl ?_
 refine aL 4 rfl (A3 rfl rfl) rfl ?_
 refine aP 5 rfl (B3 (j := 0) rfl rfl rfl (by omega)) rfl ?_
 refine aL 6 rfl (A5 rfl rfl (hat5 _) rfl) rfl ?_
 refine aP 7 rfl (A0 rfl) rfl ?_
 refine aP 8 rfl (qF rfl) rfl ?_
 refine aL 9 rfl (A3 rfl rfl) rfl ?_
 refine aP 10 rfl (B3 (j := 0) rfl rfl rfl (by omega)) rfl ?_
 refine aL 11 rfl (A5 rfl rfl (hat7 _) rfl) rfl ?_
 refine aP 12 rfl (A0 rfl) rfl ?_
 refine aL 13 rfl (A3 rfl rfl) rfl ?_
 refine aP 14 rfl (A3M rfl (by omega) (by omega)) rfl ?_
 refine aP 18 rfl (A0 rfl) rfl ?_
 refine aP 19 rfl (qF rfl) rfl ?_
 refine aL 20 rfl (A3 rfl rfl) rfl ?_
 refine aP 21 rfl (B3 (j := 1) rfl rfl rfl (by omega)) rfl ?_
 refine aL 22 rfl (A5 rfl rfl (hat8 _) rfl) rfl ?_
 refine aP 23 rfl (A0 rfl) rfl ?_
 refine aP 24 rfl (qF rfl) rfl ?_
 refine aL 25 rfl (A3 rfl rfl) rfl ?_
 refine aP 26 rfl (B3 (j := 1) rfl rfl rfl (by omega)) rfl ?_
 refine aL 27 rfl (A5 rfl rfl (hat6 _) rfl) rfl ?_
 refine aP 28 rfl (A0 rfl) rfl ?_
 refine aL 29 rfl (A3 rfl rfl) rfl ?_
 refine A4 15 ?_
 (refine F0 rfl rfl (A1a b atks[0] afks[0] (-alb) G _ _ _ ⟨by omega, by omega⟩ hre1 hre5 hre7) rfl rfl rfl (fun u G1 hle1 hh => ?_); obtain ⟨uc, rfl, hru⟩ := hh; have hul := hru.len; have huo := hru.one; obtain ⟨z1, z2, z3, z4, z5, z6, z7, z8, z9, rfl⟩ := nine hul; replace hre3 := hre3.mono hle1; replace hre6 := hre6.mono hle1; replace hre8 := hre8.mono hle1)
 refine A4 16 ?_
 (refine E0 rfl (C7 rfl rfl rfl (by omega) (by unfold maxLen; omega) rfl) rfl rfl ?_; rintro _ ⟨b149, rfl⟩)
 refine A4 17 ?_
 (refine A0X (cs := [x1, x2, x3, x4, x5, x6, x7, x8, x9, z1, z2, z3, z4, z5, z6, z7, z8, z9]) (by repeat (first | exact Pk.here | apply Pk.there)) (fun G2 hle2 hsl2 hno2 => ?_); have hrN := A0C (k := 6) (ks := [aks[0], J9 b atks[0] afks[0] (-alb)]) (es := [[x1, x2, x3, x4, x5, x6, x7, x8, x9], [z1, z2, z3, z4, z5, z6, z7, z8, z9]]) ⟨by decide, by decide⟩ rfl (D2.of hsl2 rfl (by simp) (by intro x hx; rcases List.mem_cons.1 hx with rfl | hx; exact ho3; obtain rfl := List.mem_singleton.1 hx; exact huo)) (by simp only [D3]; exact ⟨_, _, rfl, hre3.mono hle2, _, _, rfl, hru.mono hle2, rfl⟩); replace hre6 := hre6.mono hle2; replace hre8 := hre8.mono hle2; refine M7 rfl rfl (A2O _ _ _ _ _) rfl rfl rfl ?_)
 refine A4 30 ?_
 (refine F0 rfl rfl (A1a _ afks[1] atks[1] alb G2 _ _ _ ⟨by omega, by omega⟩ hrN hre8 hre6) rfl rfl rfl (fun u G3 hle3 hh => ?_); obtain ⟨wc, rfl, hrw⟩ := hh; have hwl := hrw.len; have hwo := hrw.one)
 refine A4 31 ?_
 (refine oS rfl rfl rfl rfl hwl hwo rfl rfl ?_ (hu := by exact D5 hwl.symm))
 refine aP 32 rfl (qA rfl) rfl ?_
 refine aP 33 rfl (qA rfl) rfl ?_
 refine B5 (nS (tT (rB (rS ?_))))
 refine C8 (rC rfl (A5 rfl rfl (B2 (by repeat first | exact mH | apply mT)) hwl)) (rT rfl) (rT rfl) ?_
 (exact R0.mk (by rw [if_pos hq, Z6 (by omega), O5 (by omega), O5 (by omega), O5 (by omega), O5 (by omega)]) hrw)
 refine sQ (C2 rfl rfl) rfl (sQ (qA rfl) rfl (sD (nS (cF rfl (tS (tR (sQ (A0 rfl) rfl (sL (A3 rfl rfl) rfl rfl ?_))))))))
 refine sP (I2 rfl rfl (by omega)) rfl rfl ?_
 refine sQ (qM rfl) rfl (sQ (A0 rfl) rfl (sL (A3 rfl rfl) rfl rfl ?_))
 refine sP (I2 rfl rfl (by omega)) rfl rfl ?_
 refine Z1 ?_
 refine sP (A0a rfl rfl (by omega)) rfl rfl ?_
 refine L9 ?_
 refine C8 (rC rfl (A2 rfl rfl)) (rT rfl) (rT rfl) ?_
 (exact R0.mk (by rw [if_neg (by omega)]; rfl) (L3 _))
 refine L9 ?_
 refine sP (I2 rfl rfl (by omega)) rfl rfl ?_
 refine sQ (qM rfl) rfl (sQ (A0 rfl) rfl (sL (A3 rfl rfl) rfl rfl ?_))
 refine sP (I2 rfl rfl (by omega)) rfl rfl ?_
 refine Z1 ?_
 refine sP (A0a rfl rfl (by omega)) rfl rfl ?_
 refine L9 ?_
 refine C8 (rC rfl (A2 rfl rfl)) (rT rfl) (rT rfl) ?_
 (exact R0.mk (by rw [if_neg (by omega)]; rfl) (L3 _))
theorem A8h (k : Int) (a : Tm) (nm : ByteArray) (num : Int) (ty fr : Ty) (lb : Int) (G : IM) (cells : List Value) (hk1 : k = 11 ∨ k = 12) (hca : cv a) (hr : B0 G (.mk k nm num ty fr lb [a]) cells) : Fn Tryz.prog 144 [.agg ⟨cells⟩] [] G (R0 (W9 k ty fr lb [a])) := by
 obtain ⟨ak, anm, anum, ⟨atk, atks⟩, ⟨afk, afks⟩, alb, aks⟩ := a
 obtain ⟨hN, hkk⟩ := hca.node
 have hops := hN.ops
 have hbl := hN.lbB
 have htyA := hN.tyA
 have hfrA := hN.frA
 rw [E2] at htyA hfrA
 have h14 : ak = 14 → aks.length = 1 := fun h => by rw [h] at hops; have : D0 14 = 1 := rfl; omega
 obtain ⟨tk, tks⟩ := ty
 obtain ⟨fk, fks⟩ := fr
 obtain ⟨pt, ct, pf, cf, p, c, es, rfl, hk, hnum, hlb, hty, hfr, hsl, hkl⟩ := hr.open9
 obtain ⟨bx, ox, e0, rfl, hl0, hat0, hre0, hgb0⟩ := hsl.kidTm hkl (i := 0) (by simp) (by simp)
 replace hre0 : B0 G (Tm.mk ak anm anum (.mk atk atks) (.mk afk afks) alb aks) e0 := hre0
 have hP : Fn Tryz.prog 69 [.agg ⟨e0⟩] [] G (H4 (.bool (decide (ak = 14 ∧ afk = atk ∧ (atk = 4 ∨ atk = 5)))) G) := A2f _ G _ hre0
 have hI := A3y _ G _ hre0
 have ho0 := hre0.one
 obtain ⟨apt, act, apf, acf, ap, ac, aes, rfl, hak, hanum, halb, haty, hafr, hasl, hakl⟩ := hre0.open9
 have hfk64 : E6 fk := by obtain ⟨_, _, _, _, h, _⟩ := hfr.open; exact h
 have htk64 : E6 tk := by obtain ⟨_, _, _, _, h, _⟩ := hty.open; exact h
 obtain ⟨tes, htS, htL⟩ := haty.kids
 obtain ⟨fes, hfS, hfL⟩ := hafr.kids
 simp only [Ty.ks] at htS htL hfS hfL
 obtain ⟨i, hi⟩ : ∃ i : Nat, (k - 11).toNat = i := ⟨_, rfl⟩
 have hR : W9 k (.mk tk tks) (.mk fk fks) lb [Tm.mk ak anm anum (.mk atk atks) (.mk afk afks) alb aks] = (if (ak = 14 ∧ afk = atk ∧ (atk = 4 ∨ atk = 5)) ∧ atk = 5 then (J9 (V9 k [kd aks 0]) (kt afks i) (kt atks i) alb, 1, 0) else P5) := by
  unfold W9
  rw [if_neg (by omega), if_pos hk1, hi, show kd [Tm.mk ak anm anum (.mk atk atks) (.mk afk afks) alb aks] 0 = Tm.mk ak anm anum (.mk atk atks) (.mk afk afks) alb aks from rfl, A0D]
  simp only [decide_eq_true_eq]
  rfl
 rw [hR]
 refine C0 Tryz.func144 rfl Tryz.ntmps144 Tryz.results144 rfl ?_
 intro w0
 refine tS (tR ?_)
 refine sE (C5 rfl rfl) rfl (fun b3 => ?_)
 refine sE (A7 rfl) rfl (fun b4 => ?_)
 refine sQ (qA rfl) rfl (sQ (qA rfl) rfl (sD (nS (tS (tR (sQ (A0 rfl) rfl (sL (A3 rfl rfl) rfl rfl ?_)))))))
 refine sP (B3 (j := 0) rfl rfl rfl (by simp)) rfl rfl ?_
 refine sL (A5 rfl rfl (hat0 _) rfl) rfl rfl ?_
 refine sE (A7 rfl) rfl (fun b15 => ?_)
 refine B1 ?_
 refine sD (nS (tS ?_))
 refine B9 ?_
 refine tS (tR (sQ (A0 rfl) rfl (sL (A3 rfl rfl) rfl rfl ?_)))
 refine sP (I2 rfl rfl (by omega)) rfl rfl ?_
 refine U5 ?_
 refine sB (qE rfl rfl) rfl rfl (fun h44 => ?_) (fun h44 => ?_)
 refine sQ (qM rfl) rfl (sK rfl rfl (sK rfl rfl (sK rfl rfl (sQ (C2 rfl rfl) rfl (sQ (qM rfl) rfl (sL (A2 rfl rfl) rfl rfl ?_))))))
 focus (by_cases hpx : (ak = 14 ∧ afk = atk ∧ (atk = 4 ∨ atk = 5)); rw [decide_eq_true hpx] at hP; rotate_left; rw [decide_eq_false hpx] at hP; rotate_left; all_goals (refine H0 rfl hP rfl rfl ?_))
 refine sQ (C2 rfl rfl) rfl (sQ (qM rfl) rfl (sQ (A0 rfl) rfl (sQ (qF rfl) rfl (sL (A3 rfl rfl) rfl rfl ?_))))
 refine sB (qE rfl rfl) rfl rfl (fun h58 => ?_) (fun h58 => ?_)
 refine sQ (C2 rfl rfl) rfl (sQ (qA rfl) rfl (sD (nS (qT rfl (tS (tR (sQ (A0 rfl) rfl (sL (A3 rfl rfl) rfl rfl ?_))))))))
 refine sP (O7 rfl rfl (by omega) (by omega)) rfl rfl ?_
 refine sQ (qA rfl) rfl (sD (nS (tS ?_)))
 (have hq : (ak = 14 ∧ afk = atk ∧ (atk = 4 ∨ atk = 5)) ∧ atk = 5 := ⟨hpx, by omega⟩; have hq1 := h14 hq.1.1; have hq2 := htyA.1 (by omega); have hq3 := hfrA.1 (by omega); rw [show (k - 11 : Int) = ((i : Nat) : Int) from (by omega)]; obtain ⟨bq, oq, e3, rfl, hl3, hat3, hre3, hgb3⟩ := hasl.kidTm hakl (i := 0) (by omega) (by omega); have ho3 := hre3.one; obtain ⟨b5, o5, q5, d5, rfl, hat5, hre5, hgb5⟩ := htS.kidTy htL (i := i) (by omega) (by omega); obtain ⟨b7, o7, q7, d7, rfl, hat7, hre7, hgb7⟩ := hfS.kidTy hfL (i := i) (by omega) (by omega); obtain ⟨x1, x2, x3, x4, x5, x6, x7, x8, x9, rfl⟩ := nine hl3; refine D4 D6 rfl ?_)
 refine I6 (i := 0) (l' := [tt,ff,ff,ff,ff,ff,ff,ff,ff,ff,ff,ff,ff,ff,ff,ff,ff,ff,ff,ff,ff,ff,ff,ff,ff,ff]) rfl C9 (A0 rfl) rfl (by kernel_rfl) rfl rfl ?_
 refine aL 1 rfl (A3 rfl rfl) rfl ?_
 refine aP 2 rfl (A0 rfl) rfl ?_
 refine aL 3 rfl (A3 rfl rfl) rfl ?_
 refine aP 4 rfl (B3 (j := 0) rfl rfl rfl (by omega)) rfl ?_
 refine aL 5 rfl (A5 rfl rfl (hat3 _) rfl) rfl ?_
 refine aP 8 rfl (A0 rfl) rfl ?_
 refine aP 9 rfl (qF rfl) rfl ?_
 refine aL 10 rfl (A3 rfl rfl) rfl ?_
 refine aP 11 rfl (qM rfl) rfl ?_
 refine aP 12 rfl (B3 (j := i) rfl rfl rfl (by omega)) rfl ?_
 refine aL 13 rfl (A5 rfl rfl (hat7 _) rfl) rfl ?_
 refine aP 14 rfl (A0 rfl) rfl ?_
 refine aP 15 rfl (qF rfl) rfl ?_
 refine aL 16 rfl (A3 rfl rfl) rfl ?_
 refine aP 17 rfl (qM rfl) rfl ?_
 refine aP 18 rfl (B3 (j := i) rfl rfl rfl (by omega)) rfl ?_
 refine aL 19 rfl (A5 rfl rfl (hat5 _) rfl) rfl ?_
 refine aP 20 rfl (A0 rfl) rfl ?_
 refine aL 21 rfl (A3 rfl rfl) rfl ?_
 refine A4 6 ?_
 (refine E0 rfl (C7 rfl rfl rfl (by omega) (by unfold maxLen; omega) rfl) rfl rfl ?_; rintro _ ⟨b95, rfl⟩)
 refine A4 7 ?_
 (refine A0X (cs := [x1, x2, x3, x4, x5, x6, x7, x8, x9]) (by repeat (first | exact Pk.here | apply Pk.there)) (fun G2 hle2 hsl2 hno2 => ?_); have hrN := A0C (k := k) (ks := [aks[0]]) (es := [[x1, x2, x3, x4, x5, x6, x7, x8, x9]]) hk rfl (D2.of hsl2 rfl (by simp) (by intro x hx; obtain rfl := List.mem_singleton.1 hx; exact ho3)) (by simp only [D3]; exact ⟨_, _, rfl, hre3.mono hle2, rfl⟩); replace hre5 := hre5.mono hle2; replace hre7 := hre7.mono hle2; refine M7 rfl rfl (A2O _ _ _ _ _) rfl rfl rfl ?_)
 refine A4 22 ?_
 (refine F0 rfl rfl (A1a _ afks[i] atks[i] alb G2 _ _ _ ⟨by omega, by omega⟩ hrN hre7 hre5) rfl rfl rfl (fun u G3 hle3 hh => ?_); obtain ⟨wc, rfl, hrw⟩ := hh; have hwl := hrw.len; have hwo := hrw.one)
 refine A4 23 ?_
 (refine oS rfl rfl rfl rfl hwl hwo rfl rfl ?_ (hu := by exact D5 hwl.symm))
 refine aP 24 rfl (qA rfl) rfl ?_
 refine aP 25 rfl (qA rfl) rfl ?_
 refine B5 (nS (tT (rB (rS ?_))))
 refine C8 (rC rfl (A5 rfl rfl (B2 (by repeat first | exact mH | apply mT)) hwl)) (rT rfl) (rT rfl) ?_
 (exact R0.mk (by rw [if_pos hq, Z6 (by omega), O5 (by omega), O5 (by omega)]) hrw)
 refine sQ (C2 rfl rfl) rfl (sQ (qA rfl) rfl (sD (nS (cF rfl (tS (tR (sQ (A0 rfl) rfl (sL (A3 rfl rfl) rfl rfl ?_))))))))
 refine sP (A0a rfl rfl (by omega)) rfl rfl ?_
 refine L9 ?_
 refine C8 (rC rfl (A2 rfl rfl)) (rT rfl) (rT rfl) ?_
 (exact R0.mk (by rw [if_neg (by omega)]; rfl) (L3 _))
 refine L9 ?_
 refine sP (A0a rfl rfl (by omega)) rfl rfl ?_
 refine L9 ?_
 refine C8 (rC rfl (A2 rfl rfl)) (rT rfl) (rT rfl) ?_
 (exact R0.mk (by rw [if_neg (by omega)]; rfl) (L3 _))
 refine sQ (qM rfl) rfl (sQ (A0 rfl) rfl (sL (A3 rfl rfl) rfl rfl ?_))
 refine sP (V5 rfl rfl (by omega)) rfl rfl ?_
 refine sQ (D7 rfl rfl) rfl (sQ (qM rfl) rfl (sL (A2 rfl rfl) rfl rfl ?_))
 focus (by_cases hpx : (ak = 14 ∧ afk = atk ∧ (atk = 4 ∨ atk = 5)); rw [decide_eq_true hpx] at hP; rotate_left; rw [decide_eq_false hpx] at hP; rotate_left; all_goals (refine H0 rfl hP rfl rfl ?_))
 refine sQ (C2 rfl rfl) rfl (sQ (qM rfl) rfl (sQ (A0 rfl) rfl (sQ (qF rfl) rfl (sL (A3 rfl rfl) rfl rfl ?_))))
 refine sB (qE rfl rfl) rfl rfl (fun h184 => ?_) (fun h184 => ?_)
 refine sQ (C2 rfl rfl) rfl (sQ (qA rfl) rfl (sD (nS (qT rfl (tS (tR (sQ (A0 rfl) rfl (sL (A3 rfl rfl) rfl rfl ?_))))))))
 refine sP (O7 rfl rfl (by omega) (by omega)) rfl rfl ?_
 refine sQ (qA rfl) rfl (sD (nS (tS ?_)))
 (have hq : (ak = 14 ∧ afk = atk ∧ (atk = 4 ∨ atk = 5)) ∧ atk = 5 := ⟨hpx, by omega⟩; have hq1 := h14 hq.1.1; have hq2 := htyA.1 (by omega); have hq3 := hfrA.1 (by omega); rw [show (k - 11 : Int) = ((i : Nat) : Int) from (by omega)]; obtain ⟨bq, oq, e3, rfl, hl3, hat3, hre3, hgb3⟩ := hasl.kidTm hakl (i := 0) (by omega) (by omega); have ho3 := hre3.one; obtain ⟨b5, o5, q5, d5, rfl, hat5, hre5, hgb5⟩ := htS.kidTy htL (i := i) (by omega) (by omega); obtain ⟨b7, o7, q7, d7, rfl, hat7, hre7, hgb7⟩ := hfS.kidTy hfL (i := i) (by omega) (by omega); obtain ⟨x1, x2, x3, x4, x5, x6, x7, x8, x9, rfl⟩ := nine hl3; refine D4 D6 rfl ?_)
 refine I6 (i := 0) (l' := [tt,ff,ff,ff,ff,ff,ff,ff,ff,ff,ff,ff,ff,ff,ff,ff,ff,ff,ff,ff,ff,ff,ff,ff,ff,ff]) rfl C9 (A0 rfl) rfl (by kernel_rfl) rfl rfl ?_
 refine aL 1 rfl (A3 rfl rfl) rfl ?_
 refine aP 2 rfl (A0 rfl) rfl ?_
 refine aL 3 rfl (A3 rfl rfl) rfl ?_
 refine aP 4 rfl (B3 (j := 0) rfl rfl rfl (by omega)) rfl ?_
 refine aL 5 rfl (A5 rfl rfl (hat3 _) rfl) rfl ?_
 refine aP 8 rfl (A0 rfl) rfl ?_
 refine aP 9 rfl (qF rfl) rfl ?_
 refine aL 10 rfl (A3 rfl rfl) rfl ?_
 refine aP 11 rfl (qM rfl) rfl ?_
 refine aP 12 rfl (B3 (j := i) rfl rfl rfl (by omega)) rfl ?_
 refine aL 13 rfl (A5 rfl rfl (hat7 _) rfl) rfl ?_
 refine aP 14 rfl (A0 rfl) rfl ?_
 refine aP 15 rfl (qF rfl) rfl ?_
 refine aL 16 rfl (A3 rfl rfl) rfl ?_
 refine aP 17 rfl (qM rfl) rfl ?_
 refine aP 18 rfl (B3 (j := i) rfl rfl rfl (by omega)) rfl ?_
 refine aL 19 rfl (A5 rfl rfl (hat5 _) rfl) rfl ?_
 refine aP 20 rfl (A0 rfl) rfl ?_
 refine aL 21 rfl (A3 rfl rfl) rfl ?_
 refine A4 6 ?_
 (refine E0 rfl (C7 rfl rfl rfl (by omega) (by unfold maxLen; omega) rfl) rfl rfl ?_; rintro _ ⟨b221, rfl⟩)
 refine A4 7 ?_
 (refine A0X (cs := [x1, x2, x3, x4, x5, x6, x7, x8, x9]) (by repeat (first | exact Pk.here | apply Pk.there)) (fun G2 hle2 hsl2 hno2 => ?_); have hrN := A0C (k := k) (ks := [aks[0]]) (es := [[x1, x2, x3, x4, x5, x6, x7, x8, x9]]) hk rfl (D2.of hsl2 rfl (by simp) (by intro x hx; obtain rfl := List.mem_singleton.1 hx; exact ho3)) (by simp only [D3]; exact ⟨_, _, rfl, hre3.mono hle2, rfl⟩); replace hre5 := hre5.mono hle2; replace hre7 := hre7.mono hle2; refine M7 rfl rfl (A2O _ _ _ _ _) rfl rfl rfl ?_)
 refine A4 22 ?_
 (refine F0 rfl rfl (A1a _ afks[i] atks[i] alb G2 _ _ _ ⟨by omega, by omega⟩ hrN hre7 hre5) rfl rfl rfl (fun u G3 hle3 hh => ?_); obtain ⟨wc, rfl, hrw⟩ := hh; have hwl := hrw.len; have hwo := hrw.one)
 refine A4 23 ?_
 (refine oS rfl rfl rfl rfl hwl hwo rfl rfl ?_ (hu := by exact D5 hwl.symm))
 refine aP 24 rfl (qA rfl) rfl ?_
 refine aP 25 rfl (qA rfl) rfl ?_
 refine B5 (nS (tT (rB (rS ?_))))
 refine C8 (rC rfl (A5 rfl rfl (B2 (by repeat first | exact mH | apply mT)) hwl)) (rT rfl) (rT rfl) ?_
 (exact R0.mk (by rw [if_pos hq, Z6 (by omega), O5 (by omega), O5 (by omega)]) hrw)
 refine sQ (C2 rfl rfl) rfl (sQ (qA rfl) rfl (sD (nS (cF rfl (tS (tR (sQ (A0 rfl) rfl (sL (A3 rfl rfl) rfl rfl ?_))))))))
 refine sP (A0a rfl rfl (by omega)) rfl rfl ?_
 refine L9 ?_
 refine C8 (rC rfl (A2 rfl rfl)) (rT rfl) (rT rfl) ?_
 (exact R0.mk (by rw [if_neg (by omega)]; rfl) (L3 _))
 refine L9 ?_
 refine sP (A0a rfl rfl (by omega)) rfl rfl ?_
 refine L9 ?_
 refine C8 (rC rfl (A2 rfl rfl)) (rT rfl) (rT rfl) ?_
 (exact R0.mk (by rw [if_neg (by omega)]; rfl) (L3 _))
theorem A3A {t : Tm} (h : inj t = true) : t.k = 14 := by
 unfold inj at h
 simp only [Bool.and_eq_true, decide_eq_true_eq] at h
 exact h.1.1
theorem B2n {t u : Ty} (h : S3 t = true) (h' : S3 u = true) : N1 t u = decide (t.k = u.k) := by
 have e1 := A8g h
 have e2 := A8g h'
 by_cases hk : t.k = u.k
 ·rw [decide_eq_true hk, A0d, e1, e2]
  unfold R9; rw [hk]
 ·rw [decide_eq_false hk]
  cases hs : N1 t u with
  | false => rfl
  | true => exact absurd (congrArg Ty.k ((A0d _ _).1 hs)) hk
theorem A5N {t : Tm} (h : inj t = true) : S3 t.fr = true := by
 unfold inj at h
 rw [Bool.and_eq_true] at h
 exact h.2
theorem B2o (a : Tm) (nm : ByteArray) (num : Int) (ty fr : Ty) (lb : Int) (G : IM) (cells : List Value) (hca : cv a) (hlb9 : -99 ≤ lb ∧ lb ≤ 99) (hr : B0 G (.mk 14 nm num ty fr lb [a]) cells) : Fn Tryz.prog 144 [.agg ⟨cells⟩] [] G (R0 (W9 14 ty fr lb [a])) := by
 have hji := @A5N a
 have hjk := @A3A a
 obtain ⟨ak, anm, anum, ⟨atk, atks⟩, ⟨afk, afks⟩, alb, aks⟩ := a
 obtain ⟨hN, hkk⟩ := hca.node
 have hops := hN.ops
 have hbl := hN.lbB
 have htyA := hN.tyA
 have hfrA := hN.frA
 rw [E2] at htyA hfrA
 have h14 : ak = 14 → aks.length = 1 := fun h => by rw [h] at hops; have : D0 14 = 1 := rfl; omega
 obtain ⟨tk, tks⟩ := ty
 obtain ⟨fk, fks⟩ := fr
 obtain ⟨pt, ct, pf, cf, p, c, es, rfl, hk, hnum, hlb, hty, hfr, hsl, hkl⟩ := hr.open9
 obtain ⟨bx, ox, e0, rfl, hl0, hat0, hre0, hgb0⟩ := hsl.kidTm hkl (i := 0) (by simp) (by simp)
 replace hre0 : B0 G (Tm.mk ak anm anum (.mk atk atks) (.mk afk afks) alb aks) e0 := hre0
 have hP : Fn Tryz.prog 69 [.agg ⟨e0⟩] [] G (H4 (.bool (decide (ak = 14 ∧ afk = atk ∧ (atk = 4 ∨ atk = 5)))) G) := A2f _ G _ hre0
 have hI := A3y _ G _ hre0
 have ho0 := hre0.one
 obtain ⟨apt, act, apf, acf, ap, ac, aes, rfl, hak, hanum, halb, haty, hafr, hasl, hakl⟩ := hre0.open9
 have hfk64 : E6 fk := by obtain ⟨_, _, _, _, h, _⟩ := hfr.open; exact h
 have htk64 : E6 tk := by obtain ⟨_, _, _, _, h, _⟩ := hty.open; exact h
 obtain ⟨tes, htS, htL⟩ := haty.kids
 obtain ⟨fes, hfS, hfL⟩ := hafr.kids
 simp only [Ty.ks] at htS htL hfS hfL
 obtain ⟨J, hJ⟩ : ∃ J, inj (Tm.mk ak anm anum (.mk atk atks) (.mk afk afks) alb aks) = J := ⟨_, rfl⟩
 obtain ⟨D, hD⟩ : ∃ D, S3 (.mk tk tks) = D := ⟨_, rfl⟩
 have hGr := A79 _ G _ hty
 rw [hD] at hGr
 rw [hJ] at hI hji hjk
 have hR : W9 14 (.mk tk tks) (.mk fk fks) lb [Tm.mk ak anm anum (.mk atk atks) (.mk afk afks) alb aks] = (if fk = tk then (Tm.mk ak anm anum (.mk atk atks) (.mk afk afks) alb aks, 1, 0)
   else if tk = 1 then (J9 (J9 (Tm.mk ak anm anum (.mk atk atks) (.mk afk afks) alb aks) (.mk fk fks) (mGk fk) lb) (mGk fk) (.mk tk tks) lb, 1, 0)
   else if D = false then (J9 (J9 (Tm.mk ak anm anum (.mk atk atks) (.mk afk afks) alb aks) (.mk fk fks) (mGk tk) lb) (mGk tk) (.mk tk tks) lb, 1, 0)
   else if J = false then P5
   else if afk = tk then (kd aks 0, 1, 0)
   else (J6, 2, lb)) := by
  rw [← hJ, ← hD]; rfl
 rw [hR]
 have hSm : J = true → D = true → N1 (.mk afk afks) (.mk tk tks) = decide (afk = tk) := fun h1 h2 => B2n (hji h1) (hD.trans h2)
 have hTS := A5G (.mk afk afks) (.mk tk tks) G _ _ hafr hty
 refine C0 Tryz.func144 rfl Tryz.ntmps144 Tryz.results144 rfl ?_
 intro w0
 refine tS (tR ?_)
 refine sE (C5 rfl rfl) rfl (fun b3 => ?_)
 refine sE (A7 rfl) rfl (fun b4 => ?_)
 refine sQ (qA rfl) rfl (sQ (qA rfl) rfl (sD (nS (tS (tR (sQ (A0 rfl) rfl (sL (A3 rfl rfl) rfl rfl ?_)))))))
 refine sP (B3 (j := 0) rfl rfl rfl (by simp)) rfl rfl ?_
 refine sL (A5 rfl rfl (hat0 _) rfl) rfl rfl ?_
 refine sE (A7 rfl) rfl (fun b15 => ?_)
 refine B1 ?_
 refine sD (nS (tS ?_))
 refine B9 ?_
 refine tS (tR (sQ (A0 rfl) rfl (sL (A3 rfl rfl) rfl rfl ?_)))
 refine sP (I2 rfl rfl (by omega)) rfl rfl ?_
 refine U5 ?_
 refine sP (I2 rfl rfl (by omega)) rfl rfl ?_
 refine sQ (qM rfl) rfl (sQ (A0 rfl) rfl (sL (A3 rfl rfl) rfl rfl ?_))
 refine sP (I2 rfl rfl (by omega)) rfl rfl ?_
 refine Z1 ?_
 refine sP (A1U rfl rfl (by omega)) rfl rfl ?_
 refine U4 ?_
 refine sB (qE rfl rfl) rfl rfl (fun h81 => ?_) (fun h81 => ?_)
 refine L9 ?_
 refine C8 (rC rfl (A2 rfl rfl)) (rT rfl) (rT rfl) ?_
 (exact R0.mk (by rw [if_pos (by omega)]) hre0)
 refine sQ (qA rfl) rfl (sD (nS (cF rfl (tS (tR (sQ (A0 rfl) rfl (sQ (qF rfl) rfl (sL (A3 rfl rfl) rfl rfl ?_))))))))
 refine sB (qE rfl rfl) rfl rfl (fun h108 => ?_) (fun h108 => ?_)
 refine sQ (qA rfl) rfl (sD (nS (qT rfl (tS (tR (sQ (A0 rfl) rfl (sQ (qF rfl) rfl (sL (A3 rfl rfl) rfl rfl ?_))))))))
 (refine E5 rfl (A5M fk G hfk64) rfl rfl (fun u G1 hle1 hh => ?_); obtain ⟨gc, rfl, hrg⟩ := hh; obtain ⟨pg, cg, eg, rfl, _⟩ := hrg.open; have hgk : tk = 1 := (by omega); replace hre0 := hre0.mono hle1; replace hfr := hfr.mono hle1; replace hty := hty.mono hle1)
 refine sE (A7 rfl) rfl (fun b119 => ?_)
 refine B1 ?_
 refine sD (nS (tS ?_))
 refine D4 D6 rfl ?_
 refine K2 (i := 0) (l' := [tt,ff,ff,ff,ff,ff,ff,ff,ff,ff,ff,ff,ff,ff,ff,ff]) rfl C9 (A5 rfl rfl (B2 (by repeat first | exact mH | apply mT)) rfl) rfl (by kernel_rfl) rfl rfl ?_
 refine aL 3 rfl (A5 rfl rfl (B2 (by repeat first | exact mH | apply mT)) rfl) rfl ?_
 refine aL 7 rfl (A5 rfl rfl (B2 (by repeat first | exact mH | apply mT)) rfl) rfl ?_
 refine aP 1 rfl (A0 rfl) rfl ?_
 refine aL 2 rfl (A2 rfl rfl) rfl ?_
 refine aP 4 rfl (A0 rfl) rfl ?_
 refine aL 5 rfl (A3 rfl rfl) rfl ?_
 refine aP 8 rfl (A0 rfl) rfl ?_
 refine aL 9 rfl (A2 rfl rfl) rfl ?_
 refine aP 10 rfl (A0 rfl) rfl ?_
 refine aL 11 rfl (A3 rfl rfl) rfl ?_
 refine A4 6 ?_
 (refine F0 rfl rfl (A1a _ (.mk fk fks) _ lb G1 _ _ _ ⟨by omega, by omega⟩ hre0 hfr hrg) rfl rfl rfl (fun u G3 hle3 hh => ?_); obtain ⟨wc, rfl, hrw⟩ := hh; have hwl := hrw.len; have hwo := hrw.one; replace hrg := hrg.mono hle3; replace hty := hty.mono hle3)
 refine A4 12 ?_
 (refine F0 rfl rfl (A1a _ _ (.mk tk tks) lb G3 _ _ _ ⟨by omega, by omega⟩ hrw hrg hty) rfl rfl rfl (fun u G4 hle4 hh => ?_); obtain ⟨xc, rfl, hrx⟩ := hh; have hxl := hrx.len; have hxo := hrx.one)
 refine A4 13 ?_
 (refine oS rfl rfl rfl rfl hxl hxo rfl rfl ?_ (hu := by exact D5 hxl.symm))
 refine aP 14 rfl (qA rfl) rfl ?_
 refine aP 15 rfl (qA rfl) rfl ?_
 refine B5 (nS (tT (rB (rS ?_))))
 refine C8 (rC rfl (A5 rfl rfl (B2 (by repeat first | exact mH | apply mT)) hxl)) (rT rfl) (rT rfl) ?_
 (exact R0.mk (by rw [if_neg (by omega), if_pos (by omega)]) hrx)
 refine sQ (qA rfl) rfl (sD (nS (cF rfl (tS (tR (sQ (A0 rfl) rfl (sL (A2 rfl rfl) rfl rfl ?_)))))))
 focus (cases hDD : D; all_goals (rw [hDD] at hGr; refine H0 rfl hGr rfl rfl ?_))
 refine sQ (N8 rfl) rfl (sQ (qA rfl) rfl (sD (nS (qT rfl (tS (tR (sQ (A0 rfl) rfl (sQ (qF rfl) rfl (sL (A3 rfl rfl) rfl rfl ?_)))))))))
 (refine E5 rfl (A5M tk G htk64) rfl rfl (fun u G1 hle1 hh => ?_); obtain ⟨gc, rfl, hrg⟩ := hh; obtain ⟨pg, cg, eg, rfl, _⟩ := hrg.open; replace hre0 := hre0.mono hle1; replace hfr := hfr.mono hle1; replace hty := hty.mono hle1)
 refine sE (A7 rfl) rfl (fun b171 => ?_)
 refine B1 ?_
 refine sD (nS (tS ?_))
 refine D4 D6 rfl ?_
 refine K2 (i := 0) (l' := [tt,ff,ff,ff,ff,ff,ff,ff,ff,ff,ff,ff,ff,ff,ff,ff]) rfl C9 (A5 rfl rfl (B2 (by repeat first | exact mH | apply mT)) rfl) rfl (by kernel_rfl) rfl rfl ?_
 refine aL 3 rfl (A5 rfl rfl (B2 (by repeat first | exact mH | apply mT)) rfl) rfl ?_
 refine aL 7 rfl (A5 rfl rfl (B2 (by repeat first | exact mH | apply mT)) rfl) rfl ?_
 refine aP 1 rfl (A0 rfl) rfl ?_
 refine aL 2 rfl (A2 rfl rfl) rfl ?_
 refine aP 4 rfl (A0 rfl) rfl ?_
 refine aL 5 rfl (A3 rfl rfl) rfl ?_
 refine aP 8 rfl (A0 rfl) rfl ?_
 refine aL 9 rfl (A2 rfl rfl) rfl ?_
 refine aP 10 rfl (A0 rfl) rfl ?_
 refine aL 11 rfl (A3 rfl rfl) rfl ?_
 refine A4 6 ?_
 (refine F0 rfl rfl (A1a _ (.mk fk fks) _ lb G1 _ _ _ ⟨by omega, by omega⟩ hre0 hfr hrg) rfl rfl rfl (fun u G3 hle3 hh => ?_); obtain ⟨wc, rfl, hrw⟩ := hh; have hwl := hrw.len; have hwo := hrw.one; replace hrg := hrg.mono hle3; replace hty := hty.mono hle3)
 refine A4 12 ?_
 (refine F0 rfl rfl (A1a _ _ (.mk tk tks) lb G3 _ _ _ ⟨by omega, by omega⟩ hrw hrg hty) rfl rfl rfl (fun u G4 hle4 hh => ?_); obtain ⟨xc, rfl, hrx⟩ := hh; have hxl := hrx.len; have hxo := hrx.one)
 refine A4 13 ?_
 (refine oS rfl rfl rfl rfl hxl hxo rfl rfl ?_ (hu := by exact D5 hxl.symm))
 refine aP 14 rfl (qA rfl) rfl ?_
 refine aP 15 rfl (qA rfl) rfl ?_
 refine B5 (nS (tT (rB (rS ?_))))
 refine C8 (rC rfl (A5 rfl rfl (B2 (by repeat first | exact mH | apply mT)) hxl)) (rT rfl) (rT rfl) ?_
 (exact R0.mk (by rw [if_neg (by omega), if_neg (by omega), if_pos rfl]) hrx)
 refine sQ (K4 rfl) rfl (sQ (qA rfl) rfl (sD (nS (cF rfl (tS (tR (sL (A2 rfl rfl) rfl rfl ?_)))))))
 focus (cases hJJ : J; all_goals (rw [hJJ] at hI; refine H0 rfl hI rfl rfl ?_))
 refine O9 ?_
 refine C8 (rC rfl (A2 rfl rfl)) (rT rfl) (rT rfl) ?_
 (exact R0.mk (by rw [if_neg (by omega), if_neg (by omega), if_neg (by decide), if_pos rfl]; rfl) (L3 _))
 refine A0l ?_
 focus (rw [hSm hJJ hDD] at hTS; by_cases hfk : afk = tk; rw [decide_eq_true hfk] at hTS; rotate_left; rw [decide_eq_false hfk] at hTS; rotate_left; all_goals (refine H0 rfl hTS rfl rfl ?_))
 refine sQ (qA rfl) rfl (sD (nS (qT rfl (tS (tR (sQ (A0 rfl) rfl (sL (A3 rfl rfl) rfl rfl ?_)))))))
 (have hq1 := h14 (hjk (by assumption)); obtain ⟨bq, oq, e3, rfl, hl3, hat3, hre3, hgb3⟩ := hasl.kidTm hakl (i := 0) (by omega) (by omega); have ho3 := hre3.one; refine sP (B3 (j := 0) rfl rfl rfl (by omega)) rfl rfl ?_)
 refine sL (A5 rfl rfl (hat3 _) hl3) rfl rfl ?_
 refine sS rfl rfl rfl hl3 ho3 rfl ?_ (hu := by exact D5 hl3.symm)
 refine sQ (qA rfl) rfl (sQ (qA rfl) rfl (sD (nS (tT (rB (rS ?_))))))
 refine C8 (rC rfl (A5 rfl rfl (B2 (by repeat first | exact mH | apply mT)) hl3)) (rT rfl) (rT rfl) ?_
 (exact R0.mk (by rw [if_neg (by omega), if_neg (by omega), if_neg (by decide), if_neg (by decide), if_pos hfk, Z6 (by omega)]) hre3)
 refine sQ (qA rfl) rfl (sD (nS (cF rfl (tK (E3 (nS (tS ?_)))))))
 refine D4 D6 rfl ?_
 refine I6 (i := 0) (l' := [tt,ff,ff,ff,ff,ff]) rfl C9 (H6 rfl rfl) rfl (by kernel_rfl) rfl rfl ?_
 refine aP 1 rfl (A0 rfl) rfl ?_
 refine aL 2 rfl (A3 rfl rfl) rfl ?_
 refine A4 3 ?_
 refine F8 rfl ?_
 refine aP 4 rfl (qA rfl) rfl ?_
 refine aP 5 rfl (qA rfl) rfl ?_
 refine B5 (nS (tT ?_))
 refine C8 (rC rfl (A2 rfl rfl)) (rT rfl) (rT rfl) ?_
 (exact R0.mk (by rw [if_neg (by omega), if_neg (by omega), if_neg (by decide), if_neg (by decide), if_neg hfk]) (L3 _))
theorem A8i (k : Int) (a b : Tm) (nm : ByteArray) (num : Int) (ty fr : Ty) (lb : Int) (G : IM) (cells : List Value) (hk1 : k = 7 ∨ k = 8) (hca : cv a) (hr : B0 G (.mk k nm num ty fr lb [a, b]) cells) : Fn Tryz.prog 144 [.agg ⟨cells⟩] [] G (R0 (W9 k ty fr lb [a, b])) := by
 have hR : W9 k ty fr lb [a, b] = P5 := by unfold W9; rw [if_neg (by omega), if_neg (by omega), if_neg (by omega)]
 rw [hR]
 obtain ⟨ak, anm, anum, ⟨atk, atks⟩, ⟨afk, afks⟩, alb, aks⟩ := a
 obtain ⟨hN, hkk⟩ := hca.node
 have hops := hN.ops
 have hbl := hN.lbB
 have htyA := hN.tyA
 have hfrA := hN.frA
 rw [E2] at htyA hfrA
 have h14 : ak = 14 → aks.length = 1 := fun h => by rw [h] at hops; have : D0 14 = 1 := rfl; omega
 obtain ⟨tk, tks⟩ := ty
 obtain ⟨fk, fks⟩ := fr
 obtain ⟨pt, ct, pf, cf, p, c, es, rfl, hk, hnum, hlb, hty, hfr, hsl, hkl⟩ := hr.open9
 obtain ⟨bx, ox, e0, rfl, hl0, hat0, hre0, hgb0⟩ := hsl.kidTm hkl (i := 0) (by simp) (by simp)
 replace hre0 : B0 G (Tm.mk ak anm anum (.mk atk atks) (.mk afk afks) alb aks) e0 := hre0
 have hP : Fn Tryz.prog 69 [.agg ⟨e0⟩] [] G (H4 (.bool (decide (ak = 14 ∧ afk = atk ∧ (atk = 4 ∨ atk = 5)))) G) := A2f _ G _ hre0
 have hI := A3y _ G _ hre0
 have ho0 := hre0.one
 obtain ⟨apt, act, apf, acf, ap, ac, aes, rfl, hak, hanum, halb, haty, hafr, hasl, hakl⟩ := hre0.open9
 have hfk64 : E6 fk := by obtain ⟨_, _, _, _, h, _⟩ := hfr.open; exact h
 have htk64 : E6 tk := by obtain ⟨_, _, _, _, h, _⟩ := hty.open; exact h
 obtain ⟨tes, htS, htL⟩ := haty.kids
 obtain ⟨fes, hfS, hfL⟩ := hafr.kids
 simp only [Ty.ks] at htS htL hfS hfL
 refine C0 Tryz.func144 rfl Tryz.ntmps144 Tryz.results144 rfl ?_
 intro w0
 refine tS (tR ?_)
 refine sE (C5 rfl rfl) rfl (fun b3 => ?_)
 refine sE (A7 rfl) rfl (fun b4 => ?_)
 refine sQ (qA rfl) rfl (sQ (qA rfl) rfl (sD (nS (tS (tR (sQ (A0 rfl) rfl (sL (A3 rfl rfl) rfl rfl ?_)))))))
 refine sP (B3 (j := 0) rfl rfl rfl (by simp)) rfl rfl ?_
 refine sL (A5 rfl rfl (hat0 _) rfl) rfl rfl ?_
 refine sE (A7 rfl) rfl (fun b15 => ?_)
 refine B1 ?_
 refine sD (nS (tS ?_))
 refine B9 ?_
 refine tS (tR (sQ (A0 rfl) rfl (sL (A3 rfl rfl) rfl rfl ?_)))
 refine sP (I2 rfl rfl (by omega)) rfl rfl ?_
 refine U5 ?_
 refine sP (I2 rfl rfl (by omega)) rfl rfl ?_
 refine sQ (qM rfl) rfl (sQ (A0 rfl) rfl (sL (A3 rfl rfl) rfl rfl ?_))
 refine sP (I2 rfl rfl (by omega)) rfl rfl ?_
 refine Z1 ?_
 refine sP (A0a rfl rfl (by omega)) rfl rfl ?_
 refine L9 ?_
 refine C8 (rC rfl (A2 rfl rfl)) (rT rfl) (rT rfl) ?_
 (exact R0.mk rfl (L3 _))
theorem B2p (a b c0 : Tm) (nm : ByteArray) (num : Int) (ty fr : Ty) (lb : Int) (G : IM) (cells : List Value) (hca : cv a) (hr : B0 G (.mk 9 nm num ty fr lb [a, b, c0]) cells) : Fn Tryz.prog 144 [.agg ⟨cells⟩] [] G (R0 (W9 9 ty fr lb [a, b, c0])) := by
 have hR : W9 9 ty fr lb [a, b, c0] = P5 := by unfold W9; rw [if_neg (by omega), if_neg (by omega), if_neg (by omega)]
 rw [hR]
 obtain ⟨ak, anm, anum, ⟨atk, atks⟩, ⟨afk, afks⟩, alb, aks⟩ := a
 obtain ⟨hN, hkk⟩ := hca.node
 have hops := hN.ops
 have hbl := hN.lbB
 have htyA := hN.tyA
 have hfrA := hN.frA
 rw [E2] at htyA hfrA
 have h14 : ak = 14 → aks.length = 1 := fun h => by rw [h] at hops; have : D0 14 = 1 := rfl; omega
 obtain ⟨tk, tks⟩ := ty
 obtain ⟨fk, fks⟩ := fr
 obtain ⟨pt, ct, pf, cf, p, c, es, rfl, hk, hnum, hlb, hty, hfr, hsl, hkl⟩ := hr.open9
 obtain ⟨bx, ox, e0, rfl, hl0, hat0, hre0, hgb0⟩ := hsl.kidTm hkl (i := 0) (by simp) (by simp)
 replace hre0 : B0 G (Tm.mk ak anm anum (.mk atk atks) (.mk afk afks) alb aks) e0 := hre0
 have hP : Fn Tryz.prog 69 [.agg ⟨e0⟩] [] G (H4 (.bool (decide (ak = 14 ∧ afk = atk ∧ (atk = 4 ∨ atk = 5)))) G) := A2f _ G _ hre0
 have hI := A3y _ G _ hre0
 have ho0 := hre0.one
 obtain ⟨apt, act, apf, acf, ap, ac, aes, rfl, hak, hanum, halb, haty, hafr, hasl, hakl⟩ := hre0.open9
 have hfk64 : E6 fk := by obtain ⟨_, _, _, _, h, _⟩ := hfr.open; exact h
 have htk64 : E6 tk := by obtain ⟨_, _, _, _, h, _⟩ := hty.open; exact h
 obtain ⟨tes, htS, htL⟩ := haty.kids
 obtain ⟨fes, hfS, hfL⟩ := hafr.kids
 simp only [Ty.ks] at htS htL hfS hfL
 refine C0 Tryz.func144 rfl Tryz.ntmps144 Tryz.results144 rfl ?_
 intro w0
 refine tS (tR ?_)
 refine sE (C5 rfl rfl) rfl (fun b3 => ?_)
 refine sE (A7 rfl) rfl (fun b4 => ?_)
 refine sQ (qA rfl) rfl (sQ (qA rfl) rfl (sD (nS (tS (tR (sQ (A0 rfl) rfl (sL (A3 rfl rfl) rfl rfl ?_)))))))
 refine sP (B3 (j := 0) rfl rfl rfl (by simp)) rfl rfl ?_
 refine sL (A5 rfl rfl (hat0 _) rfl) rfl rfl ?_
 refine sE (A7 rfl) rfl (fun b15 => ?_)
 refine B1 ?_
 refine sD (nS (tS ?_))
 refine B9 ?_
 refine tS (tR (sQ (A0 rfl) rfl (sL (A3 rfl rfl) rfl rfl ?_)))
 refine sP (I2 rfl rfl (by omega)) rfl rfl ?_
 refine U5 ?_
 refine sP (I2 rfl rfl (by omega)) rfl rfl ?_
 refine sQ (qM rfl) rfl (sQ (A0 rfl) rfl (sL (A3 rfl rfl) rfl rfl ?_))
 refine sP (I2 rfl rfl (by omega)) rfl rfl ?_
 refine Z1 ?_
 refine sP (A0a rfl rfl (by omega)) rfl rfl ?_
 refine L9 ?_
 refine C8 (rC rfl (A2 rfl rfl)) (rT rfl) (rT rfl) ?_
 (exact R0.mk rfl (L3 _))
theorem B2q (nm : ByteArray) (num : Int) (ty fr : Ty) (lb : Int) (G : IM) (cells : List Value) (hr : B0 G (.mk 1 nm num ty fr lb []) cells) : Fn Tryz.prog 143 [.agg ⟨cells⟩] [] G (Q9 (W0 1 [])) := by
 rw [show W0 1 [] = none from rfl]
 obtain ⟨tk, tks⟩ := ty
 obtain ⟨fk, fks⟩ := fr
 obtain ⟨pt, ct, pf, cf, p, c, es, rfl, hk, hnum, hlb, hty, hfr, hsl, hkl⟩ := hr.open9
 have hL : ([] : List Tm).length = 0 := rfl
 refine C0 Tryz.func143 rfl Tryz.ntmps143 Tryz.results143 rfl ?_
 intro w0
 refine tS (tR ?_)
 refine sE (C5 rfl rfl) rfl (fun b3 => ?_)
 refine sE (A7 rfl) rfl (fun b4 => ?_)
 refine sQ (qA rfl) rfl (sD (nS (tS (tR (sQ (H6 rfl rfl) rfl ?_)))))
 refine sE (A7 rfl) rfl (fun b11 => ?_)
 refine B1 ?_
 refine sD (nS (tS (tS (tR (sQ (A0 rfl) rfl (sL (A3 rfl rfl) rfl rfl (sQ (H8 rfl rfl) rfl ?_)))))))
 refine sP (A96 rfl rfl (by omega)) rfl rfl ?_
 refine sD (nS (cF rfl (tK (nS (tS (tS (tR (sQ (A0 rfl) rfl (sL (A3 rfl rfl) rfl rfl (sD (nS ?_)))))))))))
 refine B9 ?_
 refine tS (tR ?_)
 refine sP (I2 rfl rfl (by omega)) rfl rfl ?_
 refine sQ (qA rfl) rfl (sD (nS (cF rfl (tS (tS (tR ?_))))))
 refine sP (I2 rfl rfl (by omega)) rfl rfl ?_
 refine sQ (qA rfl) rfl (sD (nS (cF rfl (tR ?_))))
 refine sP (I2 rfl rfl (by omega)) rfl rfl ?_
 refine sQ (qA rfl) rfl (sD (nS (cF rfl (tS (tR ?_)))))
 refine sP (I2 rfl rfl (by omega)) rfl rfl ?_
 refine sQ (qA rfl) rfl (sD (nS (cF rfl (tS (tS (tR ?_))))))
 refine sP (I2 rfl rfl (by omega)) rfl rfl ?_
 refine sQ (qA rfl) rfl (sD (nS (cF rfl (tR ?_))))
 refine sP (I2 rfl rfl (by omega)) rfl rfl ?_
 refine L9 ?_
 refine H7 (rC rfl (A2 rfl rfl)) (rT rfl) ?_
 (exact Q9.no rfl (L3 _))
theorem B2r (a : Tm) (nm : ByteArray) (num : Int) (ty fr : Ty) (lb : Int) (G : IM) (cells : List Value) (hr : B0 G (.mk 14 nm num ty fr lb [a]) cells) : Fn Tryz.prog 143 [.agg ⟨cells⟩] [] G (Q9 (W0 14 [a])) := by
 rw [show W0 14 [a] = none from rfl]
 obtain ⟨tk, tks⟩ := ty
 obtain ⟨fk, fks⟩ := fr
 obtain ⟨pt, ct, pf, cf, p, c, es, rfl, hk, hnum, hlb, hty, hfr, hsl, hkl⟩ := hr.open9
 obtain ⟨bx, ox, e0, rfl, hl0, hat0, hre0, hgb0⟩ := hsl.kidTm hkl (i := 0) (by simp) (by simp)
 have ho0 : e0.all (·.oneCell') = true := (show B0 G a e0 from hre0).one
 refine C0 Tryz.func143 rfl Tryz.ntmps143 Tryz.results143 rfl ?_
 intro w0
 refine tS (tR ?_)
 refine sE (C5 rfl rfl) rfl (fun b3 => ?_)
 refine sE (A7 rfl) rfl (fun b4 => ?_)
 refine sQ (qA rfl) rfl (sD (nS (tS (tR (sQ (H6 rfl rfl) rfl ?_)))))
 refine sE (A7 rfl) rfl (fun b11 => ?_)
 refine B1 ?_
 refine sD (nS (tS (tS (tR (sQ (A0 rfl) rfl (sL (A3 rfl rfl) rfl rfl (sQ (H8 rfl rfl) rfl ?_)))))))
 refine sB (X4 rfl rfl) rfl rfl (fun h21 => ?_) (fun h21 => ?_)
 refine sD (nS (qT rfl (tR (sQ (A0 rfl) rfl (sL (A3 rfl rfl) rfl rfl ?_)))))
 refine sP (B3 (j := 0) rfl rfl rfl (by simp)) rfl rfl ?_
 refine sL (A5 rfl rfl (hat0 _) hl0) rfl rfl ?_
 refine sS rfl rfl rfl hl0 ho0 rfl ?_ (hu := by exact D5 hl0.symm)
 refine sD (nS (tS (tS (tR (sQ (A0 rfl) rfl (sL (A3 rfl rfl) rfl rfl (sD (nS ?_))))))))
 refine B9 ?_
 refine tS (tR ?_)
 refine sP (I2 rfl rfl (by omega)) rfl rfl ?_
 refine sQ (qA rfl) rfl (sD (nS (cF rfl (tS (tS (tR ?_))))))
 refine sP (I2 rfl rfl (by omega)) rfl rfl ?_
 refine sQ (qA rfl) rfl (sD (nS (cF rfl (tR ?_))))
 refine sP (I2 rfl rfl (by omega)) rfl rfl ?_
 refine sQ (qA rfl) rfl (sD (nS (cF rfl (tS (tR ?_)))))
 refine sP (I2 rfl rfl (by omega)) rfl rfl ?_
 refine sQ (qA rfl) rfl (sD (nS (cF rfl (tS (tS (tR ?_))))))
 refine sP (I2 rfl rfl (by omega)) rfl rfl ?_
 refine sQ (qA rfl) rfl (sD (nS (cF rfl (tR ?_))))
 refine sP (I2 rfl rfl (by omega)) rfl rfl ?_
 refine L9 ?_
 refine H7 (rC rfl (A2 rfl rfl)) (rT rfl) ?_
 (exact Q9.no rfl (L3 _))
 refine sD (nS (cF rfl (tK (nS (tS (tS (tR (sQ (A0 rfl) rfl (sL (A3 rfl rfl) rfl rfl (sD (nS ?_)))))))))))
 refine B9 ?_
 refine tS (tR ?_)
 refine sP (I2 rfl rfl (by omega)) rfl rfl ?_
 refine sQ (qA rfl) rfl (sD (nS (cF rfl (tS (tS (tR ?_))))))
 refine sP (I2 rfl rfl (by omega)) rfl rfl ?_
 refine sQ (qA rfl) rfl (sD (nS (cF rfl (tR ?_))))
 refine sP (I2 rfl rfl (by omega)) rfl rfl ?_
 refine sQ (qA rfl) rfl (sD (nS (cF rfl (tS (tR ?_)))))
 refine sP (I2 rfl rfl (by omega)) rfl rfl ?_
 refine sQ (qA rfl) rfl (sD (nS (cF rfl (tS (tS (tR ?_))))))
 refine sP (I2 rfl rfl (by omega)) rfl rfl ?_
 refine sQ (qA rfl) rfl (sD (nS (cF rfl (tR ?_))))
 refine sP (I2 rfl rfl (by omega)) rfl rfl ?_
 refine L9 ?_
 refine H7 (rC rfl (A2 rfl rfl)) (rT rfl) ?_
 (exact Q9.no rfl (L3 _))
theorem X0 {ks : List Tm} (h : ks.length = 1) : ∃ a, ks = [a] := by
 match ks, h with
 | [a], _ => exact ⟨a, rfl⟩
theorem ks2 {ks : List Tm} (h : ks.length = 2) : ∃ a b, ks = [a, b] := by
 match ks, h with
 | [a, b], _ => exact ⟨a, b, rfl⟩
theorem ks3 {ks : List Tm} (h : ks.length = 3) : ∃ a b c, ks = [a, b, c] := by
 match ks, h with
 | [a, b, c], _ => exact ⟨a, b, c, rfl⟩
theorem B2s {k : Int} {nm : ByteArray} {num : Int} {ty fr : Ty} {lb : Int} {ks : List Tm} {G : IM} {cells : List Value} (hc : cv (.mk k nm num ty fr lb ks)) (hk : k = 1 ∨ k = 6 ∨ k = 7 ∨ k = 8 ∨ k = 9 ∨ k = 11 ∨ k = 12 ∨ k = 14) (hr : B0 G (.mk k nm num ty fr lb ks) cells) :
  Fn Tryz.prog 143 [.agg ⟨cells⟩] [] G (Q9 (W0 k ks)) := by
 obtain ⟨hN, hkk⟩ := hc.node
 have hops := hN.ops
 rcases hk with rfl | rfl | rfl | rfl | rfl | rfl | rfl | rfl
 ·obtain rfl : ks = [] := List.length_eq_zero_iff.1 (by have : D0 1 = 0 := rfl; omega)
  exact B2q _ _ _ _ _ _ _ hr
 ·obtain ⟨a, b, rfl⟩ := ks2 (ks := ks) (by have : D0 6 = 2 := rfl; omega)
  exact B2j a b _ _ _ _ _ _ _ (hkk a (by simp)) hr
 ·obtain ⟨a, b, rfl⟩ := ks2 (ks := ks) (by have : D0 7 = 2 := rfl; omega)
  exact A8e 7 a b _ _ _ _ _ _ _ (.inl rfl) (hkk a (by simp)) (hkk b (by simp)) hr
 ·obtain ⟨a, b, rfl⟩ := ks2 (ks := ks) (by have : D0 8 = 2 := rfl; omega)
  exact A8e 8 a b _ _ _ _ _ _ _ (.inr rfl) (hkk a (by simp)) (hkk b (by simp)) hr
 ·obtain ⟨a, b, c, rfl⟩ := ks3 (ks := ks) (by have : D0 9 = 3 := rfl; omega)
  exact B2k a b c _ _ _ _ _ _ _ hr
 ·obtain ⟨a, rfl⟩ := X0 (ks := ks) (by have : D0 11 = 1 := rfl; omega)
  exact A8f 11 a _ _ _ _ _ _ _ (.inl rfl) (hkk a (by simp)) hr
 ·obtain ⟨a, rfl⟩ := X0 (ks := ks) (by have : D0 12 = 1 := rfl; omega)
  exact A8f 12 a _ _ _ _ _ _ _ (.inr rfl) (hkk a (by simp)) hr
 ·obtain ⟨a, rfl⟩ := X0 (ks := ks) (by have : D0 14 = 1 := rfl; omega)
  exact B2r a _ _ _ _ _ _ _ hr
theorem B2t {k : Int} {nm : ByteArray} {num : Int} {ty fr : Ty} {lb : Int} {ks : List Tm} {G : IM} {cells : List Value} (hc : cv (.mk k nm num ty fr lb ks)) (hk : k = 6 ∨ k = 7 ∨ k = 8 ∨ k = 9 ∨ k = 11 ∨ k = 12 ∨ k = 14) (hr : B0 G (.mk k nm num ty fr lb ks) cells) :
  Fn Tryz.prog 144 [.agg ⟨cells⟩] [] G (R0 (W9 k ty fr lb ks)) := by
 obtain ⟨hN, hkk⟩ := hc.node
 have hops := hN.ops
 rcases hk with rfl | rfl | rfl | rfl | rfl | rfl | rfl
 ·obtain ⟨a, b, rfl⟩ := ks2 (ks := ks) (by have : D0 6 = 2 := rfl; omega)
  exact B2m a b _ _ _ _ _ _ _ (hkk a (by simp)) hr
 ·obtain ⟨a, b, rfl⟩ := ks2 (ks := ks) (by have : D0 7 = 2 := rfl; omega)
  exact A8i 7 a b _ _ _ _ _ _ _ (.inl rfl) (hkk a (by simp)) hr
 ·obtain ⟨a, b, rfl⟩ := ks2 (ks := ks) (by have : D0 8 = 2 := rfl; omega)
  exact A8i 8 a b _ _ _ _ _ _ _ (.inr rfl) (hkk a (by simp)) hr
 ·obtain ⟨a, b, c, rfl⟩ := ks3 (ks := ks) (by have : D0 9 = 3 := rfl; omega)
  exact B2p a b c _ _ _ _ _ _ _ (hkk a (by simp)) hr
 ·obtain ⟨a, rfl⟩ := X0 (ks := ks) (by have : D0 11 = 1 := rfl; omega)
  exact A8h 11 a _ _ _ _ _ _ _ (.inl rfl) (hkk a (by simp)) hr
 ·obtain ⟨a, rfl⟩ := X0 (ks := ks) (by have : D0 12 = 1 := rfl; omega)
  exact A8h 12 a _ _ _ _ _ _ _ (.inr rfl) (hkk a (by simp)) hr
 ·obtain ⟨a, rfl⟩ := X0 (ks := ks) (by have : D0 14 = 1 := rfl; omega)
  exact B2o a _ _ _ _ _ _ _ (hkk a (by simp)) hN.lbB hr
theorem A4q (n : Nat) (t : Tm) (ts : List Tm) : Y6 (n + 1) (t :: ts) = if E8 t = true then (match Y6 n ts with | some (us, c, l) => some (t :: us, c, l) | none => none) else some ((I0 t).1 :: ts, (I0 t).2.1, (I0 t).2.2) := by
 rw [Y6]; rfl
theorem A4r : ∀ (n : Nat) (ks : List Tm), (∀ i, i < n → (h : i < ks.length) → E8 ks[i] = true) → Y6 n ks = none
 | n, [], _ => by cases n <;> rfl
 | 0, t :: ts, _ => rfl
 | n + 1, t :: ts, h => by
  rw [A4q, if_pos (show E8 t = true from h 0 (by omega) (by simp)), A4r n ts (fun i hi hl => h (i + 1) (by omega) (by simpa using hl))]
theorem A5O : ∀ (n : Nat) (ks : List Tm) (i : Nat) (hi : i < ks.length), i < n → (∀ j, j < i → (h : j < ks.length) → E8 ks[j] = true) → E8 ks[i] = false → Y6 n ks = some (ks.set i (I0 ks[i]).1, (I0 ks[i]).2.1, (I0 ks[i]).2.2)
 | n, [], i, hi, _, _, _ => by simp at hi
 | 0, t :: ts, i, _, hn, _, _ => by omega
 | n + 1, t :: ts, 0, _, _, _, hv => by
  rw [A4q, if_neg (by rw [show E8 t = false from hv]; decide)]; rfl
 | n + 1, t :: ts, i + 1, hi, hn, hj, hv => by
  rw [A4q, if_pos (show E8 t = true from hj 0 (by omega) (by simp)), A5O n ts i (by simpa using hi) (by omega) (fun j hji hl => hj (j + 1) (by omega) (by simpa using hl)) hv]
  rfl
theorem B2u {k : Int} {ty fr : Ty} {lb : Int} {ks : List Tm} (h : (O2 k ty fr lb ks).2.1 = 1) : (O2 k ty fr lb ks).2.2 = 0 := by
 revert h
 unfold O2 P5
 repeat' split
 all_goals first | (intro _; rfl) | (intro h; exfalso; revert h; simp)
theorem B2v {k : Int} {nm : ByteArray} {num : Int} {ty fr : Ty} {lb : Int} {ks : List Tm} (h : (I0 (.mk k nm num ty fr lb ks)).2.1 = 1) : (I0 (.mk k nm num ty fr lb ks)).2.2 = 0 := by
 rw [I0] at h ⊢
 cases hL : Y6 (if k = 9 then 1 else ks.length) ks with
 | none => rw [hL] at h; exact B2u h
 | some p =>
  obtain ⟨us, c, l⟩ := p
  rw [hL] at h
  simp only at h ⊢
  by_cases hc : c = 1
  ·rw [if_pos hc]
  ·rw [if_neg hc] at h; exact absurd h hc
theorem B2w {t : Tm} (h : (I0 t).2.1 = 1) : (I0 t).2.2 = 0 := by cases t; exact B2v h
theorem A8j {k : Int} {nm : ByteArray} {num : Int} {ty fr : Ty} {lb : Int} {ks : List Tm} {i : Nat} (hi : i < ks.length) (hn : i < (if k = 9 then 1 else ks.length)) (hj : ∀ j, j < i → (h : j < ks.length) → E8 ks[j] = true) (hv : E8 ks[i] = false) :
  (I0 (.mk k nm num ty fr lb ks)).2.1 = (I0 ks[i]).2.1 ∧ (I0 (.mk k nm num ty fr lb ks)).2.2 = (I0 ks[i]).2.2 ∧ ((I0 ks[i]).2.1 = 1 → (I0 (.mk k nm num ty fr lb ks)).1 = .mk k nm num ty fr lb (ks.set i (I0 ks[i]).1)) := by
 rw [I0, A5O _ ks i hi hn hj hv]
 simp only
 by_cases hc : (I0 ks[i]).2.1 = 1
 ·rw [if_pos hc]
  exact ⟨hc.symm, (B2w hc).symm, fun _ => rfl⟩
 ·rw [if_neg hc]
  exact ⟨rfl, rfl, fun h => absurd h hc⟩
theorem B2x {k : Int} {nm : ByteArray} {num : Int} {ty fr : Ty} {lb : Int} {ks : List Tm} (h : ∀ i, i < (if k = 9 then 1 else ks.length) → (hl : i < ks.length) → E8 ks[i] = true) : I0 (.mk k nm num ty fr lb ks) = match W0 k ks with | some u => (u, 1, 0) | none => W9 k ty fr lb ks := by
 rw [I0, A4r _ _ h]
 exact B2l k ty fr lb ks
theorem A3B {k : Int} (h : 0 ≤ D0 k) : 1 ≤ k ∧ k ≤ 14 := by
 by_cases hk : 1 ≤ k ∧ k ≤ 14
 ·exact hk
 ·rw [A4Z hk] at h; omega
theorem A5P {k : Int} {nm : ByteArray} {num : Int} {ty fr : Ty} {lb : Int} {ks : List Tm} (hc : cv (.mk k nm num ty fr lb ks)) (hv : E8 (.mk k nm num ty fr lb ks) = false) (h : ∀ i, i < (if k = 9 then 1 else ks.length) → (hl : i < ks.length) → E8 ks[i] = true) : k = 1 ∨ k = 6 ∨ k = 7 ∨ k = 8 ∨ k = 9 ∨ k = 11 ∨ k = 12 ∨ k = 14 := by
 obtain ⟨hN, _⟩ := hc.node
 have hr := A3B (by rw [hN.ops]; omega : 0 ≤ D0 k)
 have h13 := hN.ne
 have h25 : ¬(k = 2 ∨ k = 3 ∨ k = 4 ∨ k = 5) := by
  intro hk
  rw [E8, if_neg (by omega)] at hv
  rw [decide_eq_true hk] at hv
  cases hv
 have h10 : k ≠ 10 := by
  rintro rfl
  rw [A2M (.inl rfl), List.all_eq_false] at hv
  obtain ⟨t, ht, hn⟩ := hv
  obtain ⟨i, hi, rfl⟩ := List.mem_iff_getElem.1 ht
  exact hn (h i (by rw [if_neg (by decide)]; exact hi) hi)
 omega
theorem B2y (t : Tm) (G : IM) (cells : List Value) (hr : B0 G t cells) : Fn Tryz.prog 141 [.agg ⟨cells⟩] [] G (H4 (.int .i64 ((if t.k = 9 then 1 else t.ks.length : Nat) : Int)) G) := by
 obtain ⟨k, nm, num, ⟨tk, tks⟩, ⟨fk, fks⟩, lb, ks⟩ := t
 obtain ⟨pt, ct, pf, cf, p, c, es, rfl, hk, hnum, hlb, hty, hfr, hsl, hkl⟩ := hr.open9
 rw [show (Tm.mk k nm num (.mk tk tks) (.mk fk fks) lb ks).k = k from rfl, show (Tm.mk k nm num (.mk tk tks) (.mk fk fks) lb ks).ks = ks from rfl]
 refine C0 Tryz.func141 rfl Tryz.ntmps141 Tryz.results141 rfl ?_
 intro w0
 refine tS (tR ?_)
 refine sE (C5 rfl rfl) rfl (fun b3 => ?_)
 refine sQ (qA rfl) rfl (sD (nS (tS (tS (tR (sQ (A0 rfl) rfl (sL (A3 rfl rfl) rfl rfl ?_)))))))
 refine sB (qE rfl rfl) rfl rfl (fun h12 => ?_) (fun h12 => ?_)
 refine sD (nS (qT rfl (tS (tR (sQ (qA rfl) rfl (sD (nS (tT (rS (A9 (rT rfl) ?_))))))))))
 (exact ⟨rfl, by rw [if_pos (by omega)]; rfl, rfl⟩)
 refine L9 ?_
 (exact ⟨rfl, by rw [if_neg (by omega)], rfl⟩)
theorem B2z {k : Int} (h8 : k = 1 ∨ k = 6 ∨ k = 7 ∨ k = 8 ∨ k = 9 ∨ k = 11 ∨ k = 12 ∨ k = 14) (h : D0 k = 0) : k = 1 := by
 rcases h8 with rfl | rfl | rfl | rfl | rfl | rfl | rfl | rfl
 ·rfl
 all_goals exact absurd h (by decide)
theorem A8k {G : IM} {r r' : Stp} {u : Tm} {cells : List Value} {c l : Int} (h1 : r.2.1 = c) (h2 : r.2.2 = l) (hr : B0 G u cells) (h3 : c = 1 → u = r.1) : R0 r G (.tuple ⟨[.agg ⟨cells⟩, .int .i64 c, .int .i64 l]⟩) [] := by
 subst h1 h2; exact ⟨rfl, u, cells, rfl, hr, h3⟩
theorem B2A : ∀ (t : Tm) (G : IM) (cells : List Value), cv t → E8 t = false → B0 G t cells → Fn Tryz.prog 99 [.agg ⟨cells⟩] [] G (R0 (I0 t)) := by
 refine Tm.ind fun k nm num ty fr lb ks ih G cells hc hv hr => ?_
 have hr0 := hr
 have hN := hc.node.1
 have hkk := hc.node.2
 have hsm := A19 _ hc
 obtain ⟨_, _, _, _, hksm⟩ := Z5.1 hsm
 have hops := hN.ops
 have hle3 := A06 k
 have hkd := @A5P k nm num ty fr lb ks hc hv
 have hrd := @B2x k nm num ty fr lb ks
 have hkidS := fun (i : Nat) => @A8j k nm num ty fr lb ks i
 have hRA := fun h => @B2s k nm num ty fr lb ks G cells hc h hr
 have hCA := fun h (G1 : IM) (hle : B8 G G1) => @B2t k nm num ty fr lb ks G1 cells hc h (hr.mono hle)
 have hCt := B2y _ G _ hr
 rw [show (Tm.mk k nm num ty fr lb ks).k = k from rfl, show (Tm.mk k nm num ty fr lb ks).ks = ks from rfl] at hCt
 obtain ⟨C, hC⟩ : ∃ C : Nat, (if k = 9 then 1 else ks.length : Nat) = C := ⟨_, rfl⟩
 rw [hC] at hCt hkd hrd
 have hkidS' := fun (i : Nat) (hi : i < ks.length) (hn : i < C) => hkidS i hi (by rw [hC]; exact hn)
 have hC9 : C ≤ ks.length := by rw [← hC]; split; (have : D0 k = 3 := by (rename_i h9; rw [h9]; rfl)); omega; omega
 have hrul := hkd
 obtain ⟨tk, tks⟩ := ty
 obtain ⟨fk, fks⟩ := fr
 obtain ⟨pt, ct, pf, cf, p, c, es, rfl, hk, hnum, hlb, hty, hfr, hsl, hkl⟩ := hr.open9
 have hn := hsl.le
 have hnc := hsl.sl.2.1
 refine C0 Tryz.func99 rfl Tryz.ntmps99 Tryz.results99 rfl ?_
 intro w0
 refine tS (tR ?_)
 refine sE (C5 rfl rfl) rfl (fun b3 => ?_)
 refine sE (A7 rfl) rfl (fun b4 => ?_)
 refine sQ (qA rfl) rfl (sQ (qA rfl) rfl (sD (nS (tS (tS ?_)))))
 refine D4 D6 rfl ?_
 refine I6 (i := 0) (l' := [tt,ff,ff,ff,ff,ff,ff]) rfl C9 (A0 rfl) rfl (by kernel_rfl) rfl rfl ?_
 refine aL 1 rfl (A3 rfl rfl) rfl ?_
 refine aL 2 rfl (A2 rfl rfl) rfl ?_
 refine aP 6 rfl (qM rfl) rfl ?_
 refine A4 3 ?_
 refine M7 rfl rfl (hCt) rfl rfl rfl ?_
 refine aP 4 rfl (A65 (l := C) rfl rfl rfl (by omega)) rfl ?_
 refine aP 5 rfl (H8 rfl rfl) rfl ?_
 refine B5 (nS ?_)
 refine B9 ?_
 (refine J4 (fun (i : Nat) => ⟨[(19, .int .i64 (i : Int)), (18, .int .i64 (C : Int)), (17, .slice p C c), (1, .pointer (some ⟨b3, 0, none⟩)), (2, .pointer (some ⟨b4, 0, none⟩))], [.blk b4 [.int .i64 0, .string ⟨⟨[]⟩⟩, .int .i64 0, .int .i64 0, .slice none 0 0, .int .i64 0, .slice none 0 0, .int .i64 0, .slice none 0 0], .blk b3 [.int .i64 k, .string nm, .int .i64 num, .int .i64 tk, .slice pt tks.length ct, .int .i64 fk, .slice pf fks.length cf, .int .i64 lb, .slice p ks.length c]], G⟩) (fun i => i ≤ C ∧ ∀ j, j < i → (h : j < ks.length) → E8 ks[j] = true) (fun i => C - i) 0 ?_ ?_ ?_)
 exact D9
 (exact ⟨Nat.zero_le _, fun j hj => absurd hj (Nat.not_lt_zero j)⟩)
 (rintro i ⟨hi, hj⟩)
 refine tS (tR ?_)
 refine sB (J1 rfl rfl) rfl rfl (fun h29 => ?_) (fun h29 => ?_)
 refine sD (nS (tS (qT rfl (tK (nS (tS ?_))))))
 refine B9 ?_
 refine tS (tR (sQ (qM rfl) rfl ?_))
 (have hiC : i < C := (by omega); obtain ⟨bx, ox, e, rfl, hl, hat, hre, hgb⟩ := hsl.kidTm hkl (i := i) (by omega) (by omega); have heo := hre.one; have hVi := A8b ks[i] G e hre; refine sP (B3 (j := i) rfl rfl rfl hiC) rfl rfl ?_)
 refine sL (A5 rfl rfl (hat _) hl) rfl rfl ?_
 refine sE (A7 rfl) rfl (fun b43 => ?_)
 refine sQ (qA rfl) rfl ?_
 refine sS rfl rfl rfl hl heo rfl ?_ (hu := by exact D5 hl.symm)
 refine sD (nS (tS (tS (tR ?_))))
 refine sL (A5 rfl rfl (B2 (by repeat first | exact mH | apply mT)) hl) rfl rfl ?_
 refine E7 rfl (hVi) rfl rfl (fun h52 => ?_) (fun h52 => ?_)
 refine sD (nS (qT rfl (M3 (M5 (M6 (nS (tR ?_)))))))
 refine sP (I7 rfl rfl (by omega) (by omega)) rfl rfl ?_
 refine sQ (qM rfl) rfl (sD ?_)
 refine J3 (i + 1) ?_ ?_ ?_
 exact D9
 (exact ⟨by omega, fun j hji hl2 => (by by_cases he : j = i; (subst he; assumption); exact hj j (by omega) hl2)⟩)
 (show C - (i + 1) < C - i; omega)
 refine sD (nS (cF rfl (tK (nS (tS (tR ?_))))))
 refine sL (A5 rfl rfl (B2 (by repeat first | exact mH | apply mT)) hl) rfl rfl ?_
 (have hvF : E8 ks[i] = false := (by assumption); obtain ⟨hs1, hs2, hs3⟩ := hkidS' i (by omega) hiC (fun j hji hl2 => hj j hji hl2) hvF; refine E5 rfl (ih ks[i] (List.getElem_mem (by omega)) G e (hkk _ (List.getElem_mem (by omega))) hvF hre) rfl rfl (fun v G1 hle1 hh => ?_); obtain ⟨u, uc, rfl, hru, hu1⟩ := hh; have hul := hru.len; have huo := hru.one; have hClo := B1X G1 _ ks.length c es (hsl.mono hle1) (by omega) (by omega))
 refine sQ (qM rfl) rfl (sQ (pX rfl rfl) rfl (sQ (pX rfl rfl) rfl (sQ (pX rfl rfl) rfl ?_)))
 refine sE (A7 rfl) rfl (fun b81 => ?_)
 refine sS rfl rfl rfl hul huo rfl ?_ (hu := by exact D5 hul.symm)
 refine sQ (qA rfl) rfl (sQ (qA rfl) rfl (sD (nS (tS (tR (sL (A2 rfl rfl) rfl rfl ?_))))))
 refine sE (A7 rfl) rfl (fun b90 => ?_)
 refine B1 ?_
 refine sD (nS (tS (tR (sQ (A0 rfl) rfl (sL (A3 rfl rfl) rfl rfl ?_)))))
 (refine A0u rfl hClo rfl rfl (fun v98 G98 outs98 hle98 h98 => ?_); obtain ⟨hG, p1, c1, rfl, rfl⟩ := h98; replace hG := hG.symm; subst hG; refine A3j (cs := es.flatten) (by repeat (first | exact Pk.here | apply Pk.there)) (by omega) (fun bc Cc hpe hnc1 hcm => ?_); subst hpe)
 replace hru := hru.mono hle98
 refine sQ (A0 rfl) rfl (B1 ?_)
 refine sD (nS (tS (tR (sQ (A0 rfl) rfl (sL (A3 rfl rfl) rfl rfl (sQ (qM rfl) rfl ?_))))))
 refine sL (A5 rfl rfl (B2 (by repeat first | exact mH | apply mT)) hul) rfl rfl ?_
 refine sP (B3 (j := i) rfl rfl rfl (by omega)) rfl rfl ?_
 refine Y0 rfl rfl rfl hul huo rfl (by repeat first | exact Sw.here | apply Sw.there) (by exact A3k (by rw [hkl.len]; omega) (fun e he => (hsl.all e he)) hul) ?_
 refine U4 ?_
 (refine A1Y (bs := [(bc, (es.set i uc).flatten ++ Cc)]) (Pk.perm (by repeat (first | exact Pk.here | apply Pk.there))) (fun hn2 hd2 hle2 => ?_))
 refine tT (rB (rS (T4 (rB (rS ?_)))))
 refine C8 (rC rfl (A2 rfl rfl)) (rT rfl) (rT rfl) ?_
 (have hks2 := D3.set (j := i) ((hkl.mono hle1).mono hle2) (hru.mono hle2); refine A8k (r' := P5) hs1 hs2 (B0.put (us := ks.set i u) (es := es.set i uc) hk hnum hlb ((hty.mono hle1).mono hle2) ((hfr.mono hle1).mono hle2) (by rw [List.length_set]) (D2.of (Sl.of_blk (A := []) (by rw [A0v hks2.all, hks2.len, List.length_set]) (by omega) hcm (Wi.in hn2 List.mem_cons_self)) (by rw [hks2.len, List.length_set]) hks2.all (fun e he => by obtain ⟨q, hq⟩ := List.getElem?_of_mem he; exact (hks2.inv hq J6).2.one)) hks2) (fun h1 => by rw [hs3 h1, hu1 h1]))
 refine sD (nS (tS (cF rfl (M3 (M5 (N7 (M6 (nS (tS (tS (tR (sL (A2 rfl rfl) rfl rfl ?_))))))))))))
 focus (have hall : ∀ i, i < C → (hl : i < ks.length) → E8 ks[i] = true := (fun j hjc hl2 => hj j (by omega) hl2); have hk8 := hkd hall; have hrd' := hrd hall; refine E5 rfl (hRA hk8) rfl rfl (fun v G1 hle1 hh => ?_); obtain ⟨u, uc, cc, rfl, hru, hy, hno⟩ := hh; have hul := hru.len; have huo := hru.one; rcases hm : W0 k ks with _ | x; rotate_left; obtain ⟨rfl, rfl⟩ := hy _ hm; rotate_left; obtain rfl := hno hm; rw [hm] at hrd')
 refine sQ (qM rfl) rfl (sQ (pX rfl rfl) rfl (sQ (pX rfl rfl) rfl ?_))
 refine sE (A7 rfl) rfl (fun b149 => ?_)
 refine sS rfl rfl rfl hul huo rfl ?_ (hu := by exact D5 hul.symm)
 refine sQ (qA rfl) rfl (sD (nS (tS (tR (sQ (qM rfl) rfl ?_)))))
 refine sP (I2 rfl rfl (by omega)) rfl rfl ?_
 refine sD (nS (cF rfl (tK (nS (tS (tS (tR (sQ (A0 rfl) rfl (sL (A3 rfl rfl) rfl rfl (sQ (H8 rfl rfl) rfl ?_))))))))))
 refine sB (qE rfl rfl) rfl rfl (fun h169 => ?_) (fun h169 => ?_)
 refine sD (nS (qT rfl (tS (tR (sQ (H6 rfl rfl) rfl (B1 ?_))))))
 refine sQ (qA rfl) rfl (sQ (qA rfl) rfl (sD (nS (tT (rS ?_)))))
 refine C8 (rC rfl (A2 rfl rfl)) (rT rfl) (rT rfl) ?_
 (obtain rfl : k = 1 := B2z hk8 (by omega); rw [hrd']; exact R0.mk rfl (L3 _))
 refine sD (nS (cF rfl (tK (nS (tS (tR (sL (A2 rfl rfl) rfl rfl ?_)))))))
 (have hk7 : k = 6 ∨ k = 7 ∨ k = 8 ∨ k = 9 ∨ k = 11 ∨ k = 12 ∨ k = 14 := (by rcases hk8 with h1 | hh; (rw [h1] at hops; have : D0 1 = 0 := rfl; omega); exact hh); refine E5 rfl (hCA hk7 _ hle1) rfl rfl (fun v G2 hle2 hh => ?_); obtain ⟨w, wc, rfl, hrw, hw1⟩ := hh; have hwl := hrw.len; have hwo := hrw.one)
 refine sQ (pX rfl rfl) rfl (sQ (pX rfl rfl) rfl (sQ (pX rfl rfl) rfl ?_))
 refine sS rfl rfl rfl hwl hwo rfl ?_ (hu := by exact D5 hwl.symm)
 refine sQ (qA rfl) rfl (sQ (qA rfl) rfl (sD (nS (tT ?_))))
 refine C8 (rC rfl (A5 rfl rfl (B2 (by repeat first | exact mH | apply mT)) hwl)) (rT rfl) (rT rfl) ?_
 (rw [hrd']; exact A8k (r' := P5) rfl rfl hrw hw1)
 refine sQ (qM rfl) rfl (sQ (pX rfl rfl) rfl (sQ (pX rfl rfl) rfl ?_))
 refine sE (A7 rfl) rfl (fun b208 => ?_)
 refine sS rfl rfl rfl hul huo rfl ?_ (hu := by exact D5 hul.symm)
 refine sQ (qA rfl) rfl (sD (nS (tS (tR (sQ (qM rfl) rfl ?_)))))
 refine sP (V5 rfl rfl (by omega)) rfl rfl ?_
 refine sD (nS (qT rfl (tS (tR ?_))))
 refine sL (A5 rfl rfl (B2 (by repeat first | exact mH | apply mT)) hul) rfl rfl ?_
 refine sQ (qM rfl) rfl ?_
 refine sS rfl rfl rfl hul huo rfl ?_ (hu := by exact D5 hul.symm)
 refine sQ (qA rfl) rfl (sQ (qA rfl) rfl (sD (nS (tT (rS ?_)))))
 refine C8 (rC rfl (A5 rfl rfl (B2 (by repeat first | exact mH | apply mT)) hul)) (rT rfl) (rT rfl) ?_
 (rw [hrd', hm]; exact R0.mk rfl hru)
def J8 (r : Stp) : IM → Value → List A6 → Prop := L8 fun G' v => ∃ cells, v = .tuple ⟨[.agg ⟨cells⟩, .int .i64 r.2.1, .int .i64 r.2.2]⟩ ∧ B0 G' r.1 cells
theorem J8.mk {G : IM} {r : Stp} {u : Tm} {c l : Int} {cells : List Value} (h : r = (u, c, l)) (hr : B0 G u cells) : J8 r G (.tuple ⟨[.agg ⟨cells⟩, .int .i64 c, .int .i64 l]⟩) [] := by
 subst h; exact ⟨rfl, cells, rfl, hr⟩
theorem A4s {t : Tm} (h : O1 t = true) : t.small := A19 t (A1J h).1
theorem A4t {e : Tm} (h : O1 e = false) : H5 e = (J6, 3, 0) := by unfold H5; rw [if_pos h]; rfl
theorem A3C {e : Tm} (h : O1 e = true) (h2 : E8 e = true) : H5 e = (e, 0, 0) := by unfold H5; rw [if_neg (by rw [h]; decide), if_pos h2]
theorem A3D {e : Tm} (h : O1 e = true) (h2 : E8 e = false) (h3 : (I0 e).2.1 ≠ 1) : H5 e = (J6, (I0 e).2.1, (I0 e).2.2) := by
 unfold H5; rw [if_neg (by rw [h]; decide), if_neg (by rw [h2]; decide), if_pos h3]
theorem A3E {e : Tm} (h : O1 e = true) (h2 : E8 e = false) (h3 : (I0 e).2.1 = 1) (h4 : O1 (I0 e).1 = false) : H5 e = (J6, 4, 0) := by
 unfold H5; rw [if_neg (by rw [h]; decide), if_neg (by rw [h2]; decide), if_neg (by omega), if_pos h4]
theorem A3F {e : Tm} (h : O1 e = true) (h2 : E8 e = false) (h3 : (I0 e).2.1 = 1) (h4 : O1 (I0 e).1 = true) : H5 e = ((I0 e).1, 1, 0) := by
 unfold H5; rw [if_neg (by rw [h]; decide), if_neg (by rw [h2]; decide), if_neg (by omega), if_neg (by rw [h4]; decide)]
theorem B2B {e : Tm} (h : (H5 e).2.1 = 1) : O1 (H5 e).1 = true := by
 cases h1 : O1 e with
 | false => rw [A4t h1] at h; simp at h
 | true =>
  cases h2 : E8 e with
  | true => rw [A3C h1 h2] at h; simp at h
  | false =>
   by_cases h3 : (I0 e).2.1 = 1
   ·cases h4 : O1 (I0 e).1 with
    | false => rw [A3E h1 h2 h3 h4] at h; simp at h
    | true => rw [A3F h1 h2 h3 h4]; exact h4
   ·rw [A3D h1 h2 h3] at h; exact absurd h h3
theorem B2C (t : Tm) (G : IM) (cells : List Value) (hr : B0 G t cells) : Fn Tryz.prog 63 [.agg ⟨cells⟩] [] G (J8 (H5 t)) := by
 have hRl := hr.len
 have hRo := hr.one
 have hV := A7b t G cells hr
 have hI := A8b t G cells hr
 refine C0 Tryz.func63 rfl Tryz.ntmps63 Tryz.results63 rfl ?_
 intro w0
 refine tS (tR ?_)
 refine sE (C5 rfl rfl) rfl (fun b3 => ?_)
 refine sE (A7 rfl) rfl (fun b4 => ?_)
 refine sQ (qA rfl) rfl (sQ (qA rfl) rfl (sD (nS (tS ?_))))
 refine B9 ?_
 refine tS (tR ?_)
 refine sL (A5 rfl rfl (B2 (by repeat first | exact mH | apply mT)) hRl) rfl rfl ?_
 refine E7 rfl (hV) rfl rfl (fun h14 => ?_) (fun h14 => ?_)
 refine sQ (K4 rfl) rfl (sQ (qA rfl) rfl (sD (nS (cF rfl (tS (tR ?_))))))
 refine sL (A5 rfl rfl (B2 (by repeat first | exact mH | apply mT)) hRl) rfl rfl ?_
 refine E7 rfl (hI) rfl rfl (fun h23 => ?_) (fun h23 => ?_)
 refine sQ (qA rfl) rfl (sD (nS (qT rfl (tS (tR ?_)))))
 refine sL (A5 rfl rfl (B2 (by repeat first | exact mH | apply mT)) hRl) rfl rfl ?_
 (refine E5 rfl (A5n t G cells (A4s (by assumption)) hr) rfl rfl (fun v G1 hle1 hh => ?_); obtain ⟨cs1, F1, rfl, hs1, hn1⟩ := hh; have hul := hs1.R.len; have huo := hs1.R.one)
 refine sS rfl rfl rfl hul huo rfl ?_ (hu := by exact D5 hul.symm)
 refine sQ (qA rfl) rfl (sQ (qA rfl) rfl (sD (nS (tT (rB (rS ?_))))))
 refine C8 (rC rfl (A5 rfl rfl (B2 (by repeat first | exact mH | apply mT)) hul)) (rT rfl) (rT rfl) ?_
 (exact J8.mk (A3C (by assumption) (by assumption)) (hs1.R.mono (C4.le _ _)))
 refine sQ (qA rfl) rfl (sD (nS (cF rfl (tK (E3 (nS (tS (tR ?_))))))))
 refine sL (A5 rfl rfl (B2 (by repeat first | exact mH | apply mT)) hRl) rfl rfl ?_
 (refine E5 rfl (B2A t G cells (A1J (by assumption)).1 (by assumption) hr) rfl rfl (fun v G1 hle1 hh => ?_); obtain ⟨u, uc, rfl, hru, hu1⟩ := hh; have hul := hru.len; have huo := hru.one; have hVu := A7b u G1 uc hru)
 refine sQ (qM rfl) rfl (sQ (pX rfl rfl) rfl (sQ (pX rfl rfl) rfl (sQ (pX rfl rfl) rfl ?_)))
 refine sE (A7 rfl) rfl (fun b57 => ?_)
 refine sS rfl rfl rfl hul huo rfl ?_ (hu := by exact D5 hul.symm)
 refine sQ (qA rfl) rfl (sQ (qA rfl) rfl (sD (nS (tS ?_))))
 refine B9 ?_
 refine tS (tR (sQ (qM rfl) rfl ?_))
 refine sB (N9 rfl rfl) rfl rfl (fun h68 => ?_) (fun h68 => ?_)
 refine S9 ?_
 refine C8 (rC rfl (A2 rfl rfl)) (rT rfl) (rT rfl) ?_
 (exact J8.mk (A3D (by assumption) (by assumption) (by omega)) (L3 _))
 refine sQ (qA rfl) rfl (sD (nS (cF rfl (tS (tR ?_)))))
 refine sL (A5 rfl rfl (B2 (by repeat first | exact mH | apply mT)) hul) rfl rfl ?_
 refine E7 rfl (hVu) rfl rfl (fun h95 => ?_) (fun h95 => ?_)
 refine sQ (K4 rfl) rfl (sQ (qA rfl) rfl (sD (nS (cF rfl (tK (E3 (nS (tS (tR ?_)))))))))
 refine sL (A5 rfl rfl (B2 (by repeat first | exact mH | apply mT)) hul) rfl rfl ?_
 (refine E5 rfl (A5n u G1 uc (A4s (by assumption)) hru) rfl rfl (fun v G2 hle2 hh => ?_); obtain ⟨cs2, F2, rfl, hs2, hn2⟩ := hh; have hwl := hs2.R.len; have hwo := hs2.R.one)
 refine sS rfl rfl rfl hwl hwo rfl ?_ (hu := by exact D5 hwl.symm)
 refine sQ (qA rfl) rfl (sQ (qA rfl) rfl (sD (nS (tT ?_))))
 refine C8 (rC rfl (A5 rfl rfl (B2 (by repeat first | exact mH | apply mT)) hwl)) (rT rfl) (rT rfl) ?_
 (have h9 := hu1 (by omega); subst h9; exact J8.mk (A3F (by assumption) (by assumption) (by omega) (by assumption)) (hs2.R.mono (C4.le _ _)))
 refine O9 ?_
 refine C8 (rC rfl (A2 rfl rfl)) (rT rfl) (rT rfl) ?_
 (have h9 := hu1 (by omega); subst h9; exact J8.mk (A3E (by assumption) (by assumption) (by omega) (by assumption)) (L3 _))
 refine O9 ?_
 refine C8 (rC rfl (A2 rfl rfl)) (rT rfl) (rT rfl) ?_
 (exact J8.mk (A4t (by assumption)) (L3 _))
def O6 : Nat → Tm → Tm × Int × Int × Nat
 | 0, e => ((H5 e).1, (H5 e).2.1, (H5 e).2.2, 0)
 | n + 1, e => if (H5 e).2.1 = 1 then ((O6 n (H5 e).1).1, (O6 n (H5 e).1).2.1, (O6 n (H5 e).1).2.2.1, (O6 n (H5 e).1).2.2.2 + 1)
  else ((H5 e).1, (H5 e).2.1, (H5 e).2.2, 0)
theorem A5Q (e : Tm) : O6 0 e = ((H5 e).1, (H5 e).2.1, (H5 e).2.2, 0) := by rw [O6]
theorem A5R {n : Nat} {e : Tm} (h : (H5 e).2.1 = 1) : O6 (n + 1) e = ((O6 n (H5 e).1).1, (O6 n (H5 e).1).2.1, (O6 n (H5 e).1).2.2.1, (O6 n (H5 e).1).2.2.2 + 1) := by rw [O6, if_pos h]
theorem A5S {n : Nat} {e : Tm} (h : (H5 e).2.1 ≠ 1) : O6 (n + 1) e = ((H5 e).1, (H5 e).2.1, (H5 e).2.2, 0) := by rw [O6, if_neg h]
theorem A8l : ∀ (n : Nat) (e : Tm), (O6 n e).2.1 = 1 → K7 n e = (J6, 5, 0, (O6 n e).2.2.2)
 | 0, e, h => by rw [A5Q] at h ⊢; rw [K7, if_pos h]
 | n + 1, e, h => by
  by_cases h1 : (H5 e).2.1 = 1
  ·rw [A5R h1] at h ⊢
   rw [K7, if_pos h1, A8l n _ h]
  ·rw [A5S h1] at h; exact absurd h h1
theorem A8m : ∀ (n : Nat) (e : Tm), (O6 n e).2.1 ≠ 1 → K7 n e = O6 n e
 | 0, e, h => by rw [A5Q] at h ⊢; rw [K7, if_neg h]
 | n + 1, e, h => by
  by_cases h1 : (H5 e).2.1 = 1
  ·rw [A5R h1] at h ⊢
   rw [K7, if_pos h1, A8m n _ h]
  ·rw [A5S h1]; rw [K7, if_neg h1]
def EvP (r : Tm × Int × Int × Nat) : IM → Value → List A6 → Prop := L8 fun G' v => ∃ cells, v = .tuple ⟨[.agg ⟨cells⟩, .int .i64 r.2.1, .int .i64 r.2.2.1, .int .i64 (r.2.2.2 : Int)]⟩ ∧ B0 G' r.1 cells
def Y7 (i : Nat) (r : Tm × Int × Int × Nat) : Tm × Int × Int × Nat := (r.1, r.2.1, r.2.2.1, r.2.2.2 + i)
theorem B2D {m i : Nat} {e : Tm} (h : (H5 e).2.1 ≠ 1 ∨ m = 0) : Y7 i (O6 m e) = ((H5 e).1, (H5 e).2.1, (H5 e).2.2, i) := by
 cases m with
 | zero => simp [Y7, O6]
 | succ m =>
  rcases h with h | h
  ·simp only [Y7, O6]; rw [if_neg h]; simp
  ·cases h
theorem B2E {m i : Nat} {e : Tm} (h : (H5 e).2.1 = 1) (hm : 0 < m) : Y7 i (O6 m e) = Y7 (i + 1) (O6 (m - 1) (H5 e).1) := by
 obtain ⟨k, rfl⟩ : ∃ k, m = k + 1 := ⟨m - 1, by omega⟩
 simp only [Y7, O6]; rw [if_pos h]; simp only [Nat.add_sub_cancel, Nat.add_assoc, Nat.add_comm 1 i]
section fin
variable {P : Program} {Γ : L4} {env : L7} {hp : List A6} {G : IM}
theorem B2F {post : IM → Value → List A6 → Prop} {σ : Sy} (hk : post σ.G (.tuple ⟨[]⟩) []) : A0k P Γ [] post .normal σ := ⟨[], .nil, [], σ.hp, by simp, hk⟩
theorem A4u {r r2 r3 r4 : ResultVar} {post : IM → Value → List A6 → Prop} {v v2 v3 v4 : Value} (h : X5 P Γ ⟨env, hp, G⟩ r v) (h2 : X5 P Γ ⟨env, hp, G⟩ r2 v2) (h3 : X5 P Γ ⟨env, hp, G⟩ r3 v3) (h4 : X5 P Γ ⟨env, hp, G⟩ r4 v4) (hk : post G (.tuple ⟨[v, v2, v3, v4]⟩) []) :
  A0k P Γ [r, r2, r3, r4] post .ret ⟨env, hp, G⟩ := A3Q (.cons h (.cons h2 (.cons h3 (.cons h4 .nil)))) hk
end fin
theorem EvP.mk {G : IM} {r : Tm × Int × Int × Nat} {u : Tm} {c l : Int} {i : Nat} {cells : List Value} (h : r = (u, c, l, i)) (hr : B0 G u cells) : EvP r G (.tuple ⟨[.agg ⟨cells⟩, .int .i64 c, .int .i64 l, .int .i64 (i : Int)]⟩) [] := by
 subst h; exact ⟨rfl, cells, rfl, hr⟩
theorem B2G (e : Tm) (n : Nat) (hn : n ≤ 300) (fid : FuncId) [B6 Tryz.prog fid] (us cs : List Value) (hq : ∀ (G : IM) (u : Tm) (cells : List Value), B0 G u cells → Fn Tryz.prog fid (us ++ [.agg ⟨cells⟩] ++ cs) [] G (H4 (.tuple ⟨[]⟩) G))
  (G : IM) (cells : List Value) (hr : B0 G e cells) : Fn Tryz.prog 29 [.agg ⟨cells⟩, .int .i64 (n : Int), .func (.func fid) ⟨us⟩ ⟨cs⟩] [] G (EvP (O6 n e)) := by
 have hRl := hr.len
 have hRo := hr.one
 have hq0 := hq G e cells hr
 refine C0 Tryz.func29 rfl Tryz.ntmps29 Tryz.results29 rfl ?_
 intro w0
 refine tS (tR ?_)
 refine sE (C5 rfl rfl) rfl (fun b3 => ?_)
 refine sE (A7 rfl) rfl (fun b4 => ?_)
 refine sQ (qA rfl) rfl (sQ (qA rfl) rfl (sQ (qA rfl) rfl (sD (nS (tS (tR (sQ (qM rfl) rfl ?_)))))))
 refine sL (A5 rfl rfl (B2 (by repeat first | exact mH | apply mT)) hRl) rfl rfl ?_
 (refine A6A rfl rfl hq0 rfl rfl ?_)
 refine sD (nS (tS (tR (sQ (qA rfl) rfl (sD (nS ?_))))))
 refine B9 ?_
 (refine J4 (fun (x : Nat × Tm × List Value × IM) => ⟨[(10, .int .i64 (x.1 : Int)), (1, .int .i64 (n : Int)), (2, .func (.func fid) ⟨us⟩ ⟨cs⟩), (3, .pointer (some ⟨b3, 0, none⟩)), (6, .pointer (some ⟨b4, 0, none⟩))], [.blk b3 x.2.2.1, .blk b4 [.int .i64 0, .string ⟨⟨[]⟩⟩, .int .i64 0, .int .i64 0, .slice none 0 0, .int .i64 0, .slice none 0 0, .int .i64 0, .slice none 0 0]], x.2.2.2⟩) (fun x => x.1 ≤ n ∧ B8 G x.2.2.2 ∧ B0 x.2.2.2 x.2.1 x.2.2.1 ∧ Y7 x.1 (O6 (n - x.1) x.2.1) = O6 n e) (fun x => n - x.1) (0, e, cells, G) ?_ ?_ ?_)
 (simp only [I3]; exact D9)
 (exact ⟨Nat.zero_le _, B8.refl _, hr, rfl⟩)
 (rintro ⟨i, u, uc, Gi⟩ ⟨hi, hle, hru, hev⟩; simp only [] at hi hle hru hev ⊢; have hul := hru.len; have huo := hru.one)
 refine tS ?_
 refine B9 ?_
 refine tS (tR ?_)
 refine sL (A5 rfl rfl (B2 (by repeat first | exact mH | apply mT)) hul) rfl rfl ?_
 (refine E5 rfl (B2C u Gi uc hru) rfl rfl (fun v G1 hle1 hh => ?_); obtain ⟨wc, hv, hrw⟩ := hh; have hwl := hrw.len; have hwo := hrw.one; have hend := @B2D (n - i) i u; have hgo := @B2E (n - i) i u; generalize H5 u = r at hv hrw hend hgo; obtain ⟨w, c, l⟩ := r; simp only at hv hrw hend hgo; subst hv)
 refine sQ (qM rfl) rfl (sQ (pX rfl rfl) rfl (sQ (pX rfl rfl) rfl (sQ (pX rfl rfl) rfl ?_)))
 refine sE (A7 rfl) rfl (fun b37 => ?_)
 refine sS rfl rfl rfl hwl hwo rfl ?_ (hu := by exact D5 hwl.symm)
 refine sQ (qA rfl) rfl (sQ (qA rfl) rfl (sD (nS (tS (tS (tR (sQ (qM rfl) rfl ?_)))))))
 refine sB (N9 rfl rfl) rfl rfl (fun h47 => ?_) (fun h47 => ?_)
 refine sQ (qM rfl) rfl (sK rfl rfl (sK rfl rfl (sK rfl rfl (sQ (C2 rfl rfl) rfl (sD (nS (qT rfl (tS (tR ?_)))))))))
 refine sL (A5 rfl rfl (B2 (by repeat first | exact mH | apply mT)) hwl) rfl rfl ?_
 refine sQ (qM rfl) rfl (sQ (qM rfl) rfl (sQ (qM rfl) rfl ?_))
 refine sS rfl rfl rfl hwl hwo rfl ?_ (hu := by exact D5 hwl.symm)
 refine sQ (qA rfl) rfl (sQ (qA rfl) rfl (sQ (qA rfl) rfl (sD (nS (tT (rS (rB (rS (T4 (rB ?_))))))))))
 refine A4u (rC rfl (A5 rfl rfl (B2 (by repeat first | exact mH | apply mT)) hwl)) (rT rfl) (rT rfl) (rT rfl) ?_
 (exact EvP.mk (by rw [← hev]; exact hend (by omega)) hrw)
 refine sQ (qM rfl) rfl (sQ (qM rfl) rfl (sQ (qM rfl) rfl ?_))
 refine sB (qE rfl rfl) rfl rfl (fun h79 => ?_) (fun h79 => ?_)
 refine sQ (D7 rfl rfl) rfl (sD (nS (qT rfl (tS (tR ?_)))))
 refine sL (A5 rfl rfl (B2 (by repeat first | exact mH | apply mT)) hwl) rfl rfl ?_
 refine sQ (qM rfl) rfl (sQ (qM rfl) rfl (sQ (qM rfl) rfl ?_))
 refine sS rfl rfl rfl hwl hwo rfl ?_ (hu := by exact D5 hwl.symm)
 refine sQ (qA rfl) rfl (sQ (qA rfl) rfl (sQ (qA rfl) rfl (sD (nS (tT (rS (rB (rS (T4 (rB ?_))))))))))
 refine A4u (rC rfl (A5 rfl rfl (B2 (by repeat first | exact mH | apply mT)) hwl)) (rT rfl) (rT rfl) (rT rfl) ?_
 (exact EvP.mk (by rw [← hev]; exact hend (by omega)) hrw)
 refine sQ (D7 rfl rfl) rfl (sD (nS (cF rfl (tK (nS (tS (tR ?_)))))))
 refine sL (A5 rfl rfl (B2 (by repeat first | exact mH | apply mT)) hwl) rfl rfl ?_
 refine Y0 rfl rfl rfl hwl hwo rfl (by repeat first | exact Sw.here | apply Sw.there) (by exact D5 (hul.trans hwl.symm)) ?_
 refine sD (nS (tR (sQ (qM rfl) rfl ?_)))
 refine sL (A5 rfl rfl (B2 (by repeat first | exact mH | apply mT)) hwl) rfl rfl ?_
 (refine A6A rfl rfl (hq G1 w wc hrw) rfl rfl ?_)
 refine sD (E3 (nS (tR (sQ (qM rfl) rfl ?_))))
 refine sP (I7 rfl rfl (by omega) (by omega)) rfl rfl ?_
 refine sQ (qA rfl) rfl (sD ?_)
 refine J3 (i + 1, w, wc, G1) ?_ ?_ ?_
 (simp only [I3]; exact D9)
 (dsimp only; exact ⟨by omega, hle.trans hle1, hrw, by rw [← hev, hgo (by omega) (by omega), show n - (i + 1) = n - i - 1 by omega]⟩)
 (show n - (i + 1) < n - i; omega)
theorem B2H (fuel : Int) (G : IM) : Fn Tryz.prog 28 [.int .i64 fuel] [] G (H4 (.bool (P8 fuel 0 300)) G) := by
 refine C0 Tryz.func28 rfl Tryz.ntmps28 Tryz.results28 rfl ?_
 intro w0
 refine tS (tR (sQ (qA rfl) rfl (sD (nS (tS (tR (sQ (qM rfl) rfl ?_)))))))
 refine H0 rfl ((A01 _ _ _ _)) rfl rfl ?_
 refine sQ (qA rfl) rfl (sD (nS (tT (A9 (rT rfl) ?_))))
 (exact ⟨rfl, rfl, rfl⟩)
theorem A5T {e : Tm} {fuel : Int} (h : P8 fuel 0 300 = false) : Q7 e fuel = (J6, 3, 0) := by
 unfold Q7; rw [if_neg (A6J h)]; rfl
theorem A8n {e : Tm} {fuel : Int} (h : P8 fuel 0 300 = true) (h1 : (O6 fuel.toNat e).2.1 = 1) : Q7 e fuel = (J6, 5, 0) := by
 unfold Q7; rw [if_pos (A25 h), A8l _ _ h1]
theorem A8o {e : Tm} {fuel : Int} (h : P8 fuel 0 300 = true) (h1 : (O6 fuel.toNat e).2.1 ≠ 1) : Q7 e fuel = ((O6 fuel.toNat e).1, (O6 fuel.toNat e).2.1, (O6 fuel.toNat e).2.2.1) := by
 unfold Q7; rw [if_pos (A25 h), A8m _ _ h1]
theorem B2I (G : IM) (cells : List Value) (hl : cells.length = 9) (ho : cells.all (·.oneCell') = true) : Fn Tryz.prog 30 [.agg ⟨cells⟩] [] G (H4 (.tuple ⟨[]⟩) G) := by
 refine C0 Tryz.func30 rfl Tryz.ntmps30 Tryz.results30 rfl ?_
 intro w0
 refine tR ?_
 refine sE (C5 rfl rfl) rfl (fun b2 => ?_)
 refine sD ?_
 refine B2F ?_
 (exact ⟨rfl, rfl, rfl⟩)
theorem B2J (e : Tm) (fuel : Int) (G : IM) (cells : List Value) (hr : B0 G e cells) : Fn Tryz.prog 9 [.agg ⟨cells⟩, .int .i64 fuel] [] G (J8 (Q7 e fuel)) := by
 have hRl := hr.len
 have hRo := hr.one
 have hno := @A5T e fuel
 have hmu := @A8n e fuel
 have hen := @A8o e fuel
 refine C0 Tryz.func9 rfl Tryz.ntmps9 Tryz.results9 rfl ?_
 intro w0
 refine tS (tR ?_)
 refine sE (C5 rfl rfl) rfl (fun b3 => ?_)
 refine sE (A7 rfl) rfl (fun b4 => ?_)
 refine sQ (qA rfl) rfl (sQ (qA rfl) rfl (sD (nS (tS (tS (tR (sQ (qM rfl) rfl ?_)))))))
 refine E7 rfl ((B2H fuel _)) rfl rfl (fun h13 => ?_) (fun h13 => ?_)
 refine sQ (K4 rfl) rfl (sD (nS (cF rfl (tK (nS (tS (tR ?_)))))))
 refine sL (A5 rfl rfl (B2 (by repeat first | exact mH | apply mT)) hRl) rfl rfl ?_
 refine sQ (qM rfl) rfl ?_
 (have hf : P8 fuel 0 300 = true := (by assumption); have hf2 := A25 hf; have hE := B2G e fuel.toNat (by omega) 30 [] [] (fun G u cells hru => B2I G cells hru.len hru.one) G cells hr; rw [Int.toNat_of_nonneg hf2.1] at hE; refine E5 rfl hE rfl rfl (fun v G1 hle1 hh => ?_); obtain ⟨wc, hv, hrw⟩ := hh; have hwl := hrw.len; have hwo := hrw.one; have hmu := hmu hf; have hen := hen hf; generalize O6 fuel.toNat e = r at hv hrw hmu hen; obtain ⟨w, c, l, i⟩ := r; simp only at hv hrw hmu hen; subst hv)
 refine sQ (qM rfl) rfl (sQ (pX rfl rfl) rfl (sQ (pX rfl rfl) rfl (sQ (pX rfl rfl) rfl (sQ (pX rfl rfl) rfl ?_))))
 refine sE (A7 rfl) rfl (fun b30 => ?_)
 refine sS rfl rfl rfl hwl hwo rfl ?_ (hu := by exact D5 hwl.symm)
 refine sQ (qA rfl) rfl (sQ (qA rfl) rfl (sQ (qA rfl) rfl (sD (nS (tS (tS (tR (sQ (qM rfl) rfl ?_))))))))
 refine sB (qE rfl rfl) rfl rfl (fun h41 => ?_) (fun h41 => ?_)
 refine sD (nS (qT rfl (tS (tR (sQ (H6 rfl rfl) rfl (B1 ?_))))))
 refine sQ (qA rfl) rfl (sQ (qA rfl) rfl (sD (nS (tT (rS ?_)))))
 refine C8 (rC rfl (A2 rfl rfl)) (rT rfl) (rT rfl) ?_
 (exact J8.mk (hmu (by omega)) (L3 _))
 refine sD (nS (cF rfl (tK (nS (tS (tR ?_))))))
 refine sL (A5 rfl rfl (B2 (by repeat first | exact mH | apply mT)) hwl) rfl rfl ?_
 refine sQ (qM rfl) rfl (sQ (qM rfl) rfl ?_)
 refine sS rfl rfl rfl hwl hwo rfl ?_ (hu := by exact D5 hwl.symm)
 refine sQ (qA rfl) rfl (sQ (qA rfl) rfl (sD (nS (tT ?_))))
 refine C8 (rC rfl (A5 rfl rfl (B2 (by repeat first | exact mH | apply mT)) hwl)) (rT rfl) (rT rfl) ?_
 (exact J8.mk (hen (by omega)) hrw)
 refine R2 ?_
 refine C8 (rC rfl (A2 rfl rfl)) (rT rfl) (rT rfl) ?_
 (exact J8.mk (hno (by assumption)) (L3 _))
end Gw
end Go.Proofs.YthpdjmbpbdbodaaGreatDoor
