/-
  Values of the stack machine: as trees, and as they lie in memory; what an instruction does, in plain words. The reference's decimal digits of a number. The program's RunTerm: texts of values. The program's RunTerm. ConfigRuns of the program. Drawn terms that often have a type: one lambda, given the terms below. Drawn terms that often have a type. The reference's typing, exactly. The reference's typing, exactly: meets, the types of nodes. The reference's typing, exactly: types of terms. The reference's insertion of casts, exactly. Drawn terms that are small, terms with blurred types, fuel.
-/
import Derived.Test.YtebfignffjhnhaaGreatDoorKi1
import Derived.Test.YtebfignffjhnhaaGreatDoorKi3
import Derived.Lib.ItoaNum
import Derived.Test.YtebfignffjhnhaaGreatDoorKi5
import Derived.Test.YtebfignffjhnhaaGreatDoorKi4
set_option linter.unusedVariables false
set_option linter.unusedSimpArgs false
set_option maxHeartbeats 0
set_option maxRecDepth 100000
set_option synthInstance.maxSize 4000
set_option synthInstance.maxHeartbeats 0
namespace Go.Proofs.YtebfignffjhnhaaGreatDoor
open Go Go.RowKit
namespace Gw
inductive MV where
 | mk (k num : Int) (env parts : List MV)
def MV.k : MV → Int | .mk k _ _ _ => k
def MV.num : MV → Int | .mk _ n _ _ => n
def MV.env : MV → List MV | .mk _ _ e _ => e
def MV.parts : MV → List MV | .mk _ _ _ p => p
def mv0 : MV := .mk 0 0 [] []
mutual
def RMv (kc : Int → Int) (G : IM) : MV → List Value → Prop
 | .mk k num env parts, cells => ∃ p c es q d fs, cells = [.int .i64 (kc k), .int .i64 num, .slice p env.length c, .slice q parts.length d] ∧ H3 num ∧ H3 (kc k) ∧ C8 G p env.length c 4 es ∧ A3b kc G env es ∧ C8 G q parts.length d 4 fs ∧ A3b kc G parts fs
def A3b (kc : Int → Int) (G : IM) : List MV → List (List Value) → Prop
 | [], es => es = []
 | t :: ts, es => ∃ a r, es = a :: r ∧ RMv kc G t a ∧ A3b kc G ts r
end
section
variable {kc : Int → Int} {G : IM}
end

def RFr (kc : Int → Int) (G : IM) (f : Int × List MV) (cells : List Value) : Prop := ∃ p c es, cells = [.int .i64 f.1, .slice p f.2.length c] ∧ H3 f.1 ∧ C8 G p f.2.length c 4 es ∧ A3b kc G f.2 es
def B0b (kc : Int → Int) (G : IM) : List (Int × List MV) → List (List Value) → Prop
 | [], es => es = []
 | t :: ts, es => ∃ a r, es = a :: r ∧ RFr kc G t a ∧ B0b kc G ts r
section
variable {kc : Int → Int} {G : IM}
end

theorem B0c {sz : Nat} : ∀ {es : List (List Value)} (l : Nat), (∀ e ∈ es, e.length = sz) → es.flatten.drop (l * sz) = (es.drop l).flatten
 | [], l, _ => by simp
 | e :: es, 0, _ => by simp
 | e :: es, l + 1, h => by
  have he : e.length = sz := h e List.mem_cons_self
  rw [List.flatten_cons, List.drop_succ_cons, List.drop_append, show (l + 1) * sz - e.length = l * sz by rw [he, Nat.succ_mul]; omega, List.drop_eq_nil_of_le (by rw [he, Nat.succ_mul]; omega), List.nil_append]
  exact B0c l fun x hx => h x (List.mem_cons_of_mem _ hx)
theorem C8.from {G : IM} {b o n c l sz : Nat} {es : List (List Value)} (h : C8 G (some ⟨b, o, none⟩) n c sz es) (hl : l ≤ n) : C8 G (some ⟨b, if c = l then o else o + l * sz, none⟩) (n - l) (c - l) sz (es.drop l) :=
 C8.of (by rw [← B0c l h.all]; exact h.sl.from hl) (by rw [List.length_drop, h.len]) (fun e he => h.all e (List.mem_of_mem_drop he)) (fun e he => h.one e (List.mem_of_mem_drop he))
structure MSt where
 at' : Int
 st : List MV
 env : List MV
 fr : List (Int × List MV)
def RSs (kc : Int → Int) (G : IM) (s : MSt) (cells : List Value) : Prop := ∃ pe ce ps cs pf cf ee es ef, cells = [.int .i64 s.at', .slice pe s.env.length ce, .slice ps s.st.length cs, .slice pf s.fr.length cf] ∧ H3 s.at' ∧
 C8 G pe s.env.length ce 4 ee ∧ A3b kc G s.env ee ∧ C8 G ps s.st.length cs 4 es ∧ A3b kc G s.st es ∧ C8 G pf s.fr.length cf 2 ef ∧ B0b kc G s.fr ef
def A4Q (k : Int) : Nat := if k = 6 ∨ k = 7 ∨ k = 8 ∨ k = 11 then 2 else if k = 9 ∨ k = 12 ∨ k = 13 then 1 else 0
def A6v (k : Int) : Int × Nat × Int := if k = 6 then (2, 1, 1) else if k = 7 ∨ k = 8 then (0, 2, 2) else if k = 9 then (1, 1, 3) else if k = 12 ∨ k = 13 then (3, 1, 4) else (0, 0, 0)
def A1V (s : MSt) (v : MV) : MSt := { s with st := s.st ++ [v] }
def mGo (k a : Int) (s : MSt) (v : List MV) : MSt ⊕ (Int × Int) :=
 if k = 1 then .inl (A1V s (.mk 0 a [] []))
 else if k = 2 then .inl (A1V s (.mk 1 a [] []))
 else if k = 3 then (if (s.env.length : Int) - 1 - a < 0 then .inr (3, 0) else .inl (A1V s (s.env.getD ((s.env.length : Int) - 1 - a).toNat mv0)))
 else if k = 4 then .inl { A1V s (.mk 2 s.at' s.env []) with at' := s.at' + a }
 else if k = 5 then (if s.fr.length = 0 then .inr (3, 0) else .inl { s with at' := (s.fr.getD (s.fr.length - 1) (0, [])).1, env := (s.fr.getD (s.fr.length - 1) (0, [])).2, fr := s.fr.take (s.fr.length - 1) })
 else if k = 6 then .inl { s with at' := (v.getD 0 mv0).num, env := (v.getD 0 mv0).env ++ [v.getD 1 mv0], fr := s.fr ++ [(s.at', s.env)] }
 else if k = 7 then .inl (A1V s (.mk 0 (((v.getD 0 mv0).num + (v.getD 1 mv0).num) % 1000) [] []))
 else if k = 8 then .inl (A1V s (.mk 1 (if (v.getD 0 mv0).num < (v.getD 1 mv0).num then 1 else 0) [] []))
 else if k = 9 then .inl (if (v.getD 0 mv0).num = 0 then { s with at' := s.at' + a } else s)
 else if k = 10 then .inl { s with at' := s.at' + a }
 else if k = 11 then .inl (A1V s (.mk 3 0 [] v))
 else .inl (A1V s ((v.getD 0 mv0).parts.getD (k - 12).toNat mv0))
def B4U (k : Int) (v : List MV) : Bool := (v.take (A6v k).2.1).all fun u => decide (u.k = (A6v k).1)
def B4V (k a : Int) (s : MSt) : MSt ⊕ (Int × Int) :=
 if s.st.length < A4Q k then .inr (3, 0)
 else if B4U k (s.st.drop (s.st.length - A4Q k)) = true then mGo k a { s with at' := s.at' + 1, st := s.st.take (s.st.length - A4Q k) } (s.st.drop (s.st.length - A4Q k))
 else .inr (2, (A6v k).2.2)
def B4W (v : MV) : ByteArray := if v.k = 0 then ⟨(Lib.decDigits v.num.toNat).toArray⟩ else if v.k = 1 then (if v.num = 0 then ⟨#[70]⟩ else ⟨#[84]⟩) else if v.k = 2 then ⟨⟨[102, 117, 110, 99, 116, 105, 111, 110]⟩⟩ else ⟨⟨[112, 97, 105, 114]⟩⟩
def B4X (s : MSt) : ByteArray × Int × Int := if s.st.length ≠ 1 ∨ 0 < s.fr.length then (⟨#[]⟩, 3, 0) else (B4W (s.st.getD 0 mv0), 0, 0)
def B0d (ops : List (Int × Int)) : Nat → MSt → ByteArray × Int × Int
 | t, s => if (ops.length : Int) ≤ s.at' then B4X s else match t with
  | 0 => (⟨#[]⟩, 5, 0)
  | t + 1 => match B4V (ops.getD s.at'.toNat (0, 0)).1 (ops.getD s.at'.toNat (0, 0)).2 s with
   | .inl s' => B0d ops t s'
   | .inr (c, e) => (⟨#[]⟩, c, e)
def B4Y (k behind : Int) : Int := if k = 1 then 999 else if k = 2 then 1 else if k = 3 then 11 else if k = 4 ∨ k = 9 ∨ k = 10 then behind else 0
def B4Z (n : Nat) (i : Nat) (x : Int × Int) : Bool := decide (1 ≤ x.1 ∧ x.1 ≤ 13 ∧ 0 ≤ x.2 ∧ x.2 ≤ B4Y x.1 ((n : Int) - 1 - i))
def B40 (ops : List (Int × Int)) : Bool := decide (1 ≤ ops.length ∧ ops.length ≤ 120) && (List.range ops.length).all fun i => B4Z ops.length i (ops.getD i (0, 0))
def B6C (ops : List (Int × Int)) (ticks : Int) : ByteArray × Int × Int :=
 if B40 ops = true ∧ 0 ≤ ticks ∧ ticks ≤ 2000 then B0d ops ticks.toNat ⟨0, [], [], []⟩ else (⟨#[]⟩, 3, 0)
theorem B0e (k : Nat) : strOfNums [X2 k] = (⟨[UInt8.ofNat (48 + k % 10)].toArray⟩ : ByteArray) := by
 have : (X2 k).toNat = 48 + k % 10 := by unfold X2; omega
 simp [strOfNums, this]
theorem B41 (a b : List UInt8) : (⟨a.toArray⟩ : ByteArray) ++ ⟨b.toArray⟩ = ⟨(a ++ b).toArray⟩ := by
 apply ByteArray.ext; simp
theorem B42 {k : Nat} {out : ByteArray} (h : 9 < k) : (⟨(Lib.decDigits (k / 10)).toArray⟩ : ByteArray) ++ (strOfNums [X2 k] ++ out) = ⟨(Lib.decDigits k).toArray⟩ ++ out := by
 have e : (⟨(Lib.decDigits k).toArray⟩ : ByteArray) = ⟨(Lib.decDigits (k / 10)).toArray⟩ ++ ⟨[UInt8.ofNat (48 + k % 10)].toArray⟩ := by
  rw [B41 (Lib.decDigits (k / 10))]
  congr 2
  rw [Lib.decDigits, dif_neg (by omega)]
 rw [e, B0e, ByteArray.append_assoc]
theorem B43 {k : Nat} {out : ByteArray} (h : ¬9 < k) : strOfNums [X2 k] ++ out = ⟨(Lib.decDigits k).toArray⟩ ++ out := by
 rw [B0e, Lib.decDigits, dif_pos (by omega), Nat.mod_eq_of_lt (by omega)]
theorem B44 {k : Nat} (h : ¬9 < k) : X2 k = 48 + (k : Int) := by unfold X2; omega
theorem B45 (k : Nat) (hk : k < 10000) (G : IM) : Fn Tryz.prog 129 [.int .i64 (k : Int)] [] G (E5 (.string ⟨(Lib.decDigits k).toArray⟩) G) := by
 refine B8 Tryz.func129 rfl Tryz.ntmps129 Tryz.results129 rfl ?_
 intro w0
 refine D9 ?_
 refine sP (S5 rfl rfl (by omega)) rfl rfl ?_
 refine D9 ?_
 refine sP (S5 rfl rfl (by omega)) rfl rfl ?_
 refine H0 ?_
 refine B7 (I3 (fun (x : Nat × ByteArray) => ⟨[(0, .int .i64 (x.1 : Int)), (2, .string ⟨#[]⟩), (3, .string x.2)], [], G⟩) (fun x => x.1 < 10000 ∧ x.1 + x.2.size < 10020 ∧ (⟨(Lib.decDigits x.1).toArray⟩ : ByteArray) ++ x.2 = ⟨(Lib.decDigits k).toArray⟩) (fun x => x.1) (k, ⟨#[]⟩) ?_ ?_ ?_)
 (simp only [H9]; exact D3)
 (dsimp only; exact ⟨hk, by have : (⟨#[]⟩ : ByteArray).size = 0 := rfl; omega, ByteArray.append_empty⟩)
 (rintro ⟨j, out⟩ ⟨hj, hsz, hd⟩; simp only [] at hj hsz hd ⊢)
 refine B6 ?_
 refine sB (A00 rfl rfl) rfl rfl (fun h41 => ?_) (fun h41 => ?_)
 refine B0 ?_
 refine B7 ?_
 refine B9 ?_
 refine sP (A7u (n := 10) rfl rfl (by omega)) rfl rfl ?_
 refine sP (E7 rfl rfl (by omega) (by omega)) rfl rfl ?_
 refine sP (A5q rfl rfl rfl (by omega) (by omega)) rfl rfl ?_
 (refine J9 (E2 rfl rfl rfl (by omega) (by unfold maxLen; omega) rfl) rfl ?_; rintro _ ⟨b54, rfl⟩)
 refine sL (A5r (xs := [X2 j]) rfl rfl rfl rfl rfl (M4 (by repeat first | exact mH | apply mT))) rfl rfl ?_
 refine E0 ?_
 (have hs1 := strOfNums_size [X2 j]; have hs2 : [X2 j].length = 1 := rfl; refine sP (A3Y rfl rfl (by omega)) rfl rfl ?_)
 refine B0 ?_
 refine sP (A7v (n := 10) rfl rfl (by omega) (by omega)) rfl rfl ?_
 refine B9 ?_
 refine I7 (j / 10, strOfNums [X2 j] ++ out) ?_ ?_ ?_
 (simp only [H9]; exact D3)
 (dsimp only; exact ⟨by omega, by (rw [ByteArray.size_append]; omega), by rw [← hd]; exact B42 (by omega)⟩)
 (show j / 10 < j; omega)
 refine H0 ?_
 refine sP (E7 rfl rfl (by omega) (by omega)) rfl rfl ?_
 refine sP (A5q rfl rfl rfl (by omega) (by omega)) rfl rfl ?_
 (refine J9 (E2 rfl rfl rfl (by omega) (by unfold maxLen; omega) rfl) rfl ?_; rintro _ ⟨b84, rfl⟩)
 (have hs9 := B44 (k := j) (by omega); refine sL (A5r (xs := [48 + (j : Int)]) rfl rfl rfl rfl rfl (M4 (by repeat first | exact mH | apply mT))) rfl rfl ?_; rw [← hs9])
 refine E0 ?_
 (have hs1 := strOfNums_size [X2 j]; have hs2 : [X2 j].length = 1 := rfl; refine sP (A3Y rfl rfl (by omega)) rfl rfl ?_)
 refine B0 ?_
 exact ⟨rfl, by rw [B43 (by omega), hd], rfl⟩
def A6w : ByteArray := ⟨⟨[112, 97, 105, 114]⟩⟩
def A6x : ByteArray := ⟨⟨[102, 117, 110, 99, 116, 105, 111, 110]⟩⟩
def txT : ByteArray := ⟨⟨[84]⟩⟩
def txF : ByteArray := ⟨⟨[70]⟩⟩
def B0f (n : Int) : ByteArray := ⟨(Lib.decDigits n.toNat).toArray⟩
def A1x (k num : Int) : ByteArray := if k = 2 then B0f num else if k = 3 then txT else txF
mutual
def A0t : Tm → ByteArray
 | .mk k nm num ty fr lb ks => if k = 10 ∨ (P6 (.mk k nm num ty fr lb []) = true ∧ ty.k = 5) then A6w else if k = 5 ∨ P6 (.mk k nm num ty fr lb []) = true then A6x else if k = 14 then B46 ks else A1x k num
def B46 : List Tm → ByteArray
 | [] => ⟨⟨[]⟩⟩
 | t :: _ => A0t t
end
theorem B47 (k : Int) (nm : ByteArray) (num : Int) (ty fr : Ty) (lb : Int) (ks : List Tm) (G : IM) (cells : List Value) (hT : Z5 G) (hk3 : k = 2 ∨ k = 3 ∨ k = 4) (hn : 0 ≤ num ∧ num ≤ 999) (hr : B3 G (.mk k nm num ty fr lb ks) cells) : Fn Tryz.prog 107 [.agg ⟨cells⟩] [] G (E5 (.string (A1x k num)) G) := by
 obtain ⟨tk, tks⟩ := ty
 obtain ⟨fk, fks⟩ := fr
 obtain ⟨pt, ct, pf, cf, p, c, es, rfl, hk, hnum, hlb, hty, hfr, hsl, hkl⟩ := hr.open9
 have hI := B2B num G hT hn.1 hn.2
 refine B8 Tryz.func107 rfl Tryz.ntmps107 Tryz.results107 rfl ?_
 intro w0
 refine A2 ?_
 refine sE (C6 rfl rfl) rfl (fun b3 => ?_)
 refine B0 ?_
 refine sQ (A1X rfl rfl) rfl ?_
 refine I9 ?_
 refine B7 ?_
 refine A2 ?_
 refine sP (J1 rfl rfl (by omega)) rfl rfl ?_
 refine A7 ?_
 refine sB (qE rfl rfl) rfl rfl (fun h30 => ?_) (fun h30 => ?_)
 refine D0 ?_
 refine H4 rfl (hI) rfl rfl ?_
 refine A9 ?_
 (exact ⟨rfl, by unfold A1x; rw [if_pos (by omega)]; rfl, rfl⟩)
 refine A7 ?_
 refine sB (qE rfl rfl) rfl rfl (fun h54 => ?_) (fun h54 => ?_)
 refine J6 ?_
 (exact ⟨rfl, by unfold A1x; rw [if_neg (by omega), if_pos (by omega)]; rfl, rfl⟩)
 refine A7 ?_
 refine sP (A0l rfl rfl (by omega)) rfl rfl ?_
 refine J6 ?_
 (exact ⟨rfl, by unfold A1x; rw [if_neg (by omega), if_neg (by omega)]; rfl, rfl⟩)
section
variable {k : Int} {nm : ByteArray} {num : Int} {ty fr : Ty} {lb : Int} {ks : List Tm}
theorem B0g (h : k = 10 ∨ (P6 (.mk k nm num ty fr lb ks) = true ∧ ty.k = 5)) : A0t (.mk k nm num ty fr lb ks) = A6w := by
 rw [A0t]
 exact if_pos h
theorem B0h (h : ¬(k = 10 ∨ (P6 (.mk k nm num ty fr lb ks) = true ∧ ty.k = 5))) (h2 : k = 5 ∨ P6 (.mk k nm num ty fr lb ks) = true) : A0t (.mk k nm num ty fr lb ks) = A6x := by
 rw [A0t]
 exact (if_neg h).trans (if_pos h2)
theorem B0i (h : P6 (.mk k nm num ty fr lb ks) = false) (hk : k = 14) (h0 : 0 < ks.length) : A0t (.mk k nm num ty fr lb ks) = A0t ks[0] := by
 rw [A0t, if_neg (by rintro (h1 | h1); omega; exact Bool.noConfusion (h1.1.symm.trans h)), if_neg (by rintro (h1 | h1); omega; exact Bool.noConfusion (h1.symm.trans h)), if_pos hk]
 cases ks with
 | nil => simp at h0
 | cons t ts => rfl
theorem B0j (h : P6 (.mk k nm num ty fr lb ks) = false) (hk : k ≠ 14) (h10 : k ≠ 10) (h5 : k ≠ 5) : A0t (.mk k nm num ty fr lb ks) = A1x k num := by
 rw [A0t, if_neg (by rintro (h1 | h1); omega; exact Bool.noConfusion (h1.1.symm.trans h)), if_neg (by rintro (h1 | h1); omega; exact Bool.noConfusion (h1.symm.trans h)), if_neg hk]
end
theorem B0k {Q : Prop} (h : Q := by (exact ⟨rfl, congrArg Value.string (hvp (by first | exact .inl (by omega) | exact .inr ⟨by assumption, by assumption⟩)).symm, rfl⟩)) : Q := h
theorem A6y {Q : Prop} (h : Q := by (exact ⟨rfl, congrArg Value.string (hvf (by rintro (h | ⟨h1, h2⟩) <;> first | omega | exact Bool.noConfusion (h1.symm.trans (show bp = false by assumption)) | (simp only [Ty.k] at h2; omega)) (by first | exact .inl (by omega) | exact .inr (by assumption))).symm, rfl⟩)) : Q := h
theorem B48 : ∀ (t : Tm) (G : IM) (cells : List Value), Z5 G → cv t → J4 t = true → B3 G t cells → Fn Tryz.prog 59 [.agg ⟨cells⟩] [] G (E5 (.string (A0t t)) G) := by
 refine Tm.ind fun k nm num ty fr lb ks ih G cells hT hc hv hr => ?_
 have hr0 := hr
 have hP := A2u _ G _ hr
 obtain ⟨hN, hkk⟩ := hc.node
 have hop := hN.ops
 have h14 : k = 14 → ks.length = 1 := fun h => by rw [h] at hop; have : F0 14 = 1 := rfl; omega
 have hL := fun h => B47 k nm num ty fr lb ks G cells hT h hN.num0 hr
 have hvp := @B0g k nm num ty fr lb ks
 have hvf := @B0h k nm num ty fr lb ks
 have hvc := @B0i k nm num ty fr lb ks
 have hvl := @B0j k nm num ty fr lb ks
 have hvn := @A4E k nm num ty fr lb ks
 have hvy := @A3P k nm num ty fr lb ks
 have hprx := A1w k nm num ty fr lb ks
 have hinj := A4D k nm num ty fr lb ks
 have hleaf : P6 (.mk k nm num ty fr lb ks) = false → k ≠ 14 → k ≠ 10 → k ≠ 5 → k = 2 ∨ k = 3 ∨ k = 4 := by
  intro h1 h2 h3 h4
  have := hvn h3 h1 (by rw [hinj, decide_eq_false (by omega)]; rfl)
  rw [this] at hv
  have := of_decide_eq_true hv
  omega
 have hkv : P6 (.mk k nm num ty fr lb ks) = false → k = 14 → ∀ t ∈ ks, J4 t = true := by
  intro h1 h2 t ht
  cases hi : inj (.mk k nm num ty fr lb ks) with
  | true => have := hvy (.inr (.inr hi)); rw [hv] at this; exact List.all_eq_true.1 this.symm t ht
  | false =>
   have := hvn (by omega) h1 hi
   rw [hv] at this
   have := of_decide_eq_true this.symm
   omega
 generalize hpx : P6 (.mk k nm num ty fr lb ks) = bp at *
 obtain ⟨tk, tks⟩ := ty
 obtain ⟨fk, fks⟩ := fr
 obtain ⟨pt, ct, pf, cf, p, c, es, rfl, hk, hnum, hlb, hty, hfr, hsl, hkl⟩ := hr.open9
 refine B8 Tryz.func59 rfl Tryz.ntmps59 Tryz.results59 rfl ?_
 intro w0
 refine A2 ?_
 refine sE (C6 rfl rfl) rfl (fun b3 => ?_)
 refine B6 ?_
 refine B7 ?_
 refine B6 ?_
 refine sB (qE rfl rfl) rfl rfl (fun h13 => ?_) (fun h13 => ?_)
 refine A0O ?_
 exact B0k
 refine A2 ?_
 refine E8 rfl (hP) rfl rfl (fun h40 => ?_) (fun h40 => ?_)
 refine B6 ?_
 refine sB (qE rfl rfl) rfl rfl (fun h45 => ?_) (fun h45 => ?_)
 refine H1 ?_
 exact B0k
 refine I9 ?_
 refine sB (qE rfl rfl) rfl rfl (fun h72 => ?_) (fun h72 => ?_)
 refine Q0 ?_
 exact A6y
 refine A2 ?_
 refine E8 rfl (hP) rfl rfl (fun h93 => ?_) (fun h93 => ?_)
 refine J7 ?_
 exact A6y
 refine D9 ?_
 refine sB (qE rfl rfl) rfl rfl (fun h118 => ?_) (fun h118 => ?_)
 refine D0 ?_
 (have hl1 := h14 (by omega); obtain ⟨bx, ox, e, rfl, hl, hat, hre, hgb⟩ := hsl.kidTm hkl (i := 0) (by omega) (by omega); have hih := ih ks[0] (List.getElem_mem (by omega)) G e hT (hkk _ (List.getElem_mem (by omega))) (hkv (by assumption) (by omega) _ (List.getElem_mem (by omega))) hre; refine sP (B2 (j := 0) rfl rfl rfl (by omega)) rfl rfl ?_)
 refine sL (A0 rfl rfl (hat _) hl) rfl rfl ?_
 refine H4 rfl (hih) rfl rfl ?_
 refine A9 ?_
 (exfalso; have h1 : bp = true := (by assumption); have h2 : bp = false := (by assumption); rw [h1] at h2; cases h2)
 refine I9 ?_
 refine H4 rfl ((hL (hleaf (by assumption) (by omega) (by omega) (by omega)))) rfl rfl ?_
 refine B0 ?_
 (exfalso; have h1 : bp = true := (by assumption); have h2 : bp = false := (by assumption); rw [h1] at h2; cases h2)
 refine H1 ?_
 refine sB (qE rfl rfl) rfl rfl (fun h170 => ?_) (fun h170 => ?_)
 refine Q0 ?_
 exact A6y
 refine A2 ?_
 refine E8 rfl (hP) rfl rfl (fun h191 => ?_) (fun h191 => ?_)
 refine J7 ?_
 (exfalso; have h1 : bp = true := (by assumption); have h2 : bp = false := (by assumption); rw [h1] at h2; cases h2)
 refine D9 ?_
 refine sB (qE rfl rfl) rfl rfl (fun h216 => ?_) (fun h216 => ?_)
 refine D0 ?_
 (have hl1 := h14 (by omega); obtain ⟨bx, ox, e, rfl, hl, hat, hre, hgb⟩ := hsl.kidTm hkl (i := 0) (by omega) (by omega); have hih := ih ks[0] (List.getElem_mem (by omega)) G e hT (hkk _ (List.getElem_mem (by omega))) (hkv (by assumption) (by omega) _ (List.getElem_mem (by omega))) hre; refine sP (B2 (j := 0) rfl rfl rfl (by omega)) rfl rfl ?_)
 refine sL (A0 rfl rfl (hat _) hl) rfl rfl ?_
 refine H4 rfl (hih) rfl rfl ?_
 refine A9 ?_
 (exact ⟨rfl, congrArg Value.string (hvc (by assumption) (by omega) (by omega)).symm, rfl⟩)
 refine I9 ?_
 refine H4 rfl ((hL (hleaf (by assumption) (by omega) (by omega) (by omega)))) rfl rfl ?_
 refine B0 ?_
 (exact ⟨rfl, congrArg Value.string (hvl (by assumption) (by omega) (by omega) (by omega)).symm, rfl⟩)
def S3 (e : Tm) (fuel : Int) : ByteArray × Int × Int := match V2 e with
 | none => (⟨⟨[]⟩⟩, 3, 0)
 | some (u, _) => if (S2 u fuel).2.1 = 0 then (A0t (S2 u fuel).1, 0, 0) else (⟨⟨[]⟩⟩, (S2 u fuel).2.1, (S2 u fuel).2.2)
def B0l (r : ByteArray × Int × Int) (G : IM) : IM → Value → List A5 → Prop := L5 fun _ v => v = .tuple ⟨[.string r.1, .int .i64 r.2.1, .int .i64 r.2.2]⟩
theorem B0m {e : Tm} {fuel : Int} (h : V2 e = none) : S3 e fuel = (⟨⟨[]⟩⟩, 3, 0) := by unfold S3; rw [h]
theorem B0n {e u : Tm} {t : Ty} {fuel : Int} (h : V2 e = some (u, t)) (h0 : (S2 u fuel).2.1 = 0) : S3 e fuel = (A0t (S2 u fuel).1, 0, 0) := by unfold S3; rw [h]; simp only [h0, if_true]
theorem B0o {e u : Tm} {t : Ty} {fuel : Int} (h : V2 e = some (u, t)) (h0 : (S2 u fuel).2.1 ≠ 0) : S3 e fuel = (⟨⟨[]⟩⟩, (S2 u fuel).2.1, (S2 u fuel).2.2) := by unfold S3; rw [h]; simp only [if_neg h0]
theorem B0p : ∀ (n : Nat) (e : Tm), (N8 n e).2.1 = 0 → O9 (N8 n e).1 = true ∧ J4 (N8 n e).1 = true ∧ (N8 n e).2.2.1 = 0
 | 0, e, h => by rw [A6j] at h ⊢; exact stepv e h
 | n + 1, e, h => by
  by_cases h1 : (J0 e).2.1 = 1
  ·rw [A6k h1] at h ⊢; exact B0p n _ h
  ·rw [A6l h1] at h ⊢; exact stepv e h
where
 stepv (e : Tm) (h : (J0 e).2.1 = 0) : O9 (J0 e).1 = true ∧ J4 (J0 e).1 = true ∧ (J0 e).2.2 = 0 := by
  cases h1 : O9 e with
  | false => rw [A4J h1] at h; simp at h
  | true =>
   cases h2 : J4 e with
   | true => rw [A4K h1 h2]; exact ⟨h1, h2, rfl⟩
   | false =>
    by_cases h3 : (J5 e).2.1 = 1
    ·cases h4 : O9 (J5 e).1 with
     | false => rw [A4M h1 h2 h3 h4] at h; simp at h
     | true => rw [A4N h1 h2 h3 h4] at h; simp at h
    ·rw [A4L h1 h2 h3] at h
     exact absurd h (stp_ne0 e)
 stp_ne0 : ∀ (e : Tm), (J5 e).2.1 ≠ 0 := by
  refine Tm.ind fun k nm num ty fr lb ks ih => ?_
  rw [J5]
  cases hL : Z7 (if k = 9 then 1 else ks.length) ks with
  | none => exact red_ne0 k ty fr lb ks
  | some p =>
   obtain ⟨us, c, l⟩ := p
   have := stpL_ne0 ks ih _ us c l hL
   simp only
   by_cases hc : c = 1
   ·rw [if_pos hc]; simp
   ·rw [if_neg hc]; exact this
 red_ne0 (k : Int) (ty fr : Ty) (lb : Int) (ks : List Tm) : (N9 k ty fr lb ks).2.1 ≠ 0 := by
  unfold N9 P7
  repeat' split
  all_goals simp
 stpL_ne0 (ks : List Tm) (ih : ∀ t ∈ ks, (J5 t).2.1 ≠ 0) : ∀ (n : Nat) us c l, Z7 n ks = some (us, c, l) → c ≠ 0 := by
  induction ks with
  | nil => intro n us c l h; cases n <;> simp [Z7] at h
  | cons t ts iht =>
   intro n us c l h
   cases n with
   | zero => simp [Z7] at h
   | succ n =>
    rw [A4H] at h
    by_cases hv : J4 t = true
    ·rw [if_pos hv] at h
     split at h
     ·rename_i us' c' l' h'
      simp only [Option.some.injEq, Prod.mk.injEq] at h
      obtain ⟨_, rfl, _⟩ := h
      exact iht (fun u hu => ih u (List.mem_cons_of_mem _ hu)) n _ _ _ h'
     ·cases h
    ·rw [if_neg hv] at h
     simp only [Option.some.injEq, Prod.mk.injEq] at h
     obtain ⟨_, rfl, _⟩ := h
     exact ih t List.mem_cons_self
theorem B0q {e : Tm} {fuel : Int} (h : (S2 e fuel).2.1 = 0) : O9 (S2 e fuel).1 = true ∧ J4 (S2 e fuel).1 = true ∧ (S2 e fuel).2.2 = 0 := by
 cases hf : O2 fuel 0 300 with
 | false => rw [A6o hf] at h; simp at h
 | true =>
  by_cases h1 : (N8 fuel.toNat e).2.1 = 1
  ·rw [A9K hf h1] at h; simp at h
  ·rw [A9L hf h1] at h ⊢; exact B0p _ _ h
theorem B0r {Q : Prop} (h : Q := by (obtain rfl : c = 0 := (by omega); subst he3; exact ⟨rfl, by rw [hyv rfl]⟩)) : Q := h
theorem B49 (e : Tm) (fuel : Int) (G : IM) (cells : List Value) (hT : Z5 G) (hr : B3 G e cells) : Fn Tryz.prog 23 [.agg ⟨cells⟩, .int .i64 fuel] [] G (B0l (S3 e fuel) G) := by
 have hRl := hr.len
 have hRo := hr.one
 have hno := @B0m e fuel
 have hyv := fun u t => @B0n e u t fuel
 have hyn := fun u t => @B0o e u t fuel
 refine B8 Tryz.func23 rfl Tryz.ntmps23 Tryz.results23 rfl ?_
 intro w0
 refine A2 ?_
 refine sE (C6 rfl rfl) rfl (fun b3 => ?_)
 refine A9 ?_
 refine sL (A0 rfl rfl (B1 (by repeat first | exact mH | apply mT)) hRl) rfl rfl ?_
 focus (refine D4 rfl (B4J e G cells hr) rfl rfl (fun v G1 hle1 hh => ?_); obtain ⟨cu, ct, rfl, hru, hrt⟩ := hh; rcases hI : V2 e with _ | ⟨u, t⟩; rotate_left; rw [hI] at hru hrt; simp only [Option.getD_some] at hru hrt; rotate_left; rw [hI] at hru hrt; simp only [Option.getD_none] at hru hrt; simp only [Option.isSome]; rotate_left; simp only [Option.isSome]; rotate_left; all_goals (have hul := hru.len; have huo := hru.one; obtain ⟨p3, c3, e3, rfl, _⟩ := hrt.open))
 refine B6 ?_
 refine sE (A6 rfl) rfl (fun b17 => ?_)
 refine sE (A6 rfl) rfl (fun b18 => ?_)
 refine sS rfl rfl rfl hul huo rfl ?_ (hu := by exact D8 hul.symm)
 refine A0p ?_
 refine D2 (rT rfl) (rT rfl) (rT rfl) ?_
 (exact ⟨rfl, by rw [hno (by first | exact hI | rfl | assumption)]⟩)
 refine B6 ?_
 refine sE (A6 rfl) rfl (fun b47 => ?_)
 refine sE (A6 rfl) rfl (fun b48 => ?_)
 refine sS rfl rfl rfl hul huo rfl ?_ (hu := by exact D8 hul.symm)
 refine J3 ?_
 refine sL (A0 rfl rfl (B1 (by repeat first | exact mH | apply mT)) hul) rfl rfl ?_
 refine E0 ?_
 (have hyv := hyv u t hI; have hyn := hyn u t hI; have hev := @B0q u fuel; refine D4 rfl (B4w u fuel G1 cu hru) rfl rfl (fun v G2 hle2 hh => ?_); obtain ⟨wc, hvv, hrw⟩ := hh; have hwl := hrw.len; have hwo := hrw.one; generalize S2 u fuel = r at hvv hrw hyv hyn hev; obtain ⟨w, c, l⟩ := r; simp only at hvv hrw hyv hyn hev; subst hvv)
 refine B6 ?_
 refine sE (A6 rfl) rfl (fun b73 => ?_)
 refine sS rfl rfl rfl hwl hwo rfl ?_ (hu := by exact D8 hwl.symm)
 refine D0 ?_
 refine sB (M7 rfl rfl) rfl rfl (fun h83 => ?_) (fun h83 => ?_)
 refine J7 ?_
 refine D2 (rT rfl) (rT rfl) (rT rfl) ?_
 (exact ⟨rfl, by rw [hyn (by omega)]⟩)
 refine A9 ?_
 refine sL (A0 rfl rfl (B1 (by repeat first | exact mH | apply mT)) hwl) rfl rfl ?_
 (obtain ⟨he1, he2, he3⟩ := hev (by omega); refine H4 rfl (B48 w G2 wc (hT.mono (hle1.trans hle2)) (A2k he1).1 he2 hrw) rfl rfl ?_)
 refine D0 ?_
 refine D2 (rT rfl) (rT rfl) (rT rfl) ?_
 exact B0r
def R8 (e : Tm) (fuel : Int) : Option (List Int) := if O2 fuel 0 300 = true then (U4 e).map (List.map fun x => (S3 x fuel).2.1) else none
def IsP (l : List Int) (b : Bool) (G : IM) : IM → Value → List A5 → Prop := L5 fun G' v => ∃ p c, v = .tuple ⟨[.slice p l.length c, .bool b]⟩ ∧ SP1 (B5 G' G) l p c
theorem IsP.mk {l l' : List Int} {b b' : Bool} {n : Nat} {G G' : IM} {p : Option Addr} {c : Nat} (hl : l = l') (hb : b = b') (hn : n = l.length) (h : SP1 (B5 G' G) l p c) : IsP l' b' G G' (.tuple ⟨[.slice p n c, .bool b]⟩) [] := by
 subst hl hb hn; exact ⟨rfl, p, c, rfl, h⟩
theorem A6z (e : Tm) (fuel : Int) (G : IM) (cells : List Value) (hT : Z5 G) (hr : B3 G e cells) : Fn Tryz.prog 49 [.agg ⟨cells⟩, .int .i64 fuel] [] G (L5 fun _ v => v = .int .i64 (S3 e fuel).2.1) := by
 have hl := hr.len
 have hone := hr.one
 obtain ⟨s, c, l, hR⟩ : ∃ s c l, S3 e fuel = (s, c, l) := ⟨_, _, _, rfl⟩
 have hI := B49 e fuel G cells hT hr
 rw [hR] at hI ⊢
 refine B8 Tryz.func49 rfl Tryz.ntmps49 Tryz.results49 rfl ?_
 intro w0
 refine A2 ?_
 refine sE (C6 rfl rfl) rfl (fun b3 => ?_)
 refine B0 ?_
 refine sL (A0 rfl rfl (B1 (by repeat first | exact mH | apply mT)) hl) rfl rfl ?_
 refine E0 ?_
 (refine D4 rfl hI rfl rfl (fun v2 G2 hle2 hh => ?_); replace hh : v2 = .tuple ⟨[.string s, .int .i64 c, .int .i64 l]⟩ := hh; subst hh)
 refine Q0 ?_
 exact ⟨rfl, rfl⟩
theorem B5a (x : Tm) (fuel : Int) (G : IM) (xc : List Value) (b : Nat) (hT : Z5 G) (hr : B3 G x xc) : Fn Tryz.prog 48 [.agg ⟨xc⟩, .pointer (some ⟨b, 0, none⟩)] [.blk b [.int .i64 fuel]] G (fun _ v outs => outs = [.blk b [.int .i64 fuel]] ∧ v = .int .i64 (S3 x fuel).2.1) := by
 have hl := hr.len
 have hone := hr.one
 have hI := A6z x fuel G xc hT hr
 refine B8 Tryz.func48 rfl Tryz.ntmps48 Tryz.results48 rfl ?_
 intro w0
 refine A2 ?_
 refine sE (C6 rfl rfl) rfl (fun b3 => ?_)
 refine B0 ?_
 refine sL (A0 rfl rfl (B1 (by repeat first | exact mH | apply mT)) hl) rfl rfl ?_
 refine E0 ?_
 (refine D4 rfl hI rfl rfl (fun v2 G2 hle2 hh => ?_); subst hh)
 refine B6 ?_
 refine N4 (outs := [.blk b [.int .i64 fuel]]) (rT rfl) (by repeat (first | exact A8.nil | refine A8.cons Pk.here ?_ | refine A8.cons (Pk.there Pk.here) ?_ | refine A8.cons (Pk.there (Pk.there Pk.here)) ?_ | apply A8.drop)) ?_
 exact ⟨rfl, rfl⟩
theorem B0s (e : Tm) (fuel : Int) (G : IM) (cells : List Value) (hts : e.small) (hcnt : D6 e ≤ 4000000) (hT : Z5 G) (hr : B3 G e cells) :
  Fn Tryz.prog 14 [.agg ⟨cells⟩, .int .i64 fuel] [] G (IsP ((R8 e fuel).getD []) (R8 e fuel).isSome G) := by
 have hl := hr.len
 have hone := hr.one
 have hno : O2 fuel 0 300 = false → R8 e fuel = none := fun h => by unfold R8; rw [if_neg (by rw [h]; decide)]
 have hyes : O2 fuel 0 300 = true → R8 e fuel = (U4 e).map (List.map fun x => (S3 x fuel).2.1) := fun h => by unfold R8; rw [if_pos h]
 generalize R8 e fuel = R at *
 refine B8 Tryz.func14 rfl Tryz.ntmps14 Tryz.results14 rfl ?_
 intro w0
 refine A2 ?_
 refine sE (C6 rfl rfl) rfl (fun b3 => ?_)
 (refine J9 (A60 rfl rfl rfl) rfl ?_; rintro _ ⟨b4, rfl⟩)
 refine D0 ?_
 refine E8 rfl (A6n fuel _) rfl rfl (fun h13 => ?_) (fun h13 => ?_)
 refine D0 ?_
 refine sL (A0 rfl rfl (B1 (by repeat first | exact mH | apply mT)) hl) rfl rfl ?_
 refine sQ (A1X rfl rfl) rfl ?_
 (have hy2 := hyes (by assumption); refine A1M rfl (B4T e (fun x => (S3 x fuel).2.1) 48 [] [.pointer (some ⟨b4, 0, none⟩)] (.blk b4 [.int .i64 fuel]) G cells hts hcnt hr (fun x G' xc hle _ hrx => B5a x fuel G' xc _ (hT.mono hle) hrx)) (Pk.perm (by repeat (first | exact Pk.here | apply Pk.there))) rfl rfl (fun v3 G3 outs hle3 hh => ?_); obtain ⟨rfl, p, c, rfl, hsp⟩ := hh; rw [← hy2] at hsp ⊢)
 refine A9 ?_
 refine E9 (rT rfl) (rT rfl) ?_
 exact IsP.mk rfl rfl rfl hsp
 refine J8 ?_
 refine E9 (rT rfl) (rT rfl) ?_
 exact IsP.mk (by rw [hno (by assumption)]; rfl) (by rw [hno (by assumption)]; rfl) rfl (SP1.nil _)
def mB : Nat → Nat
 | 0 => 200
 | n + 1 => 3 * mB n + 200
def B5b (n : Nat) (depth : Int) (t : Ty) : Prop := Y4 4 t ∧ (n : Int) - 1000 ≤ depth ∧ depth ≤ 1000 ∧ ((depth ≤ 1 ∧ Y4 n t) ∨ (2 ≤ depth ∧ depth + 3 ≤ n))
def B6D (br : Nat) (pb : Option Addr) (nb cb : Nat) (bs : List UInt8) (n : Nat) : Prop := ∀ (depth : Int) (t : Ty) (p : Nat) (G : IM) (pc : Option Addr) (nc cc : Nat) (cells : List Value), B5b n depth t → (n : Int) - 1000 ≤ depth → depth ≤ 1000 → nc + n ≤ 40 → GCx G pc nc cc → C2 G t cells → Sl G pb nb cb 1 (A8M bs) → p + mB n < 1099511627776 →
 Fn Tryz.prog 124 [.pointer (some ⟨br, 0, none⟩), .slice pc nc cc, .agg ⟨cells⟩, .int .i64 depth] [rd br pb nb cb p] G
  (B3g br pb nb cb p (mB n) (fun G' v => ∃ e cells, v = .agg ⟨cells⟩ ∧ B3 G' e cells ∧ e.small ∧ D6 e ≤ mB n))
structure B6E {ι : Type} (S : ι → Sy) (φ : ι → Prop) (K : Po) (e : Exit) (σ : Sy) : Prop where
 run : match e with
  | .normal => ∃ i, φ i ∧ Sub σ (S i)
  | e => K e σ
section cut
variable {P : Program} {Γ : K8} {K : Po} {σ : Sy} {ι : Type}
end cut
def Q5 (o : Option Ty) (G : IM) : IM → Value → List A5 → Prop := L5 fun G' v => ∃ t cells, v = .tuple ⟨[.agg ⟨cells⟩, .bool o.isSome]⟩ ∧ C2 G' t cells ∧ F8 t ∧ ∀ u, o = some u → u = t
theorem Q5.yes {G G' : IM} {o : Option Ty} {t : Ty} {cells : List Value} (h : o = some t) (hr : C2 G' t cells) (ha : F8 t) : Q5 o G G' (.tuple ⟨[.agg ⟨cells⟩, .bool true]⟩) [] := by
 subst h; exact ⟨rfl, t, cells, rfl, hr, ha, fun u h => (by cases h; rfl)⟩
theorem Q5.no {G G' : IM} {o : Option Ty} {t : Ty} {cells : List Value} (h : o = none) (hr : C2 G' t cells) (ha : F8 t) : Q5 o G G' (.tuple ⟨[.agg ⟨cells⟩, .bool false]⟩) [] := by
 subst h; exact ⟨rfl, t, cells, rfl, hr, ha, fun u h => (by cases h)⟩
theorem Q5.mk {G G' : IM} {o : Option Ty} {b : Bool} {t : Ty} {cells : List Value} (h : o = if b = true then some t else none) (hr : C2 G' t cells) (ha : F8 t) : Q5 o G G' (.tuple ⟨[.agg ⟨cells⟩, .bool b]⟩) [] := by
 cases b
 ·exact Q5.no h hr ha
 ·exact Q5.yes h hr ha
theorem A6A {t : Ty} (h : H5 t = true) : F8 t := (A4q h).1
theorem A2z (k : Int) (a b : Ty) (G : IM) (ca cb : List Value) (hk : k = 4 ∨ k = 5) (ha : F8 a) (hb : F8 b) (hra : C2 G a ca) (hrb : C2 G b cb) :
  Fn Tryz.prog 189 [.int .i64 k, .agg ⟨ca⟩, .agg ⟨cb⟩] [] G (L5 fun G' v => ∃ cells, v = .tuple ⟨[.agg ⟨cells⟩, .bool (H5 (.mk k [a, b]))]⟩ ∧ C2 G' (.mk k [a, b]) cells) := by
 obtain ⟨ak, aks⟩ := a
 obtain ⟨bk, bks⟩ := b
 obtain ⟨pa, cca, ea, rfl, _⟩ := hra.open
 obtain ⟨pb, ccb, eb, rfl, _⟩ := hrb.open
 have hki : H3 k := ⟨by omega, by omega⟩
 refine B8 Tryz.func189 rfl Tryz.ntmps189 Tryz.results189 rfl ?_
 intro w0
 refine A2 ?_
 refine sE (C6 rfl rfl) rfl (fun b3 => ?_)
 refine sE (C6 rfl rfl) rfl (fun b4 => ?_)
 refine sE (A6 rfl) rfl (fun b5 => ?_)
 refine B6 ?_
 refine E1 E3 rfl ?_
 refine K2 (i := 0) (l' := [tt,ff,ff,ff,ff,ff,ff,ff,ff]) rfl D5 (qM rfl) rfl (by kernel_rfl) rfl rfl ?_
 refine aL 1 rfl (A4 rfl rfl) rfl ?_
 refine aL 3 rfl (A4 rfl rfl) rfl ?_
 refine P9 (j := 2) (j' := 7) (by kernel_rfl) ?_ ?_
 (refine H2 rfl rfl (P4 _ G _ ha.small hra) rfl rfl rfl (fun v G1 hle1 hh => ?_); obtain ⟨cs1, F1, rfl, hs1, hn1⟩ := hh; obtain ⟨p1, c1, rfl, _⟩ := hs1.open; have hC2 := P4 _ G1 _ hb.small (hrb.mono hle1))
 refine P9 (j := 4) (j' := 7) (by kernel_rfl) ?_ ?_
 (refine H2 rfl rfl hC2 rfl rfl rfl (fun v G2 hle2 hh => ?_); obtain ⟨cs2, F2, rfl, hs2, hn2⟩ := hh; obtain ⟨p2, c2, rfl, _⟩ := hs2.open; have hr1 := hs1.R.mono ((B5.le G1 G).trans hle2); have hr2 := hs2.R.mono (B5.le G2 G1))
 refine P9 (j := 5) (j' := 7) (by kernel_rfl) ?_ ?_
 (refine E6 rfl (E2 rfl rfl rfl (by omega) (by unfold maxLen; omega) rfl) rfl rfl ?_; rintro _ ⟨b19, rfl⟩)
 refine aP 6 rfl (Z3 rfl rfl) rfl ?_
 refine A3 7 ?_
 (refine E6 rfl (A6 rfl) rfl rfl ?_; rintro _ ⟨b22, rfl⟩)
 refine A3 8 ?_
 refine H6 rfl ?_
 refine B9 ?_
 (have hr1' := hr1; refine A2G (by repeat (first | exact Pk.here | apply Pk.there)) (fun G5 hle5 hsl5 hno5 => ?_); have hRT : C2 G5 (.mk k [.mk ak aks, .mk bk bks]) _ := C7.ty (ts := [.mk ak aks, .mk bk bks]) (es := [[.int .i64 ak, .slice p1 aks.length c1], [.int .i64 bk, .slice p2 bks.length c2]]) ⟨_, _, rfl, hr1.mono hle5, _, _, rfl, hr2.mono hle5, rfl⟩ rfl hsl5 hki; have hV := A1L _ G5 _ hRT; refine E1 E3 rfl ?_)
 refine K9 (i := 0) (l' := [tt,ff,ff,ff,ff]) rfl D5 (A4 rfl rfl) rfl (by kernel_rfl) rfl rfl ?_
 refine aL 1 rfl (A4 rfl rfl) rfl ?_
 refine A3 2 ?_
 refine M5 rfl rfl (hV) rfl rfl rfl ?_
 refine A3 3 ?_
 refine H6 rfl ?_
 refine aP 4 rfl (qA rfl) rfl ?_
 refine B9 ?_
 refine E9 (rC rfl (A4 rfl rfl)) (rT rfl) ?_
 (exact ⟨rfl, _, rfl, hRT⟩)
 (refine E6 rfl (A6 rfl) rfl rfl ?_; rintro _ ⟨b41, rfl⟩)
 refine A3 5 ?_
 (refine E6 rfl (E2 rfl rfl rfl (by omega) (by unfold maxLen; omega) rfl) rfl rfl ?_; rintro _ ⟨b43, rfl⟩)
 refine aP 6 rfl (Z3 rfl rfl) rfl ?_
 refine A3 8 ?_
 refine H6 rfl ?_
 refine B9 ?_
 (have hr1' := hr1; refine A2G (by repeat (first | exact Pk.here | apply Pk.there)) (fun G5 hle5 hsl5 hno5 => ?_); have hRT : C2 G5 (.mk k [.mk ak aks, .mk bk bks]) _ := C7.ty (ts := [.mk ak aks, .mk bk bks]) (es := [[.int .i64 ak, .slice p1 aks.length c1], [.int .i64 bk, .slice p2 bks.length c2]]) ⟨_, _, rfl, hr1.mono hle5, _, _, rfl, hr2.mono hle5, rfl⟩ rfl hsl5 hki; have hV := A1L _ G5 _ hRT; refine E1 E3 rfl ?_)
 refine K9 (i := 0) (l' := [tt,ff,ff,ff,ff]) rfl D5 (A4 rfl rfl) rfl (by kernel_rfl) rfl rfl ?_
 refine aL 1 rfl (A4 rfl rfl) rfl ?_
 refine A3 2 ?_
 refine M5 rfl rfl (hV) rfl rfl rfl ?_
 refine A3 3 ?_
 refine H6 rfl ?_
 refine aP 4 rfl (qA rfl) rfl ?_
 refine B9 ?_
 refine E9 (rC rfl (A4 rfl rfl)) (rT rfl) ?_
 (exact ⟨rfl, _, rfl, hRT⟩)
 (refine E6 rfl (A6 rfl) rfl rfl ?_; rintro _ ⟨b63, rfl⟩)
 refine A3 4 ?_
 (refine H2 rfl rfl hC2 rfl rfl rfl (fun v G2 hle2 hh => ?_); obtain ⟨cs2, F2, rfl, hs2, hn2⟩ := hh; obtain ⟨p2, c2, rfl, _⟩ := hs2.open; have hr1 := hs1.R.mono ((B5.le G1 G).trans hle2); have hr2 := hs2.R.mono (B5.le G2 G1))
 refine A3 5 ?_
 (refine E6 rfl (E2 rfl rfl rfl (by omega) (by unfold maxLen; omega) rfl) rfl rfl ?_; rintro _ ⟨b67, rfl⟩)
 refine aP 6 rfl (Z3 rfl rfl) rfl ?_
 refine A3 8 ?_
 refine H6 rfl ?_
 refine B9 ?_
 (have hr1' := hr1; refine A2G (by repeat (first | exact Pk.here | apply Pk.there)) (fun G5 hle5 hsl5 hno5 => ?_); have hRT : C2 G5 (.mk k [.mk ak aks, .mk bk bks]) _ := C7.ty (ts := [.mk ak aks, .mk bk bks]) (es := [[.int .i64 ak, .slice p1 aks.length c1], [.int .i64 bk, .slice p2 bks.length c2]]) ⟨_, _, rfl, hr1.mono hle5, _, _, rfl, hr2.mono hle5, rfl⟩ rfl hsl5 hki; have hV := A1L _ G5 _ hRT; refine E1 E3 rfl ?_)
 refine K9 (i := 0) (l' := [tt,ff,ff,ff,ff]) rfl D5 (A4 rfl rfl) rfl (by kernel_rfl) rfl rfl ?_
 refine aL 1 rfl (A4 rfl rfl) rfl ?_
 refine A3 2 ?_
 refine M5 rfl rfl (hV) rfl rfl rfl ?_
 refine A3 3 ?_
 refine H6 rfl ?_
 refine aP 4 rfl (qA rfl) rfl ?_
 refine B9 ?_
 refine E9 (rC rfl (A4 rfl rfl)) (rT rfl) ?_
 (exact ⟨rfl, _, rfl, hRT⟩)
 (refine E6 rfl (A6 rfl) rfl rfl ?_; rintro _ ⟨b87, rfl⟩)
 refine A3 2 ?_
 (refine H2 rfl rfl (P4 _ G _ ha.small hra) rfl rfl rfl (fun v G1 hle1 hh => ?_); obtain ⟨cs1, F1, rfl, hs1, hn1⟩ := hh; obtain ⟨p1, c1, rfl, _⟩ := hs1.open; have hC2 := P4 _ G1 _ hb.small (hrb.mono hle1))
 refine A3 4 ?_
 (refine H2 rfl rfl hC2 rfl rfl rfl (fun v G2 hle2 hh => ?_); obtain ⟨cs2, F2, rfl, hs2, hn2⟩ := hh; obtain ⟨p2, c2, rfl, _⟩ := hs2.open; have hr1 := hs1.R.mono ((B5.le G1 G).trans hle2); have hr2 := hs2.R.mono (B5.le G2 G1))
 refine A3 5 ?_
 (refine E6 rfl (E2 rfl rfl rfl (by omega) (by unfold maxLen; omega) rfl) rfl rfl ?_; rintro _ ⟨b93, rfl⟩)
 refine aP 6 rfl (Z3 rfl rfl) rfl ?_
 refine A3 8 ?_
 refine H6 rfl ?_
 refine B9 ?_
 (have hr1' := hr1; refine A2G (by repeat (first | exact Pk.here | apply Pk.there)) (fun G5 hle5 hsl5 hno5 => ?_); have hRT : C2 G5 (.mk k [.mk ak aks, .mk bk bks]) _ := C7.ty (ts := [.mk ak aks, .mk bk bks]) (es := [[.int .i64 ak, .slice p1 aks.length c1], [.int .i64 bk, .slice p2 bks.length c2]]) ⟨_, _, rfl, hr1.mono hle5, _, _, rfl, hr2.mono hle5, rfl⟩ rfl hsl5 hki; have hV := A1L _ G5 _ hRT; refine E1 E3 rfl ?_)
 refine K9 (i := 0) (l' := [tt,ff,ff,ff,ff]) rfl D5 (A4 rfl rfl) rfl (by kernel_rfl) rfl rfl ?_
 refine aL 1 rfl (A4 rfl rfl) rfl ?_
 refine A3 2 ?_
 refine M5 rfl rfl (hV) rfl rfl rfl ?_
 refine A3 3 ?_
 refine H6 rfl ?_
 refine aP 4 rfl (qA rfl) rfl ?_
 refine B9 ?_
 refine E9 (rC rfl (A4 rfl rfl)) (rT rfl) ?_
 (exact ⟨rfl, _, rfl, hRT⟩)
theorem A3c (k : Int) (t : Ty) (G : IM) (cells : List Value) (hk : k = 4 ∨ k = 5) (ha : F8 t) (hr : C2 G t cells) :
  Fn Tryz.prog 191 [.int .i64 k, .agg ⟨cells⟩] [] G (A9k k t G) := by
 obtain ⟨tk, ks⟩ := t
 have ha2 := ha
 rw [F8] at ha2
 have hkid := ha.kid
 obtain ⟨p, c, es, rfl, htk, hsl, hkl⟩ := hr.open
 simp only [Ty.k, Ty.ks] at htk hsl hkl ⊢
 refine B8 Tryz.func191 rfl Tryz.ntmps191 Tryz.results191 rfl ?_
 intro w0
 refine A2 ?_
 refine sE (C6 rfl rfl) rfl (fun b3 => ?_)
 refine sE (A6 rfl) rfl (fun b4 => ?_)
 refine sE (A6 rfl) rfl (fun b5 => ?_)
 refine D0 ?_
 refine sB (qE rfl rfl) rfl rfl (fun h14 => ?_) (fun h14 => ?_)
 refine B0 ?_
 refine H4 rfl ((A4o _)) rfl rfl ?_
 refine H4 rfl ((A4o _)) rfl rfl ?_
 refine A9 ?_
 refine D2 (rC rfl (A4 rfl rfl)) (rC rfl (A4 rfl rfl)) (rT rfl) ?_
 (refine ⟨rfl, _, _, _, _, ?_, A2h _, A2h _, A4m, A4m, ?_⟩ <;> rw [A1v, if_neg (by omega), if_pos (by omega)] <;> first | rfl | (intro p hp; cases hp; rfl))
 refine H0 ?_
 refine sB (M7 rfl rfl) rfl rfl (fun h42 => ?_) (fun h42 => ?_)
 refine J7 ?_
 refine D2 (rC rfl (A4 rfl rfl)) (rC rfl (A4 rfl rfl)) (rT rfl) ?_
 (refine ⟨rfl, C1, _, C1, _, ?_, Q3 _ ⟨by omega, by omega⟩, Q3 _ ⟨by omega, by omega⟩, W2 (by omega) (by omega), W2 (by omega) (by omega), ?_⟩ <;> rw [A1v, if_neg (by omega), if_neg (by omega)] <;> first | rfl | (intro p hp; cases hp))
 refine A7 ?_
 (have hlen : ks.length = 2 := ha2.1 (by omega); obtain ⟨b, o, q0, d0, hp0, hat0, hre0, hg0⟩ := hsl.kidTy hkl (i := 0) (by omega) (by omega); obtain ⟨b', o', q1, d1, hp1, hat1, hre1, hg1⟩ := hsl.kidTy hkl (i := 1) (by omega) (by omega); subst hp0; cases hp1; have hC1 := P4 _ G _ (hkid _ (List.getElem_mem (by omega))).small hre0; refine E1 E3 rfl ?_)
 refine K2 (i := 0) (l' := [tt,ff,ff,ff,ff,ff,ff,ff,ff,ff,ff,ff,ff]) rfl D5 (C0 rfl) rfl (by kernel_rfl) rfl rfl ?_
 refine aL 1 rfl (C9 rfl rfl) rfl ?_
 refine aP 2 rfl (B2 (j := 0) rfl rfl rfl (by omega)) rfl ?_
 refine aL 3 rfl (A0 rfl rfl (hat0 _) rfl) rfl ?_
 refine aP 5 rfl (C0 rfl) rfl ?_
 refine aL 6 rfl (C9 rfl rfl) rfl ?_
 refine aP 7 rfl (B2 (j := 1) rfl rfl rfl (by omega)) rfl ?_
 refine aL 8 rfl (A0 rfl rfl (hat1 _) rfl) rfl ?_
 refine A3 4 ?_
 (refine H2 rfl rfl hC1 rfl rfl rfl (fun v G1 hle1 hh => ?_); obtain ⟨cs1, F1, rfl, hs1, hn1⟩ := hh; obtain ⟨p1, c1, rfl, _⟩ := hs1.open; have hC2 := P4 _ G1 _ (hkid _ (List.getElem_mem (by omega))).small (hre1.mono hle1))
 refine A3 9 ?_
 (refine H2 rfl rfl hC2 rfl rfl rfl (fun v G2 hle2 hh => ?_); obtain ⟨cs2, F2, rfl, hs2, hn2⟩ := hh; obtain ⟨p2, c2, rfl, _⟩ := hs2.open; have hr1 := hs1.R.mono ((B5.le G1 G).trans hle2); have hr2 := hs2.R.mono (B5.le G2 G1))
 refine A3 10 ?_
 refine H6 rfl ?_
 refine A3 11 ?_
 refine X8 rfl rfl rfl rfl rfl rfl rfl rfl (by decide +kernel) (by repeat first | exact Sw.here | apply Sw.there) (by rfl) ?_
 refine aP 12 rfl (qA rfl) rfl ?_
 refine B9 ?_
 refine D2 (rC rfl (A4 rfl rfl)) (rC rfl (A4 rfl rfl)) (rT rfl) ?_
 (refine ⟨rfl, _, _, _, _, ?_, hr1, hr2, hkid _ (List.getElem_mem (by omega)), hkid _ (List.getElem_mem (by omega)), ?_⟩ <;> rw [A1v, if_pos (by omega)] <;> first | rfl | (intro p hp; cases hp; simp [hlen]))
theorem B5c (G : IM) (cx : Cx) (hv : Z1 cx) (p : Option Addr) (n c : Nat) (nm : ByteArray) (hx : R4 G cx p n c) :
  Fn Tryz.prog 162 [.slice p n c, .string nm] [] G (Q5 (A0G cx nm) G) := by
 have hn := hx.le
 refine B8 Tryz.func162 rfl Tryz.ntmps162 Tryz.results162 rfl ?_
 intro w0
 refine A2 ?_
 refine sE (A6 rfl) rfl (fun b3 => ?_)
 refine D0 ?_
 refine sP (V9 rfl rfl (by omega) (by omega)) rfl rfl ?_
 refine B9 ?_
 refine B7 ?_
 (refine I3 (fun (i : Nat) => ⟨[(6, .int .i64 ((i : Int) - 1)), (0, .slice p n c), (1, .string nm), (4, .pointer (some ⟨b3, 0, none⟩))], [.blk b3 [.int .i64 0, .slice none 0 0]], G⟩) (fun i => i ≤ n ∧ A0G cx nm = A0r cx nm i) (fun i => i) n ?_ ?_ ?_)
 exact D3
 (exact ⟨Nat.le_refl _, by unfold A0G; rw [hx.1]⟩)
 (rintro i ⟨hi, hlk⟩)
 refine B6 ?_
 refine sB (A01 rfl rfl) rfl rfl (fun h25 => ?_) (fun h25 => ?_)
 refine A7 ?_
 (show K3 _ _ (.block 1 _) _ _; obtain ⟨j, rfl⟩ : ∃ j, i = j + 1 := ⟨i - 1, by omega⟩; rw [show ((j + 1 : Nat) : Int) - 1 = (j : Int) from by omega]; obtain ⟨b, o, nm1, t1, q1, d1, hcx, rfl, hat, hr1, hgb⟩ := hx.get (i := j) (by omega); have ha1 := A6A (hv _ (List.mem_of_getElem? hcx)); refine B7 ?_)
 refine B6 ?_
 refine sP (B2 rfl rfl rfl (by omega)) rfl rfl ?_
 refine E0 ?_
 refine sL (A0j rfl rfl ((hat _).sub (j := 0) rfl)) rfl rfl ?_
 refine E0 ?_
 refine sB (A1Y rfl rfl) rfl rfl (fun h41 => ?_) (fun h41 => ?_)
 refine A9 ?_
 refine sP (B2 rfl rfl rfl (by omega)) rfl rfl ?_
 refine E0 ?_
 refine sL (A0 rfl rfl (hat _).drop rfl) rfl rfl ?_
 (refine D4 rfl (P4 _ G _ ha1.small hr1) rfl rfl (fun v G1 hle1 hh => ?_); obtain ⟨cs1, F1, rfl, hs1', hn1⟩ := hh; obtain ⟨p1, c1, rfl, _⟩ := hs1'.open; have hrr := hs1'.R.mono (B5.le G1 G))
 refine I9 ?_
 refine E9 (rC rfl (A4 rfl rfl)) (rT rfl) ?_
 (exact Q5.yes (by rw [hlk]; exact A8C hcx (by assumption)) hrr ha1)
 refine D0 ?_
 refine sP (V9 rfl rfl (by omega) (by omega)) rfl rfl ?_
 refine A2 ?_
 refine I7 j ?_ ?_ ?_
 exact D3
 (exact ⟨by omega, by rw [hlk]; exact A8D hcx (by assumption)⟩)
 (show _ < _ + 1; omega)
 refine J3 ?_
 refine E9 (rC rfl (A4 rfl rfl)) (rT rfl) ?_
 (obtain rfl : i = 0 := (by omega); exact Q5.no (by rw [hlk]; rfl) (Q3 _ ⟨by omega, by omega⟩) (W2 (by omega) (by omega)))
theorem A4R : ∀ (xs ys : List Ty), xs.length = ys.length → (S6 xs ys).length = xs.length
 | [], [], _ => rfl
 | a :: xs, b :: ys, h => by simp only [S6, List.length_cons]; rw [A4R xs ys (by simpa using h)]
 | [], b :: ys, h => by simp at h
 | a :: xs, [], h => by simp at h
theorem A6B : ∀ (xs ys : List Ty) (i : Nat) (h : i < xs.length) (h' : i < ys.length) (hl : i < (S6 xs ys).length), (S6 xs ys)[i] = T4 xs[i] ys[i]
 | [], _, i, h, _, _ => by simp at h
 | a :: xs, [], i, _, h', _ => by simp at h'
 | a :: xs, b :: ys, 0, _, _, _ => by simp [S6]
 | a :: xs, b :: ys, i + 1, h, h', hl => by
  simp only [S6, List.getElem_cons_succ]
  exact A6B xs ys i (by simpa using h) (by simpa using h') _
theorem B5d {xs ys : List Ty} {i : Nat} (hl : xs.length = ys.length) (h : i < xs.length) : (S6 xs ys).take (i + 1) = (S6 xs ys).take i ++ [T4 xs[i] (ys[i]'(by omega))] := by
 rw [List.take_succ_eq_append_getElem (by rw [A4R _ _ hl]; exact h), A6B _ _ i h (by omega)]
theorem B5e : ∀ (a b : Ty) (G : IM) (ca cb : List Value), K0 a b = true → F8 a → F8 b → C2 G a ca → C2 G b cb → Fn Tryz.prog 221 [.agg ⟨ca⟩, .agg ⟨cb⟩] [] G (L5 fun G' v => ∃ cells, v = .agg ⟨cells⟩ ∧ C2 G' (T4 a b) cells) := by
 refine Ty.ind fun ak aks ih b G ca cb hc ha hb hra hrb => ?_
 obtain ⟨bk, bks⟩ := b
 have hka := ha.kid
 have hkb := hb.kid
 have hca := P4 _ G _ ha.small hra
 have hcb := P4 _ G _ hb.small hrb
 have hcc : ak ≠ 1 → bk ≠ 1 → aks.length = bks.length ∧ ∀ i, (h : i < aks.length) → (h' : i < bks.length) → K0 aks[i] bks[i] = true := by
  intro h1 h2
  rw [A0c, decide_eq_false h1, decide_eq_false h2] at hc
  simp only [Bool.false_or, Bool.and_eq_true, decide_eq_true_eq] at hc
  exact (A17 _ _).1 hc.2
 rw [A2U]
 obtain ⟨pa, cca, ea, rfl, hak, hsla, hkla⟩ := hra.open
 obtain ⟨pb, ccb, eb, rfl, hbk, hslb, hklb⟩ := hrb.open
 simp only [Ty.k, Ty.ks] at hak hsla hkla hbk hslb hklb ⊢
 have hna := hsla.le
 have hnb := hslb.le
 have hl2 := ha.two
 refine B8 Tryz.func221 rfl Tryz.ntmps221 Tryz.results221 rfl ?_
 intro w0
 refine A2 ?_
 refine sE (C6 rfl rfl) rfl (fun b3 => ?_)
 refine sE (C6 rfl rfl) rfl (fun b4 => ?_)
 refine sE (A6 rfl) rfl (fun b5 => ?_)
 refine A9 ?_
 refine sB (qE rfl rfl) rfl rfl (fun h13 => ?_) (fun h13 => ?_)
 refine A7 ?_
 (refine D4 rfl (by first | exact hcb | exact hca) rfl rfl (fun v G1 hle1 hh => ?_); obtain ⟨cs1, F1, rfl, hs1, hn1⟩ := hh; obtain ⟨p1, c1, rfl, _⟩ := hs1.open; have hr1 := hs1.R.mono (B5.le G1 G))
 refine B0 ?_
 refine L9 (rC rfl (A4 rfl rfl)) ?_
 (rw [if_pos (by omega)]; exact ⟨rfl, _, rfl, hr1⟩)
 refine I9 ?_
 refine sB (qE rfl rfl) rfl rfl (fun h38 => ?_) (fun h38 => ?_)
 refine A7 ?_
 (refine D4 rfl (by first | exact hcb | exact hca) rfl rfl (fun v G1 hle1 hh => ?_); obtain ⟨cs1, F1, rfl, hs1, hn1⟩ := hh; obtain ⟨p1, c1, rfl, _⟩ := hs1.open; have hr1 := hs1.R.mono (B5.le G1 G))
 refine B0 ?_
 refine L9 (rC rfl (A4 rfl rfl)) ?_
 (rw [if_neg (by omega), if_pos (by omega)]; exact ⟨rfl, _, rfl, hr1⟩)
 refine I9 ?_
 refine sE (A6 rfl) rfl (fun b63 => ?_)
 refine D9 ?_
 refine B7 ?_
 (obtain ⟨hlab, hcab⟩ := hcc (by omega) (by omega); refine R5 34 2 ?_; refine I3 (fun (x : Nat × Option Addr × Nat × List Ty × List (List Value) × IM) => ⟨[(6, .int .i64 x.1), (5, .pointer (some ⟨b63, 0, none⟩)), (4, .pointer (some ⟨b5, 0, none⟩)), (2, .pointer (some ⟨b3, 0, none⟩)), (3, .pointer (some ⟨b4, 0, none⟩))], [.blk b63 [.int .i64 ak, .slice x.2.1 x.1 x.2.2.1], .slc x.2.1 x.2.2.1 34 2 x.1 x.2.2.2.2.1.flatten, .blk b5 [.int .i64 0, .slice none 0 0], .blk b4 [.int .i64 bk, .slice pb bks.length ccb], .blk b3 [.int .i64 ak, .slice pa aks.length cca]], x.2.2.2.2.2⟩) (fun x => x.1 ≤ aks.length ∧ C5 G x.2.2.2.2.2 ∧ x.2.2.2.1.length = x.1 ∧ C7 x.2.2.2.2.2 x.2.2.2.1 x.2.2.2.2.1 ∧ x.2.2.2.1 = (S6 aks bks).take x.1) (fun x => aks.length - x.1) (0, none, 0, [], [], G) ?_ ?_ ?_)
 (simp only [H9]; exact D3)
 (exact ⟨by simp, C5.refl _, rfl, by simp [C7], rfl⟩)
 (rintro ⟨i, pn, cn, us, es', Gi⟩ ⟨hi, hle, hlu, hst, hus⟩; simp only [] at hi hle hlu hst hus ⊢; replace hsla := hsla.mono hle; replace hkla := hkla.mono hle; replace hslb := hslb.mono hle; replace hklb := hklb.mono hle)
 refine A9 ?_
 refine sB (I8 rfl rfl) rfl rfl (fun h85 => ?_) (fun h85 => ?_)
 refine A7 ?_
 refine B7 ?_
 (obtain ⟨b, o, q0, d0, hp0, hat0, hre0, hg0⟩ := hsla.kidTy hkla (i := i) (by omega) (by omega); obtain ⟨b', o', q1, d1, hp1, hat1, hre1, hg1⟩ := hslb.kidTy hklb (i := i) (by omega) (by omega); subst hp0; subst hp1; have hih := ih aks[i] (List.getElem_mem (by omega)) bks[i] Gi _ _ (hcab i (by omega) (by omega)) (hka _ (List.getElem_mem (by omega))) (hkb _ (List.getElem_mem (by omega))) hre0 hre1; refine E1 E3 rfl ?_)
 refine K2 (i := 0) (l' := [tt,ff,ff,ff,ff,ff,ff,ff,ff,ff,ff,ff,ff,ff,ff,ff,ff]) rfl D5 (C0 rfl) rfl (by kernel_rfl) rfl rfl ?_
 refine aL 1 rfl (C9 rfl rfl) rfl ?_
 refine aP 2 rfl (C0 rfl) rfl ?_
 refine aL 3 rfl (C9 rfl rfl) rfl ?_
 refine aP 4 rfl (qM rfl) rfl ?_
 refine aP 5 rfl (B2 rfl rfl rfl (by omega)) rfl ?_
 refine aL 6 rfl (A0 rfl rfl (hat0 _) rfl) rfl ?_
 refine aP 7 rfl (C0 rfl) rfl ?_
 refine aL 8 rfl (C9 rfl rfl) rfl ?_
 refine aP 9 rfl (qM rfl) rfl ?_
 refine aP 10 rfl (B2 rfl rfl rfl (by omega)) rfl ?_
 refine aL 11 rfl (A0 rfl rfl (hat1 _) rfl) rfl ?_
 refine A3 12 ?_
 (refine H2 rfl rfl hih rfl rfl rfl (fun v G1 hle1 hh => ?_); obtain ⟨cells', rfl, hru⟩ := hh; generalize hu : T4 aks[i] bks[i] = u at hru; obtain ⟨p3, c3, es3, rfl, _⟩ := hru.open)
 refine A3 13 ?_
 (refine E6 rfl (E2 rfl rfl rfl (by omega) (by unfold maxLen; omega) rfl) rfl rfl ?_; rintro _ ⟨b109, rfl⟩)
 refine A3 14 ?_
 refine T9 rfl rfl rfl rfl rfl rfl (fun _ _ => by repeat (first | exact Sw.here | apply Sw.there)) (M4 (by repeat first | exact mH | apply mT)) rfl (by simp [Value.oneCell']) (by unfold maxLen; omega) (by omega) rfl rfl (by repeat (first | exact D1.nil | apply D1.dep (by decide +kernel) | apply D1.blk (by decide +kernel) (by repeat (first | exact Pk.here | apply Pk.there)) (by repeat first | exact mH | apply mT))) (fun pn' cn' => ?_)
 refine aP 15 rfl (C0 rfl) rfl ?_
 refine A3 16 ?_
 refine X8 rfl rfl rfl rfl rfl rfl rfl rfl (by decide +kernel) (by repeat first | exact Sw.here | apply Sw.there) (by rfl) ?_
 refine B0 ?_
 refine sP (E7 rfl rfl (by omega) (by omega)) rfl rfl ?_
 refine A2 ?_
 refine I7 (i + 1, pn', cn', us ++ [u], es' ++ [[.int .i64 u.k, .slice p3 u.ks.length c3]], G1) ?_ ?_ ?_
 (simp only [H9]; exact D3)
 (dsimp only; exact ⟨by omega, hle.trans hle1, by simp [hlu], C7.snoc (hst.mono hle1) hru, by rw [B5d hlab (by omega), ← hus, hu]⟩)
 (show aks.length - (i + 1) < aks.length - i; omega)
 refine J7 ?_
 (refine H8 (by repeat (first | exact Pk.here | apply Pk.there)) (fun G2 hle2 hsl2 hno2 => ?_); obtain rfl : i = aks.length := (by omega))
 refine tT ?_
 refine L9 (rC rfl (A4 rfl rfl)) ?_
 (rw [List.take_of_length_le (by rw [A4R _ _ hlab]; omega)] at hus; rw [if_neg (by omega), if_neg (by omega), ← hus]; exact ⟨rfl, _, rfl, (hst.mono hle2).ty hlu hsl2 hak⟩)
theorem gD {ts : List Ty} {i : Nat} (h : i < ts.length) : ts.getD i C1 = ts[i] := by rw [List.getD_eq_getElem?_getD, List.getElem?_eq_getElem h, Option.getD_some]
section
variable {cx : Cx} {k : Int} {nm : ByteArray} {ty : Ty} {ts : List Ty}
theorem B0t (h : 1 < ts.length) : V7 cx 6 nm ty ts = match Q7 4 ts[0] with | some (a, b) => if K0 ts[1] a = true then some b else none | none => none := by
 unfold V7 N7
 rw [gD (i := 0) (by omega), gD (i := 1) h]
 simp only [show ¬((6 : Int) = 1) by decide, show ¬((6 : Int) = 2) by decide, show ¬((6 : Int) = 3 ∨ (6 : Int) = 4) by decide, show ¬((6 : Int) = 5) by decide, if_false, if_true]
 cases Q7 4 ts[0] with
 | none => rfl
 | some p =>
  obtain ⟨a, b⟩ := p
  by_cases hc : K0 ts[1] a = true
  ·simp [hc]
  ·simp [hc]
theorem B0u (hk : k = 7 ∨ k = 8) (h : 1 < ts.length) : V7 cx k nm ty ts = if K0 ts[0] S1 = true ∧ K0 ts[1] S1 = true then some (if k = 8 then Y5 else S1) else none := by
 unfold V7 N7
 rw [gD (i := 0) (by omega), gD (i := 1) h, if_neg (by omega), if_neg (by omega), if_neg (by omega), if_neg (by omega), if_neg (by omega), if_pos hk]
 by_cases hc : K0 ts[0] S1 = true ∧ K0 ts[1] S1 = true
 ·rw [if_pos hc, if_pos hc]; simp only; rw [if_neg (by omega)]
 ·rw [if_neg hc, if_neg hc]
theorem B0v (h : 2 < ts.length) : V7 cx 9 nm ty ts = if K0 ts[0] Y5 = true ∧ K0 ts[1] ts[2] = true then some (T4 ts[1] ts[2]) else none := by
 unfold V7 N7
 rw [gD (i := 0) (by omega), gD (i := 1) (by omega), gD (i := 2) h, if_neg (by omega), if_neg (by omega), if_neg (by omega), if_neg (by omega), if_neg (by omega), if_neg (by omega), if_pos rfl]
 by_cases hc : K0 ts[0] Y5 = true ∧ K0 ts[1] ts[2] = true
 ·rw [if_pos hc, if_pos hc]; simp
 ·rw [if_neg hc, if_neg hc]
theorem B5f (h : 1 < ts.length) : V7 cx 10 nm ty ts = if H5 (.mk 5 [ts[0], ts[1]]) = true then some (.mk 5 [ts[0], ts[1]]) else none := by
 unfold V7 N7
 rw [gD (i := 0) (by omega), gD (i := 1) h, if_neg (by omega), if_neg (by omega), if_neg (by omega), if_neg (by omega), if_neg (by omega), if_neg (by omega), if_neg (by omega), if_pos rfl]
 cases hv : H5 (.mk 5 [ts[0], ts[1]]) <;> simp [hv]
theorem B5g (h : 0 < ts.length) : V7 cx 13 nm ty ts = if K0 ts[0] ty = true then some ty else none := by
 unfold V7 N7
 rw [gD (i := 0) h, if_neg (by omega), if_neg (by omega), if_neg (by omega), if_neg (by omega), if_neg (by omega), if_neg (by omega), if_neg (by omega), if_neg (by omega), if_pos rfl]
 by_cases hc : K0 ts[0] ty = true
 ·rw [if_pos hc, if_pos hc]; simp
 ·rw [if_neg hc, if_neg hc]
theorem A4S (hk : k = 11 ∨ k = 12) (h : 0 < ts.length) : V7 cx k nm ty ts = match Q7 5 ts[0] with | some (a, b) => some (if k = 12 then b else a) | none => none := by
 unfold V7 N7
 rw [gD (i := 0) h, if_neg (by omega), if_neg (by omega), if_neg (by omega), if_neg (by omega), if_neg (by omega), if_neg (by omega), if_neg (by omega), if_neg (by omega), if_neg (by omega)]
 cases Q7 5 ts[0] with
 | none => rfl
 | some p =>
  obtain ⟨a, b⟩ := p
  simp only
  rw [if_neg (by omega)]
end
theorem B5h : ∀ (a b : Ty), K0 a b = true → F8 a → F8 b → F8 (T4 a b) := by
 refine Ty.ind fun k ks ih b hc ha hb => ?_
 obtain ⟨k', ks'⟩ := b
 rw [A2U]
 split
 ·exact hb
 ·split
  ·exact ha
  ·rw [A0c] at hc
   simp only [Bool.or_eq_true, Bool.and_eq_true, decide_eq_true_eq] at hc
   obtain ⟨hk, hl⟩ : k = k' ∧ O8 ks ks' = true := by
    rcases hc with (h | h) | h
    ·contradiction
    ·contradiction
    ·exact h
   obtain ⟨hll, hcc⟩ := (A17 _ _).1 hl
   have hlen := A4R ks ks' hll
   refine B3l ha hlen fun u hu => ?_
   obtain ⟨i, hi, rfl⟩ := List.mem_iff_getElem.1 hu
   rw [A6B ks ks' i (by omega) (by omega)]
   exact ih _ (List.getElem_mem _) _ (hcc i (by omega) (by omega)) (ha.kid _ (List.getElem_mem _)) (hb.kid _ (List.getElem_mem _))
theorem B0w {Q : Prop} (h : Q := by (have hk7 : k = 7 := (by omega); exact Q5.mk (by rw [B0u (.inl hk7) (by omega)]; simp_all [S1]) (Q3 _ ⟨by omega, by omega⟩) (W2 (by omega) (by omega)))) : Q := h
theorem B0x {Q : Prop} (h : Q := by (have hk8 : k = 8 := (by omega); exact Q5.mk (by rw [B0u (.inr hk8) (by omega)]; simp_all [S1, Y5]) (Q3 _ ⟨by omega, by omega⟩) (W2 (by omega) (by omega)))) : Q := h
theorem B5i (cx : Cx) (k : Int) (nm : ByteArray) (num : Int) (ty fr : Ty) (lb : Int) (ks : List Tm) (ts : List Ty) (G : IM) (cells : List Value) (p : Option Addr) (c : Nat) (es : List (List Value))
  (hops : F0 k = ts.length) (hk6 : 6 ≤ k ∧ k ≤ 13) (hty : F8 ty) (hr : B3 G (.mk k nm num ty fr lb ks) cells) (hsl : C8 G p ts.length c 2 es) (hkl : C7 G ts es) (har : ∀ t ∈ ts, F8 t) :
  Fn Tryz.prog 190 [.agg ⟨cells⟩, .slice p ts.length c] [] G (Q5 (V7 cx k nm ty ts) G) := by
 have hone := hr.one
 have hop := A2X hops
 have ha0 := fun h : 0 < ts.length => har _ (List.getElem_mem h)
 have ha1 := fun h : 1 < ts.length => har _ (List.getElem_mem h)
 have ha2 := fun h : 2 < ts.length => har _ (List.getElem_mem h)
 obtain ⟨tk, tks⟩ := ty
 obtain ⟨fk, fks⟩ := fr
 obtain ⟨pt, ct, pf, cf, pk, ck, ek, rfl, hk, hnum, hlb, hrty, hrfr, _, _⟩ := hr.open9
 refine B8 Tryz.func190 rfl Tryz.ntmps190 Tryz.results190 rfl ?_
 intro w0
 refine A2 ?_
 refine sE (C6 rfl rfl) rfl (fun b3 => ?_)
 refine sE (A6 rfl) rfl (fun b4 => ?_)
 refine I9 ?_
 refine B7 (tS (tR (sB (qE rfl rfl) rfl rfl (fun h18 => ?_) (fun h18 => ?_))))
 refine A9 ?_
 (have hl2 : ts.length = 2 := hop.1 (by omega); obtain ⟨b0, o0, q0, d0, hp0, hat0, hre0, hg0⟩ := hsl.kidTy hkl (i := 0) (by omega) (by omega); obtain ⟨b1, o1, q1, d1, hp1, hat1, hre1, hg1⟩ := hsl.kidTy hkl (i := 1) (by omega) (by omega); cases hp0; cases hp1; refine sP (B2 (j := 0) rfl rfl rfl (by omega)) rfl rfl ?_)
 refine sL (A0 rfl rfl (hat0 _) rfl) rfl rfl ?_
 focus (refine D4 rfl (A3c 4 ts[0] G _ (.inl rfl) (ha0 (by omega)) hre0) rfl rfl (fun v G1 hle1 hh => ?_); obtain ⟨ma, mca, mb, mcb, rfl, hma, hmb, hma2, hmb2, hpp⟩ := hh; obtain ⟨p1, c1, e1, rfl, _⟩ := hma.open; obtain ⟨p2, c2, e2, rfl, _⟩ := hmb.open; replace hsl := hsl.mono hle1; replace hkl := hkl.mono hle1; rcases hm : Q7 4 ts[0] with _ | pr; rotate_left; obtain rfl := hpp _ hm; rotate_left; all_goals simp only [Option.isSome])
 refine B6 ?_
 refine sE (A6 rfl) rfl (fun b33 => ?_)
 refine sE (A6 rfl) rfl (fun b34 => ?_)
 refine A7 ?_
 (have hl2 : ts.length = 2 := hop.1 (by omega); obtain ⟨b0, o0, q0, d0, hp0, hat0, hre0, hg0⟩ := hsl.kidTy hkl (i := 0) (by omega) (by omega); obtain ⟨b1, o1, q1, d1, hp1, hat1, hre1, hg1⟩ := hsl.kidTy hkl (i := 1) (by omega) (by omega); cases hp0; cases hp1; refine E1 E3 rfl ?_)
 refine K9 (i := 0) (l' := [tt,ff,ff,ff,ff,ff,ff,ff,ff,ff,ff]) rfl D5 (A4 rfl rfl) rfl (by kernel_rfl) rfl rfl ?_
 refine aP 1 rfl (qM rfl) rfl ?_
 refine aP 2 rfl (qM rfl) rfl ?_
 refine C4 3 rfl rfl rfl ?_
 refine C4 4 rfl rfl rfl ?_
 refine C4 5 rfl rfl rfl ?_
 refine C4 6 rfl rfl rfl ?_
 refine C4 7 rfl rfl rfl ?_
 refine aP 8 rfl (O1 rfl rfl) rfl ?_
 refine A3 9 ?_
 refine H6 rfl ?_
 refine aP 10 rfl (qA rfl) rfl ?_
 refine B0 ?_
 refine E9 (rC rfl (A4 rfl rfl)) (rT rfl) ?_
 (obtain rfl : k = 6 := (by omega); exact Q5.no (by rw [B0t (by omega), hm]) hmb hmb2)
 refine B6 ?_
 refine sE (A6 rfl) rfl (fun b65 => ?_)
 refine sE (A6 rfl) rfl (fun b66 => ?_)
 refine A7 ?_
 (have hl2 : ts.length = 2 := hop.1 (by omega); obtain ⟨b0, o0, q0, d0, hp0, hat0, hre0, hg0⟩ := hsl.kidTy hkl (i := 0) (by omega) (by omega); obtain ⟨b1, o1, q1, d1, hp1, hat1, hre1, hg1⟩ := hsl.kidTy hkl (i := 1) (by omega) (by omega); cases hp0; cases hp1; refine E1 E3 rfl ?_)
 refine K9 (i := 0) (l' := [tt,ff,ff,ff,ff,ff,ff,ff,ff,ff,ff]) rfl D5 (A4 rfl rfl) rfl (by kernel_rfl) rfl rfl ?_
 refine aP 1 rfl (qM rfl) rfl ?_
 refine aP 2 rfl (qM rfl) rfl ?_
 refine aP 3 rfl (qM rfl) rfl ?_
 refine aP 4 rfl (B2 (j := 1) rfl rfl rfl (by omega)) rfl ?_
 refine aL 5 rfl (A0 rfl rfl (hat1 _) rfl) rfl ?_
 refine aL 6 rfl (A4 rfl rfl) rfl ?_
 refine A3 7 ?_
 refine M5 rfl rfl ((A1O ts[1] ma _ _ _ (ha1 (by omega)) hma2 hre1 hma)) rfl rfl rfl ?_
 refine aP 8 rfl (M1 rfl rfl) rfl ?_
 refine A3 9 ?_
 refine H6 rfl ?_
 refine aP 10 rfl (qA rfl) rfl ?_
 refine B0 ?_
 refine E9 (rC rfl (A4 rfl rfl)) (rT rfl) ?_
 (obtain rfl : k = 6 := (by omega); exact Q5.mk (by rw [B0t (by omega), hm]) hmb hmb2)
 refine A7 ?_
 refine sB (qE rfl rfl) rfl rfl (fun h100 => ?_) (fun h100 => ?_)
 refine B0 ?_
 (have hl2 : ts.length = 2 := hop.1 (by omega); obtain ⟨b0, o0, q0, d0, hp0, hat0, hre0, hg0⟩ := hsl.kidTy hkl (i := 0) (by omega) (by omega); obtain ⟨b1, o1, q1, d1, hp1, hat1, hre1, hg1⟩ := hsl.kidTy hkl (i := 1) (by omega) (by omega); cases hp0; cases hp1; refine E1 E3 rfl ?_)
 refine K2 (i := 1) (l' := [ff,tt,ff,ff,ff,ff,ff,ff,ff,ff,ff,ff,ff,ff,ff]) rfl D5 (qM rfl) rfl (by kernel_rfl) rfl rfl ?_
 refine aP 2 rfl (B2 (j := 0) rfl rfl rfl (by omega)) rfl ?_
 refine aL 3 rfl (A0 rfl rfl (hat0 _) rfl) rfl ?_
 refine A3 0 ?_
 refine M5 rfl rfl ((A06 _)) rfl rfl rfl ?_
 refine A3 4 ?_
 refine M5 rfl rfl ((A06 _)) rfl rfl rfl ?_
 refine A3 5 ?_
 refine R9 rfl rfl ((A1O ts[0] (.mk 2 []) _ _ _ (ha0 (by omega)) (W2 (by decide) (by decide)) hre0 (Q3 _ ⟨by omega, by omega⟩))) rfl rfl rfl (fun h115 => ?_) (fun h115 => ?_)
 refine aP 6 rfl (qM rfl) rfl ?_
 refine aP 7 rfl (qM rfl) rfl ?_
 refine aP 8 rfl (B2 (j := 1) rfl rfl rfl (by omega)) rfl ?_
 refine aL 9 rfl (A0 rfl rfl (hat1 _) rfl) rfl ?_
 refine A3 10 ?_
 refine M5 rfl rfl ((A06 _)) rfl rfl rfl ?_
 refine A3 11 ?_
 refine M5 rfl rfl ((A1O ts[1] (.mk 2 []) _ _ _ (ha1 (by omega)) (W2 (by decide) (by decide)) hre1 (Q3 _ ⟨by omega, by omega⟩))) rfl rfl rfl ?_
 refine aP 12 rfl (M1 rfl rfl) rfl ?_
 refine A3 13 ?_
 refine H6 rfl ?_
 refine aP 14 rfl (qA rfl) rfl ?_
 refine B0 ?_
 refine E9 (rC rfl (A4 rfl rfl)) (rT rfl) ?_
 exact B0w
 refine aP 6 rfl (qM rfl) rfl ?_
 refine C4 7 rfl rfl rfl ?_
 refine C4 8 rfl rfl rfl ?_
 refine C4 9 rfl rfl rfl ?_
 refine C4 10 rfl rfl rfl ?_
 refine C4 11 rfl rfl rfl ?_
 refine aP 12 rfl (O1 rfl rfl) rfl ?_
 refine A3 13 ?_
 refine H6 rfl ?_
 refine aP 14 rfl (qA rfl) rfl ?_
 refine B0 ?_
 refine E9 (rC rfl (A4 rfl rfl)) (rT rfl) ?_
 exact B0w
 refine A7 ?_
 refine sB (qE rfl rfl) rfl rfl (fun h158 => ?_) (fun h158 => ?_)
 refine B0 ?_
 (have hl2 : ts.length = 2 := hop.1 (by omega); obtain ⟨b0, o0, q0, d0, hp0, hat0, hre0, hg0⟩ := hsl.kidTy hkl (i := 0) (by omega) (by omega); obtain ⟨b1, o1, q1, d1, hp1, hat1, hre1, hg1⟩ := hsl.kidTy hkl (i := 1) (by omega) (by omega); cases hp0; cases hp1; refine E1 E3 rfl ?_)
 refine K2 (i := 1) (l' := [ff,tt,ff,ff,ff,ff,ff,ff,ff,ff,ff,ff,ff,ff,ff]) rfl D5 (qM rfl) rfl (by kernel_rfl) rfl rfl ?_
 refine aP 2 rfl (B2 (j := 0) rfl rfl rfl (by omega)) rfl ?_
 refine aL 3 rfl (A0 rfl rfl (hat0 _) rfl) rfl ?_
 refine A3 0 ?_
 refine M5 rfl rfl ((A3D _)) rfl rfl rfl ?_
 refine A3 4 ?_
 refine M5 rfl rfl ((A06 _)) rfl rfl rfl ?_
 refine A3 5 ?_
 refine R9 rfl rfl ((A1O ts[0] (.mk 2 []) _ _ _ (ha0 (by omega)) (W2 (by decide) (by decide)) hre0 (Q3 _ ⟨by omega, by omega⟩))) rfl rfl rfl (fun h173 => ?_) (fun h173 => ?_)
 refine aP 6 rfl (qM rfl) rfl ?_
 refine aP 7 rfl (qM rfl) rfl ?_
 refine aP 8 rfl (B2 (j := 1) rfl rfl rfl (by omega)) rfl ?_
 refine aL 9 rfl (A0 rfl rfl (hat1 _) rfl) rfl ?_
 refine A3 10 ?_
 refine M5 rfl rfl ((A06 _)) rfl rfl rfl ?_
 refine A3 11 ?_
 refine M5 rfl rfl ((A1O ts[1] (.mk 2 []) _ _ _ (ha1 (by omega)) (W2 (by decide) (by decide)) hre1 (Q3 _ ⟨by omega, by omega⟩))) rfl rfl rfl ?_
 refine aP 12 rfl (M1 rfl rfl) rfl ?_
 refine A3 13 ?_
 refine H6 rfl ?_
 refine aP 14 rfl (qA rfl) rfl ?_
 refine B0 ?_
 refine E9 (rC rfl (A4 rfl rfl)) (rT rfl) ?_
 exact B0x
 refine aP 6 rfl (qM rfl) rfl ?_
 refine C4 7 rfl rfl rfl ?_
 refine C4 8 rfl rfl rfl ?_
 refine C4 9 rfl rfl rfl ?_
 refine C4 10 rfl rfl rfl ?_
 refine C4 11 rfl rfl rfl ?_
 refine aP 12 rfl (O1 rfl rfl) rfl ?_
 refine A3 13 ?_
 refine H6 rfl ?_
 refine aP 14 rfl (qA rfl) rfl ?_
 refine B0 ?_
 refine E9 (rC rfl (A4 rfl rfl)) (rT rfl) ?_
 exact B0x
 refine A7 ?_
 refine sB (qE rfl rfl) rfl rfl (fun h216 => ?_) (fun h216 => ?_)
 refine A7 ?_
 (have hl3 : ts.length = 3 := hop.2.1 (by omega); obtain ⟨b0, o0, q0, d0, hp0, hat0, hre0, hg0⟩ := hsl.kidTy hkl (i := 0) (by omega) (by omega); obtain ⟨b1, o1, q1, d1, hp1, hat1, hre1, hg1⟩ := hsl.kidTy hkl (i := 1) (by omega) (by omega); obtain ⟨b2, o2, q2, d2, hp2, hat2, hre2, hg2⟩ := hsl.kidTy hkl (i := 2) (by omega) (by omega); cases hp0; cases hp1; cases hp2; refine E1 E3 rfl ?_)
 refine K2 (i := 0) (l' := [tt,ff,ff,ff,ff,ff,ff,ff]) rfl D5 (qM rfl) rfl (by kernel_rfl) rfl rfl ?_
 refine aP 1 rfl (B2 (j := 1) rfl rfl rfl (by omega)) rfl ?_
 refine aL 2 rfl (A0 rfl rfl (hat1 _) rfl) rfl ?_
 refine aP 3 rfl (qM rfl) rfl ?_
 refine aP 4 rfl (B2 (j := 2) rfl rfl rfl (by omega)) rfl ?_
 refine aL 5 rfl (A0 rfl rfl (hat2 _) rfl) rfl ?_
 refine A3 6 ?_
 refine R9 rfl rfl ((A1O ts[1] ts[2] _ _ _ (ha1 (by omega)) (ha2 (by omega)) hre1 hre2)) rfl rfl rfl (fun h231 => ?_) (fun h231 => ?_)
 refine aP 7 rfl (pNt rfl) rfl ?_
 refine A7 ?_
 (have hl3 : ts.length = 3 := hop.2.1 (by omega); obtain ⟨b0, o0, q0, d0, hp0, hat0, hre0, hg0⟩ := hsl.kidTy hkl (i := 0) (by omega) (by omega); obtain ⟨b1, o1, q1, d1, hp1, hat1, hre1, hg1⟩ := hsl.kidTy hkl (i := 1) (by omega) (by omega); obtain ⟨b2, o2, q2, d2, hp2, hat2, hre2, hg2⟩ := hsl.kidTy hkl (i := 2) (by omega) (by omega); cases hp0; cases hp1; cases hp2; refine E1 E3 rfl ?_)
 refine K2 (i := 0) (l' := [tt,ff,ff,ff,ff,ff,ff,ff,ff,ff,ff,ff,ff,ff]) rfl D5 (qM rfl) rfl (by kernel_rfl) rfl rfl ?_
 refine aP 1 rfl (B2 (j := 1) rfl rfl rfl (by omega)) rfl ?_
 refine aL 2 rfl (A0 rfl rfl (hat1 _) rfl) rfl ?_
 refine aP 3 rfl (qM rfl) rfl ?_
 refine aP 4 rfl (B2 (j := 2) rfl rfl rfl (by omega)) rfl ?_
 refine aL 5 rfl (A0 rfl rfl (hat2 _) rfl) rfl ?_
 refine aP 7 rfl (qM rfl) rfl ?_
 refine aP 8 rfl (B2 (j := 0) rfl rfl rfl (by omega)) rfl ?_
 refine aL 9 rfl (A0 rfl rfl (hat0 _) rfl) rfl ?_
 refine A3 6 ?_
 (refine H2 rfl rfl (B5e ts[1] ts[2] G _ _ (by assumption) (ha1 (by omega)) (ha2 (by omega)) hre1 hre2) rfl rfl rfl (fun v G1 hle1 hh => ?_); obtain ⟨mc, rfl, hmr⟩ := hh; obtain ⟨mt, hmt⟩ : ∃ mt, T4 ts[1] ts[2] = mt := ⟨_, rfl⟩; rw [hmt] at hmr; have hma : F8 mt := (hmt ▸ B5h ts[1] ts[2] (by assumption) (ha1 (by omega)) (ha2 (by omega))); obtain ⟨p1, c1, e1, rfl, _⟩ := hmr.open; have hre0q := hre0.mono hle1)
 refine A3 10 ?_
 refine M5 rfl rfl ((A3D _)) rfl rfl rfl ?_
 refine A3 11 ?_
 refine M5 rfl rfl ((A1O ts[0] (.mk 3 []) _ _ _ (ha0 (by omega)) (W2 (by decide) (by decide)) hre0q (Q3 _ ⟨by omega, by omega⟩))) rfl rfl rfl ?_
 refine A3 12 ?_
 refine H6 rfl ?_
 refine aP 13 rfl (qA rfl) rfl ?_
 refine B0 ?_
 refine E9 (rC rfl (A4 rfl rfl)) (rT rfl) ?_
 (obtain rfl : k = 9 := (by omega); exact Q5.mk (by rw [B0v (by omega), hmt]; simp_all [Y5]) hmr hma)
 refine aP 7 rfl (pNf rfl) rfl ?_
 refine J7 ?_
 refine E9 (rC rfl (A4 rfl rfl)) (rT rfl) ?_
 (obtain rfl : k = 9 := (by omega); exact Q5.no (by rw [B0v (by omega)]; simp_all) (Q3 _ ⟨by omega, by omega⟩) (W2 (by omega) (by omega)))
 refine A7 ?_
 refine sB (qE rfl rfl) rfl rfl (fun h288 => ?_) (fun h288 => ?_)
 refine B0 ?_
 (have hl2 : ts.length = 2 := hop.1 (by omega); obtain ⟨b0, o0, q0, d0, hp0, hat0, hre0, hg0⟩ := hsl.kidTy hkl (i := 0) (by omega) (by omega); obtain ⟨b1, o1, q1, d1, hp1, hat1, hre1, hg1⟩ := hsl.kidTy hkl (i := 1) (by omega) (by omega); cases hp0; cases hp1; refine E1 E3 rfl ?_)
 refine K2 (i := 0) (l' := [tt,ff,ff,ff,ff,ff,ff,ff,ff,ff,ff]) rfl D5 (qM rfl) rfl (by kernel_rfl) rfl rfl ?_
 refine aP 1 rfl (B2 (j := 0) rfl rfl rfl (by omega)) rfl ?_
 refine aL 2 rfl (A0 rfl rfl (hat0 _) rfl) rfl ?_
 refine aP 3 rfl (qM rfl) rfl ?_
 refine aP 4 rfl (B2 (j := 1) rfl rfl rfl (by omega)) rfl ?_
 refine aL 5 rfl (A0 rfl rfl (hat1 _) rfl) rfl ?_
 refine A3 6 ?_
 (refine H2 rfl rfl (A2z 5 ts[0] ts[1] G _ _ (.inr rfl) (ha0 (by omega)) (ha1 (by omega)) hre0 hre1) rfl rfl rfl (fun v G1 hle1 hh => ?_); obtain ⟨mc, rfl, hmr⟩ := hh; have hma := A8N (.inr rfl) (ha0 (by omega)) (ha1 (by omega)); obtain ⟨p1, c1, e1, rfl, _⟩ := hmr.open)
 refine aP 7 rfl (pX rfl rfl) rfl ?_
 refine aP 8 rfl (pX rfl rfl) rfl ?_
 refine A3 9 ?_
 refine H6 rfl ?_
 refine aP 10 rfl (qA rfl) rfl ?_
 refine B0 ?_
 refine E9 (rC rfl (A4 rfl rfl)) (rT rfl) ?_
 (obtain rfl : k = 10 := (by omega); exact Q5.mk (by rw [B5f (by omega)]) hmr hma)
 refine A7 ?_
 refine sB (qE rfl rfl) rfl rfl (fun h321 => ?_) (fun h321 => ?_)
 refine A9 ?_
 (have hl1 : ts.length = 1 := hop.2.2 (by omega); obtain ⟨b0, o0, q0, d0, hp0, hat0, hre0, hg0⟩ := hsl.kidTy hkl (i := 0) (by omega) (by omega); cases hp0; refine sP (B2 (j := 0) rfl rfl rfl (by omega)) rfl rfl ?_)
 refine sL (A0 rfl rfl (hat0 _) rfl) rfl rfl ?_
 focus (refine D4 rfl (A3c 5 ts[0] G _ (.inr rfl) (ha0 (by omega)) hre0) rfl rfl (fun v G1 hle1 hh => ?_); obtain ⟨ma, mca, mb, mcb, rfl, hma, hmb, hma2, hmb2, hpp⟩ := hh; obtain ⟨p1, c1, e1, rfl, _⟩ := hma.open; obtain ⟨p2, c2, e2, rfl, _⟩ := hmb.open; rcases hm : Q7 5 ts[0] with _ | pr; rotate_left; obtain rfl := hpp _ hm; rotate_left; all_goals simp only [Option.isSome])
 refine B6 ?_
 refine sE (A6 rfl) rfl (fun b336 => ?_)
 refine sE (A6 rfl) rfl (fun b337 => ?_)
 refine J3 ?_
 refine E9 (rC rfl (A4 rfl rfl)) (rT rfl) ?_
 (have hk11 : k = 11 := (by omega); exact Q5.no (by rw [A4S (.inl hk11) (by omega), hm]) hma hma2)
 refine B6 ?_
 refine sE (A6 rfl) rfl (fun b360 => ?_)
 refine sE (A6 rfl) rfl (fun b361 => ?_)
 refine J3 ?_
 refine E9 (rC rfl (A4 rfl rfl)) (rT rfl) ?_
 (have hk11 : k = 11 := (by omega); exact Q5.yes (by rw [A4S (.inl hk11) (by omega), hm]; simp only; rw [if_neg (by omega)]) hma hma2)
 refine A7 ?_
 refine sB (qE rfl rfl) rfl rfl (fun h386 => ?_) (fun h386 => ?_)
 refine A9 ?_
 (have hl1 : ts.length = 1 := hop.2.2 (by omega); obtain ⟨b0, o0, q0, d0, hp0, hat0, hre0, hg0⟩ := hsl.kidTy hkl (i := 0) (by omega) (by omega); cases hp0; refine sP (B2 (j := 0) rfl rfl rfl (by omega)) rfl rfl ?_)
 refine sL (A0 rfl rfl (hat0 _) rfl) rfl rfl ?_
 focus (refine D4 rfl (A3c 5 ts[0] G _ (.inr rfl) (ha0 (by omega)) hre0) rfl rfl (fun v G1 hle1 hh => ?_); obtain ⟨ma, mca, mb, mcb, rfl, hma, hmb, hma2, hmb2, hpp⟩ := hh; obtain ⟨p1, c1, e1, rfl, _⟩ := hma.open; obtain ⟨p2, c2, e2, rfl, _⟩ := hmb.open; rcases hm : Q7 5 ts[0] with _ | pr; rotate_left; obtain rfl := hpp _ hm; rotate_left; all_goals simp only [Option.isSome])
 refine B6 ?_
 refine sE (A6 rfl) rfl (fun b401 => ?_)
 refine sE (A6 rfl) rfl (fun b402 => ?_)
 refine J3 ?_
 refine E9 (rC rfl (A4 rfl rfl)) (rT rfl) ?_
 (have hk12 : k = 12 := (by omega); exact Q5.no (by rw [A4S (.inr hk12) (by omega), hm]) hmb hmb2)
 refine B6 ?_
 refine sE (A6 rfl) rfl (fun b425 => ?_)
 refine sE (A6 rfl) rfl (fun b426 => ?_)
 refine J3 ?_
 refine E9 (rC rfl (A4 rfl rfl)) (rT rfl) ?_
 (have hk12 : k = 12 := (by omega); exact Q5.yes (by rw [A4S (.inr hk12) (by omega), hm]; simp only; rw [if_pos (by omega)]) hmb hmb2)
 refine A7 ?_
 refine sP (A0l rfl rfl (by omega)) rfl rfl ?_
 refine B0 ?_
 (have hl1 : ts.length = 1 := hop.2.2 (by omega); obtain ⟨b0, o0, q0, d0, hp0, hat0, hre0, hg0⟩ := hsl.kidTy hkl (i := 0) (by omega) (by omega); cases hp0; refine E1 E3 rfl ?_)
 refine K2 (i := 0) (l' := [tt,ff,ff,ff,ff,ff,ff,ff,ff,ff,ff]) rfl D5 (C0 rfl) rfl (by kernel_rfl) rfl rfl ?_
 refine aL 1 rfl (A4 rfl rfl) rfl ?_
 refine aP 3 rfl (qM rfl) rfl ?_
 refine aP 4 rfl (B2 (j := 0) rfl rfl rfl (by omega)) rfl ?_
 refine aL 5 rfl (A0 rfl rfl (hat0 _) rfl) rfl ?_
 refine aP 6 rfl (C0 rfl) rfl ?_
 refine aL 7 rfl (A4 rfl rfl) rfl ?_
 refine A3 2 ?_
 (refine H2 rfl rfl (P4 (.mk tk tks) G _ hty.small hrty) rfl rfl rfl (fun v G1 hle1 hh => ?_); obtain ⟨cs1, F1, rfl, hs1, hn1⟩ := hh; obtain ⟨p1, c1, rfl, _⟩ := hs1.open; have hmr := hs1.R.mono (B5.le G1 G); have hre0q := hre0.mono hle1; have hrtyq := hrty.mono hle1)
 refine A3 8 ?_
 refine M5 rfl rfl ((A1O ts[0] (.mk tk tks) _ _ _ (ha0 (by omega)) hty hre0q hrtyq)) rfl rfl rfl ?_
 refine A3 9 ?_
 refine H6 rfl ?_
 refine aP 10 rfl (qA rfl) rfl ?_
 refine B0 ?_
 refine E9 (rC rfl (A4 rfl rfl)) (rT rfl) ?_
 (obtain rfl : k = 13 := (by omega); exact Q5.mk (by rw [B5g (by omega)]) hmr hty)
section
variable {ak bk : Int} {aks bks : List Ty}
theorem B5j (h : ak ≠ bk) : M2 (.mk ak aks) (.mk bk bks) = false := by rw [A2S, decide_eq_false h]; rfl
theorem B5k (h : aks.length ≠ bks.length) : M2 (.mk ak aks) (.mk bk bks) = false := by
 rw [A2S]
 cases hl : Z6 aks bks with
 | false => simp
 | true => exact absurd ((A3z _ _).1 hl).1 h
theorem B5l {i : Nat} (hi : i < aks.length) (hi' : i < bks.length) (h : M2 aks[i] bks[i] = false) : M2 (.mk ak aks) (.mk bk bks) = false := by
 rw [A2S]
 cases hl : Z6 aks bks with
 | false => simp
 | true => have := ((A3z _ _).1 hl).2 i hi hi'; rw [h] at this; cases this
theorem B5m (hk : ak = bk) (hl : aks.length = bks.length) (h : ∀ i, (h : i < aks.length) → (h' : i < bks.length) → M2 aks[i] bks[i] = true) : M2 (.mk ak aks) (.mk bk bks) = true := by
 rw [A2S, decide_eq_true hk, (A3z _ _).2 ⟨hl, h⟩]; rfl
end
theorem B0y : ∀ (a b : Ty) (G : IM) (ca cb : List Value), C2 G a ca → C2 G b cb → Fn Tryz.prog 192 [.agg ⟨ca⟩, .agg ⟨cb⟩] [] G (E5 (.bool (M2 a b)) G) := by
 refine Ty.ind fun ak aks ih b G ca cb hra hrb => ?_
 obtain ⟨bk, bks⟩ := b
 obtain ⟨pa, cca, ea, rfl, hak, hsla, hkla⟩ := hra.open
 obtain ⟨pb, ccb, eb, rfl, hbk, hslb, hklb⟩ := hrb.open
 simp only [Ty.k, Ty.ks] at hak hsla hkla hbk hslb hklb ⊢
 have hna := hsla.le
 have hnb := hslb.le
 have e1 := @B5j ak bk aks bks
 have e2 := @B5k ak bk aks bks
 have e3 := fun i => @B5l ak bk aks bks i
 have e4 := @B5m ak bk aks bks
 generalize M2 (.mk ak aks) (.mk bk bks) = R at e1 e2 e3 e4 ⊢
 refine B8 Tryz.func192 rfl Tryz.ntmps192 Tryz.results192 rfl ?_
 intro w0
 refine A2 ?_
 refine sE (C6 rfl rfl) rfl (fun b3 => ?_)
 refine sE (C6 rfl rfl) rfl (fun b4 => ?_)
 refine I9 ?_
 refine sB (M7 rfl rfl) rfl rfl (fun h15 => ?_) (fun h15 => ?_)
 refine A0b ?_
 (exact ⟨rfl, by rw [e1 (by omega)], rfl⟩)
 refine A9 ?_
 refine sB (M7 rfl rfl) rfl rfl (fun h44 => ?_) (fun h44 => ?_)
 refine J8 ?_
 (exact ⟨rfl, by rw [e2 (by omega)], rfl⟩)
 refine J8 ?_
 refine B7 ?_
 (refine I3 (fun (i : Nat) => ⟨[(5, .int .i64 i), (2, .pointer (some ⟨b3, 0, none⟩)), (3, .pointer (some ⟨b4, 0, none⟩))], [.blk b4 [.int .i64 bk, .slice pb bks.length ccb], .blk b3 [.int .i64 ak, .slice pa aks.length cca]], G⟩) (fun i => i ≤ aks.length ∧ ∀ j, (h : j < aks.length) → (h' : j < bks.length) → j < i → M2 aks[j] bks[j] = true) (fun i => aks.length - i) 0 ?_ ?_ ?_)
 exact D3
 (exact ⟨Nat.zero_le _, fun j _ _ hj => absurd hj (Nat.not_lt_zero j)⟩)
 (rintro i ⟨hi, hall⟩)
 refine A9 ?_
 refine sB (I8 rfl rfl) rfl rfl (fun h82 => ?_) (fun h82 => ?_)
 refine A7 ?_
 refine B7 ?_
 refine tS ?_
 (obtain ⟨b, o, q0, d0, hp0, hat0, hre0, hg0⟩ := hsla.kidTy hkla (i := i) (by omega) (by omega); obtain ⟨b', o', q1, d1, hp1, hat1, hre1, hg1⟩ := hslb.kidTy hklb (i := i) (by omega) (by omega); subst hp0; subst hp1; have hih := ih aks[i] (List.getElem_mem (by omega)) bks[i] G _ _ hre0 hre1; refine E1 E3 rfl ?_)
 refine K2 (i := 0) (l' := [tt,ff,ff,ff,ff,ff,ff,ff,ff,ff,ff,ff]) rfl D5 (C0 rfl) rfl (by kernel_rfl) rfl rfl ?_
 refine aL 1 rfl (C9 rfl rfl) rfl ?_
 refine aP 2 rfl (qM rfl) rfl ?_
 refine aP 3 rfl (B2 rfl rfl rfl (by omega)) rfl ?_
 refine aL 4 rfl (A0 rfl rfl (hat0 _) rfl) rfl ?_
 refine aP 5 rfl (C0 rfl) rfl ?_
 refine aL 6 rfl (C9 rfl rfl) rfl ?_
 refine aP 7 rfl (qM rfl) rfl ?_
 refine aP 8 rfl (B2 rfl rfl rfl (by omega)) rfl ?_
 refine aL 9 rfl (A0 rfl rfl (hat1 _) rfl) rfl ?_
 refine A3 10 ?_
 refine R9 rfl rfl (hih) rfl rfl rfl (fun h103 => ?_) (fun h103 => ?_)
 refine aP 11 rfl (pNt rfl) rfl ?_
 refine D0 ?_
 refine sP (E7 rfl rfl (by omega) (by omega)) rfl rfl ?_
 refine A2 ?_
 refine I7 (i + 1) ?_ ?_ ?_
 exact D3
 (exact ⟨by omega, fun j h h' hj => by by_cases hji : j = i; (subst hji; assumption); exact hall j h h' (by omega)⟩)
 omega
 refine aP 11 rfl (pNf rfl) rfl ?_
 refine H1 ?_
 (exact ⟨rfl, by rw [e3 i (by omega) (by omega) (by assumption)], rfl⟩)
 refine H1 ?_
 (exact ⟨rfl, by rw [e4 (by omega) (by omega) (fun j h h' => hall j h h' (by omega))], rfl⟩)
theorem A6C {Q : Prop} (h : Q := by (exact ⟨rfl, _, _, rfl, R4.snoc (nm := nm) (t := .mk k ks) hx1 h2.len h2.all h2.one h3 hle5 ⟨_, _, rfl, hr.mono hle5⟩ hsl5⟩)) : Q := h
theorem B0z (G : IM) (cx : Cx) (p : Option Addr) (n c : Nat) (nm : ByteArray) (t : Ty) (cells : List Value) (hx : R4 G cx p n c) (hn : n ≤ 1000) (hr : C2 G t cells) :
  Fn Tryz.prog 141 [.slice p n c, .string nm, .agg ⟨cells⟩] [] G (L5 fun G' v => ∃ p' c', v = .slice p' (n + 1) c' ∧ R4 G' (cx ++ [(nm, t)]) p' (n + 1) c') := by
 obtain ⟨k, ks⟩ := t
 obtain ⟨q, d, es0, rfl, _⟩ := hr.open
 simp only [Ty.k, Ty.ks] at hr ⊢
 obtain ⟨hx1, es, h2, h3⟩ := id hx
 have hSl : Sl G p n c 3 es.flatten := h2.1
 have h1c : ∀ u ∈ es.flatten, u.oneCell' = true := by
  intro u hu
  obtain ⟨e, he, hue⟩ := List.mem_flatten.1 hu
  exact List.all_eq_true.1 (h2.one e he) u hue
 refine B8 Tryz.func141 rfl Tryz.ntmps141 Tryz.results141 rfl ?_
 intro w0
 refine A2 ?_
 refine sE (C6 rfl rfl) rfl (fun b3 => ?_)
 refine B6 ?_
 refine E1 E3 rfl ?_
 refine K2 (i := 1) (l' := [ff,tt,ff,ff,ff,ff,ff,ff,ff]) rfl D5 (qM rfl) rfl (by kernel_rfl) rfl rfl ?_
 refine aP 3 rfl (qM rfl) rfl ?_
 refine aL 4 rfl (A4 rfl rfl) rfl ?_
 refine aP 5 rfl (Z3 rfl rfl) rfl ?_
 refine P9 (j := 0) (j' := 6) (by kernel_rfl) ?_ ?_
 (refine E6 rfl (E2 rfl rfl rfl (by omega) (by unfold maxLen; omega) rfl) rfl rfl ?_; rintro _ ⟨b14, rfl⟩)
 refine P9 (j := 2) (j' := 6) (by kernel_rfl) ?_ ?_
 (refine A5N rfl rfl rfl rfl rfl rfl (fun _ _ => by repeat (first | exact Sw.here | apply Sw.there)) hSl h1c (Nat.zero_le _) (by unfold maxLen; omega) (by omega) rfl rfl (by repeat (first | exact D1.nil | apply D1.dep (by decide +kernel) | apply D1.blk (by decide +kernel) (by repeat (first | exact Pk.here | apply Pk.there)) (by repeat first | exact mH | apply mT))) (fun p4 c4 => ?_); simp only [Nat.zero_add, List.nil_append])
 refine A3 6 ?_
 (refine E6 rfl (E2 rfl rfl rfl (by omega) (by unfold maxLen; omega) rfl) rfl rfl ?_; rintro _ ⟨b18, rfl⟩)
 refine A3 7 ?_
 (refine T9 rfl rfl rfl rfl rfl rfl (fun _ _ => by repeat (first | exact Sw.here | apply Sw.there)) (M4 (by repeat first | exact mH | apply mT)) rfl (by simp [Value.oneCell']) (by unfold maxLen; omega) (by omega) rfl rfl (by repeat (first | exact D1.nil | apply D1.dep (by decide +kernel) | apply D1.blk (by decide +kernel) (by repeat (first | exact Pk.here | apply Pk.there)) (by repeat first | exact mH | apply mT))) (fun p5 c5 => ?_))
 refine aP 8 rfl (qA rfl) rfl ?_
 refine A2 ?_
 (refine H8 (cs := es.flatten ++ [.string nm, .int .i64 k, .slice q ks.length d]) (by repeat (first | exact Pk.here | apply Pk.there)) (fun G5 hle5 hsl5 hno5 => ?_))
 refine A2 ?_
 exact A6C
 (refine E6 rfl (E2 rfl rfl rfl (by omega) (by unfold maxLen; omega) rfl) rfl rfl ?_; rintro _ ⟨b28, rfl⟩)
 refine A3 2 ?_
 (refine A5N rfl rfl rfl rfl rfl rfl (fun _ _ => by repeat (first | exact Sw.here | apply Sw.there)) hSl h1c (Nat.zero_le _) (by unfold maxLen; omega) (by omega) rfl rfl (by repeat (first | exact D1.nil | apply D1.dep (by decide +kernel) | apply D1.blk (by decide +kernel) (by repeat (first | exact Pk.here | apply Pk.there)) (by repeat first | exact mH | apply mT))) (fun p4 c4 => ?_); simp only [Nat.zero_add, List.nil_append])
 refine A3 7 ?_
 (refine T9 rfl rfl rfl rfl rfl rfl (fun _ _ => by repeat (first | exact Sw.here | apply Sw.there)) (M4 (by repeat first | exact mH | apply mT)) rfl (by simp [Value.oneCell']) (by unfold maxLen; omega) (by omega) rfl rfl (by repeat (first | exact D1.nil | apply D1.dep (by decide +kernel) | apply D1.blk (by decide +kernel) (by repeat (first | exact Pk.here | apply Pk.there)) (by repeat first | exact mH | apply mT))) (fun p5 c5 => ?_))
 refine aP 8 rfl (qA rfl) rfl ?_
 refine A2 ?_
 (refine H8 (cs := es.flatten ++ [.string nm, .int .i64 k, .slice q ks.length d]) (by repeat (first | exact Pk.here | apply Pk.there)) (fun G5 hle5 hsl5 hno5 => ?_))
 refine A2 ?_
 exact A6C
 (refine E6 rfl (E2 rfl rfl rfl (by omega) (by unfold maxLen; omega) rfl) rfl rfl ?_; rintro _ ⟨b40, rfl⟩)
 refine A3 0 ?_
 (refine E6 rfl (E2 rfl rfl rfl (by omega) (by unfold maxLen; omega) rfl) rfl rfl ?_; rintro _ ⟨b42, rfl⟩)
 refine A3 2 ?_
 (refine A5N rfl rfl rfl rfl rfl rfl (fun _ _ => by repeat (first | exact Sw.here | apply Sw.there)) hSl h1c (Nat.zero_le _) (by unfold maxLen; omega) (by omega) rfl rfl (by repeat (first | exact D1.nil | apply D1.dep (by decide +kernel) | apply D1.blk (by decide +kernel) (by repeat (first | exact Pk.here | apply Pk.there)) (by repeat first | exact mH | apply mT))) (fun p4 c4 => ?_); simp only [Nat.zero_add, List.nil_append])
 refine A3 7 ?_
 (refine T9 rfl rfl rfl rfl rfl rfl (fun _ _ => by repeat (first | exact Sw.here | apply Sw.there)) (M4 (by repeat first | exact mH | apply mT)) rfl (by simp [Value.oneCell']) (by unfold maxLen; omega) (by omega) rfl rfl (by repeat (first | exact D1.nil | apply D1.dep (by decide +kernel) | apply D1.blk (by decide +kernel) (by repeat (first | exact Pk.here | apply Pk.there)) (by repeat first | exact mH | apply mT))) (fun p5 c5 => ?_))
 refine aP 8 rfl (qA rfl) rfl ?_
 refine A2 ?_
 (refine H8 (cs := es.flatten ++ [.string nm, .int .i64 k, .slice q ks.length d]) (by repeat (first | exact Pk.here | apply Pk.there)) (fun G5 hle5 hsl5 hno5 => ?_))
 refine A2 ?_
 exact A6C
theorem B0A {cx : Cx} : ∀ {ks : List Tm} {i : Nat} {us : List Ty} {u : Ty} (hi : i < ks.length), U2 cx (ks.take i) = some us → P1 cx ks[i] = some u → U2 cx (ks.take (i + 1)) = some (us ++ [u])
 | [], i, us, u, hi, _, _ => by simp at hi
 | t :: ts, 0, us, u, _, h1, h2 => by
  simp only [List.take_zero, U2, Option.some.injEq] at h1
  subst h1
  simp only [List.getElem_cons_zero] at h2
  simp [U2, h2]
 | t :: ts, i + 1, us, u, hi, h1, h2 => by
  simp only [List.take_succ_cons, U2] at h1 ⊢
  split at h1
  ·cases h1
  ·rename_i a ha
   split at h1
   ·cases h1
   ·rename_i bs has
    simp only [Option.some.injEq] at h1
    subst h1
    simp only [List.getElem_cons_succ] at h2
    have := B0A (ks := ts) (i := i) (by simpa using hi) has h2
    simp only [this, List.cons_append]
theorem B0B {cx : Cx} : ∀ {ks : List Tm} {i : Nat} (hi : i < ks.length), P1 cx ks[i] = none → U2 cx ks = none
 | [], i, hi, _ => by simp at hi
 | t :: ts, 0, _, h => by simp only [List.getElem_cons_zero] at h; rw [U2, h]
 | t :: ts, i + 1, hi, h => by
  simp only [List.getElem_cons_succ] at h
  have := B0B (ks := ts) (i := i) (by simpa using hi) h
  rw [U2, this]
  cases P1 cx t <;> rfl
section
variable {cx : Cx} {k : Int} {nm : ByteArray} {num : Int} {ty fr : Ty} {lb : Int} {ks : List Tm}
theorem B5n (hk : k = 1) (h0 : ks = []) : P1 cx (.mk k nm num ty fr lb ks) = A0G cx nm := by
 subst hk h0
 rw [P1, U2]
 simp only [V7, mW1]
 cases A0G cx nm with
 | none => rfl
 | some t => simp
theorem B5o (hk : k = 2) (h0 : ks = []) : P1 cx (.mk k nm num ty fr lb ks) = some S1 := by subst hk h0; rfl
theorem B5p (hk : k = 3 ∨ k = 4) (h0 : ks = []) : P1 cx (.mk k nm num ty fr lb ks) = some Y5 := by subst h0; rcases hk with rfl | rfl <;> rfl
theorem B5q {b : Tm} (hk : k = 5) (h : P1 (cx ++ [(nm, ty)]) b = none) : P1 cx (.mk k nm num ty fr lb [b]) = none := by
 subst hk; rw [P1, O7, if_pos rfl, U2, h]
theorem B5r {b : Tm} {t : Ty} (hk : k = 5) (h : P1 (cx ++ [(nm, ty)]) b = some t) : P1 cx (.mk k nm num ty fr lb [b]) = if H5 (.mk 4 [ty, t]) = true then some (.mk 4 [ty, t]) else none := by
 subst hk
 rw [P1, O7, if_pos rfl, U2, h]
 simp only [U2, V7, mW5, List.getD_cons_zero]
 cases H5 (.mk 4 [ty, t]) <;> simp
theorem B5s (hk : k ≠ 5) (h : U2 cx ks = none) : P1 cx (.mk k nm num ty fr lb ks) = none := by rw [P1, O7, if_neg hk, h]
theorem B5t {ts : List Ty} (hk : k ≠ 5) (h : U2 cx ks = some ts) : P1 cx (.mk k nm num ty fr lb ks) = V7 cx k nm ty ts := by rw [P1, O7, if_neg hk, h]
end
theorem B0C {Q : Prop} (h : Q := by (rw [f3 (by omega)]; exact Q5.yes rfl (A0i _) (W2 (by omega) (by omega)))) : Q := h
theorem A6D {Q : Prop} (h : Q := by (rw [f4 (by omega) (by omega) (by first | exact hE | assumption)]; exact Q5.no rfl (Q3 _ ⟨by omega, by omega⟩) (W2 (by omega) (by omega)))) : Q := h
theorem A6E {Q : Prop} (h : Q := by (rw [f5 _ (by omega) (by omega) (by first | exact hE | assumption)]; exact Q5.mk rfl hmr2 (A8N (.inl rfl) hta hma))) : Q := h
theorem B0D : ∀ (e : Tm) (d : Int) (cx : Cx) (G : IM) (p : Option Addr) (n c : Nat) (cells : List Value), N2 12 14 e d = true → (n : Int) ≤ d → Z1 cx → R4 G cx p n c → B3 G e cells →
  Fn Tryz.prog 140 [.slice p n c, .agg ⟨cells⟩] [] G (Q5 (P1 cx e) G) := by
 refine Tm.ind fun k nm num ty fr lb ks ih d cx G p n c cells hv hnd hcv hx hr => ?_
 have hr0 := hr
 have hone := hr.one
 obtain ⟨hv1, hv2, hv3, hv4⟩ := A0U hv
 have hvk := (A05 12 14 ks _).1 hv4
 have har := (U0.1 hv3).1
 have hop := A2X har
 obtain ⟨hta, hts⟩ := A2Y hv3
 have hkr : 1 ≤ k ∧ k ≤ 14 := A3Q (by rw [har]; omega)
 have hcv5 : k = 5 → Z1 (cx ++ [(nm, ty)]) := fun hk => by have := A3K (k := k) (nm := nm) (ty := ty) hcv fun hk => (U0.1 hv3).2.2.2.2.2.1 (.inl hk); rwa [O7, if_pos hk] at this
 have h0 : k ≤ 4 → ks = [] := fun h => List.length_eq_zero_iff.1 (by
  have hk : k = 1 ∨ k = 2 ∨ k = 3 ∨ k = 4 := by omega
  rcases hk with rfl | rfl | rfl | rfl
  ·have : F0 1 = 0 := rfl; omega
  ·have : F0 2 = 0 := rfl; omega
  ·have : F0 3 = 0 := rfl; omega
  ·have : F0 4 = 0 := rfl; omega)
 have f1 := fun hk => @B5n cx k nm num ty fr lb ks hk (h0 (by omega))
 have f2 := fun hk => @B5o cx k nm num ty fr lb ks hk (h0 (by omega))
 have f3 := fun hk => @B5p cx k nm num ty fr lb ks hk (h0 (by omega))
 have f4 : ∀ (hk : k = 5) (hl : 0 < ks.length), P1 (cx ++ [(nm, ty)]) ks[0] = none → P1 cx (.mk k nm num ty fr lb ks) = none := fun hk hl h => by
  obtain ⟨b, rfl⟩ := ks1 (hop.2.2 (.inl hk)); exact B5q hk h
 have f5 : ∀ (t : Ty) (hk : k = 5) (hl : 0 < ks.length), P1 (cx ++ [(nm, ty)]) ks[0] = some t → P1 cx (.mk k nm num ty fr lb ks) = if H5 (.mk 4 [ty, t]) = true then some (.mk 4 [ty, t]) else none := fun t hk hl h => by
  obtain ⟨b, rfl⟩ := ks1 (hop.2.2 (.inl hk)); exact B5r hk h
 have f6 := @B5s cx k nm num ty fr lb ks
 have f7 := fun ts => @B5t cx k nm num ty fr lb ks ts
 generalize P1 cx (.mk k nm num ty fr lb ks) = R at f1 f2 f3 f4 f5 f6 f7 ⊢
 obtain ⟨tk, tks⟩ := ty
 obtain ⟨fk, fks⟩ := fr
 obtain ⟨pt, ct, pf, cf, q, cq, es, rfl, hk, hnum, hlb, hty, hfr, hsl, hkl⟩ := hr.open9
 have hlen : ks.length ≤ 3 := by have := A1N k; omega
 refine B8 Tryz.func140 rfl Tryz.ntmps140 Tryz.results140 rfl ?_
 intro w0
 refine A2 ?_
 refine sE (C6 rfl rfl) rfl (fun b3 => ?_)
 refine sE (A6 rfl) rfl (fun b4 => ?_)
 refine I9 ?_
 refine B7 (tS (tR (sB (qE rfl rfl) rfl rfl (fun h18 => ?_) (fun h18 => ?_))))
 refine D9 ?_
 (refine D4 rfl (B5c G cx hcv p n c nm hx) rfl rfl (fun v G1 hle1 hh => ?_); obtain ⟨mt, mc, rfl, hmr, hma, hmu⟩ := hh; obtain ⟨p1, c1, e1, rfl, _⟩ := hmr.open)
 refine D9 ?_
 refine E9 (rC rfl (A4 rfl rfl)) (rT rfl) ?_
 (rw [f1 (by omega)]; exact ⟨rfl, _, _, rfl, hmr, hma, hmu⟩)
 refine A7 ?_
 refine sB (qE rfl rfl) rfl rfl (fun h46 => ?_) (fun h46 => ?_)
 refine A7 ?_
 refine H4 rfl ((A06 _)) rfl rfl ?_
 refine A9 ?_
 refine E9 (rC rfl (A4 rfl rfl)) (rT rfl) ?_
 (rw [f2 (by omega)]; exact Q5.yes rfl (K1 _) (W2 (by omega) (by omega)))
 refine A9 ?_
 refine sB (qE rfl rfl) rfl rfl (fun h70 => ?_) (fun h70 => ?_)
 refine D9 ?_
 refine H4 rfl ((A3D _)) rfl rfl ?_
 refine A9 ?_
 refine E9 (rC rfl (A4 rfl rfl)) (rT rfl) ?_
 exact B0C
 refine B0 ?_
 refine sB (qE rfl rfl) rfl rfl (fun h95 => ?_) (fun h95 => ?_)
 refine A7 ?_
 refine H4 rfl ((A3D _)) rfl rfl ?_
 refine A9 ?_
 refine E9 (rC rfl (A4 rfl rfl)) (rT rfl) ?_
 exact B0C
 refine A7 ?_
 refine sB (qE rfl rfl) rfl rfl (fun h118 => ?_) (fun h118 => ?_)
 refine B0 ?_
 (have hl1 : ks.length = 1 := hop.2.2 (by omega); obtain ⟨b, o, e, rfl, hl, hat, hre, hgb⟩ := hsl.kidTm hkl (i := 0) (by omega) (by omega); have hMore := B0z G cx p n c nm (.mk tk tks) _ hx (by omega) hty; refine E1 E3 rfl ?_)
 refine K2 (i := 0) (l' := [tt,ff,ff,ff,ff,ff,ff,ff,ff,ff,ff,ff,ff,ff,ff,ff,ff]) rfl D5 (qM rfl) rfl (by kernel_rfl) rfl rfl ?_
 refine aP 1 rfl (C0 rfl) rfl ?_
 refine aL 2 rfl (C9 rfl rfl) rfl ?_
 refine aP 3 rfl (C0 rfl) rfl ?_
 refine aL 4 rfl (A4 rfl rfl) rfl ?_
 refine aP 6 rfl (C0 rfl) rfl ?_
 refine aL 7 rfl (C9 rfl rfl) rfl ?_
 refine aP 8 rfl (B2 (j := 0) rfl rfl rfl (by omega)) rfl ?_
 refine aL 9 rfl (A0 rfl rfl (hat _) hl) rfl ?_
 refine P9 (j := 5) (j' := 14) (by kernel_rfl) ?_ ?_
 (refine H2 rfl rfl hMore rfl rfl rfl (fun v G1 hle1 hh => ?_); obtain ⟨pm, cm, rfl, hxm⟩ := hh; have hreM := hre.mono hle1; have hLam := ih ks[0] (List.getElem_mem (by omega)) (d + 1) _ G1 pm (n + 1) cm _ (hvk 0 (by omega)) (by omega) (hcv5 (by omega)) hxm hreM; have htyM := hty.mono hle1)
 refine P9 (j := 10) (j' := 14) (by kernel_rfl) ?_ ?_
 focus (refine H2 rfl rfl hLam rfl rfl rfl (fun v G2 hle2 hh => ?_); obtain ⟨mt, mc, rfl, hmr, hma, hmu⟩ := hh; obtain ⟨p1, c1, e1, rfl, _⟩ := hmr.open; have htyN := htyM.mono hle2; rcases hE : P1 (cx ++ [(nm, Ty.mk tk tks)]) ks[0] with _ | mt2; rotate_left; obtain rfl := hmu _ hE; rotate_left; all_goals simp only [Option.isSome])
 refine aP 11 rfl (qM rfl) rfl ?_
 refine aP 12 rfl (pX rfl rfl) rfl ?_
 refine aP 13 rfl (pX rfl rfl) rfl ?_
 refine A3 14 ?_
 (refine E6 rfl (A6 rfl) rfl rfl ?_; rintro _ ⟨b142, rfl⟩)
 refine A3 15 ?_
 refine H6 rfl ?_
 refine aP 16 rfl (qA rfl) rfl ?_
 refine A0p ?_
 refine E9 (rC rfl (A4 rfl rfl)) (rT rfl) ?_
 exact A6D
 refine aP 11 rfl (qM rfl) rfl ?_
 refine aP 12 rfl (pX rfl rfl) rfl ?_
 refine aP 13 rfl (pX rfl rfl) rfl ?_
 refine A3 14 ?_
 (refine E6 rfl (A6 rfl) rfl rfl ?_; rintro _ ⟨b173, rfl⟩)
 refine A3 15 ?_
 refine H6 rfl ?_
 refine aP 16 rfl (qA rfl) rfl ?_
 refine Q0 ?_
 (refine D4 rfl (A2z 4 (.mk tk tks) _ _ _ _ (.inl rfl) hta hma htyN hmr) rfl rfl (fun v G3 hle3 hh => ?_); obtain ⟨mc2, rfl, hmr2⟩ := hh; obtain ⟨p2, c2, e2, rfl, _⟩ := hmr2.open)
 refine D9 ?_
 refine E9 (rC rfl (A4 rfl rfl)) (rT rfl) ?_
 exact A6E
 (refine E6 rfl (A6 rfl) rfl rfl ?_; rintro _ ⟨b206, rfl⟩)
 refine A3 10 ?_
 focus (refine H2 rfl rfl hLam rfl rfl rfl (fun v G2 hle2 hh => ?_); obtain ⟨mt, mc, rfl, hmr, hma, hmu⟩ := hh; obtain ⟨p1, c1, e1, rfl, _⟩ := hmr.open; have htyN := htyM.mono hle2; rcases hE : P1 (cx ++ [(nm, Ty.mk tk tks)]) ks[0] with _ | mt2; rotate_left; obtain rfl := hmu _ hE; rotate_left; all_goals simp only [Option.isSome])
 refine aP 11 rfl (qM rfl) rfl ?_
 refine aP 12 rfl (pX rfl rfl) rfl ?_
 refine aP 13 rfl (pX rfl rfl) rfl ?_
 refine A3 15 ?_
 refine H6 rfl ?_
 refine aP 16 rfl (qA rfl) rfl ?_
 refine A0p ?_
 refine E9 (rC rfl (A4 rfl rfl)) (rT rfl) ?_
 exact A6D
 refine aP 11 rfl (qM rfl) rfl ?_
 refine aP 12 rfl (pX rfl rfl) rfl ?_
 refine aP 13 rfl (pX rfl rfl) rfl ?_
 refine A3 15 ?_
 refine H6 rfl ?_
 refine aP 16 rfl (qA rfl) rfl ?_
 refine Q0 ?_
 (refine D4 rfl (A2z 4 (.mk tk tks) _ _ _ _ (.inl rfl) hta hma htyN hmr) rfl rfl (fun v G3 hle3 hh => ?_); obtain ⟨mc2, rfl, hmr2⟩ := hh; obtain ⟨p2, c2, e2, rfl, _⟩ := hmr2.open)
 refine D9 ?_
 refine E9 (rC rfl (A4 rfl rfl)) (rT rfl) ?_
 exact A6E
 (refine E6 rfl (A6 rfl) rfl rfl ?_; rintro _ ⟨b273, rfl⟩)
 refine A3 5 ?_
 (refine H2 rfl rfl hMore rfl rfl rfl (fun v G1 hle1 hh => ?_); obtain ⟨pm, cm, rfl, hxm⟩ := hh; have hreM := hre.mono hle1; have hLam := ih ks[0] (List.getElem_mem (by omega)) (d + 1) _ G1 pm (n + 1) cm _ (hvk 0 (by omega)) (by omega) (hcv5 (by omega)) hxm hreM; have htyM := hty.mono hle1)
 refine A3 10 ?_
 focus (refine H2 rfl rfl hLam rfl rfl rfl (fun v G2 hle2 hh => ?_); obtain ⟨mt, mc, rfl, hmr, hma, hmu⟩ := hh; obtain ⟨p1, c1, e1, rfl, _⟩ := hmr.open; have htyN := htyM.mono hle2; rcases hE : P1 (cx ++ [(nm, Ty.mk tk tks)]) ks[0] with _ | mt2; rotate_left; obtain rfl := hmu _ hE; rotate_left; all_goals simp only [Option.isSome])
 refine aP 11 rfl (qM rfl) rfl ?_
 refine aP 12 rfl (pX rfl rfl) rfl ?_
 refine aP 13 rfl (pX rfl rfl) rfl ?_
 refine A3 15 ?_
 refine H6 rfl ?_
 refine aP 16 rfl (qA rfl) rfl ?_
 refine A0p ?_
 refine E9 (rC rfl (A4 rfl rfl)) (rT rfl) ?_
 exact A6D
 refine aP 11 rfl (qM rfl) rfl ?_
 refine aP 12 rfl (pX rfl rfl) rfl ?_
 refine aP 13 rfl (pX rfl rfl) rfl ?_
 refine A3 15 ?_
 refine H6 rfl ?_
 refine aP 16 rfl (qA rfl) rfl ?_
 refine Q0 ?_
 (refine D4 rfl (A2z 4 (.mk tk tks) _ _ _ _ (.inl rfl) hta hma htyN hmr) rfl rfl (fun v G3 hle3 hh => ?_); obtain ⟨mc2, rfl, hmr2⟩ := hh; obtain ⟨p2, c2, e2, rfl, _⟩ := hmr2.open)
 refine D9 ?_
 refine E9 (rC rfl (A4 rfl rfl)) (rT rfl) ?_
 exact A6E
 refine D9 ?_
 (refine J9 (E2 rfl rfl rfl (by omega) (by unfold maxLen; omega) rfl) rfl ?_; rintro _ ⟨b351, rfl⟩)
 refine D9 ?_
 refine B7 ?_
 (refine I3 (fun (x : Nat × Option Addr × Nat × List Ty × List (List Value) × IM) => ⟨[(9, .int .i64 x.1), (8, .slice x.2.1 x.1 x.2.2.1), (3, .pointer (some ⟨b3, 0, none⟩)), (4, .pointer (some ⟨b4, 0, none⟩)), (0, .slice p n c)], [.slc x.2.1 x.2.2.1 34 2 x.1 x.2.2.2.2.1.flatten, .blk b4 [.int .i64 0, .slice none 0 0], .blk b3 [.int .i64 k, .string nm, .int .i64 num, .int .i64 tk, .slice pt tks.length ct, .int .i64 fk, .slice pf fks.length cf, .int .i64 lb, .slice q ks.length cq]], x.2.2.2.2.2⟩) (fun x => x.1 ≤ ks.length ∧ C5 G x.2.2.2.2.2 ∧ x.2.2.2.1.length = x.1 ∧ C7 x.2.2.2.2.2 x.2.2.2.1 x.2.2.2.2.1 ∧ (∀ u ∈ x.2.2.2.1, F8 u) ∧ U2 cx (ks.take x.1) = some x.2.2.2.1) (fun x => ks.length - x.1) (0, some ⟨b351, 0, none⟩, 0, [], [], G) ?_ ?_ ?_)
 (simp only [H9]; exact D3)
 (exact ⟨by simp, C5.refl _, rfl, by simp [C7], by simp, by simp [U2]⟩)
 (rintro ⟨i, pn, cn, us, es', Gi⟩ ⟨hi, hle, hlu, hst, hau, hsu⟩; simp only [] at hi hle hlu hst hau hsu ⊢; replace hsl := hsl.mono hle; replace hkl := hkl.mono hle; replace hx := hx.mono hle; replace hr0 := hr0.mono hle)
 refine A9 ?_
 refine sB (I8 rfl rfl) rfl rfl (fun h373 => ?_) (fun h373 => ?_)
 refine A7 ?_
 refine B7 ?_
 refine A7 ?_
 (obtain ⟨b, o, e, rfl, hl, hat, hre, hgb⟩ := hsl.kidTm hkl (i := i) (by omega) (by omega); refine sP (B2 rfl rfl rfl (by omega)) rfl rfl ?_)
 refine sL (A0 rfl rfl (hat _) hl) rfl rfl ?_
 focus (refine D4 rfl (ih ks[i] (List.getElem_mem (by omega)) (d + 1) cx Gi p n c _ (hvk i (by omega)) (by omega) hcv hx hre) rfl rfl (fun v G2 hle2 hh => ?_); obtain ⟨u, uc, rfl, hru, hua, huu⟩ := hh; obtain ⟨p3, c3, e3, rfl, _⟩ := hru.open; rcases hE : P1 cx ks[i] with _ | u2; rotate_left; obtain rfl := huu _ hE; rotate_left; all_goals simp only [Option.isSome])
 refine B9 ?_
 refine sE (A6 rfl) rfl (fun b393 => ?_)
 refine A35 ?_
 refine E9 (rC rfl (A4 rfl rfl)) (rT rfl) ?_
 (rw [f6 (by omega) (B0B (by omega) hE)]; exact Q5.no rfl (Q3 _ ⟨by omega, by omega⟩) (W2 (by omega) (by omega)))
 refine B9 ?_
 refine sE (A6 rfl) rfl (fun b425 => ?_)
 refine Q0 ?_
 (refine J9 (E2 rfl rfl rfl (by omega) (by unfold maxLen; omega) rfl) rfl ?_; rintro _ ⟨b443, rfl⟩)
 refine X1 rfl rfl rfl rfl rfl (fun _ _ => by repeat (first | exact Sw.here | apply Sw.there)) (M4 (by repeat first | exact mH | apply mT)) rfl (by simp [Value.oneCell']) (by unfold maxLen; omega) (by omega) rfl (fun pn' cn' => ?_)
 refine A7 ?_
 refine sP (E7 rfl rfl (by omega) (by omega)) rfl rfl ?_
 refine A2 ?_
 refine I7 (i + 1, pn', cn', us ++ [u2], es' ++ [[.int .i64 u2.k, .slice p3 u2.ks.length c3]], G2) ?_ ?_ ?_
 (simp only [H9]; exact D3)
 (dsimp only; exact ⟨by omega, hle.trans hle2, by simp [hlu], C7.snoc (hst.mono hle2) hru, A4p hau hua, B0A (by omega) hsu hE⟩)
 exact R6
 refine J8 ?_
 (obtain rfl : i = ks.length := (by omega); rw [List.take_length] at hsu; refine A14 (cs := es'.flatten) (by repeat (first | exact Pk.here | apply Pk.there)) (fun G3 hle3 hsl3 hno3 => ?_); have hst3 := hst.mono hle3; have hRes := B5i cx k nm num (.mk tk tks) (.mk fk fks) lb ks us G3 _ pn cn es' (by rw [hlu]; exact har) (by omega) hta (hr0.mono hle3) (by rw [hlu]; exact C8.of hsl3 (by rw [hst3.len, hlu]) hst3.all (fun e he => (hst3.each e he).2)) hst3 hau; rw [hlu] at hRes; refine D4 rfl hRes rfl rfl (fun v G4 hle4 hh => ?_); obtain ⟨mt, mc, rfl, hmr, hma, hmu⟩ := hh; obtain ⟨p1, c1, e1, rfl, _⟩ := hmr.open)
 refine A9 ?_
 refine E9 (rC rfl (A4 rfl rfl)) (rT rfl) ?_
 (rw [f7 us (by omega) hsu]; exact ⟨rfl, _, _, rfl, hmr, hma, hmu⟩)
theorem B5u {e : Tm} (h : Q1 e = true) : P8 e = P1 [] e := by
 have hs := ((A1q e).1 h).1
 obtain ⟨h1, h2⟩ := A24 e 1 [] 0 hs A23
 unfold P8
 cases hE : M6 [] e 0 with
 | none => rw [A6t h hE, h2 hE]
 | some r =>
  obtain ⟨u, a, l⟩ := r
  rw [A6u h hE, (h1 u a l hE).1]
theorem B5v {e u : Tm} {t : Ty} (h : V2 e = some (u, t)) : Q1 e = true ∧ ∃ l, M6 [] e 0 = some (u, t, l) := by
 unfold V2 at h
 split at h
 ·rename_i hv
  refine ⟨hv, ?_⟩
  split at h
  ·rename_i u' t' l' he; cases h; exact ⟨l', he⟩
  ·cases h
 ·cases h
def A6F (t : Ty) (x : Bool) (G : IM) : IM → Value → List A5 → Prop := L5 fun G' v => ∃ cells, v = .tuple ⟨[.agg ⟨cells⟩, .bool x]⟩ ∧ C2 G' (if x = true then t else C1) cells
theorem B5w (t : Ty) (G : IM) (cells : List Value) (hr : C2 G t cells) : Fn Tryz.prog 184 [.agg ⟨cells⟩, .bool true] [] G (A6F t true G) := by
 obtain ⟨p, c, e, rfl, _⟩ := hr.open
 refine B8 Tryz.func184 rfl Tryz.ntmps184 Tryz.results184 rfl ?_
 intro w0
 refine A2 ?_
 refine sE (C6 rfl rfl) rfl (fun b3 => ?_)
 refine sE (A6 rfl) rfl (fun b4 => ?_)
 refine A0p ?_
 refine E9 (rC rfl (A4 rfl rfl)) (rT rfl) ?_
 (exact ⟨rfl, _, rfl, hr⟩)
theorem B5x (t : Ty) (G : IM) (cells : List Value) (hr : C2 G t cells) : Fn Tryz.prog 184 [.agg ⟨cells⟩, .bool false] [] G (A6F t false G) := by
 obtain ⟨p, c, e, rfl, _⟩ := hr.open
 refine B8 Tryz.func184 rfl Tryz.ntmps184 Tryz.results184 rfl ?_
 intro w0
 refine A2 ?_
 refine sE (C6 rfl rfl) rfl (fun b3 => ?_)
 refine sE (A6 rfl) rfl (fun b4 => ?_)
 refine A0b ?_
 refine E9 (rC rfl (A4 rfl rfl)) (rT rfl) ?_
 (exact ⟨rfl, _, rfl, Q3 _ ⟨by omega, by omega⟩⟩)
theorem B5y (t : Ty) (x : Bool) (G : IM) (cells : List Value) (hr : C2 G t cells) : Fn Tryz.prog 184 [.agg ⟨cells⟩, .bool x] [] G (A6F t x G) := by
 cases x
 ·exact B5x t G cells hr
 ·exact B5w t G cells hr
theorem W4.sure {o : Option Ty} {t : Ty} {G G' : IM} {cells : List Value} (h : ∀ u, o = some u → u = t) (hr : C2 G' (if o.isSome = true then t else C1) cells) : W4 o G G' (.tuple ⟨[.agg ⟨cells⟩, .bool o.isSome]⟩) [] := by
 cases o with
 | none => exact ⟨rfl, cells, C1, rfl, hr, by simp⟩
 | some u => exact ⟨rfl, cells, t, rfl, hr, fun x hx => by cases hx; exact (h _ rfl).symm⟩
theorem B5z (e : Tm) (G : IM) (cells : List Value) (hcnt : D6 e ≤ 4294967296) (hr : B3 G e cells) :
  Fn Tryz.prog 134 [.slice none 0 0, .agg ⟨cells⟩] [] G (W4 (P8 e) G) := by
 have hl := hr.len
 have hone := hr.one
 have hw := A5T e G cells hcnt hr
 have hT := fun h : Q1 e = true => B0D e 1 [] G none 0 0 cells ((A1q e).1 h).1 (by omega) A23 (R4.nil G) hr
 have hts := fun h => @B5u e h
 have hno := @A97 e
 refine B8 Tryz.func134 rfl Tryz.ntmps134 Tryz.results134 rfl ?_
 intro w0
 refine A2 ?_
 refine sE (C6 rfl rfl) rfl (fun b3 => ?_)
 refine sE (A6 rfl) rfl (fun b4 => ?_)
 refine A9 ?_
 refine H4 rfl ((B3n _)) rfl rfl ?_
 refine A2 ?_
 refine sL (A0 rfl rfl (B1 (by repeat first | exact mH | apply mT)) (by assumption)) rfl rfl ?_
 refine E8 rfl (hw) rfl rfl (fun h16 => ?_) (fun h16 => ?_)
 refine I9 ?_
 refine sL (A0 rfl rfl (B1 (by repeat first | exact mH | apply mT)) (by assumption)) rfl rfl ?_
 (refine D4 rfl (hT (by assumption)) rfl rfl (fun v G1 hle1 hh => ?_); obtain ⟨mt, mc, rfl, hmr, hma, hmu⟩ := hh; obtain ⟨p1, c1, e1, rfl, _⟩ := hmr.open; have hmo := hts (by assumption))
 refine A2 ?_
 (refine D4 rfl (B5y mt _ _ _ hmr) rfl rfl (fun v G2 hle2 hh => ?_); obtain ⟨mc2, rfl, hmr2⟩ := hh; obtain ⟨p2, c2, e2, rfl, _⟩ := hmr2.open)
 refine A9 ?_
 refine E9 (rC rfl (A4 rfl rfl)) (rT rfl) ?_
 (rw [hmo]; exact W4.sure hmu hmr2)
 refine J7 ?_
 refine E9 (rC rfl (A4 rfl rfl)) (rT rfl) ?_
 (exact W4.no (u := C1) (Q3 _ ⟨by omega, by omega⟩) rfl (hno (by assumption)))
theorem B0E (e : Tm) (G : IM) (cells : List Value) (hcnt : D6 e ≤ 4294967296) (hr : B3 G e cells) :
  Fn Tryz.prog 92 [.agg ⟨cells⟩] [] G (W4 (P8 e) G) := by
 have hl := hr.len
 have hone := hr.one
 refine B8 Tryz.func92 rfl Tryz.ntmps92 Tryz.results92 rfl ?_
 intro w0
 refine A2 ?_
 refine sE (C6 rfl rfl) rfl (fun b3 => ?_)
 refine sE (A6 rfl) rfl (fun b4 => ?_)
 refine B0 ?_
 refine sL (A0 rfl rfl (B1 (by repeat first | exact mH | apply mT)) (by assumption)) rfl rfl ?_
 (refine D4 rfl (B5z e G cells hcnt hr) rfl rfl (fun v G1 hle1 hh => ?_); obtain ⟨cu, u, rfl, hru, hu⟩ := hh; obtain ⟨p1, c1, e1, rfl, _⟩ := hru.open)
 refine A9 ?_
 refine E9 (rC rfl (A4 rfl rfl)) (rT rfl) ?_
 (exact ⟨rfl, _, u, rfl, hru, hu⟩)
def A2A (e : Tm) (a b : Ty) (l : Int) : IM → Value → List A5 → Prop := L5 fun G' v => ∃ cells, v = .tuple ⟨[.agg ⟨cells⟩, .int .i64 (if M2 a b = true then l else l + 1)]⟩ ∧ B3 G' (if M2 a b = true then e else K6 e a b l) cells
theorem A2A.yes {G : IM} {e : Tm} {a b : Ty} {l : Int} {cells : List Value} (h : M2 a b = true) (hr : B3 G e cells) : A2A e a b l G (.tuple ⟨[.agg ⟨cells⟩, .int .i64 l]⟩) [] := ⟨rfl, cells, by rw [if_pos h], by rw [if_pos h]; exact hr⟩
theorem A2A.no {G : IM} {e : Tm} {a b : Ty} {l : Int} {cells : List Value} (h : M2 a b = false) (hr : B3 G (K6 e a b l) cells) : A2A e a b l G (.tuple ⟨[.agg ⟨cells⟩, .int .i64 (l + 1)]⟩) [] := ⟨rfl, cells, by rw [if_neg (by rw [h]; decide)], by rw [if_neg (by rw [h]; decide)]; exact hr⟩
theorem A6G {Q : Prop} (h : Q := by (exact A2A.no (by assumption) (B3.of9 (ks := [e]) ⟨by omega, by omega⟩ ⟨by omega, by omega⟩ ⟨by omega, by omega⟩ (hr2.mono hle5) (hr1.mono hle5) hone1 hone2))) : Q := h
theorem B5A (e : Tm) (a b : Ty) (label : Int) (G : IM) (ce ca cb : List Value) (hlab : -1099511627776 ≤ label ∧ label ≤ 1099511627776) (hr : B3 G e ce) (hra : C2 G a ca) (hrb : C2 G b cb) (hsa : a.small) (hsb : b.small) :
  Fn Tryz.prog 143 [.agg ⟨ce⟩, .agg ⟨ca⟩, .agg ⟨cb⟩, .int .i64 label] [] G (A2A e a b label) := by
 have hl := hr.len
 have hone := hr.one
 obtain ⟨hlab1, hlab2⟩ := hlab
 have hSame := B0y a b G ca cb hra hrb
 obtain ⟨ak, aks⟩ := a
 obtain ⟨bk, bks⟩ := b
 obtain ⟨pa, cca, ea, rfl, _⟩ := hra.open
 obtain ⟨pb, ccb, eb, rfl, _⟩ := hrb.open
 simp only [Ty.k, Ty.ks] at hra hrb hSame ⊢
 obtain ⟨v1, v2, v3, v4, v5, v6, v7, v8, v9, rfl⟩ := T6 hl
 refine B8 Tryz.func143 rfl Tryz.ntmps143 Tryz.results143 rfl ?_
 intro w0
 refine A2 ?_
 refine sE (C6 rfl rfl) rfl (fun b3 => ?_)
 refine sE (C6 rfl rfl) rfl (fun b4 => ?_)
 refine sE (C6 rfl rfl) rfl (fun b5 => ?_)
 refine sE (A6 rfl) rfl (fun b6 => ?_)
 refine D0 ?_
 refine E8 rfl (hSame) rfl rfl (fun h15 => ?_) (fun h15 => ?_)
 refine B0 ?_
 refine sL (A0 rfl rfl (B1 (by repeat first | exact mH | apply mT)) hl) rfl rfl ?_
 refine E0 ?_
 refine sS rfl rfl rfl hl hone rfl ?_ (hu := by exact D8 hl.symm)
 refine B0 ?_
 refine E9 (rC rfl (A0 rfl rfl (B1 (by repeat first | exact mH | apply mT)) hl)) (rT rfl) ?_
 (exact A2A.yes (by assumption) hr)
 refine A7 ?_
 refine E1 E3 rfl ?_
 refine K9 (i := 5) (l' := [ff,ff,ff,ff,ff,tt,ff,ff,ff,ff,ff,ff]) rfl D5 (A0 rfl rfl (B1 (by repeat first | exact mH | apply mT)) hl) rfl (by kernel_rfl) rfl rfl ?_
 refine aL 0 rfl (A4 rfl rfl) rfl ?_
 refine aL 2 rfl (A4 rfl rfl) rfl ?_
 refine aP 4 rfl (qM rfl) rfl ?_
 refine aP 8 rfl (qM rfl) rfl ?_
 refine aP 9 rfl (E7 rfl rfl (by omega) (by omega)) rfl ?_
 refine P9 (j := 1) (j' := 6) (by kernel_rfl) ?_ ?_
 (refine H2 rfl rfl (P4 _ _ _ hsa hra) rfl rfl rfl (fun v G1 hle1 hh => ?_); obtain ⟨cs1, F1, rfl, hs1, hn1⟩ := hh; obtain ⟨p1, c1, rfl, _⟩ := hs1.open; have hC2 := P4 _ G1 _ hsb (hrb.mono hle1))
 refine P9 (j := 3) (j' := 6) (by kernel_rfl) ?_ ?_
 (refine H2 rfl rfl hC2 rfl rfl rfl (fun v G2 hle2 hh => ?_); obtain ⟨cs2, F2, rfl, hs2, hn2⟩ := hh; obtain ⟨p2, c2, rfl, _⟩ := hs2.open; have hr1 := hs1.R.mono ((B5.le G1 _).trans hle2); have hr2 := hs2.R.mono (B5.le G2 G1); have hre := hr.mono (hle1.trans hle2))
 refine A3 6 ?_
 (refine E6 rfl (E2 rfl rfl rfl (by omega) (by unfold maxLen; omega) rfl) rfl rfl ?_; rintro _ ⟨b49, rfl⟩)
 refine aP 7 rfl (Z3 rfl rfl) rfl ?_
 refine A3 10 ?_
 refine H6 rfl ?_
 refine aP 11 rfl (qA rfl) rfl ?_
 refine A2 ?_
 (refine H8 (cs := [v1, v2, v3, v4, v5, v6, v7, v8, v9]) (by repeat (first | exact Pk.here | apply Pk.there)) (fun G5 hle5 hsl5 hno5 => ?_); obtain ⟨hone1, hone2⟩ := A2Z (hre.mono hle5) hsl5)
 refine tT ?_
 refine E9 (rC rfl (A4 rfl rfl)) (rT rfl) ?_
 exact A6G
 (refine E6 rfl (E2 rfl rfl rfl (by omega) (by unfold maxLen; omega) rfl) rfl rfl ?_; rintro _ ⟨b60, rfl⟩)
 refine A3 3 ?_
 (refine H2 rfl rfl hC2 rfl rfl rfl (fun v G2 hle2 hh => ?_); obtain ⟨cs2, F2, rfl, hs2, hn2⟩ := hh; obtain ⟨p2, c2, rfl, _⟩ := hs2.open; have hr1 := hs1.R.mono ((B5.le G1 _).trans hle2); have hr2 := hs2.R.mono (B5.le G2 G1); have hre := hr.mono (hle1.trans hle2))
 refine aP 7 rfl (Z3 rfl rfl) rfl ?_
 refine A3 10 ?_
 refine H6 rfl ?_
 refine aP 11 rfl (qA rfl) rfl ?_
 refine A2 ?_
 (refine H8 (cs := [v1, v2, v3, v4, v5, v6, v7, v8, v9]) (by repeat (first | exact Pk.here | apply Pk.there)) (fun G5 hle5 hsl5 hno5 => ?_); obtain ⟨hone1, hone2⟩ := A2Z (hre.mono hle5) hsl5)
 refine tT ?_
 refine E9 (rC rfl (A4 rfl rfl)) (rT rfl) ?_
 exact A6G
 (refine E6 rfl (E2 rfl rfl rfl (by omega) (by unfold maxLen; omega) rfl) rfl rfl ?_; rintro _ ⟨b73, rfl⟩)
 refine A3 1 ?_
 (refine H2 rfl rfl (P4 _ _ _ hsa hra) rfl rfl rfl (fun v G1 hle1 hh => ?_); obtain ⟨cs1, F1, rfl, hs1, hn1⟩ := hh; obtain ⟨p1, c1, rfl, _⟩ := hs1.open; have hC2 := P4 _ G1 _ hsb (hrb.mono hle1))
 refine A3 3 ?_
 (refine H2 rfl rfl hC2 rfl rfl rfl (fun v G2 hle2 hh => ?_); obtain ⟨cs2, F2, rfl, hs2, hn2⟩ := hh; obtain ⟨p2, c2, rfl, _⟩ := hs2.open; have hr1 := hs1.R.mono ((B5.le G1 _).trans hle2); have hr2 := hs2.R.mono (B5.le G2 G1); have hre := hr.mono (hle1.trans hle2))
 refine aP 7 rfl (Z3 rfl rfl) rfl ?_
 refine A3 10 ?_
 refine H6 rfl ?_
 refine aP 11 rfl (qA rfl) rfl ?_
 refine A2 ?_
 (refine H8 (cs := [v1, v2, v3, v4, v5, v6, v7, v8, v9]) (by repeat (first | exact Pk.here | apply Pk.there)) (fun G5 hle5 hsl5 hno5 => ?_); obtain ⟨hone1, hone2⟩ := A2Z (hre.mono hle5) hsl5)
 refine tT ?_
 refine E9 (rC rfl (A4 rfl rfl)) (rT rfl) ?_
 exact A6G
def Q9 (w ts : List Ty) : List Ty := if w = [] then ts else w
theorem A3R {a : Ty} {w ts : List Ty} : Q9 (a :: w) ts = a :: w := by unfold Q9; rw [if_neg (by simp)]
def W6 (ws : List Ty) (n : Nat) (G : IM) : IM → Value → List A5 → Prop := L5 fun G' v => ∃ p c es, v = .slice p n c ∧ ws.length = n ∧ C8 G' p n c 2 es ∧ C7 G' ws es
theorem W6.mk {G G' : IM} {p : Option Addr} {n c : Nat} {ws ws' : List Ty} {es : List (List Value)} (he : ws = ws') (hl : ws'.length = n) (hs : Sl G' p n c 2 es.flatten) (hst : C7 G' ws' es) : W6 ws n G G' (.slice p n c) [] := by
 subst he
 exact ⟨rfl, p, c, es, rfl, hl, C8.of hs (by rw [hst.len, hl]) hst.all (fun e he => (hst.each e he).2), hst⟩
theorem W6.mk1 {G G' : IM} {p : Option Addr} {n c : Nat} {ws : List Ty} {a : Ty} {ca : List Value} (he : ws = [a]) (hn : n = 1) (hs : Sl G' p 1 c 2 ca) (ha : C2 G' a ca) : W6 ws n G G' (.slice p 1 c) [] := by
 subst hn
 exact W6.mk (ws' := [a]) (es := [ca]) he rfl (by simpa using hs) ⟨_, _, rfl, ha, rfl⟩
theorem W6.mk2 {G G' : IM} {p : Option Addr} {n c : Nat} {ws : List Ty} {a b : Ty} {ca cb : List Value} (he : ws = [a, b]) (hn : n = 2) (hs : Sl G' p 2 c 2 (ca ++ cb)) (ha : C2 G' a ca) (hb : C2 G' b cb) : W6 ws n G G' (.slice p 2 c) [] := by
 subst hn
 exact W6.mk (ws' := [a, b]) (es := [ca, cb]) he rfl (by simpa using hs) ⟨_, _, rfl, ha, _, _, rfl, hb, rfl⟩
theorem W6.mk3 {G G' : IM} {p : Option Addr} {n c : Nat} {ws : List Ty} {a b d : Ty} {ca cb cd : List Value} (he : ws = [a, b, d]) (hn : n = 3) (hs : Sl G' p 3 c 2 (ca ++ (cb ++ cd))) (ha : C2 G' a ca) (hb : C2 G' b cb) (hd : C2 G' d cd) : W6 ws n G G' (.slice p 3 c) [] := by
 subst hn
 exact W6.mk (ws' := [a, b, d]) (es := [ca, cb, cd]) he rfl (by simpa using hs) ⟨_, _, rfl, ha, _, _, rfl, hb, _, _, rfl, hd, rfl⟩
section
variable {cx : Cx} {k : Int} {nm : ByteArray} {ty : Ty} {ts w : List Ty} {t : Ty}
theorem wo6 (hk : k = 6) (h : N7 cx k nm ty ts = some (w, t)) (hl : 0 < ts.length) : ∃ a b, Q7 4 ts[0] = some (a, b) ∧ Q9 w ts = [.mk 4 [a, b], a] := by
 subst hk
 rw [mW6, gD hl] at h
 split at h
 ·rename_i a b hm
  split at h
  ·cases h; exact ⟨a, _, hm, A3R⟩
  ·cases h
 ·cases h
theorem B5B (hk : k = 7 ∨ k = 8) (h : N7 cx k nm ty ts = some (w, t)) : Q9 w ts = [S1, S1] := by
 rw [U3 hk] at h
 split at h
 ·cases h; exact A3R
 ·cases h
theorem wo9 (hk : k = 9) (h : N7 cx k nm ty ts = some (w, t)) : Q9 w ts = [Y5, t, t] := by
 subst hk
 rw [mW9] at h
 split at h
 ·cases h; exact A3R
 ·cases h
theorem B5C (hk : k = 11 ∨ k = 12) (h : N7 cx k nm ty ts = some (w, t)) (hl : 0 < ts.length) : ∃ a b, Q7 5 ts[0] = some (a, b) ∧ Q9 w ts = [.mk 5 [a, b]] := by
 rw [A27 hk, gD hl] at h
 split at h
 ·rename_i a b hm; cases h; exact ⟨a, b, hm, A3R⟩
 ·cases h
theorem B5D (hk : k = 13) (h : N7 cx k nm ty ts = some (w, t)) : Q9 w ts = [t] := by
 subst hk
 rw [A2r] at h
 split at h
 ·cases h; exact A3R
 ·cases h
theorem wo0 (hk : 1 ≤ k ∧ k ≤ 5 ∨ k = 10) (h : N7 cx k nm ty ts = some (w, t)) : Q9 w ts = ts := by
 have : w = [] := by
  have hk' : k = 1 ∨ k = 2 ∨ (k = 3 ∨ k = 4) ∨ k = 5 ∨ k = 10 := by omega
  rcases hk' with rfl | rfl | hk | rfl | rfl
  ·rw [mW1] at h; split at h <;> cases h; rfl
  ·rw [mW2] at h; cases h; rfl
  ·rw [A3N hk] at h; cases h; rfl
  ·rw [mW5] at h; cases h; rfl
  ·rw [A4A] at h; cases h; rfl
 subst this; rfl
end
theorem B0F {Q : Prop} (h : Q := by (exact W6.mk2 (o78 (by omega)) (hop.1 (by omega)) hsl5 (K1 _) (K1 _))) : Q := h
theorem B5E (cx : Cx) (k : Int) (nm : ByteArray) (num : Int) (ty fr : Ty) (lb : Int) (ks : List Tm) (ts w : List Ty) (t : Ty) (G : IM) (cells tcells : List Value) (p : Option Addr) (c : Nat) (es : List (List Value))
  (hw : N7 cx k nm ty ts = some (w, t)) (hk14 : k ≠ 14) (hops : F0 k = ts.length) (hr : B3 G (.mk k nm num ty fr lb ks) cells) (hsl : C8 G p ts.length c 2 es) (hkl : C7 G ts es) (har : ∀ t ∈ ts, F8 t) (hrt : C2 G t tcells) :
  Fn Tryz.prog 142 [.agg ⟨cells⟩, .slice p ts.length c, .agg ⟨tcells⟩] [] G (W6 (Q9 w ts) ts.length G) := by
 have hone := hr.one
 have hop := A2X hops
 have hkr : 1 ≤ k ∧ k ≤ 14 := A3Q (by rw [hops]; omega)
 have ha0 := fun h : 0 < ts.length => har _ (List.getElem_mem h)
 obtain ⟨tyk, tyks⟩ := ty
 obtain ⟨fk, fks⟩ := fr
 obtain ⟨tk, tks⟩ := t
 obtain ⟨q9, d9, e9, rfl, _⟩ := hrt.open
 obtain ⟨pt, ct, pf, cf, pk, ck, ek, rfl, hk, hnum, hlb, hrty, hrfr, _, _⟩ := hr.open9
 have o6 := fun h hl => wo6 h hw hl
 have o78 := fun h => B5B h hw
 have o9 := fun h => wo9 h hw
 have o11 := fun h hl => B5C h hw hl
 have o13 := fun h => B5D h hw
 have o0 := fun h => wo0 h hw
 refine B8 Tryz.func142 rfl Tryz.ntmps142 Tryz.results142 rfl ?_
 intro w0
 refine A2 ?_
 refine sE (C6 rfl rfl) rfl (fun b3 => ?_)
 refine sE (C6 rfl rfl) rfl (fun b4 => ?_)
 refine I9 ?_
 refine B7 (tS (tR (sB (qE rfl rfl) rfl rfl (fun h18 => ?_) (fun h18 => ?_))))
 refine A9 ?_
 (have hl2 : ts.length = 2 := hop.1 (by omega); obtain ⟨b0, o0', q0, d0, hp0, hat0, hre0, hg0⟩ := hsl.kidTy hkl (i := 0) (by omega) (by omega); cases hp0; refine sP (B2 (j := 0) rfl rfl rfl (by omega)) rfl rfl ?_)
 refine sL (A0 rfl rfl (hat0 _) rfl) rfl rfl ?_
 (obtain ⟨ma', mb', hm, hwo⟩ := o6 (by omega) (by omega); refine D4 rfl (A3c 4 ts[0] G _ (.inl rfl) (ha0 (by omega)) hre0) rfl rfl (fun v G1 hle1 hh => ?_); obtain ⟨ma, mca, mb, mcb, rfl, hma, hmb, hma2, hmb2, hpp⟩ := hh; have hpe := hpp _ hm; simp only [Prod.mk.injEq] at hpe; obtain ⟨rfl, rfl⟩ := hpe; obtain ⟨p1, c1, e1, rfl, _⟩ := hma.open; obtain ⟨p2, c2, e2, rfl, _⟩ := hmb.open; have hTwo := A2z 4 _ _ G1 _ _ (.inl rfl) hma2 hmb2 hma hmb)
 refine B6 ?_
 refine sE (A6 rfl) rfl (fun b33 => ?_)
 refine sE (A6 rfl) rfl (fun b34 => ?_)
 refine D9 ?_
 (refine D4 rfl hTwo rfl rfl (fun v G2 hle2 hh => ?_); obtain ⟨mc, rfl, hmr⟩ := hh; obtain ⟨p3, c3, e3, rfl, _⟩ := hmr.open; have hma4 := hma.mono hle2)
 refine B9 ?_
 refine sE (A6 rfl) rfl (fun b48 => ?_)
 refine D0 ?_
 (refine J9 (E2 rfl rfl rfl (by omega) (by unfold maxLen; omega) rfl) rfl ?_; rintro _ ⟨b57, rfl⟩)
 refine B9 ?_
 (refine H8 (by repeat (first | exact Pk.here | apply Pk.there)) (fun G5 hle5 hsl5 hno5 => ?_))
 refine B6 ?_
 (exact W6.mk2 hwo (hop.1 (by omega)) hsl5 (hmr.mono hle5) (hma4.mono hle5))
 refine A9 ?_
 refine sB (qE rfl rfl) rfl rfl (fun h74 => ?_) (fun h74 => ?_)
 refine D9 ?_
 refine H4 rfl ((A06 _)) rfl rfl ?_
 refine H4 rfl ((A06 _)) rfl rfl ?_
 (refine J9 (E2 rfl rfl rfl (by omega) (by unfold maxLen; omega) rfl) rfl ?_; rintro _ ⟨b86, rfl⟩)
 refine B9 ?_
 (refine H8 (by repeat (first | exact Pk.here | apply Pk.there)) (fun G5 hle5 hsl5 hno5 => ?_))
 refine B6 ?_
 exact B0F
 refine B0 ?_
 refine sB (qE rfl rfl) rfl rfl (fun h101 => ?_) (fun h101 => ?_)
 refine A7 ?_
 refine H4 rfl ((A06 _)) rfl rfl ?_
 refine H4 rfl ((A06 _)) rfl rfl ?_
 (refine J9 (E2 rfl rfl rfl (by omega) (by unfold maxLen; omega) rfl) rfl ?_; rintro _ ⟨b110, rfl⟩)
 refine B9 ?_
 (refine H8 (by repeat (first | exact Pk.here | apply Pk.there)) (fun G5 hle5 hsl5 hno5 => ?_))
 refine B6 ?_
 exact B0F
 refine A7 ?_
 refine sB (qE rfl rfl) rfl rfl (fun h126 => ?_) (fun h126 => ?_)
 refine B0 ?_
 refine E1 E3 rfl ?_
 refine K9 (i := 1) (l' := [ff,tt,ff,ff,ff]) rfl D5 (A4 rfl rfl) rfl (by kernel_rfl) rfl rfl ?_
 refine aL 2 rfl (A4 rfl rfl) rfl ?_
 refine A3 0 ?_
 refine M5 rfl rfl ((A3D _)) rfl rfl rfl ?_
 refine A3 3 ?_
 (refine E6 rfl (E2 rfl rfl rfl (by omega) (by unfold maxLen; omega) rfl) rfl rfl ?_; rintro _ ⟨b138, rfl⟩)
 refine aP 4 rfl (qA rfl) rfl ?_
 refine A2 ?_
 (refine H8 (by repeat (first | exact Pk.here | apply Pk.there)) (fun G5 hle5 hsl5 hno5 => ?_))
 refine B6 ?_
 (exact W6.mk3 (o9 (by omega)) (hop.2.1 (by omega)) hsl5 (A0i _) (hrt.mono hle5) (hrt.mono hle5))
 refine A9 ?_
 refine sB (qE rfl rfl) rfl rfl (fun h155 => ?_) (fun h155 => ?_)
 refine I9 ?_
 (have hl1 : ts.length = 1 := hop.2.2 (by omega); obtain ⟨b0, o0', q0, d0, hp0, hat0, hre0, hg0⟩ := hsl.kidTy hkl (i := 0) (by omega) (by omega); cases hp0; refine sP (B2 (j := 0) rfl rfl rfl (by omega)) rfl rfl ?_)
 refine sL (A0 rfl rfl (hat0 _) rfl) rfl rfl ?_
 (obtain ⟨ma', mb', hm, hwo⟩ := o11 (by omega) (by omega); refine D4 rfl (A3c 5 ts[0] G _ (.inr rfl) (ha0 (by omega)) hre0) rfl rfl (fun v G1 hle1 hh => ?_); obtain ⟨ma, mca, mb, mcb, rfl, hma, hmb, hma2, hmb2, hpp⟩ := hh; have hpe := hpp _ hm; simp only [Prod.mk.injEq] at hpe; obtain ⟨rfl, rfl⟩ := hpe; obtain ⟨p1, c1, e1, rfl, _⟩ := hma.open; obtain ⟨p2, c2, e2, rfl, _⟩ := hmb.open; have hTwo := A2z 5 _ _ G1 _ _ (.inr rfl) hma2 hmb2 hma hmb)
 refine B6 ?_
 refine sE (A6 rfl) rfl (fun b173 => ?_)
 refine sE (A6 rfl) rfl (fun b174 => ?_)
 refine D9 ?_
 (refine D4 rfl hTwo rfl rfl (fun v G2 hle2 hh => ?_); obtain ⟨mc, rfl, hmr⟩ := hh; obtain ⟨p3, c3, e3, rfl, _⟩ := hmr.open; have hma4 := hma.mono hle2)
 refine B9 ?_
 refine sE (A6 rfl) rfl (fun b188 => ?_)
 refine A9 ?_
 (refine J9 (E2 rfl rfl rfl (by omega) (by unfold maxLen; omega) rfl) rfl ?_; rintro _ ⟨b196, rfl⟩)
 refine B9 ?_
 (refine H8 (by repeat (first | exact Pk.here | apply Pk.there)) (fun G5 hle5 hsl5 hno5 => ?_))
 refine B6 ?_
 (exact W6.mk1 hwo (hop.2.2 (by omega)) hsl5 (hmr.mono hle5))
 refine B0 ?_
 refine sB (qE rfl rfl) rfl rfl (fun h211 => ?_) (fun h211 => ?_)
 refine A9 ?_
 (have hl1 : ts.length = 1 := hop.2.2 (by omega); obtain ⟨b0, o0', q0, d0, hp0, hat0, hre0, hg0⟩ := hsl.kidTy hkl (i := 0) (by omega) (by omega); cases hp0; refine sP (B2 (j := 0) rfl rfl rfl (by omega)) rfl rfl ?_)
 refine sL (A0 rfl rfl (hat0 _) rfl) rfl rfl ?_
 (obtain ⟨ma', mb', hm, hwo⟩ := o11 (by omega) (by omega); refine D4 rfl (A3c 5 ts[0] G _ (.inr rfl) (ha0 (by omega)) hre0) rfl rfl (fun v G1 hle1 hh => ?_); obtain ⟨ma, mca, mb, mcb, rfl, hma, hmb, hma2, hmb2, hpp⟩ := hh; have hpe := hpp _ hm; simp only [Prod.mk.injEq] at hpe; obtain ⟨rfl, rfl⟩ := hpe; obtain ⟨p1, c1, e1, rfl, _⟩ := hma.open; obtain ⟨p2, c2, e2, rfl, _⟩ := hmb.open; have hTwo := A2z 5 _ _ G1 _ _ (.inr rfl) hma2 hmb2 hma hmb)
 refine B6 ?_
 refine sE (A6 rfl) rfl (fun b226 => ?_)
 refine sE (A6 rfl) rfl (fun b227 => ?_)
 refine D9 ?_
 (refine D4 rfl hTwo rfl rfl (fun v G2 hle2 hh => ?_); obtain ⟨mc, rfl, hmr⟩ := hh; obtain ⟨p3, c3, e3, rfl, _⟩ := hmr.open; have hma4 := hma.mono hle2)
 refine B9 ?_
 refine sE (A6 rfl) rfl (fun b241 => ?_)
 refine A9 ?_
 (refine J9 (E2 rfl rfl rfl (by omega) (by unfold maxLen; omega) rfl) rfl ?_; rintro _ ⟨b249, rfl⟩)
 refine B9 ?_
 (refine H8 (by repeat (first | exact Pk.here | apply Pk.there)) (fun G5 hle5 hsl5 hno5 => ?_))
 refine B6 ?_
 (exact W6.mk1 hwo (hop.2.2 (by omega)) hsl5 (hmr.mono hle5))
 refine A7 ?_
 refine sB (qE rfl rfl) rfl rfl (fun h265 => ?_) (fun h265 => ?_)
 refine A9 ?_
 (refine J9 (E2 rfl rfl rfl (by omega) (by unfold maxLen; omega) rfl) rfl ?_; rintro _ ⟨b273, rfl⟩)
 refine B9 ?_
 (refine H8 (by repeat (first | exact Pk.here | apply Pk.there)) (fun G5 hle5 hsl5 hno5 => ?_))
 refine B6 ?_
 (exact W6.mk1 (o13 (by omega)) (hop.2.2 (by omega)) hsl5 (hrt.mono hle5))
 refine H1 ?_
 (exact W6.mk (o0 (by omega)) rfl hsl.sl hkl)
theorem B0G : ∀ (us : List Tm) (h : List Ty) (l : Int), I6 us h h l = (us, l)
 | [], h, l => by simp [I6]
 | u :: us, [], l => by simp [I6]
 | u :: us, a :: h, l => by simp only [I6, A5Q, if_true, B0G us h l]
theorem A4T {us : List Tm} {h w : List Ty} {l : Int} : I6 us h (Q9 w h) l = I6 us h w l := by
 unfold Q9
 split
 ·rename_i hw; subst hw; rw [B0G, A0A]
 ·rfl
theorem B5F {cx : Cx} {k : Int} {nm : ByteArray} {ty : Ty} {h w : List Ty} {t : Ty} (hh : ∀ a ∈ h, H5 a = true) (hw : Wt cx k nm ty h w t) : ∀ a ∈ Q9 w h, H5 a = true := by
 intro a ha
 unfold Q9 at ha
 split at ha
 ·exact hh a ha
 ·rename_i hne
  obtain ⟨i, hi, rfl⟩ := List.mem_iff_getElem.1 ha
  exact (hw.ok i hi (by rcases hw.len with h1 | h1; exact absurd h1 hne; omega)).2
def B5G (u : Tm) (t : Ty) (l : Int) (G : IM) : IM → Value → List A5 → Prop := L5 fun G' v => ∃ cu ct, v = .tuple ⟨[.agg ⟨cu⟩, .agg ⟨ct⟩, .int .i64 (l + 1)]⟩ ∧ B3 G' u cu ∧ C2 G' t ct
theorem B0H {cx : Cx} : ∀ {ks : List Tm} {l : Int} {us : List Tm} {h : List Ty} {l' : Int}, M3 cx ks l = some (us, h, l') → us.length = ks.length ∧ h.length = ks.length
 | [], l, us, h, l', he => by simp only [M3, Option.some.injEq, Prod.mk.injEq] at he; obtain ⟨rfl, rfl, _⟩ := he; exact ⟨rfl, rfl⟩
 | t :: ts, l, us, h, l', he => by
  rw [M3] at he
  split at he
  ·cases he
  ·split at he
   ·cases he
   ·rename_i hz
    simp only [Option.some.injEq, Prod.mk.injEq] at he
    obtain ⟨rfl, rfl, _⟩ := he
    have := B0H hz
    simp [this.1, this.2]
theorem B5H : ∀ (e : Tm) (d : Int) (cx : Cx) (l0 : Int) (u0 : Tm) (t0 : Ty) (l1 : Int) (G : IM) (p : Option Addr) (n c : Nat) (cells : List Value), M6 cx e l0 = some (u0, t0, l1) → N2 12 14 e d = true → (n : Int) ≤ d → Z1 cx → R4 G cx p n c → B3 G e cells → 0 ≤ l0 → l0 + (D6 e : Int) ≤ 1000000000 →
  Fn Tryz.prog 101 [.slice p n c, .agg ⟨cells⟩, .int .i64 (l0 + 1)] [] G (B5G u0 t0 l1 G) := by
 refine Tm.ind fun k nm num ty fr lb ks ih d cx l0 u0 t0 l1 G p n c cells hel hv hnd hcv hx hr hl0 hlc => ?_
 have hr0 := hr
 have hone := hr.one
 have hT := B0D _ d cx G p n c cells hv hnd hcv hx hr
 obtain ⟨hts1, hts2⟩ := (A24 _ d cx l0 hv hcv).1 u0 t0 l1 hel
 rw [hts1] at hT
 have hsm := A8R _ d hv
 obtain ⟨hv1, hv2, hv3, hv4⟩ := A0U hv
 have hvk := (A05 12 14 ks _).1 hv4
 have har := (U0.1 hv3).1
 have hop := A2X har
 obtain ⟨hta, hts⟩ := A2Y hv3
 have hcvX : Z1 (O7 cx k nm ty) := A3K hcv fun hk => (U0.1 hv3).2.2.2.2.2.1 (.inl hk)
 have hck : D6 (.mk k nm num ty fr lb ks) = F4 ks + 1 := Y8 ..
 rw [hck] at hlc
 rw [M6] at hel
 rcases hEL : M3 (O7 cx k nm ty) ks l0 with _ | ⟨usA, tsA, lA⟩
 ·rw [hEL] at hel; cases hel
 rw [hEL] at hel
 unfold A1t at hel
 rcases hNT : Y6 cx k nm ty tsA with _ | ⟨w, t9⟩
 ·simp only [hNT] at hel; cases hel
 simp only [hNT, Option.some.injEq, Prod.mk.injEq] at hel
 obtain ⟨hu0, rfl, rfl⟩ := hel
 obtain ⟨hlA1, hlA2⟩ := B0H hEL
 have hmw := (A9p hNT).2
 obtain ⟨_, htv, _⟩ := (A9h ks (fun t ht d' cx' l' h1 h2 => A24 t d' cx' l' h1 h2) (d + 1) _ l0 hv4 hcvX).1 usA tsA lA hEL
 have hcAll := A07 usA tsA w lA
 have hWV : ∀ a ∈ Q9 w tsA, H5 a = true := B5F htv (A93 htv (fun hk => (U0.1 hv3).2.2.2.2.2.1 (.inr (.inl hk))) (by rw [hlA2]; exact har) hv2 hmw)
 obtain ⟨tk, tks⟩ := ty
 obtain ⟨fk, fks⟩ := fr
 obtain ⟨pt, ct, pf, cf, q, cq, es, rfl, hk, hnum, hlb, hty, hfr, hsl, hkl⟩ := hr.open9
 have hlen : ks.length ≤ 3 := by have := A1N k; omega
 have hk13 : k = 13 → ks.length = 1 := fun h => hop.2.2 (by omega)
 refine B8 Tryz.func101 rfl Tryz.ntmps101 Tryz.results101 rfl ?_
 intro w0
 refine A2 ?_
 refine sE (C6 rfl rfl) rfl (fun b3 => ?_)
 refine sE (A6 rfl) rfl (fun b4 => ?_)
 refine sE (A6 rfl) rfl (fun b5 => ?_)
 refine A9 ?_
 (refine D4 rfl hT rfl rfl (fun v G1 hle1 hh => ?_); obtain ⟨mt, mc, rfl, hmr, hma, hmu⟩ := hh; obtain rfl := hmu _ rfl; obtain ⟨p1, d1, e1, rfl, _⟩ := hmr.open; have hC := A3B _ G1 _ hsm (hr0.mono hle1))
 refine B9 ?_
 refine sE (A6 rfl) rfl (fun b17 => ?_)
 refine A9 ?_
 (refine D4 rfl hC rfl rfl (fun v G2 hle2 hh => ?_); obtain ⟨cs1, F1, rfl, hs1, hn1⟩ := hh; have hr1 := hs1.R.mono (B5.le G2 G1); obtain ⟨q1, c1, q2, c2, q3, c3, es1, rfl, _, _, _, hty1, hfr1, _, _⟩ := hr1.open9; have hle02 := hle1.trans hle2; replace hx := hx.mono hle02; replace hty := hty.mono hle02; replace hsl := hsl.mono hle02; replace hkl := hkl.mono hle02; replace hmr := hmr.mono hle2; replace hr0 := hr0.mono hle02)
 refine sE (A6 rfl) rfl (fun b26 => ?_)
 refine H0 ?_
 (show K3 _ _ (.region 4 ..) _ _; refine A3C (fun (x : Bool) => ⟨[(30, .bool x), (0, .slice p n c), (2, .int .i64 (l0 + 1)), (4, .pointer (some ⟨b3, 0, none⟩)), (6, .pointer (some ⟨b4, 0, none⟩)), (7, .pointer (some ⟨b5, 0, none⟩)), (9, .pointer (some ⟨b17, 0, none⟩)), (11, .pointer (some ⟨b26, 0, none⟩))], [.blk b26 [.int .i64 k, .string nm, .int .i64 num, .int .i64 tk, .slice q1 tks.length c1, .int .i64 fk, .slice q2 fks.length c2, .int .i64 lb, .slice none 0 0], .blk b17 [.int .i64 t9.k, .slice p1 t9.ks.length d1], .blk b5 [.int .i64 0, .slice none 0 0], .blk b4 [.int .i64 0, .string ⟨⟨[]⟩⟩, .int .i64 0, .int .i64 0, .slice none 0 0, .int .i64 0, .slice none 0 0, .int .i64 0, .slice none 0 0], .blk b3 [.int .i64 k, .string nm, .int .i64 num, .int .i64 tk, .slice pt tks.length ct, .int .i64 fk, .slice pf fks.length cf, .int .i64 lb, .slice q ks.length cq]], G2⟩) (fun x => x = true ↔ k = 5) ?_ ?_)
 ·refine B9 ?_
  refine sB (qE rfl rfl) rfl rfl (fun h42 => ?_) (fun h42 => ?_)
  ·refine sD ?_
   refine A1r true (O5 (by repeat (first | exact I1.nil | refine I1.cons rfl ?_)) (by repeat (first | exact A8.refl | exact A8.nil | refine A8.cons (by repeat (first | exact Pk.here | apply Pk.there)) ?_ | apply A8.drop))) ⟨fun _ => (by omega), fun _ => rfl⟩
  ·refine sD ?_
   refine A1r false (O5 (by repeat (first | exact I1.nil | refine I1.cons rfl ?_)) (by repeat (first | exact A8.refl | exact A8.nil | refine A8.cons (by repeat (first | exact Pk.here | apply Pk.there)) ?_ | apply A8.drop))) ⟨fun h => (by cases h), fun _ => (by omega)⟩
 ·(rintro (x : Bool) hx5)
  (show K3 _ _ (.cond (.tmp 30) _ _) _ _; refine A3C (fun (x : Option Addr × Nat × Nat × IM) => ⟨[(0, .slice x.1 x.2.1 x.2.2.1), (2, .int .i64 (l0 + 1)), (4, .pointer (some ⟨b3, 0, none⟩)), (6, .pointer (some ⟨b4, 0, none⟩)), (7, .pointer (some ⟨b5, 0, none⟩)), (9, .pointer (some ⟨b17, 0, none⟩)), (11, .pointer (some ⟨b26, 0, none⟩))], [.blk b26 [.int .i64 k, .string nm, .int .i64 num, .int .i64 tk, .slice q1 tks.length c1, .int .i64 fk, .slice q2 fks.length c2, .int .i64 lb, .slice none 0 0], .blk b17 [.int .i64 t9.k, .slice p1 t9.ks.length d1], .blk b5 [.int .i64 0, .slice none 0 0], .blk b4 [.int .i64 0, .string ⟨⟨[]⟩⟩, .int .i64 0, .int .i64 0, .slice none 0 0, .int .i64 0, .slice none 0 0, .int .i64 0, .slice none 0 0], .blk b3 [.int .i64 k, .string nm, .int .i64 num, .int .i64 tk, .slice pt tks.length ct, .int .i64 fk, .slice pf fks.length cf, .int .i64 lb, .slice q ks.length cq]], x.2.2.2⟩) (fun x => C5 G2 x.2.2.2 ∧ R4 x.2.2.2 (O7 cx k nm (.mk tk tks)) x.1 x.2.1 x.2.2.1 ∧ (x.2.1 : Int) ≤ d + 1) (B04 rfl (fun hxt => ?_) (fun hxf => ?_)) ?_)
  ·refine A7 ?_
   (refine D4 rfl (B0z G2 cx p n c nm (.mk tk tks) _ hx (by omega) hty) rfl rfl (fun v G3 hle3 hh => ?_); obtain ⟨pm0, cm0, rfl, hxm⟩ := hh)
   refine A2 ?_
   refine A1r (pm0, n + 1, cm0, G3) (O5 (by repeat (first | exact I1.nil | refine I1.cons rfl ?_)) (by repeat (first | exact A8.refl | exact A8.nil | refine A8.cons (by repeat (first | exact Pk.here | apply Pk.there)) ?_ | apply A8.drop))) ?_
   (dsimp only; exact ⟨hle3, by rw [O7, if_pos (hx5.1 (by assumption))]; exact hxm, by omega⟩)
  ·refine tK ?_
   refine A1r (p, n, c, G2) (O5 (by repeat (first | exact I1.nil | refine I1.cons rfl ?_)) (by repeat (first | exact A8.refl | exact A8.nil | refine A8.cons (by repeat (first | exact Pk.here | apply Pk.there)) ?_ | apply A8.drop))) ?_
   (dsimp only; exact ⟨C5.refl _, by rw [O7, if_neg (fun h => by have := hx5.2 h; rw [this] at hxf; cases hxf)]; exact hx, by omega⟩)
  ·(rintro ⟨(px : Option Addr), nx, cxx, Gx⟩ ⟨hleX, hxX, hnX⟩; simp only [] at hleX hxX hnX ⊢; replace hty1 := hty1.mono hleX; replace hfr1 := hfr1.mono hleX; replace hsl := hsl.mono hleX; replace hkl := hkl.mono hleX; replace hmr := hmr.mono hleX; replace hr0 := hr0.mono hleX)
   refine A2 ?_
   (refine J9 (E2 rfl rfl rfl (by omega) (by unfold maxLen; omega) rfl) rfl ?_; rintro _ ⟨b66, rfl⟩)
   refine D9 ?_
   refine B7 ?_
   (refine R5 37 9 ?_; refine I3 (fun (x : Nat × (Option Addr × Nat × List Tm × List (List Value)) × (Option Addr × Nat × List Ty × List (List Value)) × Int × IM) => ⟨[(13, .int .i64 x.1), (12, .slice x.2.2.1.1 x.1 x.2.2.1.2.1), (0, .slice px nx cxx), (2, .int .i64 (x.2.2.2.1 + 1)), (4, .pointer (some ⟨b3, 0, none⟩)), (6, .pointer (some ⟨b4, 0, none⟩)), (7, .pointer (some ⟨b5, 0, none⟩)), (9, .pointer (some ⟨b17, 0, none⟩)), (11, .pointer (some ⟨b26, 0, none⟩))], [.blk b26 [.int .i64 k, .string nm, .int .i64 num, .int .i64 tk, .slice q1 tks.length c1, .int .i64 fk, .slice q2 fks.length c2, .int .i64 lb, .slice x.2.1.1 x.1 x.2.1.2.1], .slc x.2.1.1 x.2.1.2.1 37 9 x.1 x.2.1.2.2.2.flatten, .slc x.2.2.1.1 x.2.2.1.2.1 34 2 x.1 x.2.2.1.2.2.2.flatten, .blk b17 [.int .i64 t9.k, .slice p1 t9.ks.length d1], .blk b5 [.int .i64 0, .slice none 0 0], .blk b4 [.int .i64 0, .string ⟨⟨[]⟩⟩, .int .i64 0, .int .i64 0, .slice none 0 0, .int .i64 0, .slice none 0 0, .int .i64 0, .slice none 0 0], .blk b3 [.int .i64 k, .string nm, .int .i64 num, .int .i64 tk, .slice pt tks.length ct, .int .i64 fk, .slice pf fks.length cf, .int .i64 lb, .slice q ks.length cq]], x.2.2.2.2⟩) (fun x => x.1 ≤ ks.length ∧ C5 Gx x.2.2.2.2 ∧ x.2.1.2.2.1.length = x.1 ∧ D7 x.2.2.2.2 x.2.1.2.2.1 x.2.1.2.2.2 ∧ x.2.2.1.2.2.1.length = x.1 ∧ C7 x.2.2.2.2 x.2.2.1.2.2.1 x.2.2.1.2.2.2 ∧ M3 (O7 cx k nm (.mk tk tks)) (ks.take x.1) l0 = some (x.2.1.2.2.1, x.2.2.1.2.2.1, x.2.2.2.1) ∧ l0 ≤ x.2.2.2.1 ∧ x.2.2.2.1 + x.1 ≤ l0 + (F4 (ks.take x.1) : Int)) (fun x => ks.length - x.1) (0, (none, 0, [], []), (some ⟨b66, 0, none⟩, 0, [], []), l0, Gx) ?_ ?_ ?_)
   ·(simp only [List.take_zero, A0A]; exact (O5 (by repeat (first | exact I1.nil | refine I1.cons rfl ?_)) (by repeat (first | exact A8.refl | exact A8.nil | refine A8.cons (by repeat (first | exact Pk.here | apply Pk.there)) ?_ | apply A8.drop))))
   ·(exact ⟨by simp, C5.refl _, rfl, by simp [D7], rfl, by simp [C7], by simp [M3], Int.le_refl _, by simp [F4]⟩)
   ·(rintro ⟨i, ⟨pn, cn, us, es'⟩, ⟨pm, cm, ts, ess⟩, l, Gi⟩ ⟨hi, hle, hlu, hst, hlt, hstt, hml, hl1, hl2⟩; simp only [] at hi hle hlu hst hlt hstt hml hl1 hl2 ⊢; replace hty1 := hty1.mono hle; replace hfr1 := hfr1.mono hle; replace hsl := hsl.mono hle; replace hkl := hkl.mono hle; replace hmr := hmr.mono hle; replace hr0 := hr0.mono hle; replace hxX := hxX.mono hle)
    refine A9 ?_
    refine sB (I8 rfl rfl) rfl rfl (fun h88 => ?_) (fun h88 => ?_)
    ·refine A7 ?_
     refine B7 ?_
     refine A7 ?_
     (obtain ⟨b, o, e, rfl, hl, hate, hre, hgb⟩ := hsl.kidTm hkl (i := i) (by omega) (by omega); have hsc := A0y (ks := ks) (i := i) (by omega); have hsk := A0x (ks := ks) (i := i) (by omega); rcases hE : M6 (O7 cx k nm (Ty.mk tk tks)) ks[i] l with _ | ⟨u, t, l3⟩; (have hno := A56 (by omega) hml hE; rw [hEL] at hno; cases hno); have hlm := A6r.el_mono _ _ _ _ _ _ hE; have hlx := A95 ks[i] (d + 1) _ l u t l3 (hvk i (by omega)) hE; refine sP (B2 rfl rfl rfl (by omega)) rfl rfl ?_)
     refine sL (A0 rfl rfl (hate _) hl) rfl rfl ?_
     refine E0 ?_
     (refine D4 rfl (ih ks[i] (List.getElem_mem (by omega)) (d + 1) _ l u t l3 Gi px nx cxx _ hE (hvk i (by omega)) (by omega) hcvX hxX hre (by omega) (by omega)) rfl rfl (fun v G3 hle3 hh => ?_); obtain ⟨uc, tc, rfl, hru, hrt⟩ := hh; obtain ⟨v1, v2, v3, v4, v5, v6, v7, v8, v9, rfl⟩ := T6 hru.len; obtain ⟨p3, c3, e3, rfl, _⟩ := hrt.open; have hlu9 := hru.len; have hou9 := hru.one)
     refine B6 ?_
     refine sE (A6 rfl) rfl (fun b110 => ?_)
     refine sE (A6 rfl) rfl (fun b111 => ?_)
     refine sS rfl rfl rfl hlu9 hou9 rfl ?_ (hu := by exact D8 hlu9.symm)
     refine D9 ?_
     (refine J9 (E2 rfl rfl rfl (by omega) (by unfold maxLen; omega) rfl) rfl ?_; rintro _ ⟨b122, rfl⟩)
     refine X1 rfl rfl rfl rfl rfl (fun _ _ => by repeat (first | exact Sw.here | apply Sw.there)) (M4 (by repeat first | exact mH | apply mT)) rfl (fun u hu => List.all_eq_true.1 hou9 u hu) (by unfold maxLen; omega) (by omega) rfl (fun pn' cn' => ?_)
     refine D0 ?_
     (refine J9 (E2 rfl rfl rfl (by omega) (by unfold maxLen; omega) rfl) rfl ?_; rintro _ ⟨b132, rfl⟩)
     refine X1 rfl rfl rfl rfl rfl (fun _ _ => by repeat (first | exact Sw.here | apply Sw.there)) (M4 (by repeat first | exact mH | apply mT)) rfl (by simp [Value.oneCell']) (by unfold maxLen; omega) (by omega) rfl (fun pm' cm' => ?_)
     refine H0 ?_
     refine sP (E7 rfl rfl (by omega) (by omega)) rfl rfl ?_
     refine A2 ?_
     refine I7 (i + 1, (pn', cn', us ++ [u], es' ++ [[v1, v2, v3, v4, v5, v6, v7, v8, v9]]), (pm', cm', ts ++ [t], ess ++ [[.int .i64 t.k, .slice p3 t.ks.length c3]]), l3, G3) ?_ ?_ ?_
     ·(simp only [H9]; exact D3)
     ·(dsimp only; exact ⟨by omega, hle.trans hle3, by simp [hlu], D7.snoc (hst.mono hle3) hru, by simp [hlt], C7.snoc (hstt.mono hle3) hrt, A3L (by omega) hml hE, by omega, by omega⟩)
     ·(show ks.length - (i + 1) < ks.length - i; omega)
    ·refine J6 ?_
     (obtain rfl : i = ks.length := (by omega); rw [List.take_length] at hml hl2; rw [hEL] at hml; simp only [Option.some.injEq, Prod.mk.injEq] at hml; obtain ⟨rfl, rfl, rfl⟩ := hml; refine A14 (cs := ess.flatten) (by repeat (first | exact Pk.here | apply Pk.there)) (fun G4 hle4 hsl4 hno4 => ?_); have hstt4 := hstt.mono hle4; have hslT : C8 G4 pm ks.length cm 2 ess := C8.of hsl4 (by rw [hstt4.len, hlt]) hstt4.all (fun e he => (hstt4.each e he).2); have hW := B5E cx k nm num (.mk tk tks) (.mk fk fks) lb ks _ w _ G4 _ _ pm cm ess hmw hv2 (by rw [hlt]; exact har) (hr0.mono hle4) (by rw [hlt]; exact hslT) hstt4 (fun t ht => A1U (htv t ht)) (hmr.mono hle4); rw [hlt] at hW; refine D4 rfl hW rfl rfl (fun v G5 hle5 hh => ?_); obtain ⟨pw, cw, esw, rfl, hlw, hsw, hstw⟩ := hh; have hle45 := hle4.trans hle5; replace hty1 := hty1.mono hle45; replace hfr1 := hfr1.mono hle45; replace hmr := hmr.mono hle45; replace hst := hst.mono hle45; replace hslT := hslT.mono hle5; replace hstt := hstt.mono hle45; rcases Nat.eq_zero_or_pos ks.length with h0 | h0)
     ·refine D9 ?_
      refine B7 ?_
      (have h0' : ks.length = 0 := h0; refine I3 (fun (_ : Nat) => ⟨[(18, .int .i64 0), (17, .slice pw ks.length cw), (12, .slice pm ks.length cm), (2, .int .i64 (lA + 1)), (4, .pointer (some ⟨b3, 0, none⟩)), (6, .pointer (some ⟨b4, 0, none⟩)), (7, .pointer (some ⟨b5, 0, none⟩)), (9, .pointer (some ⟨b17, 0, none⟩)), (11, .pointer (some ⟨b26, 0, none⟩))], [.blk b26 [.int .i64 k, .string nm, .int .i64 num, .int .i64 tk, .slice q1 tks.length c1, .int .i64 fk, .slice q2 fks.length c2, .int .i64 lb, .slice pn ks.length cn], .slc pn cn 37 9 ks.length es'.flatten, .blk b17 [.int .i64 t9.k, .slice p1 t9.ks.length d1], .blk b5 [.int .i64 0, .slice none 0 0], .blk b4 [.int .i64 0, .string ⟨⟨[]⟩⟩, .int .i64 0, .int .i64 0, .slice none 0 0, .int .i64 0, .slice none 0 0, .int .i64 0, .slice none 0 0], .blk b3 [.int .i64 k, .string nm, .int .i64 num, .int .i64 tk, .slice pt tks.length ct, .int .i64 fk, .slice pf fks.length cf, .int .i64 lb, .slice q ks.length cq]], G5⟩) (fun _ => True) (fun i => i) 0 ?_ ?_ ?_)
      ·exact D3
      ·trivial
      ·(rintro (i0 : Nat) _)
       refine A7 ?_
       refine sP (S5 rfl rfl (by omega)) rfl rfl ?_
       refine J6 ?_
       refine sP (J1 rfl rfl (by omega)) rfl rfl ?_
       refine A7 ?_
       refine E1 E3 rfl ?_
       refine K9 (i := 0) (l' := [tt,ff,ff,ff,ff,ff]) rfl D5 (A4 rfl rfl) rfl (by kernel_rfl) rfl rfl ?_
       refine aL 1 rfl (A4 rfl rfl) rfl ?_
       refine aP 2 rfl (qM rfl) rfl ?_
       refine A3 3 ?_
       refine oS rfl rfl rfl rfl rfl rfl rfl rfl ?_
       refine A3 4 ?_
       refine oS rfl rfl rfl rfl rfl rfl rfl rfl ?_
       refine aP 5 rfl (qA rfl) rfl ?_
       refine A2 ?_
       (refine H8 (cs := es'.flatten) (by repeat (first | exact Pk.here | apply Pk.there)) (fun G8 hle8 hsl8 hno8 => ?_); have hst8 := hst.mono hle8)
       refine tT ?_
       refine D2 (rC rfl (A4 rfl rfl)) (rC rfl (A4 rfl rfl)) (rT rfl) ?_
       (have hu9 : usA = [] := List.length_eq_zero_iff.1 (by omega); have hne : k ≠ 13 := (fun h => by have := hk13 h; omega); have hz : I6 usA tsA w lA = (usA, lA) := (by rw [hu9]; simp [I6]); rw [if_neg hne, hz] at hu0; subst hu0; rw [hz]; exact ⟨rfl, _, _, rfl, B3.put hk hnum hlb (hty1.mono hle8) (hfr1.mono hle8) hlA1.symm (C8.of hsl8 (by rw [hst8.len, hlA1]) hst8.all (fun e he => (hst8.each e he).2)) hst8, hmr.mono hle8⟩)
     ·(refine A3E (cs := es'.flatten) (by repeat (first | exact Pk.here | apply Pk.there)) h0 (fun bc C hpe hnc hcm => ?_); subst hpe; refine sQ (qA rfl) rfl ?_)
      refine D0 ?_
      refine B7 ?_
      (have hLoop2 := hlw; refine I3 (fun (x : Nat × List (List Value) × IM) => ⟨[(18, .int .i64 x.1), (17, .slice pw ks.length cw), (12, .slice pm ks.length cm), (2, .int .i64 ((I6 usA tsA ((Q9 w tsA).take x.1) lA).2 + 1)), (4, .pointer (some ⟨b3, 0, none⟩)), (6, .pointer (some ⟨b4, 0, none⟩)), (7, .pointer (some ⟨b5, 0, none⟩)), (9, .pointer (some ⟨b17, 0, none⟩)), (11, .pointer (some ⟨b26, 0, none⟩))], [.blk b26 [.int .i64 k, .string nm, .int .i64 num, .int .i64 tk, .slice q1 tks.length c1, .int .i64 fk, .slice q2 fks.length c2, .int .i64 lb, .slice (some ⟨bc, 0, none⟩) ks.length cn], .blk bc (x.2.1.flatten ++ C), .blk b17 [.int .i64 t9.k, .slice p1 t9.ks.length d1], .blk b5 [.int .i64 0, .slice none 0 0], .blk b4 [.int .i64 0, .string ⟨⟨[]⟩⟩, .int .i64 0, .int .i64 0, .slice none 0 0, .int .i64 0, .slice none 0 0, .int .i64 0, .slice none 0 0], .blk b3 [.int .i64 k, .string nm, .int .i64 num, .int .i64 tk, .slice pt tks.length ct, .int .i64 fk, .slice pf fks.length cf, .int .i64 lb, .slice q ks.length cq]], x.2.2⟩) (fun x => x.1 ≤ ks.length ∧ C5 G5 x.2.2 ∧ D7 x.2.2 (I6 usA tsA ((Q9 w tsA).take x.1) lA).1 x.2.1) (fun x => ks.length - x.1) (0, es', G5) ?_ ?_ ?_)
      ·(simp only [List.take_zero, A0A]; exact (O5 (by repeat (first | exact I1.nil | refine I1.cons rfl ?_)) (by repeat (first | exact A8.refl | exact A8.nil | refine A8.cons (by repeat (first | exact Pk.here | apply Pk.there)) ?_ | apply A8.drop))))
      ·(exact ⟨Nat.zero_le _, C5.refl _, by simp only [List.take_zero, A0A]; exact hst⟩)
      ·(rintro ⟨j, es2, G6⟩ ⟨hj, hle6, hst2⟩; simp only [] at hj hle6 hst2 ⊢; replace hty1 := hty1.mono hle6; replace hfr1 := hfr1.mono hle6; replace hmr := hmr.mono hle6; replace hslT := hslT.mono hle6; replace hstt := hstt.mono hle6; replace hsw := hsw.mono hle6; replace hstw := hstw.mono hle6; have hle2s := hst2.len; rw [A1u] at hle2s; have hall2 := hst2.all)
       refine A7 ?_
       refine sB (I8 rfl rfl) rfl rfl (fun h242 => ?_) (fun h242 => ?_)
       ·refine A7 ?_
        refine B7 ?_
        (have hjw : j < (Q9 w tsA).length := (by omega); obtain ⟨bt, ot, qt, dt, hpt, hatt, hrtt, hgt⟩ := hslT.kidTy hstt (i := j) (by omega) (by omega); obtain ⟨bw, ow, qw, dw, hpw, hatw, hrtw, hgw⟩ := (show C8 G6 pw (Q9 w tsA).length cw 2 esw from by rw [hlw]; exact hsw).kidTy hstw (i := j) (by omega) (by omega); cases hpt; cases hpw; obtain ⟨m1, m2, _⟩ := A3M usA tsA (Q9 w tsA) lA j hjw (by omega) (by omega); obtain ⟨m3, m4⟩ := A9i (us := usA) (h := tsA) (w := Q9 w tsA) (l := lA) hjw (by omega) (by omega); obtain ⟨hE1, hE2⟩ := hst2.at2 (i := j) (by omega) (by omega); rw [m2] at hE2; have hE3 := hE2.len; have hcj := A07 usA tsA ((Q9 w tsA).take j) lA; refine E1 E3 rfl ?_)
        refine K2 (i := 0) (l' := [tt,ff,ff,ff,ff,ff,ff,ff,ff,ff,ff,ff,ff,ff,ff,ff,ff,ff,ff,ff,ff,ff,ff,ff]) rfl D5 (C0 rfl) rfl (by kernel_rfl) rfl rfl ?_
        refine aL 1 rfl (C9 rfl rfl) rfl ?_
        refine aP 2 rfl (qM rfl) rfl ?_
        refine aP 3 rfl (C0 rfl) rfl ?_
        refine aL 4 rfl (C9 rfl rfl) rfl ?_
        refine aP 5 rfl (qM rfl) rfl ?_
        refine aP 6 rfl (B2 (j := j) rfl rfl rfl (by omega)) rfl ?_
        refine aL 7 rfl (A0 rfl rfl (A4r (es := es2) (by repeat first | exact mH | apply mT) (by omega) hall2) hE3) rfl ?_
        refine aP 8 rfl (qM rfl) rfl ?_
        refine aP 9 rfl (qM rfl) rfl ?_
        refine aP 10 rfl (B2 (j := j) rfl rfl rfl (by omega)) rfl ?_
        refine aL 11 rfl (A0 rfl rfl (hatt _) rfl) rfl ?_
        refine aP 12 rfl (qM rfl) rfl ?_
        refine aP 13 rfl (qM rfl) rfl ?_
        refine aP 14 rfl (B2 (j := j) rfl rfl rfl (by omega)) rfl ?_
        refine aL 15 rfl (A0 rfl rfl (hatw _) rfl) rfl ?_
        refine aP 16 rfl (qM rfl) rfl ?_
        refine A3 17 ?_
        (have hwsm := (A1U (hWV _ (List.getElem_mem (show j < (Q9 w tsA).length by omega)))).small; refine H2 rfl rfl (B5A usA[j] tsA[j] (Q9 w tsA)[j] _ _ _ _ _ (by omega) hE2 hrtt hrtw (A1U (htv _ (List.getElem_mem (by omega)))).small hwsm) rfl rfl rfl (fun v G7 hle7 hh => ?_); obtain ⟨uc, rfl, hru⟩ := hh; rw [show (if M2 tsA[j] (Q9 w tsA)[j] = true then (I6 usA tsA ((Q9 w tsA).take j) lA).2 + 1 else (I6 usA tsA ((Q9 w tsA).take j) lA).2 + 1 + 1) = (I6 usA tsA ((Q9 w tsA).take (j + 1)) lA).2 + 1 from by rw [m4]; split <;> rfl]; have hlu9 := hru.len; have hou9 := hru.one)
        refine aP 18 rfl (qM rfl) rfl ?_
        refine aP 19 rfl (pX rfl rfl) rfl ?_
        refine aP 21 rfl (B2 (j := j) rfl rfl rfl (by omega)) rfl ?_
        refine aP 20 rfl (pX rfl rfl) rfl ?_
        refine A3 22 ?_
        refine X8 rfl rfl rfl rfl hlu9 hou9 rfl rfl (by kernel_rfl) (by repeat first | exact Sw.here | apply Sw.there) (by exact A3F (by omega) hall2 hlu9) ?_
        refine aP 23 rfl (qA rfl) rfl ?_
        refine B0 ?_
        refine sP (E7 rfl rfl (by omega) (by omega)) rfl rfl ?_
        refine A2 ?_
        refine I7 (j + 1, es2.set j uc, G7) ?_ ?_ ?_
        ·(simp only [List.take_zero, A0A]; exact (O5 (by repeat (first | exact I1.nil | refine I1.cons rfl ?_)) (by repeat (first | exact A8.refl | exact A8.nil | refine A8.cons (by repeat (first | exact Pk.here | apply Pk.there)) ?_ | apply A8.drop))))
        ·(dsimp only; exact ⟨by omega, hle6.trans hle7, by rw [m3]; exact D7.set (hst2.mono hle7) hru⟩)
        ·(show ks.length - (j + 1) < ks.length - j; omega)
       ·refine J6 ?_
        refine sB (qE rfl rfl) rfl rfl (fun h302 => ?_) (fun h302 => ?_)
        ·refine B6 ?_
         (have hq13 : k = 13 := (by omega); have hl13 := hk13 hq13; have hjw : j = (Q9 w tsA).length := (by omega); rw [hjw, List.take_length, A4T] at hst2; have hm0 := A1u usA tsA w lA; obtain ⟨hE1, hE2⟩ := hst2.at2 (i := 0) (by omega) (by omega); have hE3 := hE2.len; have hE4 := hE2.one; refine E1 E3 rfl ?_)
         refine K2 (i := 0) (l' := [tt,ff,ff,ff,ff,ff,ff,ff,ff]) rfl D5 (C0 rfl) rfl (by kernel_rfl) rfl rfl ?_
         refine aL 1 rfl (C9 rfl rfl) rfl ?_
         refine aP 2 rfl (B2 (j := 0) rfl rfl rfl (by omega)) rfl ?_
         refine aL 3 rfl (A0 rfl rfl (A4r (es := es2) (by repeat first | exact mH | apply mT) (by omega) hall2) hE3) rfl ?_
         refine aL 4 rfl (A4 rfl rfl) rfl ?_
         refine aP 5 rfl (qM rfl) rfl ?_
         refine A3 6 ?_
         refine oS rfl rfl rfl rfl hE3 hE4 rfl rfl ?_ (hu := by exact D8 hE3.symm)
         refine A3 7 ?_
         refine oS rfl rfl rfl rfl rfl rfl rfl rfl ?_
         refine aP 8 rfl (qA rfl) rfl ?_
         refine A2 ?_
         (refine A1g (bs := [(bc, es2.flatten ++ C)]) (Pk.perm (by repeat (first | exact Pk.here | apply Pk.there))) (fun hn9 hd9 hle9 => ?_))
         refine A2 ?_
         refine D2 (rC rfl (A0 rfl rfl (B1 (by repeat first | exact mH | apply mT)) hE3)) (rC rfl (A4 rfl rfl)) (rT rfl) ?_
         (rw [if_pos hq13, A9O (by omega)] at hu0; subst hu0; rw [hjw, List.take_length, A4T]; exact ⟨rfl, _, _, rfl, hE2.mono hle9, hmr.mono hle9⟩)
        ·refine A7 ?_
         refine E1 E3 rfl ?_
         refine K9 (i := 0) (l' := [tt,ff,ff,ff,ff,ff]) rfl D5 (A4 rfl rfl) rfl (by kernel_rfl) rfl rfl ?_
         refine aL 1 rfl (A4 rfl rfl) rfl ?_
         refine aP 2 rfl (qM rfl) rfl ?_
         refine A3 3 ?_
         refine oS rfl rfl rfl rfl rfl rfl rfl rfl ?_
         refine A3 4 ?_
         refine oS rfl rfl rfl rfl rfl rfl rfl rfl ?_
         refine aP 5 rfl (qA rfl) rfl ?_
         refine A2 ?_
         (refine A1g (bs := [(bc, es2.flatten ++ C)]) (Pk.perm (by repeat (first | exact Pk.here | apply Pk.there))) (fun hn9 hd9 hle9 => ?_))
         refine tT ?_
         refine D2 (rC rfl (A4 rfl rfl)) (rC rfl (A4 rfl rfl)) (rT rfl) ?_
         (have hjw : j = (Q9 w tsA).length := (by omega); rw [hjw, List.take_length, A4T] at hst2; have hst9 := hst2.mono hle9; have hm0 := A1u usA tsA w lA; rw [if_neg (by omega)] at hu0; subst hu0; rw [hjw, List.take_length, A4T]; exact ⟨rfl, _, _, rfl, B3.put hk hnum hlb (hty1.mono hle9) (hfr1.mono hle9) (by rw [hm0, hlA1]) (C8.of (Sl.of_blk (A := []) (by rw [Z4 hst9.all, hst9.len, hm0, hlA1]) (by omega) hcm (Wi.in hn9 List.mem_cons_self)) (by rw [hst9.len, hm0, hlA1]) hst9.all (fun e he => (hst9.each e he).2)) hst9, hmr.mono hle9⟩)
theorem B5I (e : Tm) (G : IM) (cells : List Value) (hcnt : D6 e ≤ 4294967296) (hr : B3 G e cells) : Fn Tryz.prog 55 [.agg ⟨cells⟩] [] G (A0X (V2 e)) := by
 have hl := hr.len
 have hone := hr.one
 refine B8 Tryz.func55 rfl Tryz.ntmps55 Tryz.results55 rfl ?_
 intro w0
 refine A2 ?_
 refine sE (C6 rfl rfl) rfl (fun b3 => ?_)
 refine sE (A6 rfl) rfl (fun b4 => ?_)
 refine sE (A6 rfl) rfl (fun b5 => ?_)
 refine B0 ?_
 refine sL (A0 rfl rfl (B1 (by repeat first | exact mH | apply mT)) (by assumption)) rfl rfl ?_
 focus (refine D4 rfl (B0E e _ _ (by omega) hr) rfl rfl (fun v G1 hle1 hh => ?_); obtain ⟨mc, mt, rfl, hmr, hmu⟩ := hh; obtain ⟨pt, ct, et, rfl, _⟩ := hmr.open; obtain ⟨r, hI⟩ : ∃ r, V2 e = r := ⟨_, rfl⟩; rcases r with _ | ⟨u, t⟩; (have hto : P8 e = none := by unfold P8; rw [hI]); rotate_left; (have hto : P8 e = some t := by unfold P8; rw [hI]); obtain ⟨hv, l3, hE⟩ := B5v hI; obtain ⟨hv1, hv2⟩ := (A1q e).1 hv; rotate_left; all_goals rw [hto]; all_goals simp only [Option.isSome])
 refine B9 ?_
 refine sE (A6 rfl) rfl (fun b16 => ?_)
 refine A0O ?_
 refine D2 (rC rfl (A4 rfl rfl)) (rC rfl (A4 rfl rfl)) (rT rfl) ?_
 (exact A0X.no (by first | exact hI | rfl) (O0 _) (Q3 _ ⟨by omega, by omega⟩))
 refine B9 ?_
 refine sE (A6 rfl) rfl (fun b45 => ?_)
 refine J3 ?_
 refine sL (A0 rfl rfl (B1 (by repeat first | exact mH | apply mT)) (by assumption)) rfl rfl ?_
 (have hIn := B5H e 1 [] 0 u t l3 G1 none 0 0 cells hE hv1 (by omega) A23 (R4.nil _) (hr.mono hle1) (by omega) (by omega); refine D4 rfl hIn rfl rfl (fun v G2 hle2 hh => ?_); obtain ⟨cu, tc, rfl, hru, hrt⟩ := hh; obtain ⟨qt, dt, et2, rfl, _⟩ := hrt.open; have hlu := hru.len; have hou := hru.one)
 refine B6 ?_
 refine sE (A6 rfl) rfl (fun b68 => ?_)
 refine sE (A6 rfl) rfl (fun b69 => ?_)
 refine S9 rfl rfl rfl hlu hou rfl (by repeat first | exact Sw.here | apply Sw.there) (by exact D8 (by first | exact hlu.symm | omega)) ?_
 refine B0 ?_
 refine E1 E3 rfl ?_
 refine K9 (i := 0) (l' := [tt,ff,ff,ff,ff]) rfl D5 (A0 rfl rfl (B1 (by repeat first | exact mH | apply mT)) hlu) rfl (by kernel_rfl) rfl rfl ?_
 refine aL 1 rfl (A4 rfl rfl) rfl ?_
 refine A3 2 ?_
 refine oS rfl rfl rfl rfl hlu hou rfl rfl ?_ (hu := by exact D8 hlu.symm)
 refine A3 3 ?_
 refine oS rfl rfl rfl rfl rfl rfl rfl rfl ?_
 refine aP 4 rfl (qA rfl) rfl ?_
 refine B9 ?_
 refine D2 (rC rfl (A0 rfl rfl (B1 (by repeat first | exact mH | apply mT)) hlu)) (rC rfl (A4 rfl rfl)) (rT rfl) ?_
 (exact A0X.yes (by first | exact hI | rfl) hru hrt)
theorem B5J {e : Tm} (h : (P8 e).isSome = true) : Q1 e = true := by
 unfold P8 V2 at h
 split at h
 ·rename_i u t hx
  split at hx
  ·assumption
  ·cases hx
 ·cases h
mutual
theorem B0I : ∀ (t : Tm) (d : Int), N2 12 14 t d = true → t.small
 | .mk k nm num ty fr lb ks, d, h => by
  obtain ⟨_, h2, h3, h4⟩ := A0U h
  obtain ⟨n1, n2, n3, n4, n5, n6, n7, n8, n9⟩ := U0.1 h3
  rw [Tm.small]
  refine ⟨by have := A8O h3; omega, (A2Y h3).1.small, by rw [A2V (n9 h2).1]; exact A2m, ?_, B0J ks _ h4⟩
  have := A1N k; omega
theorem B0J : ∀ (ts : List Tm) (d : Int), N3 12 14 ts d = true → Tm.smallL ts
 | [], _, _ => by rw [Tm.smallL]; trivial
 | t :: ts, d, h => by
  rw [N3, Bool.and_eq_true] at h
  rw [Tm.smallL]
  exact ⟨B0I t d h.1, B0J ts d h.2⟩
end
theorem B5K {e : Tm} (h : Q1 e = true) : e.fit 30 := by
 obtain ⟨h1, h2⟩ := (A1q e).1 h
 exact ⟨B0I e 1 h1, h2⟩
mutual
theorem B0K : ∀ (t : Tm) (d : Int), N2 12 14 t d = true → ∀ u ∈ I5 t, H5 u = true
 | .mk k nm num ty fr lb ks, d, h => by
  obtain ⟨_, h2, h3, h4⟩ := A0U h
  obtain ⟨n1, n2, n3, n4, n5, n6, n7, n8, n9⟩ := U0.1 h3
  intro u hu
  rw [I5, List.mem_append] at hu
  rcases hu with hu | hu
  ·split at hu
   ·rename_i hk
    obtain rfl := List.mem_singleton.1 hu
    exact n6 (by omega)
   ·simp at hu
  ·exact B0L ks _ h4 u hu
theorem B0L : ∀ (ts : List Tm) (d : Int), N3 12 14 ts d = true → ∀ u ∈ H7 ts, H5 u = true
 | [], _, _ => by simp [H7]
 | t :: ts, d, h => by
  rw [N3, Bool.and_eq_true] at h
  intro u hu
  rw [H7, List.mem_append] at hu
  rcases hu with hu | hu
  ·exact B0K t d h.1 u hu
  ·exact B0L ts d h.2 u hu
end
mutual
theorem B0M : ∀ (t : Tm) (l : List Ty), t.small → (∀ u ∈ l, u.small) → (W3 t l).small ∧ D6 (W3 t l) = D6 t
 | .mk k nm num ty fr lb ks, l, h, hl => by
  obtain ⟨h1, h2, h3, h4, h5⟩ := A0h.1 h
  rw [W3]
  have hd : ∀ u ∈ (if k = 5 ∨ k = 13 then l.drop 1 else l), u.small := by
   intro u hu
   split at hu
   ·exact hl u (List.mem_of_mem_drop hu)
   ·exact hl u hu
  obtain ⟨g1, g2⟩ := B0N ks _ h5 hd
  refine ⟨A0h.2 ⟨h1, ?_, h3, by rw [A2n]; exact h4, g1⟩, by rw [Y8, Y8, g2]⟩
  split
  ·rw [List.getD_eq_getElem?_getD]
   cases hx : l[0]? with
   | none => exact A2m
   | some t => exact hl t (List.mem_of_getElem? hx)
  ·exact h2
theorem B0N : ∀ (ts : List Tm) (l : List Ty), Tm.smallL ts → (∀ u ∈ l, u.small) → Tm.smallL (Q8 ts l) ∧ F4 (Q8 ts l) = F4 ts
 | [], l, _, _ => by simp [Q8, Tm.smallL, F4]
 | t :: ts, l, h, hl => by
  simp only [Tm.smallL] at h
  obtain ⟨a1, a2⟩ := B0M t l h.1 hl
  obtain ⟨b1, b2⟩ := B0N ts (l.drop (I5 t).length) h.2 (fun u hu => hl u (List.mem_of_mem_drop hu))
  simp only [Q8, Tm.smallL, F4, a2, b2]
  exact ⟨⟨a1, b1⟩, trivial⟩
end
end Gw
end Go.Proofs.YtebfignffjhnhaaGreatDoor
