/-
  Terms with casts: what a type says of a node.
-/
import Derived.Test.YtgodjiieijekiaaGreatDoorKc4
import Derived.Test.YtgodjiieijekiaaGreatDoorKc1
import Derived.Test.YtgodjiieijekiaaGreatDoorKc2
import Derived.Test.YtgodjiieijekiaaGreatDoorKc3
import Derived.Lib.ItoaNum
set_option linter.unusedVariables false
set_option linter.unusedSimpArgs false
set_option maxHeartbeats 0
set_option maxRecDepth 100000
set_option synthInstance.maxSize 4000
set_option synthInstance.maxHeartbeats 0
namespace Go.Proofs.YtgodjiieijekiaaGreatDoor
open Go Go.RowKit
namespace Gw
theorem B4D {cx : Cx} {k : Int} {nm : ByteArray} {num : Int} {ty fr : Ty} {lb : Int} {ks : List Tm} {T : Ty} {us w : List Ty} (hu : Z6 (O8 cx k nm ty) ks = some us) (hk : k ≠ 14) (hv : E4 T = true) (hw : M8 cx k nm ty us = some (w, T)) (hs : A36 w us = true) : A0W cx (.mk k nm num ty fr lb ks) = some T := by
 rw [A0W, hu]
 simp only [if_neg hk]
 unfold A0c
 rw [hw]
 simp only [hv, if_true, hs]
theorem B4E {cx : Cx} {a : Tm} {us : List Ty} (h : Z6 cx [a] = some us) : ∃ x, A0W cx a = some x ∧ us = [x] := by
 rw [Z6] at h
 split at h
 ·cases h
 ·rename_i x hx
  rw [Z6] at h
  simp only [Option.some.injEq] at h
  exact ⟨x, hx, h.symm⟩
theorem B4F {cx : Cx} {a : Tm} {x : Ty} (h : A0W cx a = some x) : Z6 cx [a] = some [x] := by rw [Z6, h]; rfl
mutual
theorem A2M : ∀ a : Ty, J6 a a = true
 | .mk k ks => by rw [T0, A9B ks]; simp
theorem A9B : ∀ xs : List Ty, M6 xs xs = true
 | [] => rfl
 | a :: xs => by rw [M6, A2M a, A9B xs]; rfl
end
mutual
theorem A6Z : ∀ a : Ty, V2 a a = a
 | .mk k ks => by
  rw [A1d, A9C ks]
  by_cases h : k = 1
  ·rw [if_pos h]
  ·rw [if_neg h, if_neg h]
theorem A9C : ∀ xs : List Ty, T4 xs xs = xs
 | [] => rfl
 | a :: xs => by rw [T4, A6Z a, A9C xs]
end
theorem A5e {k : Int} {ks : List Ty} (hk : k = 4 ∨ k = 5) (h : E4 (.mk k ks) = true) : ∃ a b, ks = [a, b] ∧ E4 a = true ∧ E4 b = true := by
 unfold E4 at h ⊢
 rw [A2e, Bool.and_eq_true, Bool.and_eq_true, decide_eq_true_eq, decide_eq_true_eq] at h
 have h2 : ks.length = 2 := by
  have : V9 k = 2 := by rcases hk with rfl | rfl <;> rfl
  omega
 match ks, h2, h.2 with
 | [x, y], _, hL =>
  simp only [U2, Bool.and_eq_true] at hL
  exact ⟨x, y, rfl, A4a _ 2 1 (by omega) hL.1, A4a _ 2 1 (by omega) hL.2.1⟩
theorem B4G {k : Int} {ks : List Ty} (h : E4 (.mk k ks) = true) (hk : k ≠ 4) (hk5 : k ≠ 5) : (k = 1 ∨ k = 2 ∨ k = 3) ∧ ks = [] := by
 unfold E4 at h
 rw [A2e, Bool.and_eq_true, Bool.and_eq_true, decide_eq_true_eq, decide_eq_true_eq] at h
 obtain ⟨h1, h2, h3⟩ := N2 k
 have hl := h.1.2
 have hk3 : k = 1 ∨ k = 2 ∨ k = 3 := by
  apply Classical.byContradiction
  intro hc
  rw [h3 (by omega) (by omega) (by omega) hk hk5] at hl; omega
 rw [h1 hk3] at hl
 exact ⟨hk3, List.length_eq_zero_iff.1 (by omega)⟩
section inv
variable {cx : Cx} {nm : ByteArray} {num : Int} {ty fr : Ty} {lb : Int} {a b c : Tm} {T : Ty}
theorem A9D : ∀ xs : List Ty, A36 xs xs = true
 | [] => rfl
 | a :: xs => by rw [A36, A6R, A9D xs]; rfl
theorem B4H (h : A0W cx a = some fr) : A0W cx (.mk 14 nm num ty fr lb [a]) = some ty := by
 rw [A0W, show O8 cx 14 nm ty = cx from rfl, B4F h]
 simp only [if_true, List.getD_cons_zero, A6R]
end inv
theorem A9E (cx : Cx) (x nm : ByteArray) (t : Ty) : W5 (cx ++ [(x, t)]) nm = if x = nm then some t else W5 cx nm := by
 unfold W5
 rw [List.length_append, show ([(x, t)] : Cx).length = 1 from rfl]
 have hl : (cx ++ [(x, t)])[cx.length]? = some (x, t) := by rw [List.getElem?_append_right (Nat.le_refl _)]; simp
 by_cases h : x = nm
 ·rw [A6S hl h, if_pos h]
 ·rw [A6T hl h, if_neg h]
  have : ∀ n, n ≤ cx.length → X9 (cx ++ [(x, t)]) nm n = X9 cx nm n := by
   intro n
   induction n with
   | zero => intro _; rfl
   | succ n ih =>
    intro hn
    rw [X9, X9, List.getElem?_append_left (by omega), ih (by omega)]
  exact this _ (Nat.le_refl _)
theorem A5f {cx : Cx} : ∀ {ks : List Tm} {i : Nat} (hi : i < ks.length) {l l' l2 : Int} {us : List Tm} {h : List Ty} {u : Tm} {a : Ty}, L6 cx (ks.take i) l = some (us, h, l') → L9 cx ks[i] l' = some (u, a, l2) → L6 cx (ks.take (i + 1)) l = some (us ++ [u], h ++ [a], l2)
 | [], i, hi, _, _, _, _, _, _, _, _, _ => by simp at hi
 | t :: ts, 0, _, l, l', l2, us, h, u, a, h1, h2 => by
  simp only [List.take_zero, L6, Option.some.injEq, Prod.mk.injEq] at h1
  obtain ⟨rfl, rfl, rfl⟩ := h1
  simp only [List.getElem_cons_zero] at h2
  simp [L6, h2]
 | t :: ts, i + 1, hi, l, l', l2, us, h, u, a, h1, h2 => by
  simp only [List.take_succ_cons, L6] at h1 ⊢
  split at h1
  ·cases h1
  ·rename_i u1 a1 l1 he
   split at h1
   ·cases h1
   ·rename_i us1 h1' l1' hL
    simp only [Option.some.injEq, Prod.mk.injEq] at h1
    obtain ⟨rfl, rfl, rfl⟩ := h1
    simp only [List.getElem_cons_succ] at h2
    have := A5f (ks := ts) (i := i) (by simpa using hi) hL h2
    simp only [this, List.cons_append]
theorem A9F {cx : Cx} : ∀ {ks : List Tm} {i : Nat} (hi : i < ks.length) {l l' : Int} {us : List Tm} {h : List Ty}, L6 cx (ks.take i) l = some (us, h, l') → L9 cx ks[i] l' = none → L6 cx ks l = none
 | [], i, hi, _, _, _, _, _, _ => by simp at hi
 | t :: ts, 0, _, l, l', us, h, h1, h2 => by
  simp only [List.take_zero, L6, Option.some.injEq, Prod.mk.injEq] at h1
  obtain ⟨rfl, rfl, rfl⟩ := h1
  simp only [List.getElem_cons_zero] at h2
  simp [L6, h2]
 | t :: ts, i + 1, hi, l, l', us, h, h1, h2 => by
  simp only [List.take_succ_cons, L6] at h1 ⊢
  split at h1
  ·cases h1
  ·rename_i u1 a1 l1 he
   split at h1
   ·cases h1
   ·rename_i us1 h1' l1' hL
    simp only [Option.some.injEq, Prod.mk.injEq] at h1
    obtain ⟨rfl, rfl, rfl⟩ := h1
    simp only [List.getElem_cons_succ] at h2
    have := A9F (ks := ts) (i := i) (by simpa using hi) hL h2
    simp only [this]
theorem Z0 (us : List Tm) (h : List Ty) (l : Int) : D9 us h [] l = (us, l) := by
 cases us with
 | nil => rfl
 | cons u us => cases h <;> rfl
theorem A5g : ∀ (us : List Tm) (h w : List Ty) (l : Int) (j : Nat) (hj : j < w.length) (hu : w.length ≤ us.length) (hh : w.length ≤ h.length),
  (D9 us h (w.take j) l).1.length = us.length ∧ (∀ (hq : j < (D9 us h (w.take j) l).1.length), (D9 us h (w.take j) l).1[j] = us[j]'(by omega)) ∧
  D9 us h (w.take (j + 1)) l = if Q2 (h[j]'(by omega)) w[j] = true then D9 us h (w.take j) l else ((D9 us h (w.take j) l).1.set j (R4 (us[j]'(by omega)) (h[j]'(by omega)) w[j] ((D9 us h (w.take j) l).2 + 1)), (D9 us h (w.take j) l).2 + 1)
 | us, h, [], l, j, hj, _, _ => by simp at hj
 | [], h, b :: w, l, j, _, hu, _ => by simp at hu
 | u :: us, [], b :: w, l, j, _, _, hh => by simp at hh
 | u :: us, a :: h, b :: w, l, 0, _, _, _ => by
  refine ⟨by simp [D9], by simp [D9], ?_⟩
  simp only [List.take_succ_cons, List.take_zero, D9, Z0, List.getElem_cons_zero, List.set_cons_zero]
 | u :: us, a :: h, b :: w, l, j + 1, hj, hu, hh => by
  simp only [List.take_succ_cons, List.getElem_cons_succ]
  by_cases hs : Q2 a b = true
  ·have ih := A5g us h w l j (by simpa using hj) (by simpa using hu) (by simpa using hh)
   simp only [D9, if_pos hs]
   obtain ⟨i1, i2, i3⟩ := ih
   refine ⟨by simp [i1], fun hq => by simp [i2], ?_⟩
   rw [i3]
   split <;> simp
  ·have ih := A5g us h w (l + 1) j (by simpa using hj) (by simpa using hu) (by simpa using hh)
   simp only [D9, if_neg hs]
   obtain ⟨i1, i2, i3⟩ := ih
   refine ⟨by simp [i1], fun hq => by simp [i2], ?_⟩
   rw [i3]
   split <;> simp
theorem A3j : ∀ (us : List Tm) (h w : List Ty) (l : Int), (D9 us h w l).1.length = us.length
 | [], h, w, l => by simp [D9]
 | u :: us, [], w, l => by simp [D9]
 | u :: us, a :: h, [], l => by simp [D9]
 | u :: us, a :: h, b :: w, l => by
  simp only [D9]
  split
  ·simp [A3j us h w l]
  ·simp [A3j us h w (l + 1)]
theorem B4I {us : List Tm} {h w : List Ty} {l : Int} {j : Nat} (hj : j < w.length) (hu : w.length ≤ us.length) (hh : w.length ≤ h.length) :
  (D9 us h (w.take (j + 1)) l).1 = (D9 us h (w.take j) l).1.set j (if Q2 (h[j]'(by omega)) w[j] = true then us[j]'(by omega) else R4 (us[j]'(by omega)) (h[j]'(by omega)) w[j] ((D9 us h (w.take j) l).2 + 1)) ∧
  (D9 us h (w.take (j + 1)) l).2 = (if Q2 (h[j]'(by omega)) w[j] = true then (D9 us h (w.take j) l).2 else (D9 us h (w.take j) l).2 + 1) := by
 obtain ⟨h1, h2, h3⟩ := A5g us h w l j hj hu hh
 by_cases hs : Q2 (h[j]'(by omega)) w[j] = true
 ·rw [h3, if_pos hs, if_pos hs, if_pos hs]
  refine ⟨?_, rfl⟩
  rw [← h2 (by omega), List.set_getElem_self]
 ·rw [h3, if_neg hs, if_neg hs, if_neg hs]
  exact ⟨rfl, rfl⟩
theorem A2f : ∀ (us : List Tm) (h w : List Ty) (l : Int), l ≤ (D9 us h w l).2 ∧ (D9 us h w l).2 ≤ l + us.length
 | [], h, w, l => by simp [D9]
 | u :: us, [], w, l => by simp [D9]; omega
 | u :: us, a :: h, [], l => by simp [D9]; omega
 | u :: us, a :: h, b :: w, l => by
  simp only [D9]
  split
  ·have := A2f us h w l; simp only [List.length_cons]; omega
  ·have := A2f us h w (l + 1); simp only [List.length_cons]; omega
mutual
def A1Z : Ty → Ty → Bool
 | .mk k ks, t => decide (t.k = 1) || (decide (k = t.k) && A0G ks t.ks)
def A0G : List Ty → List Ty → Bool
 | [], [] => true
 | a :: xs, b :: ys => A1Z a b && A0G xs ys
 | _, _ => false
end
theorem A1t (k k' : Int) (ks ks' : List Ty) : A1Z (.mk k ks) (.mk k' ks') = (decide (k' = 1) || (decide (k = k') && A0G ks ks')) := by rw [A1Z]; rfl
mutual
def A2N : Tm → Tm → Bool
 | .mk k nm num ty _ _ ks, u => decide (k = u.k ∧ nm = u.nm ∧ num = u.num) && (decide (k ≠ 5 ∧ k ≠ 13) || A1Z ty u.ty) && A2g ks u.ks
def A2g : List Tm → List Tm → Bool
 | [], [] => true
 | a :: xs, b :: ys => A2N a b && A2g xs ys
 | _, _ => false
end
theorem A9G {k k' : Int} {nm nm' : ByteArray} {num num' : Int} {ty ty' fr fr' : Ty} {lb lb' : Int} {ks ks' : List Tm} :
  A2N (.mk k nm num ty fr lb ks) (.mk k' nm' num' ty' fr' lb' ks') = true ↔ k = k' ∧ nm = nm' ∧ num = num' ∧ (k = 5 ∨ k = 13 → A1Z ty ty' = true) ∧ A2g ks ks' = true := by
 rw [A2N]
 show (decide (k = k' ∧ nm = nm' ∧ num = num') && (decide (k ≠ 5 ∧ k ≠ 13) || A1Z ty ty') && A2g ks ks') = true ↔ _
 simp only [Bool.and_eq_true, Bool.or_eq_true, decide_eq_true_eq]
 constructor
 ·rintro ⟨⟨⟨a, b, c⟩, e⟩, d⟩
  exact ⟨a, b, c, fun h => e.resolve_left (by omega), d⟩
 ·rintro ⟨a, b, c, e, d⟩
  refine ⟨⟨⟨a, b, c⟩, ?_⟩, d⟩
  by_cases h : k = 5 ∨ k = 13
  ·exact .inr (e h)
  ·exact .inl (by omega)
def A5h (a b : Tm) : Bool := O6 a && (O6 b && A2N a b)
theorem A2h : ∀ (t : Ty), E4 t = true → ∃ a : GT, t = a.ty
 | .mk k ks, h => by
  by_cases h4 : k = 4
  ·obtain ⟨x, y, hxy, hx, hy⟩ := A5e (.inl h4) h
   have : SizeOf.sizeOf x < SizeOf.sizeOf ks ∧ SizeOf.sizeOf y < SizeOf.sizeOf ks := by subst hxy; simp; omega
   obtain ⟨a, ha⟩ := A2h x hx
   obtain ⟨b, hb⟩ := A2h y hy
   exact ⟨.fn a b, by rw [h4, hxy, ha, hb]; rfl⟩
  ·by_cases h5 : k = 5
   ·obtain ⟨x, y, hxy, hx, hy⟩ := A5e (.inr h5) h
    have : SizeOf.sizeOf x < SizeOf.sizeOf ks ∧ SizeOf.sizeOf y < SizeOf.sizeOf ks := by subst hxy; simp; omega
    obtain ⟨a, ha⟩ := A2h x hx
    obtain ⟨b, hb⟩ := A2h y hy
    exact ⟨.pr a b, by rw [h5, hxy, ha, hb]; rfl⟩
   ·obtain ⟨h1, rfl⟩ := B4G h h4 h5
    rcases h1 with rfl | rfl | rfl
    ·exact ⟨.any, rfl⟩
    ·exact ⟨.int, rfl⟩
    ·exact ⟨.bool, rfl⟩
 termination_by t => SizeOf.sizeOf t
 decreasing_by all_goals (simp only [Ty.mk.sizeOf_spec]; omega)
theorem A9H : ∀ (a b : GT), A1Z a.ty b.ty = true ↔ Le a b := by
 intro a
 induction a with
 | any => intro b; cases b <;> simp [GT.ty, A1t, A0G] <;> first | exact .any | (intro h; cases h)
 | int => intro b; cases b <;> simp [GT.ty, A1t, A0G] <;> first | exact .any | exact .int | (intro h; cases h)
 | bool => intro b; cases b <;> simp [GT.ty, A1t, A0G] <;> first | exact .any | exact .bool | (intro h; cases h)
 | fn x y i j =>
  intro b
  cases b with
  | fn z w => simp only [GT.ty, A1t, A0G, i, j, Bool.or_eq_true, Bool.and_eq_true, decide_eq_true_eq, Bool.and_true, true_and]; exact ⟨fun h => by rcases h with h | h; exact absurd h (by decide); exact .fn h.1 h.2, fun h => by cases h with | fn a b => exact .inr ⟨a, b⟩⟩
  | any => simp [GT.ty, A1t, A0G]; exact .any
  | _ => simp [GT.ty, A1t, A0G]; intro h; cases h
 | pr x y i j =>
  intro b
  cases b with
  | pr z w => simp only [GT.ty, A1t, A0G, i, j, Bool.or_eq_true, Bool.and_eq_true, decide_eq_true_eq, Bool.and_true, true_and]; exact ⟨fun h => by rcases h with h | h; exact absurd h (by decide); exact .pr h.1 h.2, fun h => by cases h with | pr a b => exact .inr ⟨a, b⟩⟩
  | any => simp [GT.ty, A1t, A0G]; exact .any
  | _ => simp [GT.ty, A1t, A0G]; intro h; cases h
theorem A0Z : ∀ (a b : GT), J6 a.ty b.ty = true ↔ Co a b := by
 intro a
 induction a with
 | any => intro b; cases b <;> simp [GT.ty, T0, M6] <;> exact .l
 | int => intro b; cases b <;> simp [GT.ty, T0, M6] <;> first | exact .r | exact .int | (intro h; cases h)
 | bool => intro b; cases b <;> simp [GT.ty, T0, M6] <;> first | exact .r | exact .bool | (intro h; cases h)
 | fn x y i j =>
  intro b
  cases b with
  | fn z w => simp only [GT.ty, T0, M6, i, j, Bool.or_eq_true, Bool.and_eq_true, decide_eq_true_eq, Bool.and_true, true_and]; exact ⟨fun h => by rcases h with h | h; exact absurd h (by decide); exact .fn h.1 h.2, fun h => by cases h with | fn a b => exact .inr ⟨a, b⟩⟩
  | any => simp [GT.ty, T0, M6]; exact .r
  | _ => simp [GT.ty, T0, M6]; intro h; cases h
 | pr x y i j =>
  intro b
  cases b with
  | pr z w => simp only [GT.ty, T0, M6, i, j, Bool.or_eq_true, Bool.and_eq_true, decide_eq_true_eq, Bool.and_true, true_and]; exact ⟨fun h => by rcases h with h | h; exact absurd h (by decide); exact .pr h.1 h.2, fun h => by cases h with | pr a b => exact .inr ⟨a, b⟩⟩
  | any => simp [GT.ty, T0, M6]; exact .r
  | _ => simp [GT.ty, T0, M6]; intro h; cases h
def R9 : GT → GT → GT
 | .any, b => b
 | .fn a b, .fn c d => .fn (R9 a c) (R9 b d)
 | .pr a b, .pr c d => .pr (R9 a c) (R9 b d)
 | a, _ => a
theorem A3k (a : GT) : R9 a .any = a := by cases a <;> rfl
theorem A9I {a b : GT} (h : Co a b) : V2 a.ty b.ty = (R9 a b).ty := by
 induction h with
 | l => simp [GT.ty, V2, R9]
 | @r a => rw [A3k]; cases a <;> simp [GT.ty, A1d]
 | int => simp [GT.ty, A1d, T4, R9]
 | bool => simp [GT.ty, A1d, T4, R9]
 | fn _ _ i j => simp [GT.ty, A1d, T4, R9, i, j]
 | pr _ _ i j => simp [GT.ty, A1d, T4, R9, i, j]
theorem A5i {a b : GT} (h : Co a b) : Le (R9 a b) a := by
 induction h with
 | l => exact .any
 | r => rw [A3k]; exact Le.refl
 | int => exact .int
 | bool => exact .bool
 | fn _ _ i j => exact .fn i j
 | pr _ _ i j => exact .pr i j
theorem A5j {a b : GT} (h : Co a b) : Le (R9 a b) b := by
 induction h with
 | l => exact Le.refl
 | r => exact .any
 | int => exact .int
 | bool => exact .bool
 | fn _ _ i j => exact .fn i j
 | pr _ _ i j => exact .pr i j
theorem B4J {a b : GT} (h : Co a b) : ∀ {a' b' : GT}, Le a a' → Le b b' → Le (R9 a b) (R9 a' b') := by
 induction h with
 | l => intro a' b' h1 h2; cases h1; exact h2
 | r => intro a' b' h1 h2; cases h2; rw [A3k, A3k]; exact h1
 | int => intro a' b' h1 h2; cases h1 <;> cases h2 <;> first | exact .int | exact .any
 | bool => intro a' b' h1 h2; cases h1 <;> cases h2 <;> first | exact .bool | exact .any
 | fn c d i j =>
  intro a' b' h1 h2
  cases h1 with
  | any => exact (A5j (.fn c d)).trans h2
  | fn p q => cases h2 with
   | any => rw [A3k]; exact (A5i (.fn c d)).trans (.fn p q)
   | fn r s => exact .fn (i p r) (j q s)
 | pr c d i j =>
  intro a' b' h1 h2
  cases h1 with
  | any => exact (A5j (.pr c d)).trans h2
  | pr p q => cases h2 with
   | any => rw [A3k]; exact (A5i (.pr c d)).trans (.pr p q)
   | pr r s => exact .pr (i p r) (j q s)
theorem B4K {a b : GT} (h : Le a b) : ∀ (d : Int), K3 a.ty d = true → K3 b.ty d = true := by
 induction h with
 | @any a => intro d h; cases a <;> (simp only [GT.ty, A2e, Bool.and_eq_true, decide_eq_true_eq] at h ⊢; exact ⟨⟨h.1.1, rfl⟩, by rw [U2]⟩)
 | int => exact fun _ h => h
 | bool => exact fun _ h => h
 | fn _ _ i j =>
  intro d h
  simp only [GT.ty, A2e, U2, Bool.and_eq_true, decide_eq_true_eq] at h ⊢
  exact ⟨⟨h.1.1, rfl⟩, i _ h.2.1, j _ h.2.2.1, trivial⟩
 | pr _ _ i j =>
  intro d h
  simp only [GT.ty, A2e, U2, Bool.and_eq_true, decide_eq_true_eq] at h ⊢
  exact ⟨⟨h.1.1, rfl⟩, i _ h.2.1, j _ h.2.2.1, trivial⟩
theorem A2O {a b : GT} (h : Le a b) (hv : E4 a.ty = true) : E4 b.ty = true := B4K h 1 hv
def gmF : GT → Option (GT × GT)
 | .fn a b => some (a, b)
 | .any => some (.any, .any)
 | _ => none
def gmP : GT → Option (GT × GT)
 | .pr a b => some (a, b)
 | .any => some (.any, .any)
 | _ => none
theorem A9J (a : GT) : R3 4 a.ty = (gmF a).map fun p => (p.1.ty, p.2.ty) := by cases a <;> rfl
theorem A9K (a : GT) : R3 5 a.ty = (gmP a).map fun p => (p.1.ty, p.2.ty) := by cases a <;> rfl
theorem B4L {a b p q : GT} (h : Le a b) (hm : gmF a = some (p, q)) : Co a (.fn p q) ∧ ∃ p' q', gmF b = some (p', q') ∧ Le p p' ∧ Le q q' ∧ Co b (.fn p' q') := by
 cases h with
 | any =>
  refine ⟨?_, .any, .any, rfl, .any, .any, .l⟩
  cases a with
  | fn _ _ => cases hm; exact Co.refl
  | any => exact .l
  | _ => cases hm
 | fn h1 h2 => cases hm; exact ⟨Co.refl, _, _, rfl, h1, h2, Co.refl⟩
 | _ => cases hm
theorem B4M {a b p q : GT} (h : Le a b) (hm : gmP a = some (p, q)) : Co a (.pr p q) ∧ ∃ p' q', gmP b = some (p', q') ∧ Le p p' ∧ Le q q' ∧ Co b (.pr p' q') := by
 cases h with
 | any =>
  refine ⟨?_, .any, .any, rfl, .any, .any, .l⟩
  cases a with
  | pr _ _ => cases hm; exact Co.refl
  | any => exact .l
  | _ => cases hm
 | pr h1 h2 => cases hm; exact ⟨Co.refl, _, _, rfl, h1, h2, Co.refl⟩
 | _ => cases hm
def CxR (cx cx' : Cx) (Γ : GC) : Prop := ∀ x a, W5 cx x = some a → ∃ A A', a = A.ty ∧ W5 cx' x = some A'.ty ∧ Γ x = some (A, A') ∧ Le A A'
theorem B4N : CxR [] [] P3 := by intro x a h; simp [W5, X9] at h
theorem B4O {cx cx' : Cx} {Γ : GC} (h : CxR cx cx' Γ) {A A' : GT} (hl : Le A A') (x : ByteArray) : CxR (cx ++ [(x, A.ty)]) (cx' ++ [(x, A'.ty)]) (gup Γ x A A') := by
 intro y a ha
 rw [A9E] at ha ⊢
 unfold gup
 by_cases hy : x = y
 ·rw [if_pos hy] at ha ⊢
  rw [if_pos hy]
  cases ha
  exact ⟨A, A', rfl, rfl, rfl, hl⟩
 ·rw [if_neg hy] at ha ⊢
  rw [if_neg hy]
  exact h y a ha
def S5 (A B : GT) (l : Int) (e : GE) : GE := if Q2 A.ty B.ty = true then e else .cast A B l e
theorem A10 {Γ : GC} {e e' : GE} {A A' B B' : GT} {l l' : Int} (h : GP Γ e e' A A') (h1 : Co A B) (h2 : Co A' B') (h3 : Le B B') : GP Γ (S5 A B l e) (S5 A' B' l' e') B B' := by
 unfold S5
 by_cases hs : Q2 A.ty B.ty = true
 ·rw [if_pos hs]
  obtain rfl := GT.inj ((A2I _ _).1 hs)
  by_cases ht : Q2 A'.ty B'.ty = true
  ·rw [if_pos ht]
   obtain rfl := GT.inj ((A2I _ _).1 ht)
   exact h
  ·rw [if_neg ht]; exact .castR h h2 h3
 ·rw [if_neg hs]
  by_cases ht : Q2 A'.ty B'.ty = true
  ·rw [if_pos ht]
   obtain rfl := GT.inj ((A2I _ _).1 ht)
   exact .castL h h1 h3
  ·rw [if_neg ht]; exact .castB h h1 h2 h3
theorem A60 (e : GE) (us : List Tm) (A B : GT) (h w : List Ty) (l : Int) : ∃ m l1, D9 (e.tm :: us) (A.ty :: h) (B.ty :: w) l = ((S5 A B m e).tm :: (D9 us h w l1).1, (D9 us h w l1).2) := by
 rw [D9]
 unfold S5
 by_cases hs : Q2 A.ty B.ty = true
 ·rw [if_pos hs]; exact ⟨0, l, by rw [if_pos hs]⟩
 ·rw [if_neg hs]; exact ⟨l + 1, l + 1, by rw [if_neg hs]; rfl⟩
theorem A4e (e : GE) (A B : GT) (l : Int) : ∃ m l1, D9 [e.tm] [A.ty] [B.ty] l = ([(S5 A B m e).tm], l1) := by
 obtain ⟨m, l1, h⟩ := A60 e [] A B [] [] l
 rw [Z0] at h
 exact ⟨m, l1, h⟩
theorem A4f (e f : GE) (A B C D : GT) (l : Int) : ∃ m n l1, D9 [e.tm, f.tm] [A.ty, C.ty] [B.ty, D.ty] l = ([(S5 A B m e).tm, (S5 C D n f).tm], l1) := by
 obtain ⟨m, l1, h⟩ := A60 e [f.tm] A B [C.ty] [D.ty] l
 obtain ⟨n, l2, h2⟩ := A4e f C D l1
 rw [h2] at h
 exact ⟨m, n, l2, h⟩
theorem A9L (e f g : GE) (A B C D E F : GT) (l : Int) : ∃ m n o l1, D9 [e.tm, f.tm, g.tm] [A.ty, C.ty, E.ty] [B.ty, D.ty, F.ty] l = ([(S5 A B m e).tm, (S5 C D n f).tm, (S5 E F o g).tm], l1) := by
 obtain ⟨m, l1, h⟩ := A60 e [f.tm, g.tm] A B [C.ty, E.ty] [D.ty, F.ty] l
 obtain ⟨n, o, l2, h2⟩ := A4f f g C D E F l1
 rw [h2] at h
 exact ⟨m, n, o, l2, h⟩
inductive GPL (Γ : GC) : List GE → List GE → List GT → List GT → Prop
 | nil : GPL Γ [] [] [] []
 | cons {e e' A A' es es' As As'} : GP Γ e e' A A' → GPL Γ es es' As As' → GPL Γ (e :: es) (e' :: es') (A :: As) (A' :: As')
theorem GPL.one {Γ : GC} {es es' : List GE} {As As' : List GT} (h : GPL Γ es es' As As') (hl : es.length = 1) : ∃ e e' A A', es = [e] ∧ es' = [e'] ∧ As = [A] ∧ As' = [A'] ∧ GP Γ e e' A A' := by
 cases h with
 | nil => simp at hl
 | cons h h2 => cases h2 with
  | nil => exact ⟨_, _, _, _, rfl, rfl, rfl, rfl, h⟩
  | cons _ _ => simp at hl
theorem GPL.two {Γ : GC} {es es' : List GE} {As As' : List GT} (h : GPL Γ es es' As As') (hl : es.length = 2) : ∃ e e' A A' f f' B B', es = [e, f] ∧ es' = [e', f'] ∧ As = [A, B] ∧ As' = [A', B'] ∧ GP Γ e e' A A' ∧ GP Γ f f' B B' := by
 cases h with
 | nil => simp at hl
 | cons h h2 =>
  obtain ⟨f, f', B, B', rfl, rfl, rfl, rfl, h3⟩ := h2.one (by simpa using hl)
  exact ⟨_, _, _, _, f, f', B, B', rfl, rfl, rfl, rfl, h, h3⟩
theorem GPL.three {Γ : GC} {es es' : List GE} {As As' : List GT} (h : GPL Γ es es' As As') (hl : es.length = 3) : ∃ e e' A A' f f' B B' g g' C C', es = [e, f, g] ∧ es' = [e', f', g'] ∧ As = [A, B, C] ∧ As' = [A', B', C'] ∧ GP Γ e e' A A' ∧ GP Γ f f' B B' ∧ GP Γ g g' C C' := by
 cases h with
 | nil => simp at hl
 | cons h h2 =>
  obtain ⟨f, f', B, B', g, g', C, C', rfl, rfl, rfl, rfl, h3, h4⟩ := h2.two (by simpa using hl)
  exact ⟨_, _, _, _, f, f', B, B', g, g', C, C', rfl, rfl, rfl, rfl, h, h3, h4⟩
theorem GPL.zero {Γ : GC} {es es' : List GE} {As As' : List GT} (h : GPL Γ es es' As As') (hl : es.length = 0) : es = [] ∧ es' = [] ∧ As = [] ∧ As' = [] := by
 cases h with
 | nil => exact ⟨rfl, rfl, rfl, rfl⟩
 | cons _ _ => simp at hl
theorem A1e {cx : Cx} {k : Int} {nm : ByteArray} {num : Int} {ty fr : Ty} {lb : Int} {us : List Tm} {h : List Ty} {l : Int} {u : Tm} {a : Ty} {l2 : Int} (he : Q6 cx k nm num ty fr lb us h l = some (u, a, l2)) :
  ∃ w, M8 cx k nm ty h = some (w, a) ∧ E4 a = true ∧ u = if k = 13 then (D9 us h w l).1.getD 0 I2 else .mk k nm num ty fr lb (D9 us h w l).1 := by
 unfold Q6 at he
 split at he
 ·cases he
 ·rename_i w t hn
  simp only [Option.some.injEq, Prod.mk.injEq] at he
  obtain ⟨rfl, rfl, rfl⟩ := he
  obtain ⟨h1, h2⟩ := A9w hn
  exact ⟨w, h2, h1, rfl⟩
theorem A1u {cx : Cx} {k : Int} {nm : ByteArray} {num : Int} {ty fr : Ty} {lb : Int} {us : List Tm} {h : List Ty} {l : Int} {w : List Ty} {a : Ty} (hw : M8 cx k nm ty h = some (w, a)) (hv : E4 a = true) :
  Q6 cx k nm num ty fr lb us h l = some (if k = 13 then (D9 us h w l).1.getD 0 I2 else .mk k nm num ty fr lb (D9 us h w l).1, a, (D9 us h w l).2) := by
 unfold Q6 A0c
 rw [hw]
 simp only [hv, if_true]
theorem A61 {k : Int} {nm : ByteArray} {num : Int} {ty fr : Ty} {lb : Int} {ks : List Tm} {d : Int} (h : I9 12 14 (.mk k nm num ty fr lb ks) d = true) :
  D5 k = ks.length ∧ k ≠ 14 ∧ (¬(k = 1 ∨ k = 5) → nm = ⟨#[]⟩) ∧ (k ≠ 2 → num = 0) ∧ (k = 5 ∨ k = 13 → E4 ty = true) ∧ (¬(k = 5 ∨ k = 13) → ty = A5) ∧ fr = A5 ∧ lb = 0 ∧ F8 12 14 ks (d + 1) = true := by
 obtain ⟨_, h2, h3, h4⟩ := R8 h
 obtain ⟨n1, n2, n3, n4, n5, n6, n7, n8, n9⟩ := R7.1 h3
 exact ⟨n1, h2, n3, fun hk => by have := A6U.1 (n5 hk); omega, fun hk => n6 (by omega), fun hk => A3c (n7 (by omega)), A3c (n9 h2).1, (n9 h2).2, h4⟩
abbrev ElR (Γ : GC) (u : Tm) (a : Ty) (r : Option (Tm × Ty × Int)) : Prop := ∃ e A e' A' l2, u = e.tm ∧ a = A.ty ∧ r = some (e'.tm, A'.ty, l2) ∧ GP Γ e e' A A'
section
variable {cx cx' : Cx} {Γ : GC} {es es' : List GE} {As As' : List GT} {l l' : Int} {u : Tm} {a : Ty} {l2 : Int} {nm : ByteArray} {num : Int}
theorem B4P (hc : CxR cx cx' Γ) (he : Q6 cx 1 nm 0 A5 A5 0 [] [] l = some (u, a, l2)) : ElR Γ u a (Q6 cx' 1 nm 0 A5 A5 0 [] [] l') := by
 obtain ⟨w, hw, hv, rfl⟩ := A1e he
 unfold M8 at hw
 rw [if_pos rfl] at hw
 split at hw
 ·rename_i t ht
  cases hw
  obtain ⟨A, A', rfl, h2, h3, h4⟩ := hc _ _ ht
  refine ⟨.var nm, A, .var nm, A', l', ?_, rfl, ?_, .var h3 h4⟩
  ·rw [Z0, if_neg (by decide)]; rfl
  ·rw [A1u (w := []) (a := A'.ty) (by unfold M8; rw [if_pos rfl, h2]) (A2O h4 hv), Z0, if_neg (by decide)]; rfl
 ·cases hw
theorem B4Q (he : Q6 cx 2 ⟨#[]⟩ num A5 A5 0 [] [] l = some (u, a, l2)) : ElR Γ u a (Q6 cx' 2 ⟨#[]⟩ num A5 A5 0 [] [] l') := by
 obtain ⟨w, hw, hv, rfl⟩ := A1e he
 cases hw
 exact ⟨.num num, .int, .num num, .int, l', by rw [Z0, if_neg (by decide)]; rfl, rfl, by rw [A1u (w := []) (a := T7) rfl hv, Z0, if_neg (by decide)]; rfl, .num⟩
theorem B4R (b : Bool) (he : Q6 cx (if b = true then 3 else 4) ⟨#[]⟩ 0 A5 A5 0 [] [] l = some (u, a, l2)) : ElR Γ u a (Q6 cx' (if b = true then 3 else 4) ⟨#[]⟩ 0 A5 A5 0 [] [] l') := by
 obtain ⟨w, hw, hv, rfl⟩ := A1e he
 cases b <;> (cases hw; exact ⟨.tru _, .bool, .tru _, .bool, l', by rw [Z0, if_neg (by decide)]; rfl, rfl, by rw [A1u (w := []) (a := Y7) rfl hv, Z0, if_neg (by decide)]; rfl, .tru⟩)
theorem B4S {A A' B B' : GT} {e e' : GE} (hA : Le A A') (hp : GP (gup Γ nm A A') e e' B B') (he : Q6 cx 5 nm 0 A.ty A5 0 [e.tm] [B.ty] l = some (u, a, l2)) : ElR Γ u a (Q6 cx' 5 nm 0 A'.ty A5 0 [e'.tm] [B'.ty] l') := by
 obtain ⟨w, hw, hv, rfl⟩ := A1e he
 cases hw
 exact ⟨.lam nm A e, .fn A B, .lam nm A' e', .fn A' B', l', by rw [Z0, if_neg (by decide)]; rfl, rfl, by rw [A1u (w := []) (a := .mk 4 [A'.ty, B'.ty]) rfl (A2O (.fn hA hp.le) hv), Z0, if_neg (by decide)]; rfl, .lam hA hp⟩
theorem B4T {A A' B B' : GT} {e e' f f' : GE} (hp : GP Γ e e' A A') (hq : GP Γ f f' B B') (he : Q6 cx 6 ⟨#[]⟩ 0 A5 A5 0 [e.tm, f.tm] [A.ty, B.ty] l = some (u, a, l2)) : ElR Γ u a (Q6 cx' 6 ⟨#[]⟩ 0 A5 A5 0 [e'.tm, f'.tm] [A'.ty, B'.ty] l') := by
 obtain ⟨w, hw, hv, rfl⟩ := A1e he
 unfold M8 at hw
 rw [if_neg (by decide), if_neg (by decide), if_neg (by decide), if_neg (by decide), if_pos rfl] at hw
 simp only [List.getD_cons_zero, List.getD_cons_succ, A9J] at hw
 cases hm : gmF A with
 | none => rw [hm] at hw; cases hw
 | some pq =>
  obtain ⟨p, q⟩ := pq
  rw [hm] at hw
  simp only [Option.map_some] at hw
  split at hw
  ·rename_i hc
   cases hw
   obtain ⟨c1, p', q', hm', h1, h2, c2⟩ := B4L hp.le hm
   have hco := (A0Z _ _).1 hc
   have hco' := hco.up hq.le h1
   obtain ⟨m, n, l1, h3⟩ := A4f e f A (.fn p q) B p l
   obtain ⟨m', n', l1', h3'⟩ := A4f e' f' A' (.fn p' q') B' p' l'
   refine ⟨.app (S5 A (.fn p q) m e) (S5 B p n f), q, .app (S5 A' (.fn p' q') m' e') (S5 B' p' n' f'), q', l1', ?_, rfl, ?_, .app (A10 hp c1 c2 (.fn h1 h2)) (A10 hq hco hco' h1)⟩
   ·rw [if_neg (by decide)]
    show Tm.mk _ _ _ _ _ _ (D9 [e.tm, f.tm] [A.ty, B.ty] [(GT.fn p q).ty, p.ty] l).1 = _
    rw [h3]; rfl
   ·rw [A1u (w := [(GT.fn p' q').ty, p'.ty]) (a := q'.ty) ?_ (A2O h2 hv), if_neg (by decide), h3']
    ·rfl
    ·unfold M8
     rw [if_neg (by decide), if_neg (by decide), if_neg (by decide), if_neg (by decide), if_pos rfl]
     simp only [List.getD_cons_zero, List.getD_cons_succ, A9J, hm', Option.map_some]
     rw [if_pos ((A0Z _ _).2 hco')]; rfl
  ·cases hw
theorem B4U (s : Bool) {A A' B B' : GT} {e e' f f' : GE} (hp : GP Γ e e' A A') (hq : GP Γ f f' B B') (he : Q6 cx (if s = true then 8 else 7) ⟨#[]⟩ 0 A5 A5 0 [e.tm, f.tm] [A.ty, B.ty] l = some (u, a, l2)) : ElR Γ u a (Q6 cx' (if s = true then 8 else 7) ⟨#[]⟩ 0 A5 A5 0 [e'.tm, f'.tm] [A'.ty, B'.ty] l') := by
 have hk : (if s = true then (8 : Int) else 7) = 7 ∨ (if s = true then (8 : Int) else 7) = 8 := by cases s <;> simp
 have hT : (if (if s = true then (8 : Int) else 7) = 8 then Y7 else T7) = GT.ty (if s = true then .bool else .int) := by cases s <;> rfl
 obtain ⟨w, hw, hv, rfl⟩ := A1e he
 unfold M8 at hw
 rw [if_neg (by omega), if_neg (by omega), if_neg (by omega), if_neg (by omega), if_neg (by omega), if_pos hk] at hw
 simp only [List.getD_cons_zero, List.getD_cons_succ] at hw
 split at hw
 ·rename_i hc
  rw [hT] at hw
  cases hw
  have c1 := (A0Z A .int).1 hc.1
  have c2 := (A0Z B .int).1 hc.2
  have d1 := c1.up hp.le Le.refl
  have d2 := c2.up hq.le Le.refl
  obtain ⟨m, n, l1, h3⟩ := A4f e f A .int B .int l
  obtain ⟨m', n', l1', h3'⟩ := A4f e' f' A' .int B' .int l'
  refine ⟨.ar s (S5 A .int m e) (S5 B .int n f), _, .ar s (S5 A' .int m' e') (S5 B' .int n' f'), _, l1', ?_, rfl, ?_, .ar (A10 hp c1 d1 .int) (A10 hq c2 d2 .int)⟩
  ·rw [if_neg (by omega)]
   show Tm.mk _ _ _ _ _ _ (D9 [e.tm, f.tm] [A.ty, B.ty] [GT.int.ty, GT.int.ty] l).1 = _
   rw [h3]; rfl
  ·rw [A1u (w := [GT.int.ty, GT.int.ty]) (a := GT.ty (if s = true then .bool else .int)) ?_ hv, if_neg (by omega), h3']
   ·rfl
   ·unfold M8
    rw [if_neg (by omega), if_neg (by omega), if_neg (by omega), if_neg (by omega), if_neg (by omega), if_pos hk]
    simp only [List.getD_cons_zero, List.getD_cons_succ]
    rw [if_pos ⟨(A0Z A' .int).2 d1, (A0Z B' .int).2 d2⟩, hT]; rfl
 ·cases hw
theorem B4V {A A' B B' C C' : GT} {e e' f f' g g' : GE} (hp : GP Γ e e' A A') (hq : GP Γ f f' B B') (hr : GP Γ g g' C C') (he : Q6 cx 9 ⟨#[]⟩ 0 A5 A5 0 [e.tm, f.tm, g.tm] [A.ty, B.ty, C.ty] l = some (u, a, l2)) :
  ElR Γ u a (Q6 cx' 9 ⟨#[]⟩ 0 A5 A5 0 [e'.tm, f'.tm, g'.tm] [A'.ty, B'.ty, C'.ty] l') := by
 obtain ⟨w, hw, hv, rfl⟩ := A1e he
 unfold M8 at hw
 rw [if_neg (by decide), if_neg (by decide), if_neg (by decide), if_neg (by decide), if_neg (by decide), if_neg (by decide), if_pos rfl] at hw
 simp only [List.getD_cons_zero, List.getD_cons_succ] at hw
 split at hw
 ·rename_i hc
  have c1 := (A0Z A .bool).1 hc.1
  have c2 := (A0Z B C).1 hc.2
  have d1 := c1.up hp.le Le.refl
  have d2 := c2.up hq.le hr.le
  rw [A9I c2] at hw
  cases hw
  have hM := B4J c2 hq.le hr.le
  obtain ⟨m, n, o, l1, h3⟩ := A9L e f g A .bool B (R9 B C) C (R9 B C) l
  obtain ⟨m', n', o', l1', h3'⟩ := A9L e' f' g' A' .bool B' (R9 B' C') C' (R9 B' C') l'
  refine ⟨.ite (S5 A .bool m e) (S5 B (R9 B C) n f) (S5 C (R9 B C) o g), R9 B C, .ite (S5 A' .bool m' e') (S5 B' (R9 B' C') n' f') (S5 C' (R9 B' C') o' g'), R9 B' C', l1', ?_, rfl, ?_,
   .ite (A10 hp c1 d1 .bool) (A10 hq (A5i c2).co.symm (A5i d2).co.symm hM) (A10 hr (A5j c2).co.symm (A5j d2).co.symm hM)⟩
  ·rw [if_neg (by decide)]
   show Tm.mk _ _ _ _ _ _ (D9 [e.tm, f.tm, g.tm] [A.ty, B.ty, C.ty] [GT.bool.ty, (R9 B C).ty, (R9 B C).ty] l).1 = _
   rw [h3]; rfl
  ·rw [A1u (w := [GT.bool.ty, (R9 B' C').ty, (R9 B' C').ty]) (a := (R9 B' C').ty) ?_ (A2O hM hv), if_neg (by decide), h3']
   ·rfl
   ·unfold M8
    rw [if_neg (by decide), if_neg (by decide), if_neg (by decide), if_neg (by decide), if_neg (by decide), if_neg (by decide), if_pos rfl]
    simp only [List.getD_cons_zero, List.getD_cons_succ]
    rw [if_pos ⟨(A0Z A' .bool).2 d1, (A0Z B' C').2 d2⟩, A9I d2]; rfl
 ·cases hw
theorem B4W {A A' B B' : GT} {e e' f f' : GE} (hp : GP Γ e e' A A') (hq : GP Γ f f' B B') (he : Q6 cx 10 ⟨#[]⟩ 0 A5 A5 0 [e.tm, f.tm] [A.ty, B.ty] l = some (u, a, l2)) : ElR Γ u a (Q6 cx' 10 ⟨#[]⟩ 0 A5 A5 0 [e'.tm, f'.tm] [A'.ty, B'.ty] l') := by
 obtain ⟨w, hw, hv, rfl⟩ := A1e he
 cases hw
 exact ⟨.pair e f, .pr A B, .pair e' f', .pr A' B', l', by rw [Z0, if_neg (by decide)]; rfl, rfl, by rw [A1u (w := []) (a := .mk 5 [A'.ty, B'.ty]) rfl (A2O (.pr hp.le hq.le) hv), Z0, if_neg (by decide)]; rfl, .pair hp hq⟩
theorem B4X (s : Bool) {A A' : GT} {e e' : GE} (hp : GP Γ e e' A A') (he : Q6 cx (if s = true then 12 else 11) ⟨#[]⟩ 0 A5 A5 0 [e.tm] [A.ty] l = some (u, a, l2)) : ElR Γ u a (Q6 cx' (if s = true then 12 else 11) ⟨#[]⟩ 0 A5 A5 0 [e'.tm] [A'.ty] l') := by
 have hk : (if s = true then (12 : Int) else 11) = 11 ∨ (if s = true then (12 : Int) else 11) = 12 := by cases s <;> simp
 have hT : ∀ p q : GT, (if (if s = true then (12 : Int) else 11) = 12 then q.ty else p.ty) = GT.ty (if s = true then q else p) := by intro p q; cases s <;> rfl
 obtain ⟨w, hw, hv, rfl⟩ := A1e he
 unfold M8 at hw
 rw [if_neg (by omega), if_neg (by omega), if_neg (by omega), if_neg (by omega), if_neg (by omega), if_neg (by omega), if_neg (by omega), if_neg (by omega), if_neg (by omega)] at hw
 simp only [List.getD_cons_zero, A9K] at hw
 cases hm : gmP A with
 | none => rw [hm] at hw; cases hw
 | some pq =>
  obtain ⟨p, q⟩ := pq
  rw [hm] at hw
  simp only [Option.map_some, hT] at hw
  cases hw
  obtain ⟨c1, p', q', hm', h1, h2, c2⟩ := B4M hp.le hm
  obtain ⟨m, l1, h3⟩ := A4e e A (.pr p q) l
  obtain ⟨m', l1', h3'⟩ := A4e e' A' (.pr p' q') l'
  refine ⟨.part s (S5 A (.pr p q) m e), _, .part s (S5 A' (.pr p' q') m' e'), _, l1', ?_, rfl, ?_, .part (A10 hp c1 c2 (.pr h1 h2))⟩
  ·rw [if_neg (by omega)]
   show Tm.mk _ _ _ _ _ _ (D9 [e.tm] [A.ty] [(GT.pr p q).ty] l).1 = _
   rw [h3]; rfl
  ·rw [A1u (w := [(GT.pr p' q').ty]) (a := GT.ty (if s = true then q' else p')) ?_ (A2O (by cases s; exact h1; exact h2) hv), if_neg (by omega), h3']
   ·rfl
   ·unfold M8
    rw [if_neg (by omega), if_neg (by omega), if_neg (by omega), if_neg (by omega), if_neg (by omega), if_neg (by omega), if_neg (by omega), if_neg (by omega), if_neg (by omega)]
    simp only [List.getD_cons_zero, A9K, hm', Option.map_some, hT]; rfl
theorem B4Y {A A' B B' : GT} {e e' : GE} (hB : Le B B') (hp : GP Γ e e' A A') (he : Q6 cx 13 ⟨#[]⟩ 0 B.ty A5 0 [e.tm] [A.ty] l = some (u, a, l2)) : ElR Γ u a (Q6 cx' 13 ⟨#[]⟩ 0 B'.ty A5 0 [e'.tm] [A'.ty] l') := by
 obtain ⟨w, hw, hv, rfl⟩ := A1e he
 unfold M8 at hw
 rw [if_neg (by decide), if_neg (by decide), if_neg (by decide), if_neg (by decide), if_neg (by decide), if_neg (by decide), if_neg (by decide), if_neg (by decide), if_pos rfl] at hw
 simp only [List.getD_cons_zero] at hw
 split at hw
 ·rename_i hc
  cases hw
  have c1 := (A0Z A B).1 hc
  have d1 := c1.up hp.le hB
  obtain ⟨m, l1, h3⟩ := A4e e A B l
  obtain ⟨m', l1', h3'⟩ := A4e e' A' B' l'
  refine ⟨S5 A B m e, B, S5 A' B' m' e', B', l1', ?_, rfl, ?_, A10 hp c1 d1 hB⟩
  ·rw [if_pos rfl, h3]; rfl
  ·rw [A1u (w := [B'.ty]) (a := B'.ty) ?_ (A2O hB hv), if_pos rfl, h3']
   ·rfl
   ·unfold M8
    rw [if_neg (by decide), if_neg (by decide), if_neg (by decide), if_neg (by decide), if_neg (by decide), if_neg (by decide), if_neg (by decide), if_neg (by decide), if_pos rfl]
    simp only [List.getD_cons_zero]
    rw [if_pos ((A0Z A' B').2 d1)]
 ·cases hw
end
theorem B4Z (ks : List Tm) (ih : ∀ t ∈ ks, ∀ (t' : Tm) (d : Int) (cx cx' : Cx) (Γ : GC) (l l' : Int) (u : Tm) (a : Ty) (l2 : Int), I9 12 14 t d = true → I9 12 14 t' d = true → A2N t t' = true → CxR cx cx' Γ → L9 cx t l = some (u, a, l2) → ElR Γ u a (L9 cx' t' l')) :
  ∀ (ks' : List Tm) (d : Int) (cx cx' : Cx) (Γ : GC) (l l' : Int) (us : List Tm) (h : List Ty) (l2 : Int), F8 12 14 ks d = true → F8 12 14 ks' d = true → A2g ks ks' = true → CxR cx cx' Γ → L6 cx ks l = some (us, h, l2) →
   ∃ es As es' As' l2', us = es.map GE.tm ∧ h = As.map GT.ty ∧ L6 cx' ks' l' = some (es'.map GE.tm, As'.map GT.ty, l2') ∧ GPL Γ es es' As As' := by
 induction ks with
 | nil =>
  intro ks' d cx cx' Γ l l' us h l2 _ _ hp _ he
  cases ks' with
  | cons _ _ => cases hp
  | nil =>
   rw [L6] at he
   cases he
   exact ⟨[], [], [], [], l', rfl, rfl, by rw [L6]; rfl, .nil⟩
 | cons t ts ihl =>
  intro ks' d cx cx' Γ l l' us h l2 hs hs' hp hc he
  cases ks' with
  | nil => cases hp
  | cons t' ts' =>
   rw [F8, Bool.and_eq_true] at hs hs'
   rw [A2g, Bool.and_eq_true] at hp
   rw [L6] at he ⊢
   split at he
   ·cases he
   ·rename_i u a l1 h1
    split at he
    ·cases he
    ·rename_i us' h' l3 h2
     cases he
     obtain ⟨e, A, e', A', m, rfl, rfl, h3, h4⟩ := ih t List.mem_cons_self t' d cx cx' Γ l l' u a l1 hs.1 hs'.1 hp.1 hc h1
     obtain ⟨es, As, es', As', m2, rfl, rfl, h5, h6⟩ := ihl (fun x hx => ih x (List.mem_cons_of_mem _ hx)) ts' d cx cx' Γ l1 m us' h' l2 hs.2 hs'.2 hp.2 hc h2
     rw [h3]
     simp only [h5]
     exact ⟨e :: es, A :: As, e' :: es', A' :: As', m2, rfl, rfl, rfl, .cons h4 h6⟩
theorem A62 {cx : Cx} : ∀ {ks : List Tm} {l : Int} {us : List Tm} {h : List Ty} {l2 : Int}, L6 cx ks l = some (us, h, l2) → us.length = ks.length
 | [], _, _, _, _, h => by rw [L6] at h; cases h; rfl
 | t :: ts, _, _, _, _, h => by
  rw [L6] at h
  split at h
  ·cases h
  ·split at h
   ·cases h
   ·rename_i h2; cases h; simp [A62 h2]
theorem B40 : ∀ (t t' : Tm) (d : Int) (cx cx' : Cx) (Γ : GC) (l l' : Int) (u : Tm) (a : Ty) (l2 : Int), I9 12 14 t d = true → I9 12 14 t' d = true → A2N t t' = true → CxR cx cx' Γ → L9 cx t l = some (u, a, l2) → ElR Γ u a (L9 cx' t' l') := by
 refine Tm.ind fun k nm num ty fr lb ks ih t' d cx cx' Γ l l' u a l2 hs hs' hp hc he => ?_
 obtain ⟨k', nm', num', ty', fr', lb', ks'⟩ := t'
 obtain ⟨rfl, rfl, rfl, hty, hpk⟩ := A9G.1 hp
 obtain ⟨n1, n2, n3, n4, n5, n6, n7, n8, n9⟩ := A61 hs
 obtain ⟨m1, m2, m3, m4, m5, m6, m7, m8, m9⟩ := A61 hs'
 subst n7 n8 m7 m8
 rw [L9] at he ⊢
 split at he
 ·cases he
 ·rename_i us h l1 hL
  
  have key : ∀ Δ, CxR (O8 cx k nm ty) (O8 cx' k nm ty') Δ → ∃ es As es' As' l2', us = es.map GE.tm ∧ h = As.map GT.ty ∧ L6 (O8 cx' k nm ty') ks' l' = some (es'.map GE.tm, As'.map GT.ty, l2') ∧ GPL Δ es es' As As' :=
   fun Δ hD => B4Z ks ih ks' (d + 1) _ _ Δ l l' us h l1 n9 m9 hpk hD hL
  by_cases h5 : k = 5
  ·subst h5
   obtain ⟨A, rfl⟩ := A2h ty (n5 (.inl rfl))
   obtain ⟨A', rfl⟩ := A2h ty' (m5 (.inl rfl))
   have hA := (A9H A A').1 (hty (.inl rfl))
   obtain rfl := n4 (by decide)
   obtain ⟨es, As, es', As', l3, rfl, rfl, e1, e2⟩ := key (gup Γ nm A A') (by rw [O8, O8, if_pos rfl, if_pos rfl]; exact B4O hc hA nm)
   have hlen : es.length = 1 := by
    have h1 := A62 hL
    rw [List.length_map] at h1
    have : D5 5 = 1 := rfl
    omega
   obtain ⟨e, e', B, B', rfl, rfl, rfl, rfl, hq⟩ := e2.one hlen
   rw [e1]
   exact B4S hA hq he
  ·obtain ⟨es, As, es', As', l3, rfl, rfl, e1, e2⟩ := key Γ (by rw [O8, O8, if_neg h5, if_neg h5]; exact hc)
   have hlen : (es.length : Int) = D5 k := by
    have h1 := A62 hL
    rw [List.length_map] at h1
    omega
   rw [e1]
   have hk : 1 ≤ k ∧ k ≤ 14 := by
    apply Classical.byContradiction
    intro hk
    rw [A4E hk] at n1; omega
   by_cases h1 : k = 1
   ·subst h1
    obtain rfl := n4 (by decide)
    obtain rfl := n6 (by decide)
    obtain rfl := m6 (by decide)
    obtain ⟨rfl, rfl, rfl, rfl⟩ := e2.zero (by have : D5 1 = 0 := rfl; omega)
    exact B4P hc he
   obtain rfl := n3 (by omega)
   by_cases h2 : k = 2
   ·subst h2
    obtain rfl := n6 (by decide)
    obtain rfl := m6 (by decide)
    obtain ⟨rfl, rfl, rfl, rfl⟩ := e2.zero (by have : D5 2 = 0 := rfl; omega)
    exact B4Q he
   obtain rfl := n4 h2
   by_cases h13 : k = 13
   ·subst h13
    obtain ⟨B, rfl⟩ := A2h ty (n5 (.inr rfl))
    obtain ⟨B', rfl⟩ := A2h ty' (m5 (.inr rfl))
    obtain ⟨e, e', A, A', rfl, rfl, rfl, rfl, hq⟩ := e2.one (by have : D5 13 = 1 := rfl; omega)
    exact B4Y ((A9H B B').1 (hty (.inr rfl))) hq he
   obtain rfl := n6 (by omega)
   obtain rfl := m6 (by omega)
   by_cases h34 : k = 3 ∨ k = 4
   ·obtain ⟨b, rfl⟩ : ∃ b : Bool, k = if b = true then 3 else 4 := by rcases h34 with h | h; exact ⟨true, h⟩; exact ⟨false, h⟩
    obtain ⟨rfl, rfl, rfl, rfl⟩ := e2.zero (by have : D5 (if b = true then 3 else 4) = 0 := (by cases b <;> rfl); omega)
    exact B4R b he
   by_cases h6 : k = 6
   ·subst h6
    obtain ⟨e, e', A, A', f, f', B, B', rfl, rfl, rfl, rfl, hp1, hp2⟩ := e2.two (by have : D5 6 = 2 := rfl; omega)
    exact B4T hp1 hp2 he
   by_cases h78 : k = 7 ∨ k = 8
   ·obtain ⟨b, rfl⟩ : ∃ b : Bool, k = if b = true then 8 else 7 := by rcases h78 with h | h; exact ⟨false, h⟩; exact ⟨true, h⟩
    obtain ⟨e, e', A, A', f, f', B, B', rfl, rfl, rfl, rfl, hp1, hp2⟩ := e2.two (by have : D5 (if b = true then 8 else 7) = 2 := (by cases b <;> rfl); omega)
    exact B4U b hp1 hp2 he
   by_cases h9 : k = 9
   ·subst h9
    obtain ⟨e, e', A, A', f, f', B, B', g, g', C, C', rfl, rfl, rfl, rfl, hp1, hp2, hp3⟩ := e2.three (by have : D5 9 = 3 := rfl; omega)
    exact B4V hp1 hp2 hp3 he
   by_cases h10 : k = 10
   ·subst h10
    obtain ⟨e, e', A, A', f, f', B, B', rfl, rfl, rfl, rfl, hp1, hp2⟩ := e2.two (by have : D5 10 = 2 := rfl; omega)
    exact B4W hp1 hp2 he
   have h11 : k = 11 ∨ k = 12 := by omega
   obtain ⟨b, rfl⟩ : ∃ b : Bool, k = if b = true then 12 else 11 := by rcases h11 with h | h; exact ⟨false, h⟩; exact ⟨true, h⟩
   obtain ⟨e, e', A, A', rfl, rfl, rfl, rfl, hp1⟩ := e2.one (by have : D5 (if b = true then 12 else 11) = 1 := (by cases b <;> rfl); omega)
   exact B4X b hp1 he
theorem B41 {a b u : Tm} {t : Ty} (ha : X6 a = some (u, t)) (hp : A5h a b = true) : ∃ e e' A A', u = e.tm ∧ t = A.ty ∧ X6 b = some (e'.tm, A'.ty) ∧ GP P3 e e' A A' := by
 unfold A5h at hp
 rw [Bool.and_eq_true, Bool.and_eq_true] at hp
 unfold X6 at ha ⊢
 rw [if_pos hp.1] at ha
 rw [if_pos hp.2.1]
 split at ha
 ·rename_i u' t' l' he
  cases ha
  obtain ⟨e, A, e', A', l2, rfl, rfl, h1, h2⟩ := B40 a b 1 [] [] P3 0 0 u t l' ((A0b a).1 hp.1).1 ((A0b b).1 hp.2.1).1 hp.2.2 B4N he
  rw [h1]
  exact ⟨e, e', A, A', rfl, rfl, rfl, h2⟩
 ·cases ha
def TmP (t : Tm) : IM → Value → List A1 → Prop := I8 fun G' v => ∃ cells, v = .agg ⟨cells⟩ ∧ B5 G' t cells
def mGk (k : Int) : Ty := if k = 4 ∨ k = 5 then .mk k [O4, O4] else .mk k []
theorem B5.put {G : IM} {k : Int} {nm : ByteArray} {num tk fk lb : Int} {tks fks : List Ty} {us : List Tm} {pt pf p : Option Addr} {ct cf n c : Nat} {es : List (List Value)} (hk : C1 k) (hnum : C1 num) (hlb : C1 lb) (hty : A8 G (.mk tk tks) [.int .i64 tk, .slice pt tks.length ct]) (hfr : A8 G (.mk fk fks) [.int .i64 fk, .slice pf fks.length cf])
  (hn : n = us.length) (hs : C0 G p n c 9 es) (hr : F4 G us es) : B5 G (.mk k nm num (.mk tk tks) (.mk fk fks) lb us) [.int .i64 k, .string nm, .int .i64 num, .int .i64 tk, .slice pt tks.length ct, .int .i64 fk, .slice pf fks.length cf, .int .i64 lb, .slice p n c] := by
 subst hn
 simp only [B5]
 exact ⟨_, _, p, c, es, rfl, hk, hnum, hlb, hty, hfr, hs, hr⟩
theorem nine {uc : List Value} (h : uc.length = 9) : ∃ v1 v2 v3 v4 v5 v6 v7 v8 v9, uc = [v1, v2, v3, v4, v5, v6, v7, v8, v9] := by
 match uc, h with
 | [a, b, c, d, e, f, g, i, j], _ => exact ⟨a, b, c, d, e, f, g, i, j, rfl⟩
def A00 (k : Int) (ks : List Tm) : Option Tm :=
 if k = 6 then (if (kd ks 0).k = 5 then some (A0t (kd ks 0).nm (kd ks 1) (kd (kd ks 0).ks 0)) else none)
 else if k = 7 ∨ k = 8 then (if (kd ks 0).k = 2 ∧ (kd ks 1).k = 2 then some (if k = 7 then A9n (((kd ks 0).num + (kd ks 1).num) % 1000) else A5c ((kd ks 0).num < (kd ks 1).num)) else none)
 else if k = 9 then (if (kd ks 0).k = 3 then some (kd ks 1) else if (kd ks 0).k = 4 then some (kd ks 2) else none)
 else if k = 11 ∨ k = 12 then (if (kd ks 0).k = 10 then some (kd (kd ks 0).ks (k - 11).toNat) else none)
 else none
def B7X (o : Option Tm) : IM → Value → List A1 → Prop := I8 fun G' v => ∃ u cells c, v = .tuple ⟨[.agg ⟨cells⟩, .int .i64 c]⟩ ∧ B5 G' u cells ∧ (∀ x, o = some x → c = 1 ∧ u = x) ∧ (o = none → c = 3)
theorem A5k (G : IM) : B5 G I2 [.int .i64 0, .string ⟨⟨[]⟩⟩, .int .i64 0, .int .i64 0, .slice none 0 0, .int .i64 0, .slice none 0 0, .int .i64 0, .slice none 0 0] := (P0.zero G).R
section
variable {P : Program} {Γ : I3} {K : Po} {ops : Array Oper} {env : J0} {hp : List A1} {G : IM}
theorem A9M {H : List (Nat × Nat)} {fuel j : Nat} {listed : List Bool} {hp' : List A1} {p : Option Addr} {c el sz n : Nat} {cs : List Value} (hk : Pk hp (.slc p c el sz n cs) hp')
  (h : ∀ G', A7 G G' → Sl G' p n c sz cs → (∀ b ∈ H1 p, G b = none ∧ G' b ≠ none) → U6 P Γ ops K H fuel listed j ⟨env, hp', G'⟩) : U6 P Γ ops K H fuel listed j ⟨env, hp, G⟩ :=
 ⟨fun a w hs => let ⟨G', h1, h2, h3, h4⟩ := hs.freeze hk; (h G' h2 h3 h4).run a w h1⟩
end
def B7Y (k : Int) (ty fr : Ty) (lb : Int) (ks : List Tm) : Stp :=
 if k = 6 then
  (if prx (kd ks 0) = true ∧ (kd ks 0).ty.k = 4 then (R4 (A2K 6 [kd (kd ks 0).ks 0, R4 (kd ks 1) (kt (kd ks 0).ty.ks 0) (kt (kd ks 0).fr.ks 0) (-(kd ks 0).lb)]) (kt (kd ks 0).fr.ks 1) (kt (kd ks 0).ty.ks 1) (kd ks 0).lb, 1, 0) else A0X)
 else if k = 11 ∨ k = 12 then
  (if prx (kd ks 0) = true ∧ (kd ks 0).ty.k = 5 then (R4 (A2K k [kd (kd ks 0).ks 0]) (kt (kd ks 0).fr.ks (k - 11).toNat) (kt (kd ks 0).ty.ks (k - 11).toNat) (kd ks 0).lb, 1, 0) else A0X)
 else if k = 14 then
  (if fr.k = ty.k then (kd ks 0, 1, 0)
   else if ty.k = 1 then (R4 (R4 (kd ks 0) fr (A1s fr) lb) (A1s fr) ty lb, 1, 0)
   else if A2J ty = false then (R4 (R4 (kd ks 0) fr (A1s ty) lb) (A1s ty) ty lb, 1, 0)
   else if inj (kd ks 0) = false then A0X
   else if (kd ks 0).fr.k = ty.k then (kd (kd ks 0).ks 0, 1, 0)
   else (I2, 2, lb))
 else A0X
def B7Z (r : Stp) : IM → Value → List A1 → Prop := I8 fun G' v => ∃ u cells, v = .tuple ⟨[.agg ⟨cells⟩, .int .i64 r.2.1, .int .i64 r.2.2]⟩ ∧ B5 G' u cells ∧ (r.2.1 = 1 → u = r.1)
theorem ks1 {ks : List Tm} (h : ks.length = 1) : ∃ a, ks = [a] := by
 match ks, h with
 | [a], _ => exact ⟨a, rfl⟩
theorem A63 {k : Int} (h : 0 ≤ D5 k) : 1 ≤ k ∧ k ≤ 14 := by
 by_cases hk : 1 ≤ k ∧ k ≤ 14
 ·exact hk
 ·rw [A4E hk] at h; omega
def B70 (r : Stp) : IM → Value → List A1 → Prop := I8 fun G' v => ∃ cells, v = .tuple ⟨[.agg ⟨cells⟩, .int .i64 r.2.1, .int .i64 r.2.2]⟩ ∧ B5 G' r.1 cells
def A5l : Nat → Tm → Tm × Int × Int × Nat
 | 0, e => ((W6 e).1, (W6 e).2.1, (W6 e).2.2, 0)
 | n + 1, e => if (W6 e).2.1 = 1 then ((A5l n (W6 e).1).1, (A5l n (W6 e).1).2.1, (A5l n (W6 e).1).2.2.1, (A5l n (W6 e).1).2.2.2 + 1)
  else ((W6 e).1, (W6 e).2.1, (W6 e).2.2, 0)
def EvP (r : Tm × Int × Int × Nat) : IM → Value → List A1 → Prop := I8 fun G' v => ∃ cells, v = .tuple ⟨[.agg ⟨cells⟩, .int .i64 r.2.1, .int .i64 r.2.2.1, .int .i64 (r.2.2.2 : Int)]⟩ ∧ B5 G' r.1 cells
def B71 (i : Nat) (r : Tm × Int × Int × Nat) : Tm × Int × Int × Nat := (r.1, r.2.1, r.2.2.1, r.2.2.2 + i)
section fin
variable {P : Program} {Γ : I3} {env : J0} {hp : List A1} {G : IM}
end fin
mutual
def A2P (L : Int → Prop) : Tm → Prop
 | .mk k nm num ty fr lb ks => (k = 14 → L lb) ∧ A3l L ks
def A3l (L : Int → Prop) : List Tm → Prop
 | [] => True
 | t :: ts => A2P L t ∧ A3l L ts
end
theorem A11 {L : Int → Prop} {k : Int} {nm : ByteArray} {num : Int} {ty fr : Ty} {lb : Int} {ks : List Tm} : A2P L (.mk k nm num ty fr lb ks) ↔ (k = 14 → L lb) ∧ A3l L ks := by rw [A2P]
theorem A2i {L : Int → Prop} : ∀ {ts : List Tm}, A3l L ts ↔ ∀ t ∈ ts, A2P L t
 | [] => by simp [A3l]
 | t :: ts => by rw [A3l, A2i (ts := ts)]; simp
def B72 (L : Int → Prop) (T : Ty) (r : Stp) : Prop := (r.2.1 = 1 ∧ A0W [] r.1 = some T ∧ A2P L r.1) ∨ (r.2.1 = 2 ∧ L r.2.2)
mutual
theorem A9N : ∀ a b : Ty, J6 a b = true → J6 b a = true
 | .mk k ks, .mk k' ks', h => by
  rw [T0] at h ⊢
  simp only [Bool.or_eq_true, Bool.and_eq_true, decide_eq_true_eq] at h ⊢
  rcases h with (h | h) | h
  ·exact .inl (.inr h)
  ·exact .inl (.inl h)
  ·exact .inr ⟨h.1.symm, A9O ks ks' h.2⟩
theorem A9O : ∀ xs ys : List Ty, M6 xs ys = true → M6 ys xs = true
 | [], [], _ => rfl
 | [], b :: ys, h => by simp [M6] at h
 | a :: xs, [], h => by simp [M6] at h
 | a :: xs, b :: ys, h => by
  simp only [M6, Bool.and_eq_true] at h ⊢
  exact ⟨A9N a b h.1, A9O xs ys h.2⟩
end
mutual
theorem A9P : ∀ a b : Ty, J6 a b = true → J6 a (V2 a b) = true ∧ J6 b (V2 a b) = true
 | .mk k ks, .mk k' ks', h => by
  rw [A1d]
  by_cases h1 : k = 1
  ·rw [if_pos h1]
   exact ⟨h, A2M _⟩
  ·rw [if_neg h1]
   by_cases h2 : k' = 1
   ·rw [if_pos h2]
    exact ⟨A2M _, A9N _ _ h⟩
   ·rw [if_neg h2]
    rw [T0] at h
    simp only [Bool.or_eq_true, Bool.and_eq_true, decide_eq_true_eq] at h
    have h3 : k = k' ∧ M6 ks ks' = true := by
     rcases h with (h | h) | h
     ·exact absurd h h1
     ·exact absurd h h2
     ·exact h
    obtain ⟨m1, m2⟩ := A9Q ks ks' h3.2
    rw [T0, T0, m1, m2]
    simp [h3.1]
theorem A9Q : ∀ xs ys : List Ty, M6 xs ys = true → M6 xs (T4 xs ys) = true ∧ M6 ys (T4 xs ys) = true
 | [], [], _ => ⟨rfl, rfl⟩
 | [], b :: ys, h => by simp [M6] at h
 | a :: xs, [], h => by simp [M6] at h
 | a :: xs, b :: ys, h => by
  simp only [M6, Bool.and_eq_true] at h
  obtain ⟨m1, m2⟩ := A9P a b h.1
  obtain ⟨m3, m4⟩ := A9Q xs ys h.2
  simp only [T4, M6, m1, m2, m3, m4]
  exact ⟨rfl, rfl⟩
end
theorem B42 {k : Int} {a b : Ty} (hk : k = 4 ∨ k = 5) (h : E4 (.mk k [a, b]) = true) : E4 a = true ∧ E4 b = true := by
 obtain ⟨x, y, he, h1, h2⟩ := A5e hk h
 cases he
 exact ⟨h1, h2⟩
theorem B43 {k : Int} (hk : k = 4 ∨ k = 5) : E4 (.mk k [O4, O4]) = true := by rcases hk with rfl | rfl <;> decide
theorem A9R {k : Int} {t a b : Ty} (hk : k = 4 ∨ k = 5) (ht : E4 t = true) (h : R3 k t = some (a, b)) : E4 (.mk k [a, b]) = true ∧ J6 t (.mk k [a, b]) = true := by
 obtain ⟨tk, ks⟩ := t
 rw [A1Y] at h
 by_cases he : tk = k
 ·subst he
  rw [if_pos rfl] at h
  obtain ⟨x, y, rfl, _, _⟩ := A5e hk ht
  cases h
  exact ⟨ht, A2M _⟩
 ·rw [if_neg he] at h
  by_cases h1 : tk = 1
  ·rw [if_pos h1] at h
   cases h
   refine ⟨B43 hk, ?_⟩
   rw [T0, h1]; rfl
  ·rw [if_neg h1] at h; cases h
structure Wt (cx : Cx) (k : Int) (nm : ByteArray) (ty : Ty) (h w : List Ty) (t : Ty) : Prop where
 len : w = [] ∨ w.length = h.length
 ok : ∀ i, (hi : i < w.length) → (hh : i < h.length) → J6 h[i] w[i] = true ∧ E4 w[i] = true
 again : k ≠ 13 → M8 cx k nm ty (if w = [] then h else w) = some (w, t)
 asT : k = 13 → w = [t]
theorem A9S {cx : Cx} {k : Int} {nm : ByteArray} {ty : Ty} {h w : List Ty} {t : Ty} (hh : ∀ a ∈ h, E4 a = true) (hty : k = 13 → E4 ty = true) (hn : D5 k = (h.length : Int)) (h14 : k ≠ 14) (hw : M8 cx k nm ty h = some (w, t)) : Wt cx k nm ty h w t := by
 have hkr := A63 (by rw [hn]; omega : 0 ≤ D5 k)
 have hkk : k = 1 ∨ k = 2 ∨ (k = 3 ∨ k = 4) ∨ k = 5 ∨ k = 6 ∨ (k = 7 ∨ k = 8) ∨ k = 9 ∨ k = 10 ∨ (k = 11 ∨ k = 12) ∨ k = 13 := by omega
 have nil : w = [] → k ≠ 13 → Wt cx k nm ty h w t := by
  rintro rfl h13
  exact ⟨.inl rfl, fun i hi => by simp at hi, fun _ => by rw [if_pos rfl]; exact hw, fun h => absurd h h13⟩
 rcases hkk with rfl | rfl | hk | rfl | rfl | hk | rfl | rfl | hk | rfl
 ·refine nil ?_ (by decide)
  rw [mW1] at hw; split at hw <;> cases hw; rfl
 ·refine nil ?_ (by decide)
  rw [mW2] at hw; cases hw; rfl
 ·refine nil ?_ (by omega)
  rw [A5d hk] at hw; cases hw; rfl
 ·refine nil ?_ (by decide)
  rw [mW5] at hw; cases hw; rfl
 ·match h, (show h.length = 2 by have : D5 6 = 2 := rfl; omega) with
  | [x, y], _ =>
  rw [mW6] at hw
  simp only [List.getD_cons_zero, List.getD_cons_succ] at hw
  split at hw
  ·rename_i a b hm
   split at hw
   ·rename_i hc
    cases hw
    obtain ⟨v1, v2⟩ := A9R (.inl rfl) (hh x (by simp)) hm
    obtain ⟨v3, v4⟩ := B42 (.inl rfl) v1
    refine ⟨.inr rfl, fun i hi hi2 => ?_, fun _ => ?_, fun h => absurd h (by decide)⟩
    ·match i, hi with
     | 0, _ => exact ⟨v2, v1⟩
     | 1, _ => exact ⟨hc, v3⟩
    ·rw [if_neg (by simp), mW6]
     simp only [List.getD_cons_zero, List.getD_cons_succ, A1Y, if_true, A2M]
   ·cases hw
  ·cases hw
 ·match h, (show h.length = 2 by rcases hk with rfl | rfl <;> (first | (have : D5 7 = 2 := rfl; omega) | (have : D5 8 = 2 := rfl; omega))) with
  | [x, y], _ =>
  rw [X5 hk] at hw
  simp only [List.getD_cons_zero, List.getD_cons_succ] at hw
  split at hw
  ·rename_i hc
   cases hw
   refine ⟨.inr rfl, fun i hi hi2 => ?_, fun _ => ?_, fun h => by omega⟩
   ·match i, hi with
    | 0, _ => exact ⟨hc.1, (show E4 T7 = true by decide)⟩
    | 1, _ => exact ⟨hc.2, (show E4 T7 = true by decide)⟩
   ·rw [if_neg (by simp), X5 hk]
    simp only [List.getD_cons_zero, List.getD_cons_succ, A2M, and_self, if_true]
  ·cases hw
 ·match h, (show h.length = 3 by have : D5 9 = 3 := rfl; omega) with
  | [x, y, z], _ =>
  rw [mW9] at hw
  simp only [List.getD_cons_zero, List.getD_cons_succ] at hw
  split at hw
  ·rename_i hc
   cases hw
   obtain ⟨c1, c2⟩ := A9P y z hc.2
   have vm := A6X y z 1 hc.2 (hh y (by simp)) (hh z (by simp))
   refine ⟨.inr rfl, fun i hi hi2 => ?_, fun _ => ?_, fun h => absurd h (by decide)⟩
   ·match i, hi with
    | 0, _ => exact ⟨hc.1, (show E4 Y7 = true by decide)⟩
    | 1, _ => exact ⟨c1, vm⟩
    | 2, _ => exact ⟨c2, vm⟩
   ·rw [if_neg (by simp), mW9]
    simp only [List.getD_cons_zero, List.getD_cons_succ, A2M, and_self, if_true, A6Z]
  ·cases hw
 ·refine nil ?_ (by decide)
  rw [A6V] at hw; cases hw; rfl
 ·match h, (show h.length = 1 by rcases hk with rfl | rfl <;> (first | (have : D5 11 = 1 := rfl; omega) | (have : D5 12 = 1 := rfl; omega))) with
  | [x], _ =>
  rw [A38 hk] at hw
  simp only [List.getD_cons_zero] at hw
  split at hw
  ·rename_i a b hm
   cases hw
   obtain ⟨v1, v2⟩ := A9R (.inr rfl) (hh x (by simp)) hm
   refine ⟨.inr rfl, fun i hi hi2 => ?_, fun _ => ?_, fun h => by omega⟩
   ·match i, hi with
    | 0, _ => exact ⟨v2, v1⟩
   ·rw [if_neg (by simp), A38 hk]
    simp only [List.getD_cons_zero, List.getD_cons_succ, A1Y, if_true]
  ·cases hw
 ·match h, (show h.length = 1 by have : D5 13 = 1 := rfl; omega) with
  | [x], _ =>
  rw [A3i] at hw
  simp only [List.getD_cons_zero] at hw
  split at hw
  ·rename_i hc
   cases hw
   refine ⟨.inr rfl, fun i hi hi2 => ?_, fun h => absurd rfl h, fun _ => rfl⟩
   match i, hi with
   | 0, _ => exact ⟨hc, hty rfl⟩
  ·cases hw
theorem B44 {l : Int} (h1 : 1 ≤ l) (h2 : l ≤ 99) : A1n l = true := by
 unfold A1n
 rw [A6U.2 ⟨h1, h2⟩]; rfl
theorem B45 {u : Tm} {a b : Ty} {l D : Int} (hu : I9 40 13 u (D + 1) = true) (hc : J6 a b = true) (ha : E4 a = true) (hb : E4 b = true) (h1 : 1 ≤ l) (h2 : l ≤ 99) (hD : D ≤ 40) : I9 40 13 (R4 u a b l) D = true := by
 unfold R4
 rw [A19 hD (by decide) (R7.2 ⟨rfl, by simp, fun _ => rfl, by simp, fun _ => rfl, fun _ => hb, by simp, fun _ => ⟨by simp [A16, ha, hb, hc], B44 h1 h2⟩, by simp⟩)]
 simp [F8, hu]
theorem A64 {cx : Cx} : ∀ (us : List Tm) (h w : List Ty) (l D : Int), us.length = h.length → w.length = h.length → (∀ i, (hi : i < w.length) → (hh : i < h.length) → J6 h[i] w[i] = true ∧ E4 w[i] = true) → (∀ a ∈ h, E4 a = true) → Z6 cx us = some h → F8 40 13 us (D + 1) = true → 0 ≤ l → (D9 us h w l).2 ≤ 99 → D ≤ 40 →
  Z6 cx (D9 us h w l).1 = some w ∧ F8 40 13 (D9 us h w l).1 D = true ∧ (D2 (D9 us h w l).1 : Int) = D2 us + ((D9 us h w l).2 - l)
 | [], [], [], l, D, _, _, _, _, ht, _, _, _, _ => by simp [D9, Z6, F8, D2]
 | [], a :: h, w, l, D, hl, _, _, _, _, _, _, _, _ => by simp at hl
 | u :: us, [], w, l, D, hl, _, _, _, _, _, _, _, _ => by simp at hl
 | [], [], b :: w, l, D, _, hl, _, _, _, _, _, _, _ => by simp at hl
 | u :: us, a :: h, [], l, D, _, hl, _, _, _, _, _, _, _ => by simp at hl
 | u :: us, a :: h, b :: w, l, D, h1, h2, hw, hv, ht, hs, hl, h99, hD => by
  rw [Z6] at ht
  split at ht
  ·cases ht
  ·rename_i a' ha
   split at ht
   ·cases ht
   ·rename_i h' hh'
    simp only [Option.some.injEq, List.cons.injEq] at ht
    obtain ⟨rfl, rfl⟩ := ht
    rw [F8, Bool.and_eq_true] at hs
    obtain ⟨c1, c2⟩ := hw 0 (by simp) (by simp)
    have hw' : ∀ i, (hi : i < w.length) → (hh : i < h'.length) → J6 h'[i] w[i] = true ∧ E4 w[i] = true := fun i hi hh => hw (i + 1) (by simpa using hi) (by simpa using hh)
    have hv' : ∀ x ∈ h', E4 x = true := fun x hx => hv x (List.mem_cons_of_mem _ hx)
    simp only [D9] at h99 ⊢
    by_cases he : Q2 a' b = true
    ·simp only [if_pos he] at h99 ⊢
     obtain ⟨i1, i2, i3⟩ := A64 us h' w l D (by simpa using h1) (by simpa using h2) hw' hv' hh' hs.2 hl h99 hD
     have hab := (A2I _ _).1 he
     subst hab
     refine ⟨by rw [Z6, ha, i1], ?_, ?_⟩
     ·rw [F8, Bool.and_eq_true]; exact ⟨A6E 40 13 u (D + 1) D (by omega) hs.1, i2⟩
     ·simp only [D2]; omega
    ·simp only [if_neg he] at h99 ⊢
     obtain ⟨i1, i2, i3⟩ := A64 us h' w (l + 1) D (by simpa using h1) (by simpa using h2) hw' hv' hh' hs.2 (by omega) h99 hD
     have hlab := A2f us h' w (l + 1)
     refine ⟨by rw [Z6, R4, B4H ha, i1], ?_, ?_⟩
     ·rw [F8, Bool.and_eq_true]
      exact ⟨B45 hs.1 c1 (hv a' List.mem_cons_self) c2 (by omega) (by omega) hD, i2⟩
     ·simp only [D2, B4q]; omega
def A9T (cx : Cx) (t : Tm) (D l : Int) (u : Tm) (a : Ty) (l' : Int) : Prop := I9 40 13 u D = true ∧ A0W cx u = some a ∧ E4 a = true ∧ l ≤ l' ∧ l' + 1 ≤ l + (C9 t : Int) ∧ (C9 u : Int) ≤ C9 t + (l' - l)
theorem A9U (ks : List Tm) (ih : ∀ t ∈ ks, ∀ (d D : Int) (cx : Cx) (l : Int) (u : Tm) (a : Ty) (l' : Int), I9 12 14 t d = true → Y9 cx → 0 ≤ l → L9 cx t l = some (u, a, l') → l' ≤ 99 → D + 2 * (13 - d) ≤ 41 → A9T cx t D l u a l') :
  ∀ (d D : Int) (cx : Cx) (l : Int) (us : List Tm) (h : List Ty) (l' : Int), F8 12 14 ks d = true → Y9 cx → 0 ≤ l → L6 cx ks l = some (us, h, l') → l' ≤ 99 → D + 2 * (13 - d) ≤ 41 →
   F8 40 13 us D = true ∧ Z6 cx us = some h ∧ (∀ a ∈ h, E4 a = true) ∧ l ≤ l' ∧ l' + ks.length ≤ l + (D2 ks : Int) ∧ (D2 us : Int) ≤ D2 ks + (l' - l) ∧ h.length = ks.length ∧ us.length = ks.length := by
 induction ks with
 | nil =>
  intro d D cx l us h l' _ _ _ he _ _
  simp only [L6, Option.some.injEq, Prod.mk.injEq] at he
  obtain ⟨rfl, rfl, rfl⟩ := he
  simp [F8, Z6, D2]
 | cons t ts ihl =>
  intro d D cx l us h l' hs hcx hl he h99 hD
  rw [F8, Bool.and_eq_true] at hs
  rw [L6] at he
  split at he
  ·cases he
  ·rename_i u a l1 h1
   split at he
   ·cases he
   ·rename_i us' h' l2 h2
    simp only [Option.some.injEq, Prod.mk.injEq] at he
    obtain ⟨rfl, rfl, rfl⟩ := he
    have hp := B2t t
    
    have hmono : l1 ≤ l2 := by
     have : ∀ (zs : List Tm) (l : Int) us h l', L6 cx zs l = some (us, h, l') → l ≤ l' := by
      intro zs
      induction zs with
      | nil => intro l us h l' he; simp only [L6, Option.some.injEq, Prod.mk.injEq] at he; omega
      | cons z zs ihz =>
       intro l us h l' he
       rw [L6] at he
       split at he
       ·cases he
       ·rename_i u a l1 hz
        split at he
        ·cases he
        ·rename_i us' h' l2 hzs
         simp only [Option.some.injEq, Prod.mk.injEq] at he
         have := ihz _ _ _ _ hzs
         have := el_mono cx z l _ _ _ hz
         omega
     exact this ts l1 us' h' l2 h2
    obtain ⟨a1, a2, a3, a4, a5, a6⟩ := ih t List.mem_cons_self d D cx l u a l1 hs.1 hcx hl h1 (by omega) hD
    obtain ⟨b1, b2, b3, b4, b5, b6, b7, b8⟩ := ihl (fun x hx => ih x (List.mem_cons_of_mem _ hx)) d D cx l1 us' h' l2 hs.2 hcx (by omega) h2 h99 hD
    refine ⟨by rw [F8, a1, b1]; rfl, by rw [Z6, a2, b2], ?_, by omega, ?_, ?_, by simp [b7], by simp [b8]⟩
    ·intro x hx
     rcases List.mem_cons.1 hx with h | h
     ·rw [h]; exact a3
     ·exact b3 x h
    ·simp only [D2, List.length_cons]; omega
    ·simp only [D2]; omega
where
 el_mono (cx : Cx) : ∀ (z : Tm) (l : Int) (u : Tm) (a : Ty) (l' : Int), L9 cx z l = some (u, a, l') → l ≤ l' := by
  intro z
  revert cx
  refine Tm.ind (C := fun z => ∀ (cx : Cx) (l : Int) (u : Tm) (a : Ty) (l' : Int), L9 cx z l = some (u, a, l') → l ≤ l') ?_ z
  intro k nm num ty fr lb ks ih cx l u a l' he
  rw [L9] at he
  have hL : ∀ (zs : List Tm), (∀ t ∈ zs, t ∈ ks) → ∀ (cx : Cx) (l : Int) us h l', L6 cx zs l = some (us, h, l') → l ≤ l' := by
   intro zs
   induction zs with
   | nil => intro _ cx l us h l' he; simp only [L6, Option.some.injEq, Prod.mk.injEq] at he; omega
   | cons z zs ihz =>
    intro hin cx l us h l' he
    rw [L6] at he
    split at he
    ·cases he
    ·rename_i u a l1 hz
     split at he
     ·cases he
     ·rename_i us' h' l2 hzs
      simp only [Option.some.injEq, Prod.mk.injEq] at he
      have := ihz (fun t ht => hin t (List.mem_cons_of_mem _ ht)) _ _ _ _ _ hzs
      have := ih z (hin z List.mem_cons_self) _ l _ _ _ hz
      omega
  split at he
  ·cases he
  ·rename_i us h l1 hk
   have h1 := hL ks (fun _ h => h) _ _ _ _ _ hk
   unfold Q6 at he
   split at he
   ·cases he
   ·rename_i w t hn
    simp only [Option.some.injEq, Prod.mk.injEq] at he
    have := A2f us h w l1
    omega
theorem B46 : ∀ (t : Tm) (d D : Int) (cx : Cx) (l : Int) (u : Tm) (a : Ty) (l' : Int), I9 12 14 t d = true → Y9 cx → 0 ≤ l → L9 cx t l = some (u, a, l') → l' ≤ 99 → D + 2 * (13 - d) ≤ 41 → A9T cx t D l u a l' := by
 refine Tm.ind fun k nm num ty fr lb ks ih d D cx l u a l' hs hcx hl he h99 hD => ?_
 obtain ⟨hd, h14, h3, h4⟩ := R8 hs
 obtain ⟨n1, n2, n3, n4, n5, n6, n7, n8, n9⟩ := R7.1 h3
 rw [L9] at he
 split at he
 ·cases he
 ·rename_i us h l1 hL
  unfold Q6 at he
  split at he
  ·cases he
  ·rename_i w t hN
   simp only [Option.some.injEq, Prod.mk.injEq] at he
   obtain ⟨hu, rfl, rfl⟩ := he
   have hlab := A2f us h w l1
   obtain ⟨b1, b2, b3, b4, b5, b6, b7, b8⟩ := A9U ks ih (d + 1) (D + 2) (O8 cx k nm ty) l us h l1 h4 (A4c hcx fun hk => n6 (.inl hk)) hl hL (by omega) (by omega)
   obtain ⟨hv, hw⟩ := A9w hN
   have hwt := A9S b3 (fun hk => n6 (.inr (.inl hk))) (by rw [b7]; exact n1) h14 hw
   
   obtain ⟨c1, c2, c3⟩ : Z6 (O8 cx k nm ty) (D9 us h w l1).1 = some (if w = [] then h else w) ∧ F8 40 13 (D9 us h w l1).1 (D + 1) = true ∧ (D2 (D9 us h w l1).1 : Int) = D2 us + ((D9 us h w l1).2 - l1) := by
    rcases hwt.len with hn | hn
    ·subst hn
     rw [Z0, if_pos rfl]
     refine ⟨b2, ?_, by simp⟩
     exact A40 40 13 us (D + 2) (D + 1) (by omega) b1
    ·by_cases hn0 : w = []
     ·subst hn0
      rw [Z0, if_pos rfl]
      refine ⟨b2, ?_, by simp⟩
      exact A40 40 13 us (D + 2) (D + 1) (by omega) b1
     ·rw [if_neg hn0]
      exact A64 us h w l1 (D + 1) (by omega) hn hwt.ok b3 b2 (by rw [show D + 1 + 1 = D + 2 by omega]; exact b1) (by omega) h99 (by omega)
   have hlm := A3j us h w l1
   have hck : C9 (.mk k nm num ty fr lb ks) = D2 ks + 1 := A37 ..
   refine ⟨?_, ?_, hv, by omega, by rw [hck]; omega, ?_⟩
   ·rw [← hu]
    split
    ·rename_i hk
     have hl1 : ks.length = 1 := by rw [hk] at n1; have : D5 13 = 1 := rfl; omega
     have h0 : 0 < (D9 us h w l1).1.length := by omega
     rw [getD0' h0]
     have := (A0U 40 13 _ _).1 c2 0 h0
     exact A6E 40 13 _ (D + 1) D (by omega) this
    ·rename_i hk
     rw [A19 (by omega) hk (by rw [hlm, b8]; exact h3)]
     exact c2
   ·rw [← hu]
    split
    ·rename_i hk
     have hl1 : ks.length = 1 := by rw [hk] at n1; have : D5 13 = 1 := rfl; omega
     have h0 : 0 < (D9 us h w l1).1.length := by omega
     rw [getD0' h0]
     rw [hwt.asT hk, if_neg (by simp)] at c1
     rw [O8, if_neg (by omega)] at c1
     rw [← hwt.asT hk] at c1
     obtain ⟨x, hx⟩ : ∃ x, (D9 us h w l1).1 = [x] := by
      match hm : (D9 us h w l1).1, (show (D9 us h w l1).1.length = 1 by omega) with
      | [x], _ => exact ⟨x, rfl⟩
     simp only [hx, List.getElem_cons_zero] at c1 ⊢
     obtain ⟨y, hy, he⟩ := B4E c1
     rw [hwt.asT hk] at he
     cases he; exact hy
    ·rename_i hk
     refine B4D c1 h14 hv (hwt.again hk) ?_
     by_cases hn0 : w = []
     ·rw [hn0]; rfl
     ·rw [if_neg hn0]; exact A9D w
   ·rw [← hu, hck]
    split
    ·rename_i hk
     have hl1 : ks.length = 1 := by rw [hk] at n1; have : D5 13 = 1 := rfl; omega
     have h0 : 0 < (D9 us h w l1).1.length := by omega
     rw [getD0' h0]
     have := A8g (List.getElem_mem h0)
     omega
    ·rw [A37]; omega
where
 getD0' {us : List Tm} (h : 0 < us.length) : us.getD 0 I2 = us[0] := by rw [List.getD_eq_getElem?_getD, List.getElem?_eq_getElem h, Option.getD_some]
theorem B47 : ∀ (t : Tm) (d : Int) (cx : Cx) (l : Int) (u : Tm) (a : Ty) (l' : Int), I9 12 14 t d = true → L9 cx t l = some (u, a, l') → l' + 1 ≤ l + (C9 t : Int) := by
 refine Tm.ind fun k nm num ty fr lb ks ih d cx l u a l' hs he => ?_
 obtain ⟨hd, h14, h3, h4⟩ := R8 hs
 obtain ⟨n1, _⟩ := R7.1 h3
 have hL : ∀ (zs : List Tm), (∀ t ∈ zs, t ∈ ks) → F8 12 14 zs (d + 1) = true → ∀ (cx : Cx) (l : Int) us h l', L6 cx zs l = some (us, h, l') → l' + zs.length ≤ l + (D2 zs : Int) ∧ us.length = zs.length := by
  intro zs
  induction zs with
  | nil => intro _ _ cx l us h l' he; simp only [L6, Option.some.injEq, Prod.mk.injEq] at he; obtain ⟨rfl, _, rfl⟩ := he; simp [D2]
  | cons z zs ihz =>
   intro hin hsz cx l us h l' he
   rw [F8, Bool.and_eq_true] at hsz
   rw [L6] at he
   split at he
   ·cases he
   ·rename_i u a l1 hz
    split at he
    ·cases he
    ·rename_i us' h' l2 hzs
     simp only [Option.some.injEq, Prod.mk.injEq] at he
     obtain ⟨rfl, rfl, rfl⟩ := he
     have h5 := ihz (fun t ht => hin t (List.mem_cons_of_mem _ ht)) hsz.2 _ _ _ _ _ hzs
     have h6 := ih z (hin z List.mem_cons_self) (d + 1) _ l _ _ _ hsz.1 hz
     simp only [D2, List.length_cons]
     exact ⟨by omega, by omega⟩
 rw [L9] at he
 split at he
 ·cases he
 ·rename_i us h l1 hk
  obtain ⟨g1, g2⟩ := hL ks (fun _ h => h) h4 _ _ _ _ _ hk
  unfold Q6 at he
  split at he
  ·cases he
  ·rename_i w t hn
   simp only [Option.some.injEq, Prod.mk.injEq] at he
   have := A2f us h w l1
   have hck : C9 (.mk k nm num ty fr lb ks) = D2 ks + 1 := A37 ..
   rw [hck]; omega
theorem A9V {e u : Tm} {t : Ty} (h : X6 e = some (u, t)) : W4 u = true ∧ A0W [] u = some t ∧ E4 t = true := by
 unfold X6 at h
 split at h
 ·rename_i hv
  obtain ⟨h1, h2⟩ := (A0b e).1 hv
  split at h
  ·rename_i u' t' l' he
   cases h
   have hl : l' ≤ 99 := by
    have := A9U.el_mono [] e 0 _ _ _ he
    have h3 : ∀ (t : Tm) (cx : Cx) (l : Int) (u : Tm) (a : Ty) (l' : Int), L9 cx t l = some (u, a, l') → l' ≤ l + 4 * (C9 t : Int) → True := fun _ _ _ _ _ _ _ _ => trivial
    exact el_lab e 1 h1 (by omega) he
   obtain ⟨g1, g2, g3, g4, g5, g6⟩ := B46 e 1 1 [] 0 u t l' h1 A4b (by omega) he hl (by omega)
   exact ⟨(A4O u).2 ⟨g1, by omega⟩, g2, g3⟩
  ·cases h
 ·cases h
where
 el_lab (e : Tm) (d : Int) (h1 : I9 12 14 e d = true) (h2 : C9 e ≤ 30) {u : Tm} {t : Ty} {l' : Int} (he : L9 [] e 0 = some (u, t, l')) : l' ≤ 99 := by
  have := B47 e d [] 0 u t l' h1 he
  omega
def A5m (k : Int) : Bool := decide (k = 5 ∨ k = 13)
theorem B48 (t : Tm) (G : IM) (cells : List Value) (hr : B5 G t cells) : Fn Tryz.prog 137 [.agg ⟨cells⟩] [] G (J1 (.bool (A5m t.k)) G) := by
 obtain ⟨k, nm, num, ⟨tk, tks⟩, ⟨fk, fks⟩, lb, ks⟩ := t
 obtain ⟨pt, ct, pf, cf, p, c, es, rfl, hk, hnum, hlb, hty, hfr, hsl, hkl⟩ := hr.open9
 refine B6 Tryz.func137 rfl Tryz.ntmps137 Tryz.results137 rfl ?_
 intro w0
 refine tS (tR ?_)
 refine sE (E2 rfl rfl) rfl (fun b3 => ?_)
 refine C5 ?_
 refine sB (qE rfl rfl) rfl rfl (fun h11 => ?_) (fun h11 => ?_)
 refine H9 ?_
 exact ⟨rfl, by (show _ = Value.bool (decide (k = 5 ∨ k = 13)); first | rw [decide_eq_true (by omega)] | rw [decide_eq_false (by omega)]), rfl⟩
 refine M3 ?_
 refine sB (qE rfl rfl) rfl rfl (fun h26 => ?_) (fun h26 => ?_)
 refine N6 ?_
 exact ⟨rfl, by (show _ = Value.bool (decide (k = 5 ∨ k = 13)); first | rw [decide_eq_true (by omega)] | rw [decide_eq_false (by omega)]), rfl⟩
 refine N6 ?_
 exact ⟨rfl, by (show _ = Value.bool (decide (k = 5 ∨ k = 13)); first | rw [decide_eq_true (by omega)] | rw [decide_eq_false (by omega)]), rfl⟩
def A9W : ByteArray := ⟨⟨[112, 97, 105, 114]⟩⟩
def A9X : ByteArray := ⟨⟨[102, 117, 110, 99, 116, 105, 111, 110]⟩⟩
def txT : ByteArray := ⟨⟨[84]⟩⟩
def txF : ByteArray := ⟨⟨[70]⟩⟩
def A9Y (n : Int) : ByteArray := ⟨(Lib.decDigits n.toNat).toArray⟩
def B49 (k num : Int) : ByteArray := if k = 2 then A9Y num else if k = 3 then txT else txF
mutual
def A4g : Tm → ByteArray
 | .mk k nm num ty fr lb ks => if k = 10 ∨ (prx (.mk k nm num ty fr lb []) = true ∧ ty.k = 5) then A9W else if k = 5 ∨ prx (.mk k nm num ty fr lb []) = true then A9X else if k = 14 then B5a ks else B49 k num
def B5a : List Tm → ByteArray
 | [] => ⟨⟨[]⟩⟩
 | t :: _ => A4g t
end
section
variable {k : Int} {nm : ByteArray} {num : Int} {ty fr : Ty} {lb : Int} {ks : List Tm}
end
section fin
variable {P : Program} {Γ : I3} {env : J0} {hp : List A1} {G : IM}
theorem A2Q {r r2 r3 : ResultVar} {post : IM → Value → List A1 → Prop} {v v2 v3 : Value} {outs : List A1} (h : W8 P Γ ⟨env, hp, G⟩ r v) (h2 : W8 P Γ ⟨env, hp, G⟩ r2 v2) (h3 : W8 P Γ ⟨env, hp, G⟩ r3 v3) (ho : A0 hp outs) (hk : post G (.tuple ⟨[v, v2, v3]⟩) outs) :
  A0f P Γ [r, r2, r3] post .ret ⟨env, hp, G⟩ := A5W (.cons h (.cons h2 (.cons h3 .nil))) ho.spec hk
end fin
def CsP (bx : Nat) (e : Tm) (a b : Ty) (l : Int) : IM → Value → List A1 → Prop := fun G' v outs => ∃ cells, v = .agg ⟨cells⟩ ∧ outs = [.blk bx [.int .i64 (if Q2 a b = true then l else l + 1)]] ∧ B5 G' (if Q2 a b = true then e else R4 e a b (l + 1)) cells
theorem CsP.yes {G : IM} {bx : Nat} {e : Tm} {a b : Ty} {l : Int} {cells : List Value} (h : Q2 a b = true) (hr : B5 G e cells) : CsP bx e a b l G (.agg ⟨cells⟩) [.blk bx [.int .i64 l]] := ⟨cells, rfl, by rw [if_pos h], by rw [if_pos h]; exact hr⟩
theorem CsP.no {G : IM} {bx : Nat} {e : Tm} {a b : Ty} {l : Int} {cells : List Value} (h : Q2 a b = false) (hr : B5 G (R4 e a b (l + 1)) cells) : CsP bx e a b l G (.agg ⟨cells⟩) [.blk bx [.int .i64 (l + 1)]] := ⟨cells, rfl, by rw [if_neg (by rw [h]; decide)], by rw [if_neg (by rw [h]; decide)]; exact hr⟩
theorem B5b (bx : Nat) (e : Tm) (a b : Ty) (l : Int) (G : IM) (ce ca cb : List Value) (hl : -1000000000000 ≤ l ∧ l ≤ 1000000000000) (hre : B5 G e ce) (hra : A8 G a ca) (hrb : A8 G b cb) :
  Fn Tryz.prog 204 [.pointer (some ⟨bx, 0, none⟩), .agg ⟨ce⟩, .agg ⟨ca⟩, .agg ⟨cb⟩] [.blk bx [.int .i64 l]] G (CsP bx e a b l) := by
 have hel := hre.len
 have heo := hre.one
 have hS := B4s a b G ca cb hra hrb
 obtain ⟨v1, v2, v3, v4, v5, v6, v7, v8, v9, rfl⟩ := nine hel
 obtain ⟨ak, aks⟩ := a
 obtain ⟨bk, bks⟩ := b
 obtain ⟨pa, cca, ea, rfl, hka, _⟩ := hra.open
 obtain ⟨pb, ccb, eb, rfl, hkb, _⟩ := hrb.open
 refine B6 Tryz.func204 rfl Tryz.ntmps204 Tryz.results204 rfl ?_
 intro w0
 refine tS (tR ?_)
 refine sE (E2 rfl rfl) rfl (fun b3 => ?_)
 refine sE (E2 rfl rfl) rfl (fun b4 => ?_)
 refine sE (E2 rfl rfl) rfl (fun b5 => ?_)
 refine sE (B0 rfl) rfl (fun b6 => ?_)
 refine C5 ?_
 refine H8 rfl (hS) rfl rfl (fun h14 => ?_) (fun h14 => ?_)
 refine sD (nS (qT rfl (tS (tR ?_))))
 refine sL (A6 rfl rfl (H0 (by repeat first | exact mH | apply mT)) hel) rfl rfl ?_
 refine sS rfl rfl rfl hel heo rfl ?_ (hu := by exact O5 hel.symm)
 refine sD (nS (tT (rS ?_)))
 refine E3 (outs := [.blk bx [.int .i64 _]]) (rC rfl (A3 rfl rfl)) (A0.cons (by repeat (first | exact Pk.here | apply Pk.there)) A0.nil) ?_
 (exact CsP.yes (by assumption) hre)
 refine sD (nS (cF rfl (tK (nS (tS (tR (sQ (qM rfl) rfl ?_)))))))
 refine sQ (I4 rfl) rfl ?_
 refine sQ (B1 rfl) rfl (sL (D4 rfl rfl) rfl rfl ?_)
 refine sP (H2 rfl rfl (by omega) (by omega)) rfl rfl ?_
 refine sQ (I4 rfl) rfl ?_
 refine sQ (B1 rfl) rfl (I1 ?_)
 refine sD (nS (tS ?_))
 refine D7 D8 rfl ?_
 refine V5 (i := 6) (l' := [ff,ff,ff,ff,ff,ff,tt,ff,ff,ff]) rfl D3 (A6 rfl rfl (H0 (by repeat first | exact mH | apply mT)) hel) rfl (by kernel_rfl) rfl rfl ?_
 refine aL 0 rfl (A3 rfl rfl) rfl ?_
 refine aL 1 rfl (A3 rfl rfl) rfl ?_
 refine aP 2 rfl (qM rfl) rfl ?_
 refine aP 3 rfl (I4 rfl) rfl ?_
 refine aP 4 rfl (B1 rfl) rfl ?_
 refine aL 5 rfl (D4 rfl rfl) rfl ?_
 refine A2 7 ?_
 (refine D6 rfl (B4 rfl rfl rfl (by omega) (by unfold maxLen; omega) rfl) rfl rfl ?_; rintro _ ⟨b55, rfl⟩)
 refine aP 8 rfl (R6 rfl rfl) rfl ?_
 refine A2 9 ?_
 refine H3 rfl ?_
 refine B9 (nS ?_)
 (refine I5 (cs := [v1, v2, v3, v4, v5, v6, v7, v8, v9]) (by repeat (first | exact Pk.here | apply Pk.there)) (fun G2 hle2 hsl2 hno2 => ?_))
 refine tT ?_
 refine E3 (outs := [.blk bx [.int .i64 _]]) (rC rfl (A3 rfl rfl)) (A0.cons (by repeat (first | exact Pk.here | apply Pk.there)) A0.nil) ?_
 (exact CsP.no (by assumption) (B5.put (us := [e]) (es := [[v1, v2, v3, v4, v5, v6, v7, v8, v9]]) ⟨by decide, by decide⟩ ⟨by decide, by decide⟩ ⟨by omega, by omega⟩ (hrb.mono hle2) (hra.mono hle2) rfl (C0.of hsl2 rfl (by intro x hx; obtain rfl := List.mem_singleton.1 hx; rfl) (by intro x hx; obtain rfl := List.mem_singleton.1 hx; exact heo)) (by simp only [F4]; exact ⟨_, _, rfl, hre.mono hle2, rfl⟩)))
def ElP (bx : Nat) (cx : Cx) (e : Tm) (l : Int) : IM → Value → List A1 → Prop := fun G' v outs => ∃ u cu t ct l', v = .tuple ⟨[.agg ⟨cu⟩, .agg ⟨ct⟩, .bool (L9 cx e l).isSome]⟩ ∧ outs = [.blk bx [.int .i64 l']] ∧ B5 G' u cu ∧ A8 G' t ct ∧ l ≤ l' ∧ l' + 1 ≤ l + (C9 e : Int) ∧ ∀ r, L9 cx e l = some r → r = (u, t, l')
theorem ElP.no {G : IM} {bx : Nat} {cx : Cx} {e : Tm} {l l' : Int} {u : Tm} {t : Ty} {cu ct : List Value} (h : L9 cx e l = none) (hu : B5 G u cu) (ht : A8 G t ct) (h1 : l ≤ l') (h2 : l' + 1 ≤ l + (C9 e : Int)) : ElP bx cx e l G (.tuple ⟨[.agg ⟨cu⟩, .agg ⟨ct⟩, .bool false]⟩) [.blk bx [.int .i64 l']] :=
 ⟨u, cu, t, ct, l', by rw [h]; rfl, rfl, hu, ht, h1, h2, fun r hr => by rw [h] at hr; cases hr⟩
theorem ElP.yes {G : IM} {bx : Nat} {cx : Cx} {e : Tm} {l l' : Int} {u : Tm} {t : Ty} {cu ct : List Value} (h : L9 cx e l = some (u, t, l')) (hu : B5 G u cu) (ht : A8 G t ct) (h1 : l ≤ l') (h2 : l' + 1 ≤ l + (C9 e : Int)) : ElP bx cx e l G (.tuple ⟨[.agg ⟨cu⟩, .agg ⟨ct⟩, .bool true]⟩) [.blk bx [.int .i64 l']] :=
 ⟨u, cu, t, ct, l', by rw [h]; rfl, rfl, hu, ht, h1, h2, fun r hr => by rw [h] at hr; cases hr; rfl⟩
section
variable {cx : Cx} {k : Int} {nm : ByteArray} {num : Int} {ty fr : Ty} {lb : Int} {ks us : List Tm} {h : List Ty} {l l' : Int}
theorem B5c (hL : L6 (O8 cx k nm ty) ks l = none) : L9 cx (.mk k nm num ty fr lb ks) l = none := by rw [L9, hL]
theorem A65 (hL : L6 (O8 cx k nm ty) ks l = some (us, h, l')) (hn : A0c cx k nm ty h = none) : L9 cx (.mk k nm num ty fr lb ks) l = none := by rw [L9, hL]; simp only [Q6, hn]
theorem B5d {w : List Ty} {t : Ty} (hL : L6 (O8 cx k nm ty) ks l = some (us, h, l')) (hn : A0c cx k nm ty h = some (w, t)) (hk : k = 13) : L9 cx (.mk k nm num ty fr lb ks) l = some ((D9 us h w l').1.getD 0 I2, t, (D9 us h w l').2) := by
 rw [L9, hL]; simp only [Q6, hn, if_pos hk]
theorem A9Z {w : List Ty} {t : Ty} (hL : L6 (O8 cx k nm ty) ks l = some (us, h, l')) (hn : A0c cx k nm ty h = some (w, t)) (hk : k ≠ 13) : L9 cx (.mk k nm num ty fr lb ks) l = some (.mk k nm num ty fr lb (D9 us h w l').1, t, (D9 us h w l').2) := by
 rw [L9, hL]; simp only [Q6, hn, if_neg hk]
end
theorem A5n {t : Ty} (h : E4 t = true) : E5 t := (A47 h).1
theorem B5e {us : List Tm} (h : 0 < us.length) : us.getD 0 I2 = us[0] := by rw [List.getD_eq_getElem?_getD, List.getElem?_eq_getElem h, Option.getD_some]
theorem B5f (bx : Nat) : ∀ (e : Tm) (d : Int) (cx : Cx) (l0 : Int) (G : IM) (pc : Option Addr) (nc cc : Nat) (cells : List Value), I9 12 14 e d = true → (nc : Int) ≤ d → Y9 cx → U4 G cx pc nc cc → B5 G e cells → 0 ≤ l0 → l0 + (C9 e : Int) ≤ 1000000000 →
  Fn Tryz.prog 183 [.pointer (some ⟨bx, 0, none⟩), .slice pc nc cc, .agg ⟨cells⟩] [.blk bx [.int .i64 l0]] G (ElP bx cx e l0) := by
 refine Tm.ind fun k nm num ty fr lb ks ih d cx l0 G pc nc cc cells hv hnd hcv hx hr hl0 hlc => ?_
 have hr0 := hr
 have hone := hr.one
 obtain ⟨hv1, hv2, hv3, hv4⟩ := R8 hv
 have hvk := (A0U 12 14 ks _).1 hv4
 have har := (R7.1 hv3).1
 have hop := A46 har
 obtain ⟨hta, hts⟩ := A6N hv3
 have hkr : 1 ≤ k ∧ k ≤ 14 := A63 (by rw [har]; omega)
 have hcvX : Y9 (O8 cx k nm ty) := A4c hcv fun hk => (R7.1 hv3).2.2.2.2.2.1 (.inl hk)
 have hck : C9 (.mk k nm num ty fr lb ks) = D2 ks + 1 := A37 ..
 rw [hck] at hlc
 obtain ⟨tk, tks⟩ := ty
 obtain ⟨fk, fks⟩ := fr
 obtain ⟨pt, ct, pf, cf, q, cq, es, rfl, hk, hnum, hlb, hty, hfr, hsl, hkl⟩ := hr.open9
 have hlen : ks.length ≤ 3 := by have := A32 k; omega
 obtain ⟨hx1, esx, hx2, hx3⟩ := id hx
 have hcl := B4y G pc nc cc esx hx2 (by omega)
 have hcnt0 := A8h ks
 refine B6 Tryz.func183 rfl Tryz.ntmps183 Tryz.results183 rfl ?_
 intro w0
 refine tS (tR ?_)
 refine sE (E2 rfl rfl) rfl (fun b3 => ?_)
 refine sE (B0 rfl) rfl (fun b4 => ?_)
 refine sE (B0 rfl) rfl (fun b5 => ?_)
 refine H9 ?_
 (show H5 _ _ (.seq (.region 2 _ _) (.cond (.tmp 25) _ _)) _ _; refine A0n (fun (x : Option Addr × Nat × Nat × IM) => ⟨[(9, .slice x.1 x.2.1 x.2.2.1), (1, .slice pc nc cc), (0, .pointer (some ⟨bx, 0, none⟩)), (5, .pointer (some ⟨b3, 0, none⟩)), (6, .pointer (some ⟨b4, 0, none⟩)), (7, .pointer (some ⟨b5, 0, none⟩))], [.blk b5 [.int .i64 0, .slice none 0 0], .blk b4 [.int .i64 0, .string ⟨⟨[]⟩⟩, .int .i64 0, .int .i64 0, .slice none 0 0, .int .i64 0, .slice none 0 0, .int .i64 0, .slice none 0 0], .blk b3 [.int .i64 k, .string nm, .int .i64 num, .int .i64 tk, .slice pt tks.length ct, .int .i64 fk, .slice pf fks.length cf, .int .i64 lb, .slice q ks.length cq], .blk bx [.int .i64 l0]], x.2.2.2⟩) (fun x => A7 G x.2.2.2 ∧ U4 x.2.2.2 (O8 cx k nm (.mk tk tks)) x.1 x.2.1 x.2.2.1 ∧ x.2.1 ≤ nc + 1) ?_ ?_)
 ·refine tS (tR (sQ (B1 rfl) rfl (sL (D4 rfl rfl) rfl rfl ?_)))
  refine sB (qE rfl rfl) rfl rfl (fun h21 => ?_) (fun h21 => ?_)
  ·refine sD (nS (qT rfl ?_))
   refine D7 D8 rfl ?_
   refine H4 (i := 0) (l' := [tt,ff,ff,ff,ff,ff,ff,ff,ff,ff]) rfl D3 (qM rfl) rfl (by kernel_rfl) rfl rfl ?_
   refine aP 2 rfl (B1 rfl) rfl ?_
   refine aL 3 rfl (D4 rfl rfl) rfl ?_
   refine aP 4 rfl (B1 rfl) rfl ?_
   refine aL 5 rfl (A3 rfl rfl) rfl ?_
   refine aP 6 rfl (R6 rfl rfl) rfl ?_
   refine U7 (j := 1) (j' := 7) (by kernel_rfl) ?_ ?_
   ·(refine A4B rfl rfl hcl rfl rfl rfl (fun v33 G33 outs33 hle33 h33 => ?_); obtain ⟨hG, p1, c1, rfl, rfl⟩ := h33; replace hG := hG.symm; subst hG)
    replace hr := hr.mono hle33
    replace hr0 := hr0.mono hle33
    replace hty := hty.mono hle33
    replace hfr := hfr.mono hle33
    replace hsl := hsl.mono hle33
    replace hkl := hkl.mono hle33
    replace hx2 := hx2.mono hle33
    refine A2 7 ?_
    (refine D6 rfl (B4 rfl rfl rfl (by omega) (by unfold maxLen; omega) rfl) rfl rfl ?_; rintro _ ⟨b35, rfl⟩)
    refine A2 8 ?_
    (refine Q9 rfl rfl rfl rfl rfl rfl (fun _ _ => by repeat (first | exact Sw.here | apply Sw.there)) (J9 (by repeat first | exact mH | apply mT)) rfl (by simp [Value.oneCell']) (by unfold maxLen; omega) (by omega) rfl rfl (by repeat (first | exact A4.nil | apply A4.dep (by decide +kernel) | apply A4.blk (by decide +kernel) (by repeat (first | exact Pk.here | apply Pk.there)) (by repeat first | exact mH | apply mT))) (fun p5 c5 => ?_); refine A23 (cs := esx.flatten ++ [.string nm, .int .i64 tk, .slice pt tks.length ct]) (by repeat (first | exact Pk.here | apply Pk.there)) (fun Gf hleF hslF hnoF => ?_); have hxF := U4.snoc (nm := nm) (t := .mk tk tks) hx1 hx2.len hx2.all hx2.one hx3 hleF ⟨_, _, rfl, hty.mono hleF⟩ hslF)
    refine aP 9 rfl (qA rfl) rfl ?_
    refine B9 ?_
    refine P6 (p5, nc + 1, c5, Gf) (M4 (by repeat (first | exact C8.nil | refine C8.cons rfl ?_)) (by repeat (first | exact A0.refl | exact A0.nil | refine A0.cons (by repeat (first | exact Pk.here | apply Pk.there)) ?_ | apply A0.drop))) ⟨hleF, by (dsimp only; rw [O8, if_pos (by omega)]; exact hxF), by (dsimp only; omega)⟩
   ·(refine D6 rfl (B4 rfl rfl rfl (by omega) (by unfold maxLen; omega) rfl) rfl rfl ?_; rintro _ ⟨b41, rfl⟩)
    refine A2 1 ?_
    (refine A4B rfl rfl hcl rfl rfl rfl (fun v43 G43 outs43 hle43 h43 => ?_); obtain ⟨hG, p1, c1, rfl, rfl⟩ := h43; replace hG := hG.symm; subst hG)
    replace hr := hr.mono hle43
    replace hr0 := hr0.mono hle43
    replace hty := hty.mono hle43
    replace hfr := hfr.mono hle43
    replace hsl := hsl.mono hle43
    replace hkl := hkl.mono hle43
    replace hx2 := hx2.mono hle43
    refine A2 8 ?_
    (refine Q9 rfl rfl rfl rfl rfl rfl (fun _ _ => by repeat (first | exact Sw.here | apply Sw.there)) (J9 (by repeat first | exact mH | apply mT)) rfl (by simp [Value.oneCell']) (by unfold maxLen; omega) (by omega) rfl rfl (by repeat (first | exact A4.nil | apply A4.dep (by decide +kernel) | apply A4.blk (by decide +kernel) (by repeat (first | exact Pk.here | apply Pk.there)) (by repeat first | exact mH | apply mT))) (fun p5 c5 => ?_); refine A23 (cs := esx.flatten ++ [.string nm, .int .i64 tk, .slice pt tks.length ct]) (by repeat (first | exact Pk.here | apply Pk.there)) (fun Gf hleF hslF hnoF => ?_); have hxF := U4.snoc (nm := nm) (t := .mk tk tks) hx1 hx2.len hx2.all hx2.one hx3 hleF ⟨_, _, rfl, hty.mono hleF⟩ hslF)
    refine aP 9 rfl (qA rfl) rfl ?_
    refine B9 ?_
    refine P6 (p5, nc + 1, c5, Gf) (M4 (by repeat (first | exact C8.nil | refine C8.cons rfl ?_)) (by repeat (first | exact A0.refl | exact A0.nil | refine A0.cons (by repeat (first | exact Pk.here | apply Pk.there)) ?_ | apply A0.drop))) ⟨hleF, by (dsimp only; rw [O8, if_pos (by omega)]; exact hxF), by (dsimp only; omega)⟩
  ·refine sD (nS (cF rfl (tK ?_)))
   refine P6 (pc, nc, cc, G) (M4 (by repeat (first | exact C8.nil | refine C8.cons rfl ?_)) (by repeat (first | exact A0.refl | exact A0.nil | refine A0.cons (by repeat (first | exact Pk.here | apply Pk.there)) ?_ | apply A0.drop))) ⟨A7.refl _, by (dsimp only; rw [O8, if_neg (by omega)]; exact hx), by (dsimp only; omega)⟩
 ·(rintro ⟨p6, n6, c6, Gx⟩ ⟨hleX, hxX, hn6⟩; simp only [] at hleX hxX hn6 ⊢; replace hsl := hsl.mono hleX; replace hkl := hkl.mono hleX; replace hx := hx.mono hleX; replace hr0 := hr0.mono hleX; replace hty := hty.mono hleX; replace hfr := hfr.mono hleX)
  refine tS (tR (sL (A3 rfl rfl) rfl rfl ?_))
  refine sE (B0 rfl) rfl (fun b58 => ?_)
  refine A2y ?_
  refine B2 ?_
  (refine W9 28 9 ?_; refine W9 25 2 ?_; refine J8 (fun (x : Nat × (Option Addr × Nat × List Tm × List (List Value)) × (Option Addr × Nat × List Ty × List (List Value)) × Int × IM) => ⟨[(40, .int .i64 x.1), (39, .int .i64 ks.length), (38, .slice q ks.length cq), (11, .slice x.2.2.1.1 x.1 x.2.2.1.2.1), (9, .slice p6 n6 c6), (1, .slice pc nc cc), (0, .pointer (some ⟨bx, 0, none⟩)), (5, .pointer (some ⟨b3, 0, none⟩)), (6, .pointer (some ⟨b4, 0, none⟩)), (7, .pointer (some ⟨b5, 0, none⟩)), (10, .pointer (some ⟨b58, 0, none⟩))], [.blk b58 [.int .i64 k, .string nm, .int .i64 num, .int .i64 tk, .slice pt tks.length ct, .int .i64 fk, .slice pf fks.length cf, .int .i64 lb, .slice x.2.1.1 x.1 x.2.1.2.1], .slc x.2.1.1 x.2.1.2.1 28 9 x.1 x.2.1.2.2.2.flatten, .slc x.2.2.1.1 x.2.2.1.2.1 25 2 x.1 x.2.2.1.2.2.2.flatten, .blk b5 [.int .i64 0, .slice none 0 0], .blk b4 [.int .i64 0, .string ⟨⟨[]⟩⟩, .int .i64 0, .int .i64 0, .slice none 0 0, .int .i64 0, .slice none 0 0, .int .i64 0, .slice none 0 0], .blk b3 [.int .i64 k, .string nm, .int .i64 num, .int .i64 tk, .slice pt tks.length ct, .int .i64 fk, .slice pf fks.length cf, .int .i64 lb, .slice q ks.length cq], .blk bx [.int .i64 x.2.2.2.1]], x.2.2.2.2⟩) (fun x => x.1 ≤ ks.length ∧ A7 Gx x.2.2.2.2 ∧ x.2.1.2.2.1.length = x.1 ∧ F4 x.2.2.2.2 x.2.1.2.2.1 x.2.1.2.2.2 ∧ x.2.2.1.2.2.1.length = x.1 ∧ C3 x.2.2.2.2 x.2.2.1.2.2.1 x.2.2.1.2.2.2 ∧ (∀ t ∈ x.2.2.1.2.2.1, E5 t) ∧ L6 (O8 cx k nm (.mk tk tks)) (ks.take x.1) l0 = some (x.2.1.2.2.1, x.2.2.1.2.2.1, x.2.2.2.1) ∧ l0 ≤ x.2.2.2.1 ∧ x.2.2.2.1 + x.1 ≤ l0 + (D2 (ks.take x.1) : Int)) (fun x => ks.length - x.1) (0, (none, 0, [], []), (none, 0, [], []), l0, Gx) ?_ ?_ ?_)
  ·(simp only [List.take_zero, Z0]; exact (M4 (by repeat (first | exact C8.nil | refine C8.cons rfl ?_)) (by repeat (first | exact A0.refl | exact A0.nil | refine A0.cons (by repeat (first | exact Pk.here | apply Pk.there)) ?_ | apply A0.drop))))
  ·(exact ⟨by simp, A7.refl _, rfl, by simp [F4], rfl, by simp [C3], by simp, by simp [L6], Int.le_refl _, by simp [D2]⟩)
  ·(rintro ⟨i, ⟨pn, cn, us, es'⟩, ⟨pm, cm, ts, ess⟩, l, Gi⟩ ⟨hi, hle, hlu, hst, hlt, hstt, hat, hml, hl1, hl2⟩; simp only [] at hi hle hlu hst hlt hstt hat hml hl1 hl2 ⊢; replace hty := hty.mono hle; replace hfr := hfr.mono hle; replace hsl := hsl.mono hle; replace hkl := hkl.mono hle; replace hr0 := hr0.mono hle; replace hx := hx.mono hle; replace hxX := hxX.mono hle)
   refine tS (tR ?_)
   refine sB (I7 rfl rfl) rfl rfl (fun h89 => ?_) (fun h89 => ?_)
   ·refine sD (nS (tS (qT rfl (tK (nS (tS ?_))))))
    refine B2 ?_
    refine tS (tR ?_)
    (obtain ⟨b, o, e, rfl, hl, hate, hre, hgb⟩ := hsl.kidTm hkl (i := i) (by omega) (by omega); have hon := hre.one; have hsc := A4J (ks := ks) (i := i) (by omega); have hsk := A4I (ks := ks) (i := i) (by omega); refine sP (B3 rfl rfl rfl (by omega)) rfl rfl ?_)
    refine sL (A6 rfl rfl (hate _) hl) rfl rfl ?_
    refine sE (B0 rfl) rfl (fun b102 => ?_)
    refine sS rfl rfl rfl hl hon rfl ?_ (hu := by exact O5 hl.symm)
    refine sD (nS (tS (tR (sQ (qM rfl) rfl (sQ (qM rfl) rfl ?_)))))
    refine sL (A6 rfl rfl (H0 (by repeat first | exact mH | apply mT)) hl) rfl rfl ?_
    (refine C6 rfl (ih ks[i] (List.getElem_mem (by omega)) (d + 1) _ l Gi p6 n6 c6 _ (hvk i (by omega)) (by omega) hcvX hxX hre (by omega) (by omega)) (Pk.perm (by repeat (first | exact Pk.here | apply Pk.there))) rfl rfl (fun v G3 outs hle3 hh => ?_); obtain ⟨u, uc, t, tc, l3, rfl, rfl, hru, hrt, hl3, hl4, hu⟩ := hh; obtain ⟨v1, v2, v3, v4, v5, v6, v7, v8, v9, rfl⟩ := nine hru.len; obtain ⟨p3, c3, e3, rfl, _⟩ := hrt.open; have hlu9 := hru.len; have hou9 := hru.one; rcases hE : L9 (O8 cx k nm (Ty.mk tk tks)) ks[i] l with _ | ⟨u2, t2, l2⟩; rotate_left; have hue := hu _ hE; simp only [Prod.mk.injEq] at hue; obtain ⟨rfl, rfl, rfl⟩ := hue; rotate_left)
    ·refine K5 ?_
     refine sE (B0 rfl) rfl (fun b116 => ?_)
     refine sE (B0 rfl) rfl (fun b117 => ?_)
     refine sS rfl rfl rfl hlu9 hou9 rfl ?_ (hu := by exact O5 hlu9.symm)
     refine A74 ?_
     refine A2Q (outs := [.blk bx [.int .i64 _]]) (rC rfl (A3 rfl rfl)) (rC rfl (A3 rfl rfl)) (rT rfl) (A0.cons (by repeat (first | exact Pk.here | apply Pk.there)) A0.nil) ?_
     (exact ElP.no (B5c (A9F (by omega) hml hE)) (A5k _) (N8 _ ⟨by omega, by omega⟩) (by omega) (by rw [hck]; omega))
    ·refine K5 ?_
     refine sE (B0 rfl) rfl (fun b153 => ?_)
     refine sE (B0 rfl) rfl (fun b154 => ?_)
     refine sS rfl rfl rfl hlu9 hou9 rfl ?_ (hu := by exact O5 hlu9.symm)
     refine M5 ?_
     refine D7 D8 rfl ?_
     refine H4 (i := 0) (l' := [tt,ff,ff,ff,ff,ff,ff,ff,ff,ff,ff,ff]) rfl D3 (B1 rfl) rfl (by kernel_rfl) rfl rfl ?_
     refine aL 1 rfl (D4 rfl rfl) rfl ?_
     refine aL 2 rfl (A3 rfl rfl) rfl ?_
     refine aP 5 rfl (qM rfl) rfl ?_
     refine aL 6 rfl (A3 rfl rfl) rfl ?_
     refine U7 (j := 3) (j' := 7) (by kernel_rfl) ?_ ?_
     ·(refine D6 rfl (B4 rfl rfl rfl (by omega) (by unfold maxLen; omega) rfl) rfl rfl ?_; rintro _ ⟨b177, rfl⟩)
      refine U7 (j := 4) (j' := 7) (by kernel_rfl) ?_ ?_
      ·(refine Q9 rfl rfl rfl rfl rfl rfl (fun _ _ => by repeat (first | exact Sw.here | apply Sw.there)) (J9 (by repeat first | exact mH | apply mT)) rfl (fun u hu => List.all_eq_true.1 hou9 u hu) (by unfold maxLen; omega) (by omega) rfl rfl (by repeat (first | exact A4.nil | apply A4.dep (by decide +kernel) | apply A4.im (by decide +kernel) (by assumption) (by repeat first | exact mH | apply mT) | apply A4.blk (by decide +kernel) (by repeat (first | exact Pk.here | apply Pk.there)) (by repeat first | exact mH | apply mT) | apply A4.slc (by decide +kernel) (by repeat (first | exact Pk.here | apply Pk.there)) (by repeat first | exact mH | apply mT))) (fun pn' cn' => ?_))
       refine aP 9 rfl (B1 rfl) rfl ?_
       refine A2 7 ?_
       (refine D6 rfl (B4 rfl rfl rfl (by omega) (by unfold maxLen; omega) rfl) rfl rfl ?_; rintro _ ⟨b182, rfl⟩)
       refine A2 8 ?_
       (refine Q9 rfl rfl rfl rfl rfl rfl (fun _ _ => by repeat (first | exact Sw.here | apply Sw.there)) (J9 (by repeat first | exact mH | apply mT)) rfl (by simp [Value.oneCell']) (by unfold maxLen; omega) (by omega) rfl rfl (by repeat (first | exact A4.nil | apply A4.dep (by decide +kernel) | apply A4.im (by decide +kernel) (by assumption) (by repeat first | exact mH | apply mT) | apply A4.blk (by decide +kernel) (by repeat (first | exact Pk.here | apply Pk.there)) (by repeat first | exact mH | apply mT) | apply A4.slc (by decide +kernel) (by repeat (first | exact Pk.here | apply Pk.there)) (by repeat first | exact mH | apply mT))) (fun pm' cm' => ?_))
       refine A2 10 ?_
       refine oS rfl rfl rfl rfl rfl rfl rfl rfl ?_
       refine aP 11 rfl (qA rfl) rfl ?_
       refine B9 (M2 (nS (tR ?_)))
       refine sP (H2 rfl rfl (by omega) (by omega)) rfl rfl ?_
       refine sQ (qM rfl) rfl (sD ?_)
       refine J4 (i + 1, (pn', cn', us ++ [u2], es' ++ [[v1, v2, v3, v4, v5, v6, v7, v8, v9]]), (pm', cm', ts ++ [t2], ess ++ [[.int .i64 t2.k, .slice p3 t2.ks.length c3]]), l2, G3) ?_ ?_ ?_
       ·(simp only [E7]; exact C2)
       ·(dsimp only; exact ⟨by omega, hle.trans hle3, by simp [hlu], F4.snoc (hst.mono hle3) hru, by simp [hlt], C3.snoc (hstt.mono hle3) hrt, A3d hat (A5n ((A4d ks[i] (d + 1) _ l (hvk i (by omega)) hcvX).1 _ _ _ hE).2), A5f (by omega) hml hE, by omega, by omega⟩)
       ·(show ks.length - (i + 1) < ks.length - i; omega)
      ·(refine D6 rfl (B4 rfl rfl rfl (by omega) (by unfold maxLen; omega) rfl) rfl rfl ?_; rintro _ ⟨b199, rfl⟩)
       refine A2 4 ?_
       (refine Q9 rfl rfl rfl rfl rfl rfl (fun _ _ => by repeat (first | exact Sw.here | apply Sw.there)) (J9 (by repeat first | exact mH | apply mT)) rfl (fun u hu => List.all_eq_true.1 hou9 u hu) (by unfold maxLen; omega) (by omega) rfl rfl (by repeat (first | exact A4.nil | apply A4.dep (by decide +kernel) | apply A4.im (by decide +kernel) (by assumption) (by repeat first | exact mH | apply mT) | apply A4.blk (by decide +kernel) (by repeat (first | exact Pk.here | apply Pk.there)) (by repeat first | exact mH | apply mT) | apply A4.slc (by decide +kernel) (by repeat (first | exact Pk.here | apply Pk.there)) (by repeat first | exact mH | apply mT))) (fun pn' cn' => ?_))
       refine aP 9 rfl (B1 rfl) rfl ?_
       refine A2 8 ?_
       (refine Q9 rfl rfl rfl rfl rfl rfl (fun _ _ => by repeat (first | exact Sw.here | apply Sw.there)) (J9 (by repeat first | exact mH | apply mT)) rfl (by simp [Value.oneCell']) (by unfold maxLen; omega) (by omega) rfl rfl (by repeat (first | exact A4.nil | apply A4.dep (by decide +kernel) | apply A4.im (by decide +kernel) (by assumption) (by repeat first | exact mH | apply mT) | apply A4.blk (by decide +kernel) (by repeat (first | exact Pk.here | apply Pk.there)) (by repeat first | exact mH | apply mT) | apply A4.slc (by decide +kernel) (by repeat (first | exact Pk.here | apply Pk.there)) (by repeat first | exact mH | apply mT))) (fun pm' cm' => ?_))
       refine A2 10 ?_
       refine oS rfl rfl rfl rfl rfl rfl rfl rfl ?_
       refine aP 11 rfl (qA rfl) rfl ?_
       refine B9 (M2 (nS (tR ?_)))
       refine sP (H2 rfl rfl (by omega) (by omega)) rfl rfl ?_
       refine sQ (qM rfl) rfl (sD ?_)
       refine J4 (i + 1, (pn', cn', us ++ [u2], es' ++ [[v1, v2, v3, v4, v5, v6, v7, v8, v9]]), (pm', cm', ts ++ [t2], ess ++ [[.int .i64 t2.k, .slice p3 t2.ks.length c3]]), l2, G3) ?_ ?_ ?_
       ·(simp only [E7]; exact C2)
       ·(dsimp only; exact ⟨by omega, hle.trans hle3, by simp [hlu], F4.snoc (hst.mono hle3) hru, by simp [hlt], C3.snoc (hstt.mono hle3) hrt, A3d hat (A5n ((A4d ks[i] (d + 1) _ l (hvk i (by omega)) hcvX).1 _ _ _ hE).2), A5f (by omega) hml hE, by omega, by omega⟩)
       ·(show ks.length - (i + 1) < ks.length - i; omega)
     ·(refine D6 rfl (B4 rfl rfl rfl (by omega) (by unfold maxLen; omega) rfl) rfl rfl ?_; rintro _ ⟨b219, rfl⟩)
      refine A2 3 ?_
      (refine D6 rfl (B4 rfl rfl rfl (by omega) (by unfold maxLen; omega) rfl) rfl rfl ?_; rintro _ ⟨b221, rfl⟩)
      refine A2 4 ?_
      (refine Q9 rfl rfl rfl rfl rfl rfl (fun _ _ => by repeat (first | exact Sw.here | apply Sw.there)) (J9 (by repeat first | exact mH | apply mT)) rfl (fun u hu => List.all_eq_true.1 hou9 u hu) (by unfold maxLen; omega) (by omega) rfl rfl (by repeat (first | exact A4.nil | apply A4.dep (by decide +kernel) | apply A4.im (by decide +kernel) (by assumption) (by repeat first | exact mH | apply mT) | apply A4.blk (by decide +kernel) (by repeat (first | exact Pk.here | apply Pk.there)) (by repeat first | exact mH | apply mT) | apply A4.slc (by decide +kernel) (by repeat (first | exact Pk.here | apply Pk.there)) (by repeat first | exact mH | apply mT))) (fun pn' cn' => ?_))
      refine aP 9 rfl (B1 rfl) rfl ?_
      refine A2 8 ?_
      (refine Q9 rfl rfl rfl rfl rfl rfl (fun _ _ => by repeat (first | exact Sw.here | apply Sw.there)) (J9 (by repeat first | exact mH | apply mT)) rfl (by simp [Value.oneCell']) (by unfold maxLen; omega) (by omega) rfl rfl (by repeat (first | exact A4.nil | apply A4.dep (by decide +kernel) | apply A4.im (by decide +kernel) (by assumption) (by repeat first | exact mH | apply mT) | apply A4.blk (by decide +kernel) (by repeat (first | exact Pk.here | apply Pk.there)) (by repeat first | exact mH | apply mT) | apply A4.slc (by decide +kernel) (by repeat (first | exact Pk.here | apply Pk.there)) (by repeat first | exact mH | apply mT))) (fun pm' cm' => ?_))
      refine A2 10 ?_
      refine oS rfl rfl rfl rfl rfl rfl rfl rfl ?_
      refine aP 11 rfl (qA rfl) rfl ?_
      refine B9 (M2 (nS (tR ?_)))
      refine sP (H2 rfl rfl (by omega) (by omega)) rfl rfl ?_
      refine sQ (qM rfl) rfl (sD ?_)
      refine J4 (i + 1, (pn', cn', us ++ [u2], es' ++ [[v1, v2, v3, v4, v5, v6, v7, v8, v9]]), (pm', cm', ts ++ [t2], ess ++ [[.int .i64 t2.k, .slice p3 t2.ks.length c3]]), l2, G3) ?_ ?_ ?_
      ·(simp only [E7]; exact C2)
      ·(dsimp only; exact ⟨by omega, hle.trans hle3, by simp [hlu], F4.snoc (hst.mono hle3) hru, by simp [hlt], C3.snoc (hstt.mono hle3) hrt, A3d hat (A5n ((A4d ks[i] (d + 1) _ l (hvk i (by omega)) hcvX).1 _ _ _ hE).2), A5f (by omega) hml hE, by omega, by omega⟩)
      ·(show ks.length - (i + 1) < ks.length - i; omega)
   ·refine M5 ?_
    (obtain rfl : i = ks.length := (by omega); have hk14 : k ≠ 14 := hv2; rw [List.take_length] at hml hl2; refine S9 (cs := ess.flatten) (by repeat (first | exact Pk.here | apply Pk.there)) (fun G3 hle3 hsl3 hno3 => ?_); have hst3 := hstt.mono hle3; have hslU : C0 G3 pm ks.length cm 2 ess := C0.of hsl3 (by rw [hst3.len, hlt]) hst3.all (fun e he => (hst3.each e he).2); refine M0 rfl (B4w cx k nm num (.mk tk tks) (.mk fk fks) lb ks ts G3 pc nc cc _ pm ks.length cm ess (hx.mono hle3) har hlt.symm hk14 hta (hr0.mono hle3) hslU hst3 hat) rfl rfl (fun v G4 hle4 hh => ?_); obtain ⟨pw, nw, cw, ew, w, wc, wt, rfl, hnw, hslw, hstw, hrt, hw⟩ := hh; obtain ⟨p3, c3, e3, rfl, _⟩ := hrt.open; replace hst3 := hst3.mono hle4; replace hslU := hslU.mono hle4; have hle34 := hle3.trans hle4; replace hst := hst.mono hle34; replace hty := hty.mono hle34; replace hfr := hfr.mono hle34; rcases hmw : M8 cx k nm (Ty.mk tk tks) ts with _ | ⟨w2, t2⟩; rotate_left; have hwe := hw _ hmw; simp only [Prod.mk.injEq] at hwe; obtain ⟨rfl, rfl⟩ := hwe; have hwl := B4x (by rw [hlt]; exact hop) hkr hk14 hmw; have hcl2 := A2f us ts w2 l; rcases Nat.eq_zero_or_pos ks.length with h0 | h0; rotate_left; rotate_left)
    ·refine K5 ?_
     refine sE (B0 rfl) rfl (fun b260 => ?_)
     refine B19 ?_
     (refine I5 (cs := es'.flatten) (by repeat (first | exact Pk.here | apply Pk.there)) (fun G8 hle8 hsl8 hno8 => ?_); have hst8 := hst.mono hle8)
     refine tT (rS ?_)
     refine A2Q (outs := [.blk bx [.int .i64 _]]) (rC rfl (A3 rfl rfl)) (rC rfl (A3 rfl rfl)) (rT rfl) (A0.cons (by repeat (first | exact Pk.here | apply Pk.there)) A0.nil) ?_
     (exact ElP.no (A65 hml (B4z hmw)) (A5k _) (N8 _ ⟨by omega, by omega⟩) (by omega) (by rw [hck]; omega))
    ·refine K5 ?_
     refine sE (B0 rfl) rfl (fun b297 => ?_)
     refine L4 ?_
     refine H8 rfl ((A3R _ _ _ hrt)) rfl rfl (fun h310 => ?_) (fun h310 => ?_)
     ·refine J5 ?_
      refine B2 ?_
      (have h0' : ks.length = 0 := h0; refine J8 (fun (_ : Nat) => ⟨[(86, .int .i64 0), (85, .int .i64 nw), (84, .slice pw nw cw), (11, .slice pm ks.length cm), (1, .slice pc nc cc), (0, .pointer (some ⟨bx, 0, none⟩)), (5, .pointer (some ⟨b3, 0, none⟩)), (6, .pointer (some ⟨b4, 0, none⟩)), (7, .pointer (some ⟨b5, 0, none⟩)), (10, .pointer (some ⟨b58, 0, none⟩)), (18, .pointer (some ⟨b297, 0, none⟩))], [.blk b297 [.int .i64 t2.k, .slice p3 t2.ks.length c3], .blk b58 [.int .i64 k, .string nm, .int .i64 num, .int .i64 tk, .slice pt tks.length ct, .int .i64 fk, .slice pf fks.length cf, .int .i64 lb, .slice pn ks.length cn], .slc pn cn 28 9 ks.length es'.flatten, .blk b5 [.int .i64 0, .slice none 0 0], .blk b4 [.int .i64 0, .string ⟨⟨[]⟩⟩, .int .i64 0, .int .i64 0, .slice none 0 0, .int .i64 0, .slice none 0 0, .int .i64 0, .slice none 0 0], .blk b3 [.int .i64 k, .string nm, .int .i64 num, .int .i64 tk, .slice pt tks.length ct, .int .i64 fk, .slice pf fks.length cf, .int .i64 lb, .slice q ks.length cq], .blk bx [.int .i64 l]], G4⟩) (fun _ => True) (fun i => i) 0 ?_ ?_ ?_)
      ·exact C2
      ·trivial
      ·(rintro (i0 : Nat) _)
       refine tS (tR ?_)
       refine sP (A14 rfl rfl (by omega)) rfl rfl ?_
       refine M5 ?_
       refine sP (K9 rfl rfl (by omega)) rfl rfl ?_
       refine sD (nS (cF rfl (tK (nS (tS ?_)))))
       refine D7 D8 rfl ?_
       refine V5 (i := 0) (l' := [tt,ff,ff,ff,ff]) rfl D3 (A3 rfl rfl) rfl (by kernel_rfl) rfl rfl ?_
       refine aL 1 rfl (A3 rfl rfl) rfl ?_
       refine A2 2 ?_
       refine oS rfl rfl rfl rfl rfl rfl rfl rfl ?_
       refine A2 3 ?_
       refine oS rfl rfl rfl rfl rfl rfl rfl rfl ?_
       refine aP 4 rfl (qA rfl) rfl ?_
       refine B9 (nS ?_)
       (refine I5 (cs := es'.flatten) (by repeat (first | exact Pk.here | apply Pk.there)) (fun G8 hle8 hsl8 hno8 => ?_); have hst8 := hst.mono hle8)
       refine tT ?_
       refine A2Q (outs := [.blk bx [.int .i64 _]]) (rC rfl (A3 rfl rfl)) (rC rfl (A3 rfl rfl)) (rT rfl) (A0.cons (by repeat (first | exact Pk.here | apply Pk.there)) A0.nil) ?_
       (obtain rfl : w2 = [] := List.length_eq_zero_iff.1 (by omega); have hne : k ≠ 13 := (fun h => by have := hop.2.2 (.inr (.inr (.inr h))); omega); have hel := A9Z (num := num) (fr := .mk fk fks) (lb := lb) hml (A39 hmw (b := true) (by assumption)) hne; rw [Z0] at hel; exact ElP.yes hel (B5.put hk hnum hlb (hty.mono hle8) (hfr.mono hle8) (by rw [hlu]) (C0.of hsl8 (by rw [hst8.len, hlu]) hst8.all (fun e he => (hst8.each e he).2)) hst8) (hrt.mono hle8) (by omega) (by rw [hck]; omega))
     ·refine M5 ?_
      (refine I5 (cs := es'.flatten) (by repeat (first | exact Pk.here | apply Pk.there)) (fun G8 hle8 hsl8 hno8 => ?_); have hst8 := hst.mono hle8)
      refine tT (rS ?_)
      refine A2Q (outs := [.blk bx [.int .i64 _]]) (rC rfl (A3 rfl rfl)) (rC rfl (A3 rfl rfl)) (rT rfl) (A0.cons (by repeat (first | exact Pk.here | apply Pk.there)) A0.nil) ?_
      (exact ElP.no (A65 hml (A39 hmw (b := false) (by assumption))) (A5k _) (N8 _ ⟨by omega, by omega⟩) (by omega) (by rw [hck]; omega))
    ·(refine B3a (cs := es'.flatten) (by repeat (first | exact Pk.here | apply Pk.there)) h0 (fun bc C hpe hnc hcm => ?_); subst hpe; refine sQ (qM rfl) rfl ?_)
     refine M3 ?_
     refine sE (B0 rfl) rfl (fun b392 => ?_)
     refine L4 ?_
     refine H8 rfl ((A3R _ _ _ hrt)) rfl rfl (fun h405 => ?_) (fun h405 => ?_)
     ·refine J5 ?_
      refine B2 ?_
      (have h0' := h0; refine J8 (fun (x : Nat × List (List Value) × IM) => ⟨[(86, .int .i64 x.1), (85, .int .i64 nw), (84, .slice pw nw cw), (11, .slice pm ks.length cm), (1, .slice pc nc cc), (0, .pointer (some ⟨bx, 0, none⟩)), (5, .pointer (some ⟨b3, 0, none⟩)), (6, .pointer (some ⟨b4, 0, none⟩)), (7, .pointer (some ⟨b5, 0, none⟩)), (10, .pointer (some ⟨b58, 0, none⟩)), (18, .pointer (some ⟨b392, 0, none⟩))], [.blk b392 [.int .i64 t2.k, .slice p3 t2.ks.length c3], .blk b58 [.int .i64 k, .string nm, .int .i64 num, .int .i64 tk, .slice pt tks.length ct, .int .i64 fk, .slice pf fks.length cf, .int .i64 lb, .slice (some ⟨bc, 0, none⟩) ks.length cn], .blk bc (x.2.1.flatten ++ C), .blk b5 [.int .i64 0, .slice none 0 0], .blk b4 [.int .i64 0, .string ⟨⟨[]⟩⟩, .int .i64 0, .int .i64 0, .slice none 0 0, .int .i64 0, .slice none 0 0, .int .i64 0, .slice none 0 0], .blk b3 [.int .i64 k, .string nm, .int .i64 num, .int .i64 tk, .slice pt tks.length ct, .int .i64 fk, .slice pf fks.length cf, .int .i64 lb, .slice q ks.length cq], .blk bx [.int .i64 (D9 us ts (w2.take x.1) l).2]], x.2.2⟩) (fun x => x.1 ≤ nw ∧ A7 G4 x.2.2 ∧ F4 x.2.2 (D9 us ts (w2.take x.1) l).1 x.2.1) (fun x => nw - x.1) (0, es', G4) ?_ ?_ ?_)
      ·(simp only [List.take_zero, Z0]; exact (M4 (by repeat (first | exact C8.nil | refine C8.cons rfl ?_)) (by repeat (first | exact A0.refl | exact A0.nil | refine A0.cons (by repeat (first | exact Pk.here | apply Pk.there)) ?_ | apply A0.drop))))
      ·(exact ⟨Nat.zero_le _, A7.refl _, by simp only [List.take_zero, Z0]; exact hst⟩)
      ·(rintro ⟨j, es2, G6⟩ ⟨hj, hle6, hst2⟩; simp only [] at hj hle6 hst2 ⊢; replace hslw := hslw.mono hle6; replace hstw := hstw.mono hle6; replace hslU := hslU.mono hle6; replace hst3 := hst3.mono hle6; replace hty := hty.mono hle6; replace hfr := hfr.mono hle6; replace hrt := hrt.mono hle6; have hall2 := hst2.all; have hle2s := hst2.len; rw [A3j] at hle2s)
       refine tS (tR ?_)
       refine sB (I7 rfl rfl) rfl rfl (fun h428 => ?_) (fun h428 => ?_)
       ·refine sD (nS (tS (qT rfl (tK (nS (tS ?_))))))
        refine B2 ?_
        refine tS (tR (sQ (qM rfl) rfl ?_))
        (have hjw : j < w2.length := (by omega); obtain ⟨b5w, o5w, q5, d5, hp5, hat, hrw, hgb⟩ := hslw.kidTy hstw (i := j) (by omega) (by omega); cases hp5; refine sP (B3 rfl rfl rfl (by omega)) rfl rfl ?_)
        refine sL (A6 rfl rfl (hat _) rfl) rfl rfl ?_
        refine sE (B0 rfl) rfl (fun b442 => ?_)
        refine sQ (qA rfl) rfl (I1 ?_)
        refine sD (nS ?_)
        (have hjw2 := hjw; obtain ⟨b0, o0, q0, d0, hp0, hat0, hre0, hg0⟩ := hslU.kidTy hst3 (i := j) (by omega) (by omega); cases hp0; obtain ⟨m1, m2, _⟩ := A5g us ts w2 l j hjw (by omega) (by omega); obtain ⟨m3, m4⟩ := B4I (us := us) (h := ts) (w := w2) (l := l) hjw (by omega) (by omega); obtain ⟨hE1, hE2⟩ := hst2.at2 (i := j) (by omega) (by omega); rw [m2] at hE2; have hE3 := hE2.len; have hE4 := hE2.one; have hcj := A2f us ts (w2.take j) l; refine D7 D8 rfl ?_)
        refine H4 (i := 0) (l' := [tt,ff,ff,ff,ff,ff,ff,ff,ff,ff,ff,ff,ff,ff,ff,ff,ff]) rfl D3 (B1 rfl) rfl (by kernel_rfl) rfl rfl ?_
        refine aL 1 rfl (D4 rfl rfl) rfl ?_
        refine aP 2 rfl (qM rfl) rfl ?_
        refine aP 3 rfl (qM rfl) rfl ?_
        refine aP 4 rfl (B1 rfl) rfl ?_
        refine aL 5 rfl (D4 rfl rfl) rfl ?_
        refine aP 6 rfl (qM rfl) rfl ?_
        refine aP 7 rfl (B3 (j := j) rfl rfl rfl (by omega)) rfl ?_
        refine aL 8 rfl (A6 rfl rfl (A9a (es := es2) (by repeat first | exact mH | apply mT) (by omega) hall2) hE3) rfl ?_
        refine aP 9 rfl (qM rfl) rfl ?_
        refine aP 10 rfl (qM rfl) rfl ?_
        refine aP 11 rfl (B3 (j := j) rfl rfl rfl (by omega)) rfl ?_
        refine aL 12 rfl (A6 rfl rfl (hat0 _) rfl) rfl ?_
        refine aL 13 rfl (A3 rfl rfl) rfl ?_
        refine A2 14 ?_
        (refine A0a (l' := [tt,tt,tt,tt,tt,tt,tt,tt,tt,tt,tt,tt,tt,tt,tt,ff,ff]) rfl rfl (B5b bx us[j] ts[j] w2[j] (D9 us ts (w2.take j) l).2 G6 _ _ _ (by omega) hE2 hre0 hrw) (Pk.perm (by repeat (first | exact Pk.here | apply Pk.there))) rfl rfl rfl (by repeat (first | exact A4.nil | apply A4.dep (by decide +kernel) | apply A4.im (by decide +kernel) (by assumption) (by repeat first | exact mH | apply mT) | apply A4.blk (by decide +kernel) (by repeat (first | exact Pk.here | apply Pk.there)) (by repeat first | exact mH | apply mT) | apply A4.slc (by decide +kernel) (by repeat (first | exact Pk.here | apply Pk.there)) (by repeat first | exact mH | apply mT))) (fun v G7 outs hle7 hh => ?_); obtain ⟨uc, rfl, rfl, hru⟩ := hh; rw [← m4]; have hlu9 := hru.len; have hou9 := hru.one)
        refine aP 15 rfl (B3 (j := j) rfl rfl rfl (by omega)) rfl ?_
        refine A2 16 ?_
        refine R2 rfl rfl rfl rfl hlu9 hou9 rfl rfl (by kernel_rfl) (by repeat first | exact Sw.here | apply Sw.there) (by exact B3c (by omega) hall2 hlu9) ?_
        refine B9 (M2 (nS (tR ?_)))
        refine sP (H2 rfl rfl (by omega) (by omega)) rfl rfl ?_
        refine sQ (qM rfl) rfl (sD ?_)
        refine J4 (j + 1, es2.set j uc, G7) ?_ ?_ ?_
        ·(simp only [List.take_zero, Z0]; exact (M4 (by repeat (first | exact C8.nil | refine C8.cons rfl ?_)) (by repeat (first | exact A0.refl | exact A0.nil | refine A0.cons (by repeat (first | exact Pk.here | apply Pk.there)) ?_ | apply A0.drop))))
        ·(dsimp only; exact ⟨by omega, hle6.trans hle7, by rw [m3]; exact F4.set (hst2.mono hle7) hru⟩)
        ·(show nw - (j + 1) < nw - j; omega)
       ·refine M5 ?_
        refine sB (qE rfl rfl) rfl rfl (fun h492 => ?_) (fun h492 => ?_)
        ·refine sD (nS (qT rfl (tS ?_)))
         (have hq13 : k = 13 := (by omega); have hl13 := hop.2.2 (.inr (.inr (.inr hq13))); have hjw : j = w2.length := (by omega); rw [hjw, List.take_length] at hst2; have hm0 := A3j us ts w2 l; obtain ⟨hE1, hE2⟩ := hst2.at2 (i := 0) (by omega) (by omega); have hE3 := hE2.len; have hE4 := hE2.one; refine D7 D8 rfl ?_)
         refine H4 (i := 0) (l' := [tt,ff,ff,ff,ff,ff,ff,ff]) rfl D3 (B1 rfl) rfl (by kernel_rfl) rfl rfl ?_
         refine aL 1 rfl (D4 rfl rfl) rfl ?_
         refine aP 2 rfl (B3 (j := 0) rfl rfl rfl (by omega)) rfl ?_
         refine aL 3 rfl (A6 rfl rfl (A9a (es := es2) (by repeat first | exact mH | apply mT) (by omega) hall2) hE3) rfl ?_
         refine aL 4 rfl (A3 rfl rfl) rfl ?_
         refine A2 5 ?_
         refine oS rfl rfl rfl rfl hE3 hE4 rfl rfl ?_ (hu := by exact O5 hE3.symm)
         refine A2 6 ?_
         refine oS rfl rfl rfl rfl rfl rfl rfl rfl ?_
         refine aP 7 rfl (qA rfl) rfl ?_
         refine B9 (nS ?_)
         (refine A76 (bs := [(bc, es2.flatten ++ C)]) (Pk.perm (by repeat (first | exact Pk.here | apply Pk.there))) (fun hn9 hd9 hle9 => ?_))
         refine tT (rS ?_)
         refine A2Q (outs := [.blk bx [.int .i64 _]]) (rC rfl (A6 rfl rfl (H0 (by repeat first | exact mH | apply mT)) hE3)) (rC rfl (A3 rfl rfl)) (rT rfl) (A0.cons (by repeat (first | exact Pk.here | apply Pk.there)) A0.nil) ?_
         (have hel := B5d (num := num) (fr := .mk fk fks) (lb := lb) hml (A39 hmw (b := true) (by assumption)) hq13; rw [B5e (by omega)] at hel; rw [hjw, List.take_length]; exact ElP.yes hel (hE2.mono hle9) (hrt.mono hle9) (by omega) (by rw [hck]; omega))
        ·refine sD (nS (cF rfl (tK (nS (tS ?_)))))
         refine D7 D8 rfl ?_
         refine V5 (i := 0) (l' := [tt,ff,ff,ff,ff]) rfl D3 (A3 rfl rfl) rfl (by kernel_rfl) rfl rfl ?_
         refine aL 1 rfl (A3 rfl rfl) rfl ?_
         refine A2 2 ?_
         refine oS rfl rfl rfl rfl rfl rfl rfl rfl ?_
         refine A2 3 ?_
         refine oS rfl rfl rfl rfl rfl rfl rfl rfl ?_
         refine aP 4 rfl (qA rfl) rfl ?_
         refine B9 (nS ?_)
         (refine A76 (bs := [(bc, es2.flatten ++ C)]) (Pk.perm (by repeat (first | exact Pk.here | apply Pk.there))) (fun hn9 hd9 hle9 => ?_))
         refine tT ?_
         refine A2Q (outs := [.blk bx [.int .i64 _]]) (rC rfl (A3 rfl rfl)) (rC rfl (A3 rfl rfl)) (rT rfl) (A0.cons (by repeat (first | exact Pk.here | apply Pk.there)) A0.nil) ?_
         (have hjw : j = w2.length := (by omega); rw [hjw, List.take_length] at hst2; have hst9 := hst2.mono hle9; have hel := A9Z (num := num) (fr := .mk fk fks) (lb := lb) hml (A39 hmw (b := true) (by assumption)) (show k ≠ 13 by omega); rw [hjw, List.take_length]; have hm0 := A3j us ts w2 l; exact ElP.yes hel (B5.put hk hnum hlb (hty.mono hle9) (hfr.mono hle9) (by rw [hm0, hlu]) (C0.of (Sl.of_blk (A := []) (by rw [A17 hst9.all, hst9.len, hm0, hlu]) (by omega) hcm (Wi.in hn9 List.mem_cons_self)) (by rw [hst9.len, hm0, hlu]) hst9.all (fun e he => (hst9.each e he).2)) hst9) (hrt.mono hle9) (by omega) (by rw [hck]; omega))
     ·refine N9 ?_
      refine A2Q (outs := [.blk bx [.int .i64 _]]) (rC rfl (A3 rfl rfl)) (rC rfl (A3 rfl rfl)) (rT rfl) (A0.cons (by repeat (first | exact Pk.here | apply Pk.there)) A0.nil) ?_
      (exact ElP.no (A65 hml (A39 hmw (b := false) (by assumption))) (A5k _) (N8 _ ⟨by omega, by omega⟩) (by omega) (by rw [hck]; omega))
def B73 (r : Option (Tm × Ty)) : IM → Value → List A1 → Prop := I8 fun G' v => ∃ cu ct, v = .tuple ⟨[.agg ⟨cu⟩, .agg ⟨ct⟩, .bool r.isSome]⟩ ∧ B5 G' (r.getD (I2, A5)).1 cu ∧ A8 G' (r.getD (I2, A5)).2 ct
theorem B5g {e : Tm} (h : O6 e = false) : X6 e = none := by unfold X6; rw [if_neg (by rw [h]; decide)]
theorem A90 {e : Tm} (h : O6 e = true) (h2 : L9 [] e 0 = none) : X6 e = none := by unfold X6; rw [if_pos h, h2]
theorem A91 {e u : Tm} {t : Ty} {l : Int} (h : O6 e = true) (h2 : L9 [] e 0 = some (u, t, l)) : X6 e = some (u, t) := by unfold X6; rw [if_pos h, h2]
def U5 (e : Tm) : Option Ty := match X6 e with | some (_, t) => some t | none => none
theorem B5h (e : Tm) (G : IM) (cells : List Value) (htv : O6 e = true) (hr : B5 G e cells) : Fn Tryz.prog 134 [.slice none 0 0, .agg ⟨cells⟩] [] G (Y8 (U5 e) G) := by
 have hRl := hr.len
 have hRo := hr.one
 have hnn := @A90 e htv
 have hso := fun u t l => @A91 e u t l htv
 obtain ⟨hsh, hcn⟩ := (A0b e).1 htv
 refine B6 Tryz.func134 rfl Tryz.ntmps134 Tryz.results134 rfl ?_
 intro w0
 refine tS (tR ?_)
 refine sE (E2 rfl rfl) rfl (fun b3 => ?_)
 refine sE (B0 rfl) rfl (fun b4 => ?_)
 refine N6 ?_
 refine sE (E2 rfl rfl) rfl (fun b11 => ?_)
 refine sQ (qM rfl) rfl ?_
 refine sL (A6 rfl rfl (H0 (by repeat first | exact mH | apply mT)) hRl) rfl rfl ?_
 focus (refine C6 rfl (B5f _ e 1 [] 0 G none 0 0 _ hsh (by omega) A4b (U4.nil G) hr (by omega) (by omega)) (Pk.perm (by repeat (first | exact Pk.here | apply Pk.there))) rfl rfl (fun v G1 outs hle1 hh => ?_); obtain ⟨u, uc, t, tc, l3, rfl, rfl, hru, hrt, hl3, hl4, hu⟩ := hh; have hul := hru.len; have huo := hru.one; obtain ⟨p3, c3, e3, rfl, _⟩ := hrt.open; have hso := hso u t l3; rcases hE : L9 [] e 0 with _ | ⟨u2, t2, l2⟩; rotate_left; have hue := hu _ hE; simp only [Prod.mk.injEq] at hue; obtain ⟨rfl, rfl, rfl⟩ := hue; have hso := hso hE; rotate_left; simp only [Option.isSome]; rotate_left; simp only [Option.isSome])
 refine K5 ?_
 refine sE (B0 rfl) rfl (fun b19 => ?_)
 refine sE (B0 rfl) rfl (fun b20 => ?_)
 refine sS rfl rfl rfl hul huo rfl ?_ (hu := by exact O5 hul.symm)
 refine L7 ?_
 refine K0 (rC rfl (A3 rfl rfl)) (rT rfl) ?_
 (exact Y8.yes hrt rfl (by unfold U5; rw [hso]))
 refine K5 ?_
 refine sE (B0 rfl) rfl (fun b41 => ?_)
 refine sE (B0 rfl) rfl (fun b42 => ?_)
 refine sS rfl rfl rfl hul huo rfl ?_ (hu := by exact O5 hul.symm)
 refine L7 ?_
 refine K0 (rC rfl (A3 rfl rfl)) (rT rfl) ?_
 (exact Y8.no hrt rfl (by unfold U5; rw [hnn hE]))
theorem B5i (fid : FuncId) (us cs : List Value) (G : IM) : Fn Tryz.prog 201 [.slice none 0 0, .func (.func fid) ⟨us⟩ ⟨cs⟩] [] G (J1 (.int .i64 (-1)) G) := by
 refine B6 Tryz.func201 rfl Tryz.ntmps201 Tryz.results201 rfl ?_
 intro w0
 refine L7 ?_
 refine B2 ?_
 refine J8 (fun (_ : Nat) => ⟨[(8, .int .i64 0), (7, .int .i64 0)], [], G⟩) (fun _ => True) (fun i => i) 0 ?_ ?_ ?_
 ·exact C2
 ·trivial
 ·(rintro (i0 : Nat) _)
  refine tS (tR ?_)
  refine sP (A14 rfl rfl (by omega)) rfl rfl ?_
  refine N9 ?_
  trivial
theorem B5j (fid : FuncId) (us cs : List Value) (G : IM) : Fn Tryz.prog 181 [.slice none 0 0, .func (.func fid) ⟨us⟩ ⟨cs⟩] [] G (J1 (.bool false) G) := by
 refine B6 Tryz.func181 rfl Tryz.ntmps181 Tryz.results181 rfl ?_
 intro w0
 refine E8 ?_
 refine H6 rfl (B5i fid us cs G) rfl rfl ?_
 refine sP (B12 rfl rfl (by omega)) rfl rfl ?_
 refine sQ (qA rfl) rfl (sD (nS (tT (I6 (rT rfl) ?_))))
 (exact ⟨rfl, rfl, rfl⟩)
theorem B5k (G : IM) : Fn Tryz.prog 133 [.slice none 0 0] [] G (J1 (.bool true) G) := by
 refine B6 Tryz.func133 rfl Tryz.ntmps133 Tryz.results133 rfl ?_
 intro w0
 refine E8 ?_
 refine sP (A7R rfl rfl (by omega)) rfl rfl ?_
 refine sQ (qM rfl) rfl (sQ (qM rfl) rfl ?_)
 refine H6 rfl ((B5j _ _ _ _)) rfl rfl ?_
 refine C5 ?_
 (exact ⟨rfl, rfl, rfl⟩)
theorem A92 {e : Tm} (h : O6 e = false) : U5 e = none := by unfold U5; rw [B5g h]
theorem B5l {e : Tm} {t : Ty} (h : U5 e = some t) : E4 t = true := by
 unfold U5 at h
 split at h
 ·rename_i u t' hi; cases h; exact (A9V hi).2.2
 ·cases h
theorem B5m (e : Tm) (G : IM) (cells : List Value) (hr : B5 G e cells) : Fn Tryz.prog 72 [.slice none 0 0, .agg ⟨cells⟩] [] G (Y8 (U5 e) G) := by
 have hRl := hr.len
 have hRo := hr.one
 refine B6 Tryz.func72 rfl Tryz.ntmps72 Tryz.results72 rfl ?_
 intro w0
 refine tS (tR ?_)
 refine sE (E2 rfl rfl) rfl (fun b3 => ?_)
 refine sE (B0 rfl) rfl (fun b4 => ?_)
 refine C5 ?_
 refine H6 rfl ((B5k _)) rfl rfl ?_
 refine sQ (pNt rfl) rfl (sQ (qM rfl) rfl ?_)
 refine sL (A6 rfl rfl (H0 (by repeat first | exact mH | apply mT)) hRl) rfl rfl ?_
 refine H8 rfl ((A6i e _ _ hr)) rfl rfl (fun h16 => ?_) (fun h16 => ?_)
 refine H9 ?_
 refine sL (A6 rfl rfl (H0 (by repeat first | exact mH | apply mT)) hRl) rfl rfl ?_
 focus (refine M0 rfl (B5h e G cells (by assumption) hr) rfl rfl (fun v G1 hle1 hh => ?_); obtain ⟨cu, u, rfl, hru, hu⟩ := hh; obtain ⟨p1, c1, e1, rfl, _⟩ := hru.open; rcases hct : U5 e with _ | u2; rotate_left; obtain rfl := hu u2 hct; have hgv := B5l hct; rotate_left; simp only [Option.isSome]; rotate_left; simp only [Option.isSome])
 refine M3 ?_
 refine sE (B0 rfl) rfl (fun b32 => ?_)
 refine U8 ?_
 (refine M0 rfl (A2B _ G1 _ (A5n hgv).small hru) rfl rfl (fun v G2 hle2 hh => ?_); obtain ⟨cs2, F2, rfl, hs2, hn2⟩ := hh; obtain ⟨p2, c2, rfl, _⟩ := hs2.open; have hr2 := hs2.R.mono (B7.le G2 G1))
 refine I1 ?_
 refine sQ (qA rfl) rfl (sD (nS (tT ?_)))
 refine K0 (rC rfl (A3 rfl rfl)) (rT rfl) ?_
 (exact Y8.yes hr2 rfl (by first | exact hct | rfl))
 refine M3 ?_
 refine sE (B0 rfl) rfl (fun b61 => ?_)
 refine A1m ?_
 refine K0 (rC rfl (A3 rfl rfl)) (rT rfl) ?_
 (exact Y8.no (u := A5) (N8 _ ⟨by omega, by omega⟩) rfl (by first | exact hct | rfl))
 refine M5 ?_
 refine K0 (rC rfl (A3 rfl rfl)) (rT rfl) ?_
 (exact Y8.no (u := A5) (N8 _ ⟨by omega, by omega⟩) rfl (A92 (by assumption)))
theorem B5n (e : Tm) (G : IM) (cells : List Value) (hr : B5 G e cells) : Fn Tryz.prog 29 [.agg ⟨cells⟩] [] G (Y8 (U5 e) G) := by
 have hRl := hr.len
 have hRo := hr.one
 refine B6 Tryz.func29 rfl Tryz.ntmps29 Tryz.results29 rfl ?_
 intro w0
 refine tS (tR ?_)
 refine sE (E2 rfl rfl) rfl (fun b3 => ?_)
 refine sE (B0 rfl) rfl (fun b4 => ?_)
 refine sQ (qA rfl) rfl (sD (nS (tS (tR ?_))))
 refine sL (A6 rfl rfl (H0 (by repeat first | exact mH | apply mT)) hRl) rfl rfl ?_
 (refine M0 rfl (B5m e G cells hr) rfl rfl (fun v G1 hle1 hh => ?_); obtain ⟨cu, u, rfl, hru, hu⟩ := hh; obtain ⟨p1, c1, e1, rfl, _⟩ := hru.open)
 refine C5 ?_
 refine K0 (rC rfl (A3 rfl rfl)) (rT rfl) ?_
 (exact ⟨rfl, _, u, rfl, hru, hu⟩)
def A93 (e : Tm) (fuel : Int) : ByteArray × Int × Int := match X6 e with
 | none => (⟨⟨[]⟩⟩, 3, 0)
 | some (u, _) => if (A0p u fuel).2.1 = 0 then (A4g (A0p u fuel).1, 0, 0) else (⟨⟨[]⟩⟩, (A0p u fuel).2.1, (A0p u fuel).2.2)
def B74 (r : ByteArray × Int × Int) (G : IM) : IM → Value → List A1 → Prop := I8 fun _ v => v = .tuple ⟨[.string r.1, .int .i64 r.2.1, .int .i64 r.2.2]⟩
def B5o (r s : ByteArray × Int × Int) : Int := if r.2.1 = 2 then 2 else if r.2.1 ≠ 0 ∨ s.2.1 = 4 ∨ s.2.1 = 5 then 3 else if s.2.1 = 0 ∧ r.1 = s.1 then 1 else 4
def B75 (a b : Tm) (fuel : Int) : Int := if (U5 a).isSome = true ∧ A5h a b = true ∧ U1 fuel 0 300 = true then B5o (A93 a fuel) (A93 b fuel) else 0
def gxT : GX → ByteArray
 | .n n => A9Y n
 | .b b => if b = true then txT else txF
 | .p => A9W
 | .f => A9X
theorem B5p {a : Tm} (h : (U5 a).isSome = true) : ∃ u t, X6 a = some (u, t) := by
 unfold U5 at h
 split at h
 ·exact ⟨_, _, by assumption⟩
 ·cases h
theorem B5q {a u : Tm} {t : Ty} (h : X6 a = some (u, t)) : U5 a = some t := by unfold U5; rw [h]
def GE.er : GE → GE
 | .var x => .var x
 | .num n => .num n
 | .tru b => .tru b
 | .lam x _ e => .lam x .any e.er
 | .app f a => .app f.er a.er
 | .ar s a b => .ar s a.er b.er
 | .ite c a b => .ite c.er a.er b.er
 | .pair a b => .pair a.er b.er
 | .part s e => .part s e.er
 | .cast _ _ _ e => e.er
def GE.nt : GE → Prop
 | .var _ => True
 | .num _ => True
 | .tru _ => True
 | .lam _ A e => A = .any ∧ e.nt
 | .app f a => f.nt ∧ a.nt
 | .ar _ a b => a.nt ∧ b.nt
 | .ite c a b => c.nt ∧ a.nt ∧ b.nt
 | .pair a b => a.nt ∧ b.nt
 | .part _ e => e.nt
 | .cast _ _ _ _ => False
theorem A5o : ∀ e : GE, e.er.nt := by
 intro e
 induction e with
 | var x => trivial
 | num n => trivial
 | tru b => trivial
 | lam x A e i => exact ⟨rfl, i⟩
 | app f a i j => exact ⟨i, j⟩
 | ar s a b i j => exact ⟨i, j⟩
 | ite c a b i j k => exact ⟨i, j, k⟩
 | pair a b i j => exact ⟨i, j⟩
 | part s e i => exact i
 | cast A B l e i => exact i
theorem B5r (x : ByteArray) (v : GE) : ∀ e : GE, (e.sub x v).er = e.er.sub x v.er := by
 intro e
 induction e with
 | var y => simp only [GE.er, GE.sub]; split <;> rfl
 | num n => rfl
 | tru b => rfl
 | lam y A e i =>
  simp only [GE.er, GE.sub]
  split
  ·rfl
  ·rw [GE.er, i]
 | app f a i j => simp only [GE.er, GE.sub, i, j]
 | ar s a b i j => simp only [GE.er, GE.sub, i, j]
 | ite c a b i j k => simp only [GE.er, GE.sub, i, j, k]
 | pair a b i j => simp only [GE.er, GE.sub, i, j]
 | part s e i => simp only [GE.er, GE.sub, i]
 | cast A B l e i => simp only [GE.er, GE.sub, i]
theorem A2j {e : GE} (h : GV e) : GV e.er := by
 induction h with
 | num => exact .num
 | tru => exact .tru
 | lam => exact .lam
 | pair _ _ i j => exact .pair i j
 | pf _ i => exact i
 | pp _ i => exact i
 | inj _ _ i => exact i
inductive Sn : Nat → GE → GE → Prop
 | refl {e} : Sn 0 e e
 | step {n a b c} : GS a b → Sn n b c → Sn (n + 1) a c
def A94 (k : Int) : Int := if k = 6 then 1 else if k = 7 ∨ k = 8 then 2 else if k = 9 then 3 else if k = 11 ∨ k = 12 then 4 else 5
def A0u (k : Int) (ks : List Tm) : Stp := match A00 k ks with
 | some u => (u, 1, 0)
 | none => (I2, 2, A94 k)
mutual
def N3 : Tm → Stp
 | .mk k nm num ty fr lb ks => match A0O (if k = 9 then 1 else ks.length) ks with
  | some (ks', c, l) => if c = 1 then (.mk k nm num ty fr lb ks', 1, 0) else (I2, c, l)
  | none => A0u k ks
def A0O : Nat → List Tm → Option (List Tm × Int × Int)
 | _, [] => none
 | n, t :: ts => match n with
  | 0 => none
  | n + 1 => if P9 t = true then (match A0O n ts with
    | some (us, c, l) => some (t :: us, c, l)
    | none => none)
   else some ((N3 t).1 :: ts, (N3 t).2.1, (N3 t).2.2)
end
mutual
def A95 : Tm → Bool
 | .mk k _ _ ty _ _ ks => decide (k ≠ 14 ∧ (k ≠ 5 ∨ ty.k = 1)) && A96 ks
def A96 : List Tm → Bool
 | [] => true
 | t :: ts => A95 t && A96 ts
end
def A97 (e : Tm) : Bool := W4 e && A95 e
def W7 (e : Tm) : Stp :=
 if A97 e = false then (I2, 3, 0) else if P9 e = true then (e, 0, 0)
 else if (N3 e).2.1 ≠ 1 then (I2, (N3 e).2.1, (N3 e).2.2)
 else if A97 (N3 e).1 = false then (I2, 4, 0) else ((N3 e).1, 1, 0)
def A5p : Nat → Tm → Tm × Int × Int × Nat
 | 0, e => ((W7 e).1, (W7 e).2.1, (W7 e).2.2, 0)
 | n + 1, e => if (W7 e).2.1 = 1 then ((A5p n (W7 e).1).1, (A5p n (W7 e).1).2.1, (A5p n (W7 e).1).2.2.1, (A5p n (W7 e).1).2.2.2 + 1)
  else ((W7 e).1, (W7 e).2.1, (W7 e).2.2, 0)
def A2k : Nat → Tm → Tm × Int × Int × Nat
 | 0, e => if (W7 e).2.1 = 1 then (I2, 5, 0, 0) else ((W7 e).1, (W7 e).2.1, (W7 e).2.2, 0)
 | n + 1, e => if (W7 e).2.1 = 1 then ((A2k n (W7 e).1).1, (A2k n (W7 e).1).2.1, (A2k n (W7 e).1).2.2.1, (A2k n (W7 e).1).2.2.2 + 1)
  else ((W7 e).1, (W7 e).2.1, (W7 e).2.2, 0)
def A4h (e : Tm) (fuel : Int) : Stp := if 0 ≤ fuel ∧ fuel ≤ 300 then ((A2k fuel.toNat e).1, (A2k fuel.toNat e).2.1, (A2k fuel.toNat e).2.2.1) else (I2, 3, 0)
def B76 (e : Tm) (fuel : Int) : Int := if 0 ≤ fuel ∧ fuel ≤ 300 then ((A2k fuel.toNat e).2.2.2 : Int) else 0
theorem A98 (n : Nat) (t : Tm) (ts : List Tm) : A0O (n + 1) (t :: ts) = if P9 t = true then (match A0O n ts with | some (us, c, l) => some (t :: us, c, l) | none => none) else some ((N3 t).1 :: ts, (N3 t).2.1, (N3 t).2.2) := by
 rw [A0O]
theorem A99 : ∀ (n : Nat) (ks : List Tm) (i : Nat) (hi : i < ks.length), i < n → (∀ j, j < i → (h : j < ks.length) → P9 ks[j] = true) → P9 ks[i] = false → A0O n ks = some (ks.set i (N3 ks[i]).1, (N3 ks[i]).2.1, (N3 ks[i]).2.2)
 | n, [], i, hi, _, _, _ => by simp at hi
 | 0, t :: ts, i, _, hn, _, _ => by omega
 | n + 1, t :: ts, 0, _, _, _, hv => by
  rw [A98, if_neg (by rw [show P9 t = false from hv]; decide)]; rfl
 | n + 1, t :: ts, i + 1, hi, hn, hj, hv => by
  rw [A98, if_pos (show P9 t = true from hj 0 (by omega) (by simp)), A99 n ts i (by simpa using hi) (by omega) (fun j hji hl => hj (j + 1) (by omega) (by simpa using hl)) hv]
  rfl
theorem B5s {k : Int} {nm : ByteArray} {num : Int} {ty fr : Ty} {lb : Int} {ks : List Tm} (h : (N3 (.mk k nm num ty fr lb ks)).2.1 = 1) : (N3 (.mk k nm num ty fr lb ks)).2.2 = 0 := by
 rw [N3] at h ⊢
 cases hL : A0O (if k = 9 then 1 else ks.length) ks with
 | none =>
  rw [hL] at h
  simp only [A0u] at h ⊢
  cases hr : A00 k ks with
  | none => rw [hr] at h; cases h
  | some u => rfl
 | some p =>
  obtain ⟨us, c, l⟩ := p
  rw [hL] at h
  simp only at h ⊢
  by_cases hc : c = 1
  ·rw [if_pos hc]
  ·rw [if_neg hc] at h; exact absurd h hc
theorem B5t {t : Tm} (h : (N3 t).2.1 = 1) : (N3 t).2.2 = 0 := by cases t; exact B5s h
theorem B0a {k : Int} {nm : ByteArray} {num : Int} {ty fr : Ty} {lb : Int} {ks : List Tm} {i : Nat} (hi : i < ks.length) (hn : i < (if k = 9 then 1 else ks.length)) (hj : ∀ j, j < i → (h : j < ks.length) → P9 ks[j] = true) (hv : P9 ks[i] = false) :
  (N3 (.mk k nm num ty fr lb ks)).2.1 = (N3 ks[i]).2.1 ∧ (N3 (.mk k nm num ty fr lb ks)).2.2 = (N3 ks[i]).2.2 ∧ ((N3 ks[i]).2.1 = 1 → (N3 (.mk k nm num ty fr lb ks)).1 = .mk k nm num ty fr lb (ks.set i (N3 ks[i]).1)) := by
 rw [N3, A99 _ ks i hi hn hj hv]
 simp only
 by_cases hc : (N3 ks[i]).2.1 = 1
 ·rw [if_pos hc]
  exact ⟨hc.symm, (B5t hc).symm, fun _ => rfl⟩
 ·rw [if_neg hc]
  exact ⟨rfl, rfl, fun h => absurd h hc⟩
theorem A66 {k : Int} {ks : List Tm} {u : Tm} (h : A00 k ks = some u) : A0u k ks = (u, 1, 0) := by unfold A0u; rw [h]
theorem A3m {k : Int} {ks : List Tm} (h : A00 k ks = none) : A0u k ks = (I2, 2, A94 k) := by unfold A0u; rw [h]
section
variable {k : Int} {nm : ByteArray} {num : Int} {ty fr : Ty} {lb : Int} {a b c : Tm} {t : Tm} {l : Int}
theorem A4i (h : P9 a = false) (ks : List Tm) (r : Tm) (hs : N3 a = (r, 1, 0)) : N3 (.mk k nm num ty fr lb (a :: ks)) = (.mk k nm num ty fr lb (r :: ks), 1, 0) := by
 have : ∃ n, (if k = 9 then 1 else (a :: ks).length) = n + 1 := ⟨if k = 9 then 0 else ks.length, by split <;> simp⟩
 obtain ⟨n, hn⟩ := this
 rw [N3, hn, A0O, if_neg (by rw [h]; decide), hs]
 simp
theorem A67 (h0 : P9 a = true) (h : P9 b = false) (hk : k ≠ 9) (r : Tm) (hs : N3 b = (r, 1, 0)) : N3 (.mk k nm num ty fr lb [a, b]) = (.mk k nm num ty fr lb [a, r], 1, 0) := by
 rw [N3, if_neg hk]
 simp only [List.length_cons, List.length_nil, A0O, h0, h, if_true, hs]
 simp
theorem B0b (h : P9 a = true) : N3 (.mk k nm num ty fr lb [a]) = A0u k [a] := by
 rw [N3, show (if k = 9 then 1 else [a].length) = 1 by split <;> rfl, A0O, h]
 simp [A0O]
theorem A68 (h : P9 a = true) (h2 : P9 b = true) (hk : k ≠ 9) : N3 (.mk k nm num ty fr lb [a, b]) = A0u k [a, b] := by
 rw [N3, if_neg hk]
 simp [A0O, h, h2]
theorem B0c (h : P9 a = true) : N3 (.mk 9 nm num ty fr lb [a, b, c]) = A0u 9 [a, b, c] := by
 rw [N3, if_pos rfl]
 simp [A0O, h]
end
theorem B0d {x : ByteArray} {v : GE} (hv : v.nt) : ∀ e : GE, e.nt → (e.sub x v).nt := by
 intro e
 induction e with
 | var y => intro _; rw [GE.sub]; split; exact hv; trivial
 | num n => intro h; exact h
 | tru b => intro h; exact h
 | lam y A e i => intro h; rw [GE.sub]; split; exact h; exact ⟨h.1, i h.2⟩
 | app f a i j => intro h; exact ⟨i h.1, j h.2⟩
 | ar s a b i j => intro h; exact ⟨i h.1, j h.2⟩
 | ite c a b i j k => intro h; exact ⟨i h.1, j h.2.1, k h.2.2⟩
 | pair a b i j => intro h; exact ⟨i h.1, j h.2⟩
 | part s e i => intro h; exact i h
 | cast A B l e i => intro h; exact h.elim
theorem A69 {e r : GE} (h : GS e r) : e.nt → N3 e.tm = (r.tm, 1, 0) ∧ r.nt := by
 induction h with
 | app1 s i => exact fun h => ⟨by rw [GE.tm, A4i (nv s) _ _ (i h.1).1, GE.tm], (i h.1).2, h.2⟩
 | app2 v s i => exact fun h => ⟨by rw [GE.tm, A67 ((A0F _).2 v) (nv s) (by decide) _ (i h.2).1, GE.tm], h.1, (i h.2).2⟩
 | ar1 s i => exact fun h => ⟨by rw [GE.tm, A4i (nv s) _ _ (i h.1).1, GE.tm], (i h.1).2, h.2⟩
 | @ar2 t _ _ _ v s i => exact fun h => ⟨by rw [GE.tm, A67 ((A0F _).2 v) (nv s) (by cases t <;> decide) _ (i h.2).1, GE.tm], h.1, (i h.2).2⟩
 | ite1 s i => exact fun h => ⟨by rw [GE.tm, A4i (nv s) _ _ (i h.1).1, GE.tm], (i h.1).2, h.2⟩
 | pair1 s i => exact fun h => ⟨by rw [GE.tm, A4i (nv s) _ _ (i h.1).1, GE.tm], (i h.1).2, h.2⟩
 | pair2 v s i => exact fun h => ⟨by rw [GE.tm, A67 ((A0F _).2 v) (nv s) (by decide) _ (i h.2).1, GE.tm], h.1, (i h.2).2⟩
 | part1 s i => exact fun h => ⟨by rw [GE.tm, A4i (nv s) _ _ (i h).1, GE.tm], (i h).2⟩
 | cast1 s i => exact fun h => h.elim
 | @beta x A b v hv =>
  intro h
  refine ⟨?_, B0d h.2 _ h.1.2⟩
  rw [GE.tm, A68 ((A0F _).2 .lam) ((A0F _).2 hv) (by decide), A66 (u := (b.sub x v).tm) (by rw [B4l]; rfl)]
 | appx _ _ => exact fun h => h.1.elim
 | @ar s m n =>
  intro h
  refine ⟨?_, by unfold A0D; split <;> trivial⟩
  rw [GE.tm, A68 rfl rfl (by cases s <;> decide)]
  cases s
  ·rfl
  ·by_cases hmn : m < n
   ·simp only [A0D, if_true, decide_eq_true hmn, GE.tm]
    refine A66 ?_
    simp only [A00, kd, List.getD_cons_zero, List.getD_cons_succ, Tm.k, Tm.num]
    simp [A5c, A2K, hmn]
   ·simp only [A0D, if_true, decide_eq_false hmn, GE.tm]
    refine A66 ?_
    simp only [A00, kd, List.getD_cons_zero, List.getD_cons_succ, Tm.k, Tm.num]
    simp [A5c, A2K, hmn]
 | @ite b x y =>
  intro h
  refine ⟨?_, by cases b; exact h.2.2; exact h.2.1⟩
  rw [GE.tm, B0c ((A0F _).2 .tru)]
  cases b <;> rfl
 | @part s a b v v2 =>
  intro h
  refine ⟨?_, by cases s; exact h.1; exact h.2⟩
  rw [GE.tm, B0b ((A0F _).2 (.pair v v2))]
  cases s <;> rfl
 | partx _ => exact fun h => h.elim
 | cid _ _ => exact fun h => h.elim
 | up _ _ _ => exact fun h => h.elim
 | down _ _ _ => exact fun h => h.elim
 | hit _ _ => exact fun h => h.elim
def pAt (t : Tm) (label : Int) (l : List Int) : Bool := match tAt t l with
 | some x => decide (x.k = 14 ∧ x.lb = label)
 | none => false
def A7a (t : Tm) (label : Int) : List Int × Bool := match (B2u t).find? (pAt t label) with
 | some l => (l, true)
 | none => ([], false)
def SP1 (G : IM) (l : List Int) (p : Option Addr) (c : Nat) : Prop := Sl G p l.length c 1 (A3L l) ∧ ∀ b ∈ H1 p, G b ≠ none
def CpP (t : Tm) (label : Int) (G : IM) : IM → Value → List A1 → Prop := I8 fun G' v => ∃ p c, v = .tuple ⟨[.slice p (A7a t label).1.length c, .bool (A7a t label).2]⟩ ∧ SP1 (B7 G' G) (A7a t label).1 p c
mutual
def A2R : Tm → List Tm
 | .mk k nm num ty fr lb ks => (if k = 14 then [.mk k nm num ty fr lb ks] else []) ++ A7b ks
def A7b : List Tm → List Tm
 | [] => []
 | t :: ts => A2R t ++ A7b ts
end
def B0e (label : Int) (x : Tm) : Bool := decide (x.lb = label)
def B77 (t : Tm) (label : Int) : Prop := ((A2R t).find? (B0e label) = none → (A4G t []).find? (pAt t label) = none) ∧ (∀ x, (A2R t).find? (B0e label) = some x → ∃ l, (A4G t []).find? (pAt t label) = some l ∧ tAt t l = some x)
def B0f (label : Int) : List Tm → List Ty
 | [] => []
 | c :: cs => (if c.lb = label then [c.fr, c.ty] else []) ++ B0f label cs
def B78 (t : Tm) (label : Int) : List Ty := if W4 t = true then B0f label (A2R t) else []
mutual
def A3n : GT → GT → Bool
 | _, .any => true
 | .fn a b, .fn c d => A2l c a && A3n b d
 | .pr a b, .pr c d => A3n a c && A3n b d
 | .int, .int => true
 | .bool, .bool => true
 | _, _ => false
termination_by a b => SizeOf.sizeOf a + SizeOf.sizeOf b
def A2l : GT → GT → Bool
 | .any, _ => true
 | .fn a b, .any => A3n .any a && A2l b .any
 | .pr a b, .any => A2l a .any && A2l b .any
 | .int, .any => true
 | .bool, .any => true
 | .fn a b, .fn c d => A3n c a && A2l b d
 | .pr a b, .pr c d => A2l a c && A2l b d
 | .int, .int => true
 | .bool, .bool => true
 | _, _ => false
termination_by a b => SizeOf.sizeOf a + SizeOf.sizeOf b
end
def GQ (Q : GT → GT → Int → Prop) : GE → Prop
 | .var _ => True
 | .num _ => True
 | .tru _ => True
 | .lam _ _ e => GQ Q e
 | .app f a => GQ Q f ∧ GQ Q a
 | .ar _ a b => GQ Q a ∧ GQ Q b
 | .ite c a b => GQ Q c ∧ GQ Q a ∧ GQ Q b
 | .pair a b => GQ Q a ∧ GQ Q b
 | .part _ e => GQ Q e
 | .cast A B l e => Q A B l ∧ GQ Q e
structure Clo (Q : GT → GT → Int → Prop) : Prop where
 fn : ∀ {a b c d l}, Q (.fn a b) (.fn c d) l → Q c a (-l) ∧ Q b d l
 pr : ∀ {a b c d l}, Q (.pr a b) (.pr c d) l → Q a c l ∧ Q b d l
 up : ∀ {A l}, A ≠ .any → Q A .any l → Q A.gr .any l ∧ Q A A.gr l
 down : ∀ {B l}, B ≠ .any → Q .any B l → Q B.gr B l ∧ Q .any B.gr l
def QL (m : Int) : GT → GT → Int → Prop := fun A B l => (l = m → A3n A B = true) ∧ (l = -m → A2l A B = true)
mutual
def V3 : Tm → List Ty
 | .mk k _ _ ty _ _ ks => (if k = 5 ∨ k = 13 then [ty] else []) ++ S0 ks
def S0 : List Tm → List Ty
 | [] => []
 | t :: ts => V3 t ++ S0 ts
end
theorem B0g : ∀ (a b : List Tm), S0 (a ++ b) = S0 a ++ S0 b
 | [], b => by simp [S0]
 | t :: a, b => by simp [S0, B0g a b]
theorem A5q {ks : List Tm} {i : Nat} (hi : i < ks.length) : S0 (ks.take (i + 1)) = S0 (ks.take i) ++ V3 ks[i] := by
 rw [List.take_succ_eq_append_getElem hi, B0g, S0, S0, List.append_nil]
mutual
theorem A7c : ∀ t : Tm, (V3 t).length ≤ C9 t
 | .mk k nm num ty fr lb ks => by
  have := A3o ks
  rw [V3, C9, List.length_append]
  split <;> simp <;> omega
theorem A3o : ∀ ts : List Tm, (S0 ts).length ≤ D2 ts
 | [] => by simp [S0]
 | t :: ts => by
  have := A7c t
  have := A3o ts
  rw [S0, D2, List.length_append]; omega
end
mutual
def A7d : Tm → List Ty → Tm
 | .mk k nm num ty fr lb ks, l => .mk k nm num (if k = 5 ∨ k = 13 then l.getD 0 A5 else ty) fr lb (B0h ks (if k = 5 ∨ k = 13 then l.drop 1 else l))
def B0h : List Tm → List Ty → List Tm
 | [], _ => []
 | t :: ts, l => A7d t l :: B0h ts (l.drop (V3 t).length)
end
def B0i (mask : Nat) : Nat → List Ty → List Ty
 | _, [] => []
 | i, t :: ts => (if (mask / 2 ^ i) % 2 = 1 then .mk 1 [] else t) :: B0i mask (i + 1) ts
def B5u (e : Tm) (mask : Nat) : Tm := A7d e (B0i mask 0 (V3 e))
def B5v (e : Tm) : List Tm := (List.range (2 ^ (V3 e).length)).map (B5u e)
section cap
variable {P : Program} {Γ : I3} {env : J0} {hp : List A1} {G : IM} {K : Po} {ops : Array Oper} {rest : List Oper}
theorem St.slc_cap {a : Act} {w : World} {p : Option Addr} {c el sz n : Nat} {cs : List Value} {hp' : List A1} (hs : St Γ ⟨env, hp, G⟩ a w) (hk : Pk hp (.slc p c el sz n cs) hp') : n ≤ c := by
 have hown : S7 [.slc p c el sz n cs] G w := hs.res.own.of_mem hk.perm
 obtain ⟨hl, h⟩ := hown.ok _ List.mem_cons_self
 rcases h with ⟨hv, hn⟩ | ⟨g, cap, cur, hv, _, hg, hnc, hcm, hsz, ht⟩
 ·omega
 ·cases hv; exact hnc
theorem A7e {p : Option Addr} {c el sz n : Nat} {cs : List Value} {hp' : List A1} (hk : Pk hp (.slc p c el sz n cs) hp') (h : n ≤ c → F0 P Γ ops rest K ⟨env, hp, G⟩) : F0 P Γ ops rest K ⟨env, hp, G⟩ :=
 ⟨fun a w hs => (h (hs.slc_cap hk)).run a w hs⟩
end cap
theorem C3.append {G : IM} : ∀ {a b : List Ty} {es fs : List (List Value)}, C3 G a es → C3 G b fs → C3 G (a ++ b) (es ++ fs)
 | [], b, es, fs, h, h2 => by simp only [C3] at h; subst h; simpa using h2
 | t :: a, b, es, fs, h, h2 => by
  simp only [C3] at h
  obtain ⟨x, r, rfl, h3, h4⟩ := h
  simp only [List.cons_append, C3]
  exact ⟨x, r ++ fs, rfl, h3, C3.append h4 h2⟩
theorem C3.ones {G : IM} {ts : List Ty} {es : List (List Value)} (h : C3 G ts es) : ∀ u ∈ es.flatten, u.oneCell' = true := by
 intro u hu
 obtain ⟨e, he, hue⟩ := List.mem_flatten.1 hu
 exact List.all_eq_true.1 (h.each e he).2 u hue
theorem C3.one1 {G : IM} {t : Ty} {c : List Value} (h : A8 G t c) : C3 G [t] [c] := by
 simp only [C3]; exact ⟨c, [], rfl, h, rfl⟩
def A4j (ts : List Ty) : IM → Value → List A1 → Prop := fun G' v outs => ∃ p c es, v = .slice p ts.length c ∧ outs = [.slc p c 25 2 ts.length es.flatten] ∧ C3 G' ts es
theorem A4j.mk {ts : List Ty} {n : Nat} {G' : IM} {p : Option Addr} {c : Nat} {es : List (List Value)} (hn : ts.length = n) (hr : C3 G' ts es) : A4j ts G' (.slice p n c) [.slc p c 25 2 n es.flatten] := by
 subst hn
 exact ⟨p, c, es, rfl, rfl, hr⟩
theorem B5w : ∀ (t : Tm) (G : IM) (cells : List Value), t.small → C9 t ≤ 4000000 → B5 G t cells → Fn Tryz.prog 74 [.agg ⟨cells⟩] [] G (A4j (V3 t)) := by
 refine Tm.ind fun k nm num ty fr lb ks ih G cells hts hcnt hr => ?_
 have hT := B48 _ G cells hr
 have hone := hr.one
 simp only [Tm.small] at hts
 obtain ⟨_, hty', _, hsm, hks⟩ := hts
 have hcy : A5m k = true → V3 (.mk k nm num ty fr lb ks) = [ty] ++ S0 ks := fun h => by rw [V3, if_pos (of_decide_eq_true h)]
 have hcn : A5m k = false → V3 (.mk k nm num ty fr lb ks) = [] ++ S0 ks := fun h => by rw [V3, if_neg (of_decide_eq_false h)]
 rw [C9] at hcnt
 obtain ⟨tk, tks⟩ := ty
 obtain ⟨fk, fks⟩ := fr
 have hT' : Fn Tryz.prog 137 _ [] G (J1 (.bool (A5m k)) G) := hT
 obtain ⟨pt, ct, pf, cf, q, cq, ek, rfl, hk, hnum, hlb, hty, hfr, hsl, hkl⟩ := hr.open9
 have hn := hsl.le
 refine B6 Tryz.func74 rfl Tryz.ntmps74 Tryz.results74 rfl ?_
 intro w0
 refine tS (tR ?_)
 refine sE (E2 rfl rfl) rfl (fun b3 => ?_)
 refine L4 ?_
 refine H8 rfl (hT') rfl rfl (fun h16 => ?_) (fun h16 => ?_)
 refine sD (nS (qT rfl ?_))
 (show H5 _ _ (.region 3 ..) _ _; refine W9 25 2 ?_; refine tR ?_)
 refine M3 ?_
 (refine M0 rfl (A2B (.mk tk tks) G _ hty' hty) rfl rfl (fun v G1 hle1 hh => ?_); obtain ⟨Y3, F1, rfl, hs1, hn1⟩ := hh; have hr1 := hs1.R.mono (B7.le _ _); obtain ⟨p1, c1, rfl, _⟩ := hs1.open)
 (refine E9 (B4 rfl rfl rfl (by omega) (by unfold maxLen; omega) rfl) rfl ?_; rintro _ ⟨b25, rfl⟩)
 (refine U9 rfl rfl rfl rfl rfl (fun _ _ => by repeat (first | exact Sw.here | apply Sw.there)) (J9 (by repeat first | exact mH | apply mT)) rfl (by simp [Value.oneCell']) (by unfold maxLen; omega) (by omega) rfl (fun pn0 cn0 => ?_))
 refine L4 ?_
 refine B2 ?_
 (have h14 := hcy (by assumption); have hinit := C3.one1 hr1; refine J8 (fun (x : Nat × Nat × Option Addr × Nat × List (List Value) × IM) => ⟨[(17, .int .i64 x.1), (16, .int .i64 ks.length), (15, .slice q ks.length cq), (3, .slice x.2.2.1 x.2.1 x.2.2.2.1)], [.slc x.2.2.1 x.2.2.2.1 25 2 x.2.1 x.2.2.2.2.1.flatten], x.2.2.2.2.2⟩) (fun x => x.1 ≤ ks.length ∧ A7 G x.2.2.2.2.2 ∧ C3 x.2.2.2.2.2 ([Ty.mk tk tks] ++ S0 (ks.take x.1)) x.2.2.2.2.1 ∧ ([Ty.mk tk tks] ++ S0 (ks.take x.1)).length = x.2.1) (fun x => ks.length - x.1) (0, 1, pn0, cn0, [[.int .i64 tk, .slice p1 tks.length c1]], G1) ?_ ?_ ?_)
 (simp only [E7]; exact C2)
 (exact ⟨Nat.zero_le _, hle1, (by show C3 G1 ([Ty.mk tk tks] ++ S0 (ks.take 0)) _; rw [List.take_zero, S0, List.append_nil]; exact hinit), by simp [S0]⟩)
 (rintro ⟨(i : Nat), (m : Nat), pn, cn, es, Gi⟩ ⟨hi, hle, hst, hlen⟩; simp only [] at hi hle hst hlen ⊢; replace hsl := hsl.mono hle; replace hkl := hkl.mono hle; have hb1 := A3o (ks.take i); have hb2 := A3o ks; simp only [List.length_append, List.length_singleton, List.length_nil] at hlen)
 refine tS (tR ?_)
 refine sB (I7 rfl rfl) rfl rfl (fun h46 => ?_) (fun h46 => ?_)
 refine sD (nS (tS (qT rfl (tK (nS (tS ?_))))))
 refine B2 ?_
 refine tS (tR ?_)
 (obtain ⟨b, o, e, rfl, hl, hat, hre, hgb⟩ := hsl.kidTm hkl (i := i) (by omega) (by omega); have hone9 := hre.one; have hsc := A4J (ks := ks) (i := i) (by omega); have hsk := A4I (ks := ks) (i := i) (by omega); refine sP (B3 rfl rfl rfl (by omega)) rfl rfl ?_)
 refine sL (A6 rfl rfl (hat _) hl) rfl rfl ?_
 refine sE (B0 rfl) rfl (fun b59 => ?_)
 refine sS rfl rfl rfl hl hone9 rfl ?_ (hu := by exact O5 hl.symm)
 refine sD (nS (tR (sQ (qM rfl) rfl ?_)))
 refine sL (A6 rfl rfl (H0 (by repeat first | exact mH | apply mT)) hl) rfl rfl ?_
 (refine A3H rfl (ih ks[i] (List.getElem_mem (by omega)) _ _ (Tm.smallL_mem hks _ (List.getElem_mem (by omega))) (by omega) hre) rfl rfl (fun v G3 outs hle3 hh => ?_); obtain ⟨p3, c3, e3, rfl, rfl, hr3⟩ := hh; have hlk := A7c ks[i]; refine S9 (cs := e3.flatten) Pk.here (fun G4 hle4 hsl4 hno4 => ?_); refine A7e (cs := es.flatten) (by repeat (first | exact Pk.here | apply Pk.there)) (fun hcap => ?_))
 (refine A3T rfl rfl rfl rfl rfl (fun _ _ => by repeat (first | exact Sw.here | apply Sw.there)) hsl4 hr3.ones hcap (by unfold maxLen; omega) (by omega) rfl (fun p4 c4 => ?_))
 refine sQ (qA rfl) rfl (sD (M2 (nS (tR ?_))))
 refine sP (H2 rfl rfl (by omega) (by omega)) rfl rfl ?_
 refine sQ (qM rfl) rfl (sD ?_)
 (have hap := C3.append (hst.mono (hle3.trans hle4)) (hr3.mono hle4); refine J4 (i + 1, m + (V3 ks[i]).length, p4, c4, es ++ e3, G4) (by simp only [List.flatten_append]; exact (M4 (by repeat (first | exact C8.nil | refine C8.cons rfl ?_)) (by repeat (first | exact A0.refl | exact A0.nil | refine A0.cons (by repeat (first | exact Pk.here | apply Pk.there)) ?_ | apply A0.drop)))) ?_ ?_)
 (dsimp only; exact ⟨by omega, hle.trans (hle3.trans hle4), by rw [A5q (by omega), ← List.append_assoc]; exact hap, by rw [A5q (by omega)]; simp only [List.length_append, List.length_singleton, List.length_nil]; omega⟩)
 (show ks.length - (i + 1) < ks.length - i; omega)
 refine J5 ?_
 (obtain rfl : i = ks.length := (by omega))
 refine tT ?_
 refine E3 (outs := [.slc pn cn 25 2 m es.flatten]) (rT rfl) (A0.cons (by repeat (first | exact Pk.here | apply Pk.there)) A0.nil) ?_
 (rw [h14]; rw [List.take_length] at hst hlen; exact A4j.mk (by simp only [List.length_append, List.length_singleton, List.length_nil]; omega) hst)
 refine M5 ?_
 refine B2 ?_
 (have h14 := hcn (by assumption); refine W9 25 2 ?_; refine J8 (fun (x : Nat × Nat × Option Addr × Nat × List (List Value) × IM) => ⟨[(17, .int .i64 x.1), (16, .int .i64 ks.length), (15, .slice q ks.length cq), (3, .slice x.2.2.1 x.2.1 x.2.2.2.1)], [.slc x.2.2.1 x.2.2.2.1 25 2 x.2.1 x.2.2.2.2.1.flatten], x.2.2.2.2.2⟩) (fun x => x.1 ≤ ks.length ∧ A7 G x.2.2.2.2.2 ∧ C3 x.2.2.2.2.2 ([] ++ S0 (ks.take x.1)) x.2.2.2.2.1 ∧ ([] ++ S0 (ks.take x.1)).length = x.2.1) (fun x => ks.length - x.1) (0, 0, none, 0, [], G) ?_ ?_ ?_)
 (simp only [E7]; exact C2)
 (exact ⟨Nat.zero_le _, A7.refl _, by simp [S0, C3], by simp [S0]⟩)
 (rintro ⟨(i : Nat), (m : Nat), pn, cn, es, Gi⟩ ⟨hi, hle, hst, hlen⟩; simp only [] at hi hle hst hlen ⊢; replace hsl := hsl.mono hle; replace hkl := hkl.mono hle; have hb1 := A3o (ks.take i); have hb2 := A3o ks; simp only [List.length_append, List.length_singleton, List.length_nil] at hlen)
 refine tS (tR ?_)
 refine sB (I7 rfl rfl) rfl rfl (fun h119 => ?_) (fun h119 => ?_)
 refine sD (nS (tS (qT rfl (tK (nS (tS ?_))))))
 refine B2 ?_
 refine tS (tR ?_)
 (obtain ⟨b, o, e, rfl, hl, hat, hre, hgb⟩ := hsl.kidTm hkl (i := i) (by omega) (by omega); have hone9 := hre.one; have hsc := A4J (ks := ks) (i := i) (by omega); have hsk := A4I (ks := ks) (i := i) (by omega); refine sP (B3 rfl rfl rfl (by omega)) rfl rfl ?_)
 refine sL (A6 rfl rfl (hat _) hl) rfl rfl ?_
 refine sE (B0 rfl) rfl (fun b132 => ?_)
 refine sS rfl rfl rfl hl hone9 rfl ?_ (hu := by exact O5 hl.symm)
 refine sD (nS (tR (sQ (qM rfl) rfl ?_)))
 refine sL (A6 rfl rfl (H0 (by repeat first | exact mH | apply mT)) hl) rfl rfl ?_
 (refine A3H rfl (ih ks[i] (List.getElem_mem (by omega)) _ _ (Tm.smallL_mem hks _ (List.getElem_mem (by omega))) (by omega) hre) rfl rfl (fun v G3 outs hle3 hh => ?_); obtain ⟨p3, c3, e3, rfl, rfl, hr3⟩ := hh; have hlk := A7c ks[i]; refine S9 (cs := e3.flatten) Pk.here (fun G4 hle4 hsl4 hno4 => ?_); refine A7e (cs := es.flatten) (by repeat (first | exact Pk.here | apply Pk.there)) (fun hcap => ?_))
 (refine A3T rfl rfl rfl rfl rfl (fun _ _ => by repeat (first | exact Sw.here | apply Sw.there)) hsl4 hr3.ones hcap (by unfold maxLen; omega) (by omega) rfl (fun p4 c4 => ?_))
 refine sQ (qA rfl) rfl (sD (M2 (nS (tR ?_))))
 refine sP (H2 rfl rfl (by omega) (by omega)) rfl rfl ?_
 refine sQ (qM rfl) rfl (sD ?_)
 (have hap := C3.append (hst.mono (hle3.trans hle4)) (hr3.mono hle4); refine J4 (i + 1, m + (V3 ks[i]).length, p4, c4, es ++ e3, G4) (by simp only [List.flatten_append]; exact (M4 (by repeat (first | exact C8.nil | refine C8.cons rfl ?_)) (by repeat (first | exact A0.refl | exact A0.nil | refine A0.cons (by repeat (first | exact Pk.here | apply Pk.there)) ?_ | apply A0.drop)))) ?_ ?_)
 (dsimp only; exact ⟨by omega, hle.trans (hle3.trans hle4), by rw [A5q (by omega), ← List.append_assoc]; exact hap, by rw [A5q (by omega)]; simp only [List.length_append, List.length_singleton, List.length_nil]; omega⟩)
 (show ks.length - (i + 1) < ks.length - i; omega)
 refine J5 ?_
 (obtain rfl : i = ks.length := (by omega))
 refine tT ?_
 refine E3 (outs := [.slc pn cn 25 2 m es.flatten]) (rT rfl) (A0.cons (by repeat (first | exact Pk.here | apply Pk.there)) A0.nil) ?_
 (rw [h14]; rw [List.take_length] at hst hlen; exact A4j.mk (by simp only [List.length_append, List.length_singleton, List.length_nil]; omega) hst)
def RtP (u : Tm) (l : List Ty) : IM → Value → List A1 → Prop := fun G' v outs => outs = [] ∧ ∃ cu p c el, v = .tuple ⟨[.agg ⟨cu⟩, .slice p l.length c]⟩ ∧ B5 G' u cu ∧ C0 G' p l.length c 2 el ∧ C3 G' l el
section bits
variable {P : Program} {Γ : I3} {env : J0} {hp : List A1} {G : IM} {ty : TypeId}
end bits
section wr
variable {P : Program} {Γ : I3} {env : J0} {hp : List A1} {G : IM} {ty : TypeId} {K : Po} {ops : Array Oper} {rest : List Oper}
variable {pos : String} {af : Array Edge} {gd : Option (Nat × Bool)}
end wr
def B79 (e : Tm) : Option (List Tm) := if (U5 e).isSome = true ∧ (V3 e).length ≤ 6 then some (B5v e) else none
def CfP (r : Option (List Tm)) : IM → Value → List A1 → Prop := fun G' v outs => outs = [] ∧ ∃ p c es, v = .tuple ⟨[.slice p (r.getD []).length c, .bool r.isSome]⟩ ∧ C0 G' p (r.getD []).length c 9 es ∧ F4 G' (r.getD []) es
def MsP (r : Option (List Int)) (e : A1) (G : IM) : IM → Value → List A1 → Prop := fun G' v outs => outs = [e] ∧ ∃ p c, v = .tuple ⟨[.slice p (r.getD []).length c, .bool r.isSome]⟩ ∧ SP1 (B7 G' G) (r.getD []) p c
def IsP (l : List Int) (b : Bool) (G : IM) : IM → Value → List A1 → Prop := I8 fun G' v => ∃ p c, v = .tuple ⟨[.slice p l.length c, .bool b]⟩ ∧ SP1 (B7 G' G) l p c
theorem B5.nine {G : IM} {t : Tm} {cells : List Value} (h : B5 G t cells) : ∃ v1 v2 v3 v4 v5 v6 v7 v8 v9, cells = [v1, v2, v3, v4, v5, v6, v7, v8, v9] := by
 obtain ⟨_, _, _, _, _, _, _, _, _, rfl, _⟩ := h.open
 exact ⟨_, _, _, _, _, _, _, _, _, rfl⟩
theorem A4k {G : IM} {e : Tm} {ce : List Value} {k : Int} {nm : ByteArray} {tk : Int} {tks : List Ty} {q p : Option Addr} {d c : Nat} (hk : C1 k) (ht : A8 G (.mk tk tks) [.int .i64 tk, .slice q tks.length d]) (h1 : B5 G e ce) (hs : Sl G p 1 c 9 ce) :
  B5 G (.mk k nm 0 (.mk tk tks) A5 0 [e]) [.int .i64 k, .string nm, .int .i64 0, .int .i64 tk, .slice q tks.length d, .int .i64 0, .slice none 0 0, .int .i64 0, .slice p 1 c] := by
 obtain ⟨a1, a2⟩ := B3R h1 hs
 exact B5.of9 (ks := [e]) hk ⟨by omega, by omega⟩ ⟨by omega, by omega⟩ ht (N8 _ ⟨by omega, by omega⟩) a1 a2
theorem A4l {G : IM} {e f : Tm} {ce cf : List Value} {k : Int} {nm : ByteArray} {p : Option Addr} {c : Nat} (hk : C1 k) (h1 : B5 G e ce) (h2 : B5 G f cf) (hs : Sl G p 2 c 9 (ce ++ cf)) :
  B5 G (.mk k nm 0 A5 A5 0 [e, f]) [.int .i64 k, .string nm, .int .i64 0, .int .i64 0, .slice none 0 0, .int .i64 0, .slice none 0 0, .int .i64 0, .slice p 2 c] := by
 have hL : F4 G [e, f] [ce, cf] := by simp only [F4]; exact ⟨ce, [cf], rfl, h1, cf, [], rfl, h2, rfl⟩
 exact B5.of9 (ks := [e, f]) hk ⟨by omega, by omega⟩ ⟨by omega, by omega⟩ (N8 _ ⟨by omega, by omega⟩) (N8 _ ⟨by omega, by omega⟩)
  (C0.of (by simpa using hs) rfl hL.all (fun x hx => by obtain ⟨q, hq⟩ := List.getElem?_of_mem hx; exact (hL.inv hq I2).2.one)) hL
theorem B5x {G : IM} {e f g : Tm} {ce cf cg : List Value} {k : Int} {nm : ByteArray} {p : Option Addr} {c : Nat} (hk : C1 k) (h1 : B5 G e ce) (h2 : B5 G f cf) (h3 : B5 G g cg) (hs : Sl G p 3 c 9 (ce ++ (cf ++ cg))) :
  B5 G (.mk k nm 0 A5 A5 0 [e, f, g]) [.int .i64 k, .string nm, .int .i64 0, .int .i64 0, .slice none 0 0, .int .i64 0, .slice none 0 0, .int .i64 0, .slice p 3 c] := by
 have hL : F4 G [e, f, g] [ce, cf, cg] := by simp only [F4]; exact ⟨ce, [cf, cg], rfl, h1, cf, [cg], rfl, h2, cg, [], rfl, h3, rfl⟩
 exact B5.of9 (ks := [e, f, g]) hk ⟨by omega, by omega⟩ ⟨by omega, by omega⟩ (N8 _ ⟨by omega, by omega⟩) (N8 _ ⟨by omega, by omega⟩)
  (C0.of (by simpa using hs) rfl hL.all (fun x hx => by obtain ⟨q, hq⟩ := List.getElem?_of_mem hx; exact (hL.inv hq I2).2.one)) hL
def mB : Nat → Nat
 | 0 => 200
 | n + 1 => 3 * mB n + 200
theorem A1v (n : Nat) : 200 ≤ mB n := by cases n <;> simp only [mB] <;> omega
def A1w (n : Nat) (depth : Int) (t : Ty) : Prop := Q5 4 t ∧ (n : Int) - 1000 ≤ depth ∧ depth ≤ 1000 ∧ ((depth ≤ 1 ∧ Q5 n t) ∨ (2 ≤ depth ∧ depth + 3 ≤ n))
theorem A1w.sub {n : Nat} {depth : Int} {t t' : Ty} (h : A1w (n + 1) depth t) (hd : 1 < depth) (h4 : Q5 4 t') : A1w n (depth - 1) t' := by
 obtain ⟨h1, h2, h3, h5⟩ := h
 refine ⟨h4, by omega, by omega, ?_⟩
 rcases h5 with ⟨h5, _⟩ | ⟨h5, h6⟩
 ·omega
 ·by_cases h7 : 3 ≤ depth
  ·exact .inr ⟨by omega, by omega⟩
  ·exact .inl ⟨by omega, h4.le (by omega)⟩
theorem A1w.kid {n : Nat} {depth : Int} {k : Int} {ks : List Ty} {t' : Ty} (h : A1w (n + 1) depth (.mk k ks)) (ht : t' ∈ ks) : A1w n (depth - 1) t' := by
 have h4 : Q5 4 t' := (A6A h.1 ht).up
 by_cases hd : 1 < depth
 ·exact h.sub hd h4
 ·obtain ⟨h1, h2, h3, h5⟩ := h
  refine ⟨h4, by omega, by omega, .inl ⟨by omega, ?_⟩⟩
  rcases h5 with ⟨_, h5⟩ | ⟨h5, _⟩
  ·exact A6A h5 ht
  ·omega
theorem A1w.pos {n : Nat} {depth : Int} {k : Int} {ks : List Ty} (h : A1w n depth (.mk k ks)) (hd : 1 < depth ∨ k = 4 ∨ k = 5) : ∃ m, n = m + 1 := by
 cases n with
 | succ m => exact ⟨m, rfl⟩
 | zero =>
  obtain ⟨h1, h2, h3, h5⟩ := h
  rcases h5 with ⟨h5, h6⟩ | ⟨h5, h6⟩
  ·have := h6.2
   omega
  ·omega
theorem Q1 : A5.small := by simp [A5, Ty.small, Ty.smallL]
theorem O3 {k : Int} {nm : ByteArray} {num : Int} (h : nm.size ≤ 1) : (Tm.mk k nm num A5 A5 0 []).small := by
 simp only [Tm.small, Tm.smallL]; exact ⟨by omega, Q1, Q1, by simp, trivial⟩
theorem K2 {k : Int} {nm : ByteArray} {num : Int} {ty : Ty} {a : Tm} (h : nm.size ≤ 1) (ht : ty.small) (ha : a.small) : (Tm.mk k nm num ty A5 0 [a]).small := by
 simp only [Tm.small, Tm.smallL]; exact ⟨by omega, ht, Q1, by simp, ha, trivial⟩
theorem T5 {k : Int} {nm : ByteArray} {num : Int} {a b : Tm} (h : nm.size ≤ 1) (ha : a.small) (hb : b.small) : (Tm.mk k nm num A5 A5 0 [a, b]).small := by
 simp only [Tm.small, Tm.smallL]; exact ⟨by omega, Q1, Q1, by simp, ha, hb, trivial⟩
theorem A0H {k : Int} {nm : ByteArray} {num : Int} {a b c : Tm} (h : nm.size ≤ 1) (ha : a.small) (hb : b.small) (hc : c.small) : (Tm.mk k nm num A5 A5 0 [a, b, c]).small := by
 simp only [Tm.small, Tm.smallL]; exact ⟨by omega, Q1, Q1, by simp, ha, hb, hc, trivial⟩
theorem A0I : (Ty.mk 1 []).small := by simp [Ty.small, Ty.smallL]
def B0j (br : Nat) (pb : Option Addr) (nb cb : Nat) (bs : List UInt8) (n : Nat) : Prop := ∀ (depth : Int) (t : Ty) (p : Nat) (G : IM) (pc : Option Addr) (nc cc : Nat) (cells : List Value), A1w n depth t → (n : Int) - 1000 ≤ depth → depth ≤ 1000 → nc + n ≤ 40 → X8 G pc nc cc → A8 G t cells → Sl G pb nb cb 1 (O7 bs) → p + mB n < 1099511627776 →
 Fn Tryz.prog 110 [.pointer (some ⟨br, 0, none⟩), .slice pc nc cc, .agg ⟨cells⟩, .int .i64 depth] [rd br pb nb cb p] G
  (A0y br pb nb cb p (mB n) (fun G' v => ∃ e cells, v = .agg ⟨cells⟩ ∧ B5 G' e cells ∧ e.small ∧ C9 e ≤ mB n))
theorem B0k (br : Nat) (pb : Option Addr) (nb cb : Nat) (bs : List UInt8) (hnb : nb ≤ 2000) (m : Nat) (hM : B0j br pb nb cb bs m) (depth : Int) (a t : Ty) (p : Nat) (G : IM) (pc : Option Addr) (nc cc : Nat) (ca cells : List Value)
  (hfu : A1w m depth t) (hd0 : (m : Int) - 1000 ≤ depth) (hd1 : depth ≤ 1000) (hnc : nc + 1 + m ≤ 40) (hx : X8 G pc nc cc) (hra : A8 G a ca) (haa : E5 a ∧ I0 a ≤ 30) (hrt : A8 G t cells) (hb : Sl G pb nb cb 1 (O7 bs)) (hp : p + 1 + mB m < 1099511627776) :
  Fn Tryz.prog 173 [.pointer (some ⟨br, 0, none⟩), .slice pc nc cc, .agg ⟨ca⟩, .agg ⟨cells⟩, .int .i64 depth] [rd br pb nb cb p] G
   (A0y br pb nb cb p (1 + mB m) (fun G' v => ∃ e cells, v = .agg ⟨cells⟩ ∧ B5 G' e cells ∧ e.small ∧ C9 e ≤ 1 + mB m)) := by
 obtain ⟨ak, aks⟩ := a
 obtain ⟨tk, tks⟩ := t
 obtain ⟨pa, cca, ea, rfl, _⟩ := hra.open
 obtain ⟨pt, cct, et, rfl, _⟩ := hrt.open
 simp only [Ty.k, Ty.ks] at hra hrt ⊢
 refine B6 Tryz.func173 rfl Tryz.ntmps173 Tryz.results173 rfl ?_
 intro w0
 refine tS (tR ?_)
 refine sE (E2 rfl rfl) rfl (fun b3 => ?_)
 refine sE (E2 rfl rfl) rfl (fun b4 => ?_)
 refine sE (B0 rfl) rfl (fun b5 => ?_)
 refine sD (nS (tS (tR (sQ (qM rfl) rfl ?_))))
 (refine E9 (B4 rfl rfl rfl (by omega) (by unfold maxLen; omega) rfl) rfl ?_; rintro _ ⟨b11, rfl⟩)
 (refine S9 (by repeat (first | exact Pk.here | apply Pk.there)) (fun G4 hle4 hsl4 _ => ?_); refine C6 rfl (A6B G4 br pb nb cb p bs _ _ _ _ (hb.mono hle4) hnb (by omega) hsl4 (by decide)) (Pk.perm (by repeat (first | exact Pk.here | apply Pk.there))) rfl rfl (fun v G5 outs hle5 hh => ?_); obtain ⟨rfl, rfl, hv⟩ := hh; obtain ⟨nm, rfl, hnm⟩ : ∃ nm : ByteArray, v = .string nm ∧ nm.size ≤ 1 := (by simp only [List.mem_cons, List.not_mem_nil, or_false] at hv; rcases hv with rfl | rfl | rfl | rfl <;> exact ⟨_, rfl, by decide⟩); replace hra := hra.mono hle4; replace hx := hx.mono hle4; replace hb := hb.mono hle4; replace hrt := hrt.mono hle4;)
 refine sQ (qA rfl) rfl (sD (nS (tS ?_)))
 refine D7 D8 rfl ?_
 refine H4 (i := 0) (l' := [tt,ff,ff,ff,ff,ff,ff,ff,ff,ff,ff,ff,ff,ff]) rfl D3 (qM rfl) rfl (by kernel_rfl) rfl rfl ?_
 refine aL 1 rfl (A3 rfl rfl) rfl ?_
 refine aP 3 rfl (qM rfl) rfl ?_
 refine aP 4 rfl (qM rfl) rfl ?_
 refine aP 5 rfl (qM rfl) rfl ?_
 refine aL 6 rfl (A3 rfl rfl) rfl ?_
 refine aL 8 rfl (A3 rfl rfl) rfl ?_
 refine aP 9 rfl (qM rfl) rfl ?_
 refine A2 2 ?_
 (refine P2 rfl rfl (A0k _ _ _ haa.1.small hra) rfl rfl rfl (fun v G6 hle6 hh => ?_); obtain ⟨Y3, F1, rfl, hs1, hn1⟩ := hh; obtain ⟨p1, c1, rfl, _⟩ := hs1.open; have hr1 := hs1.R.mono (B7.le G6 _); replace hra := hra.mono hle6; replace hx := hx.mono hle6; replace hb := hb.mono hle6; replace hrt := hrt.mono hle6;)
 refine A2 7 ?_
 (refine P2 rfl rfl (B3M _ pc nc cc nm (.mk ak aks) _ hx (by omega) hra haa.1 haa.2 hnm) rfl rfl rfl (fun v G7 hle7 hh => ?_); obtain ⟨pm, cm, rfl, hxm⟩ := hh; replace hr1 := hr1.mono hle7; replace hx := hx.mono hle7; replace hb := hb.mono hle7; replace hrt := hrt.mono hle7; have hcall := hM depth (.mk tk tks) (p + 1) _ pm (nc + 1) cm _ hfu hd0 hd1 (by omega) hxm hrt hb (by omega))
 refine A2 10 ?_
 (refine A0a (l' := [tt,tt,tt,tt,tt,tt,tt,tt,tt,tt,tt,ff,ff,ff]) rfl rfl hcall (Pk.perm (by repeat (first | exact Pk.here | apply Pk.there))) rfl rfl rfl (by repeat (first | exact A4.nil | apply A4.dep (by decide +kernel) | apply A4.blk (by decide +kernel) (by repeat (first | exact Pk.here | apply Pk.there)) (by repeat first | exact mH | apply mT))) (fun v G8 outs hle8 hh => ?_); obtain ⟨p8, hp81, hp82, rfl, e8, c8, rfl, hr8, hs8, hc8⟩ := hh; obtain ⟨a1, a2, a3, a4, a5, a6, a7, a8, a9, rfl⟩ := hr8.nine; replace hr1 := hr1.mono hle8)
 refine A2 11 ?_
 (refine D6 rfl (B4 rfl rfl rfl (by omega) (by unfold maxLen; omega) rfl) rfl rfl ?_; rintro _ ⟨b33, rfl⟩)
 refine aP 12 rfl (R6 rfl rfl) rfl ?_
 refine A2 13 ?_
 refine R2 rfl rfl rfl rfl rfl rfl rfl rfl (by decide +kernel) (by repeat first | exact Sw.here | apply Sw.there) (by rfl) ?_
 refine B9 (nS ?_)
 (refine I5 (cs := [a1, a2, a3, a4, a5, a6, a7, a8, a9]) (by repeat (first | exact Pk.here | apply Pk.there)) (fun G9 hle9 hsl9 hno9 => ?_); have hN := A4k (k := 5) (nm := nm) ⟨by omega, by omega⟩ (hr1.mono hle9) (hr8.mono hle9) hsl9)
 refine tT ?_
 refine E3 (outs := [rd br pb nb cb p8]) (rC rfl (A3 rfl rfl)) (by repeat (first | exact A0.nil | refine A0.cons Pk.here ?_ | refine A0.cons (Pk.there Pk.here) ?_ | refine A0.cons (Pk.there (Pk.there Pk.here)) ?_ | apply A0.drop)) ?_
 (exact ⟨p8, by omega, by omega, rfl, _, _, rfl, hN, K2 hnm haa.1.small hs8, by simp only [C9, D2]; omega⟩)
end Gw
end Go.Proofs.YtgodjiieijekiaaGreatDoor
