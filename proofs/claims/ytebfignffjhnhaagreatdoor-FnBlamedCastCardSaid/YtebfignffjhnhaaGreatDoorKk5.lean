/-
  Casts put into terms of which one is more precise: the results are so, too. A function that only reads may be handed an own slice. The program's evaluator: proxies, injections, values, casts. The program's evaluator: values, casts, nodes. The program's evaluator: replacing a name, casts, nodes. The program's evaluator: casts, nodes, the rules without casts. The program's evaluator: the rules of casts. The program's evaluator: the rules of casts, selections and casts themselves. The program's evaluator: a step. The program's evaluator: step. The program's evaluator: StepCast, runs of steps, their results.
-/
import Derived.Test.YtebfignffjhnhaaGreatDoorKk4
import Derived.Test.YtebfignffjhnhaaGreatDoorKk0
import Derived.Test.YtebfignffjhnhaaGreatDoorKk3
import Derived.Test.YtebfignffjhnhaaGreatDoorKk1
set_option linter.unusedVariables false
set_option linter.unusedSimpArgs false
set_option maxHeartbeats 0
set_option maxRecDepth 100000
set_option synthInstance.maxSize 4000
set_option synthInstance.maxHeartbeats 0
namespace Go.Proofs.YtebfignffjhnhaaGreatDoor
open Go Go.RowKit
namespace Gw
theorem A2w : ∀ (t : Ty), F4 t = true → ∃ a : GT, t = a.ty
 | .mk k ks, h => by
  by_cases h4 : k = 4
  ·obtain ⟨x, y, hxy, hx, hy⟩ := A3P (.inl h4) h
   have : SizeOf.sizeOf x < SizeOf.sizeOf ks ∧ SizeOf.sizeOf y < SizeOf.sizeOf ks := by subst hxy; simp; omega
   obtain ⟨a, ha⟩ := A2w x hx
   obtain ⟨b, hb⟩ := A2w y hy
   exact ⟨.fn a b, by rw [h4, hxy, ha, hb]; rfl⟩
  ·by_cases h5 : k = 5
   ·obtain ⟨x, y, hxy, hx, hy⟩ := A3P (.inr h5) h
    have : SizeOf.sizeOf x < SizeOf.sizeOf ks ∧ SizeOf.sizeOf y < SizeOf.sizeOf ks := by subst hxy; simp; omega
    obtain ⟨a, ha⟩ := A2w x hx
    obtain ⟨b, hb⟩ := A2w y hy
    exact ⟨.pr a b, by rw [h5, hxy, ha, hb]; rfl⟩
   ·obtain ⟨h1, rfl⟩ := A7f h h4 h5
    rcases h1 with rfl | rfl | rfl
    ·exact ⟨.any, rfl⟩
    ·exact ⟨.int, rfl⟩
    ·exact ⟨.bool, rfl⟩
 termination_by t => SizeOf.sizeOf t
 decreasing_by all_goals (simp only [Ty.mk.sizeOf_spec]; omega)
theorem B0I : ∀ (a b : GT), A2e a.ty b.ty = true ↔ Le a b := by
 intro a
 induction a with
 | any => intro b; cases b <;> simp [GT.ty, A1F, A0J] <;> first | exact .any | (intro h; cases h)
 | int => intro b; cases b <;> simp [GT.ty, A1F, A0J] <;> first | exact .any | exact .int | (intro h; cases h)
 | bool => intro b; cases b <;> simp [GT.ty, A1F, A0J] <;> first | exact .any | exact .bool | (intro h; cases h)
 | fn x y i j =>
  intro b
  cases b with
  | fn z w => simp only [GT.ty, A1F, A0J, i, j, Bool.or_eq_true, Bool.and_eq_true, decide_eq_true_eq, Bool.and_true, true_and]; exact ⟨fun h => by rcases h with h | h; exact absurd h (by decide); exact .fn h.1 h.2, fun h => by cases h with | fn a b => exact .inr ⟨a, b⟩⟩
  | any => simp [GT.ty, A1F, A0J]; exact .any
  | _ => simp [GT.ty, A1F, A0J]; intro h; cases h
 | pr x y i j =>
  intro b
  cases b with
  | pr z w => simp only [GT.ty, A1F, A0J, i, j, Bool.or_eq_true, Bool.and_eq_true, decide_eq_true_eq, Bool.and_true, true_and]; exact ⟨fun h => by rcases h with h | h; exact absurd h (by decide); exact .pr h.1 h.2, fun h => by cases h with | pr a b => exact .inr ⟨a, b⟩⟩
  | any => simp [GT.ty, A1F, A0J]; exact .any
  | _ => simp [GT.ty, A1F, A0J]; intro h; cases h
theorem A0S : ∀ (a b : GT), K6 a.ty b.ty = true ↔ Co a b := by
 intro a
 induction a with
 | any => intro b; cases b <;> simp [GT.ty, V3, O0] <;> exact .l
 | int => intro b; cases b <;> simp [GT.ty, V3, O0] <;> first | exact .r | exact .int | (intro h; cases h)
 | bool => intro b; cases b <;> simp [GT.ty, V3, O0] <;> first | exact .r | exact .bool | (intro h; cases h)
 | fn x y i j =>
  intro b
  cases b with
  | fn z w => simp only [GT.ty, V3, O0, i, j, Bool.or_eq_true, Bool.and_eq_true, decide_eq_true_eq, Bool.and_true, true_and]; exact ⟨fun h => by rcases h with h | h; exact absurd h (by decide); exact .fn h.1 h.2, fun h => by cases h with | fn a b => exact .inr ⟨a, b⟩⟩
  | any => simp [GT.ty, V3, O0]; exact .r
  | _ => simp [GT.ty, V3, O0]; intro h; cases h
 | pr x y i j =>
  intro b
  cases b with
  | pr z w => simp only [GT.ty, V3, O0, i, j, Bool.or_eq_true, Bool.and_eq_true, decide_eq_true_eq, Bool.and_true, true_and]; exact ⟨fun h => by rcases h with h | h; exact absurd h (by decide); exact .pr h.1 h.2, fun h => by cases h with | pr a b => exact .inr ⟨a, b⟩⟩
  | any => simp [GT.ty, V3, O0]; exact .r
  | _ => simp [GT.ty, V3, O0]; intro h; cases h
def S7 : GT → GT → GT
 | .any, b => b
 | .fn a b, .fn c d => .fn (S7 a c) (S7 b d)
 | .pr a b, .pr c d => .pr (S7 a c) (S7 b d)
 | a, _ => a
theorem A3Q (a : GT) : S7 a .any = a := by cases a <;> rfl
theorem B0J {a b : GT} (h : Co a b) : V6 a.ty b.ty = (S7 a b).ty := by
 induction h with
 | l => simp [GT.ty, V6, S7]
 | @r a => rw [A3Q]; cases a <;> simp [GT.ty, A1n]
 | int => simp [GT.ty, A1n, T7, S7]
 | bool => simp [GT.ty, A1n, T7, S7]
 | fn _ _ i j => simp [GT.ty, A1n, T7, S7, i, j]
 | pr _ _ i j => simp [GT.ty, A1n, T7, S7, i, j]
theorem A5J {a b : GT} (h : Co a b) : Le (S7 a b) a := by
 induction h with
 | l => exact .any
 | r => rw [A3Q]; exact Le.refl
 | int => exact .int
 | bool => exact .bool
 | fn _ _ i j => exact .fn i j
 | pr _ _ i j => exact .pr i j
theorem A5K {a b : GT} (h : Co a b) : Le (S7 a b) b := by
 induction h with
 | l => exact Le.refl
 | r => exact .any
 | int => exact .int
 | bool => exact .bool
 | fn _ _ i j => exact .fn i j
 | pr _ _ i j => exact .pr i j
theorem B5S {a b : GT} (h : Co a b) : ∀ {a' b' : GT}, Le a a' → Le b b' → Le (S7 a b) (S7 a' b') := by
 induction h with
 | l => intro a' b' h1 h2; cases h1; exact h2
 | r => intro a' b' h1 h2; cases h2; rw [A3Q, A3Q]; exact h1
 | int => intro a' b' h1 h2; cases h1 <;> cases h2 <;> first | exact .int | exact .any
 | bool => intro a' b' h1 h2; cases h1 <;> cases h2 <;> first | exact .bool | exact .any
 | fn c d i j =>
  intro a' b' h1 h2
  cases h1 with
  | any => exact (A5K (.fn c d)).trans h2
  | fn p q => cases h2 with
   | any => rw [A3Q]; exact (A5J (.fn c d)).trans (.fn p q)
   | fn r s => exact .fn (i p r) (j q s)
 | pr c d i j =>
  intro a' b' h1 h2
  cases h1 with
  | any => exact (A5K (.pr c d)).trans h2
  | pr p q => cases h2 with
   | any => rw [A3Q]; exact (A5J (.pr c d)).trans (.pr p q)
   | pr r s => exact .pr (i p r) (j q s)
theorem B5T {a b : GT} (h : Le a b) : ∀ (d : Int), P9 a.ty d = true → P9 b.ty d = true := by
 induction h with
 | @any a => intro d h; cases a <;> (simp only [GT.ty, A2t, Bool.and_eq_true, decide_eq_true_eq] at h ⊢; exact ⟨⟨h.1.1, rfl⟩, by rw [U7]⟩)
 | int => exact fun _ h => h
 | bool => exact fun _ h => h
 | fn _ _ i j =>
  intro d h
  simp only [GT.ty, A2t, U7, Bool.and_eq_true, decide_eq_true_eq] at h ⊢
  exact ⟨⟨h.1.1, rfl⟩, i _ h.2.1, j _ h.2.2.1, trivial⟩
 | pr _ _ i j =>
  intro d h
  simp only [GT.ty, A2t, U7, Bool.and_eq_true, decide_eq_true_eq] at h ⊢
  exact ⟨⟨h.1.1, rfl⟩, i _ h.2.1, j _ h.2.2.1, trivial⟩
theorem A3a {a b : GT} (h : Le a b) (hv : F4 a.ty = true) : F4 b.ty = true := B5T h 1 hv
def gmF : GT → Option (GT × GT)
 | .fn a b => some (a, b)
 | .any => some (.any, .any)
 | _ => none
def gmP : GT → Option (GT × GT)
 | .pr a b => some (a, b)
 | .any => some (.any, .any)
 | _ => none
theorem B0K (a : GT) : S1 4 a.ty = (gmF a).map fun p => (p.1.ty, p.2.ty) := by cases a <;> rfl
theorem B0L (a : GT) : S1 5 a.ty = (gmP a).map fun p => (p.1.ty, p.2.ty) := by cases a <;> rfl
theorem B5U {a b p q : GT} (h : Le a b) (hm : gmF a = some (p, q)) : Co a (.fn p q) ∧ ∃ p' q', gmF b = some (p', q') ∧ Le p p' ∧ Le q q' ∧ Co b (.fn p' q') := by
 cases h with
 | any =>
  refine ⟨?_, .any, .any, rfl, .any, .any, .l⟩
  cases a with
  | fn _ _ => cases hm; exact Co.refl
  | any => exact .l
  | _ => cases hm
 | fn h1 h2 => cases hm; exact ⟨Co.refl, _, _, rfl, h1, h2, Co.refl⟩
 | _ => cases hm
theorem B5V {a b p q : GT} (h : Le a b) (hm : gmP a = some (p, q)) : Co a (.pr p q) ∧ ∃ p' q', gmP b = some (p', q') ∧ Le p p' ∧ Le q q' ∧ Co b (.pr p' q') := by
 cases h with
 | any =>
  refine ⟨?_, .any, .any, rfl, .any, .any, .l⟩
  cases a with
  | pr _ _ => cases hm; exact Co.refl
  | any => exact .l
  | _ => cases hm
 | pr h1 h2 => cases hm; exact ⟨Co.refl, _, _, rfl, h1, h2, Co.refl⟩
 | _ => cases hm
def CxR (cx cx' : Cx) (Γ : GC) : Prop := ∀ x a, Q1 cx x = some a → ∃ A A', a = A.ty ∧ Q1 cx' x = some A'.ty ∧ Γ x = some (A, A') ∧ Le A A'
theorem B5W : CxR [] [] Q0 := by intro x a h; simp [Q1, W7] at h
theorem B5X {cx cx' : Cx} {Γ : GC} (h : CxR cx cx' Γ) {A A' : GT} (hl : Le A A') (x : ByteArray) : CxR (cx ++ [(x, A.ty)]) (cx' ++ [(x, A'.ty)]) (gup Γ x A A') := by
 intro y a ha
 rw [A1D] at ha ⊢
 unfold gup
 by_cases hy : x = y
 ·rw [if_pos hy] at ha ⊢
  rw [if_pos hy]
  cases ha
  exact ⟨A, A', rfl, rfl, rfl, hl⟩
 ·rw [if_neg hy] at ha ⊢
  rw [if_neg hy]
  exact h y a ha
def T1 (A B : GT) (l : Int) (e : GE) : GE := if N3 A.ty B.ty = true then e else .cast A B l e
theorem A2f {Γ : GC} {e e' : GE} {A A' B B' : GT} {l l' : Int} (h : GP Γ e e' A A') (h1 : Co A B) (h2 : Co A' B') (h3 : Le B B') : GP Γ (T1 A B l e) (T1 A' B' l' e') B B' := by
 unfold T1
 by_cases hs : N3 A.ty B.ty = true
 ·rw [if_pos hs]
  obtain rfl := GT.inj ((Z2 _ _).1 hs)
  by_cases ht : N3 A'.ty B'.ty = true
  ·rw [if_pos ht]
   obtain rfl := GT.inj ((Z2 _ _).1 ht)
   exact h
  ·rw [if_neg ht]; exact .castR h h2 h3
 ·rw [if_neg hs]
  by_cases ht : N3 A'.ty B'.ty = true
  ·rw [if_pos ht]
   obtain rfl := GT.inj ((Z2 _ _).1 ht)
   exact .castL h h1 h3
  ·rw [if_neg ht]; exact .castB h h1 h2 h3
theorem A7i (e : GE) (us : List Tm) (A B : GT) (h w : List Ty) (l : Int) : ∃ m l1, E9 (e.tm :: us) (A.ty :: h) (B.ty :: w) l = ((T1 A B m e).tm :: (E9 us h w l1).1, (E9 us h w l1).2) := by
 rw [E9]
 unfold T1
 by_cases hs : N3 A.ty B.ty = true
 ·rw [if_pos hs]; exact ⟨0, l, by rw [if_pos hs]⟩
 ·rw [if_neg hs]; exact ⟨l + 1, l + 1, by rw [if_neg hs]; rfl⟩
theorem A4L (e : GE) (A B : GT) (l : Int) : ∃ m l1, E9 [e.tm] [A.ty] [B.ty] l = ([(T1 A B m e).tm], l1) := by
 obtain ⟨m, l1, h⟩ := A7i e [] A B [] [] l
 rw [W1] at h
 exact ⟨m, l1, h⟩
theorem A4M (e f : GE) (A B C D : GT) (l : Int) : ∃ m n l1, E9 [e.tm, f.tm] [A.ty, C.ty] [B.ty, D.ty] l = ([(T1 A B m e).tm, (T1 C D n f).tm], l1) := by
 obtain ⟨m, l1, h⟩ := A7i e [f.tm] A B [C.ty] [D.ty] l
 obtain ⟨n, l2, h2⟩ := A4L f C D l1
 rw [h2] at h
 exact ⟨m, n, l2, h⟩
theorem B0M (e f g : GE) (A B C D E F : GT) (l : Int) : ∃ m n o l1, E9 [e.tm, f.tm, g.tm] [A.ty, C.ty, E.ty] [B.ty, D.ty, F.ty] l = ([(T1 A B m e).tm, (T1 C D n f).tm, (T1 E F o g).tm], l1) := by
 obtain ⟨m, l1, h⟩ := A7i e [f.tm, g.tm] A B [C.ty, E.ty] [D.ty, F.ty] l
 obtain ⟨n, o, l2, h2⟩ := A4M f g C D E F l1
 rw [h2] at h
 exact ⟨m, n, o, l2, h⟩
inductive GPL (Γ : GC) : List GE → List GE → List GT → List GT → Prop
 | nil : GPL Γ [] [] [] []
 | cons {e e' A A' es es' As As'} : GP Γ e e' A A' → GPL Γ es es' As As' → GPL Γ (e :: es) (e' :: es') (A :: As) (A' :: As')
theorem GPL.one {Γ : GC} {es es' : List GE} {As As' : List GT} (h : GPL Γ es es' As As') (hl : es.length = 1) : ∃ e e' A A', es = [e] ∧ es' = [e'] ∧ As = [A] ∧ As' = [A'] ∧ GP Γ e e' A A' := by
 cases h with
 | nil => simp at hl
 | cons h h2 => cases h2 with
  | nil => exact ⟨_, _, _, _, rfl, rfl, rfl, rfl, h⟩
  | cons _ _ => simp at hl
theorem GPL.two {Γ : GC} {es es' : List GE} {As As' : List GT} (h : GPL Γ es es' As As') (hl : es.length = 2) : ∃ e e' A A' f f' B B', es = [e, f] ∧ es' = [e', f'] ∧ As = [A, B] ∧ As' = [A', B'] ∧ GP Γ e e' A A' ∧ GP Γ f f' B B' := by
 cases h with
 | nil => simp at hl
 | cons h h2 =>
  obtain ⟨f, f', B, B', rfl, rfl, rfl, rfl, h3⟩ := h2.one (by simpa using hl)
  exact ⟨_, _, _, _, f, f', B, B', rfl, rfl, rfl, rfl, h, h3⟩
theorem GPL.three {Γ : GC} {es es' : List GE} {As As' : List GT} (h : GPL Γ es es' As As') (hl : es.length = 3) : ∃ e e' A A' f f' B B' g g' C C', es = [e, f, g] ∧ es' = [e', f', g'] ∧ As = [A, B, C] ∧ As' = [A', B', C'] ∧ GP Γ e e' A A' ∧ GP Γ f f' B B' ∧ GP Γ g g' C C' := by
 cases h with
 | nil => simp at hl
 | cons h h2 =>
  obtain ⟨f, f', B, B', g, g', C, C', rfl, rfl, rfl, rfl, h3, h4⟩ := h2.two (by simpa using hl)
  exact ⟨_, _, _, _, f, f', B, B', g, g', C, C', rfl, rfl, rfl, rfl, h, h3, h4⟩
theorem GPL.zero {Γ : GC} {es es' : List GE} {As As' : List GT} (h : GPL Γ es es' As As') (hl : es.length = 0) : es = [] ∧ es' = [] ∧ As = [] ∧ As' = [] := by
 cases h with
 | nil => exact ⟨rfl, rfl, rfl, rfl⟩
 | cons _ _ => simp at hl
theorem A1G {cx : Cx} {k : Int} {nm : ByteArray} {num : Int} {ty fr : Ty} {lb : Int} {us : List Tm} {h : List Ty} {l : Int} {u : Tm} {a : Ty} {l2 : Int} (he : R2 cx k nm num ty fr lb us h l = some (u, a, l2)) :
  ∃ w, J6 cx k nm ty h = some (w, a) ∧ F4 a = true ∧ u = if k = 13 then (E9 us h w l).1.getD 0 J7 else .mk k nm num ty fr lb (E9 us h w l).1 := by
 unfold R2 at he
 split at he
 ·cases he
 ·rename_i w t hn
  simp only [Option.some.injEq, Prod.mk.injEq] at he
  obtain ⟨rfl, rfl, rfl⟩ := he
  obtain ⟨h1, h2⟩ := A4D hn
  exact ⟨w, h2, h1, rfl⟩
theorem A1H {cx : Cx} {k : Int} {nm : ByteArray} {num : Int} {ty fr : Ty} {lb : Int} {us : List Tm} {h : List Ty} {l : Int} {w : List Ty} {a : Ty} (hw : J6 cx k nm ty h = some (w, a)) (hv : F4 a = true) :
  R2 cx k nm num ty fr lb us h l = some (if k = 13 then (E9 us h w l).1.getD 0 J7 else .mk k nm num ty fr lb (E9 us h w l).1, a, (E9 us h w l).2) := by
 unfold R2 U3
 rw [hw]
 simp only [hv, if_true]
theorem B0N {k : Int} {nm : ByteArray} {num : Int} {ty fr : Ty} {lb : Int} {ks : List Tm} {d : Int} (h : N5 12 14 (.mk k nm num ty fr lb ks) d = true) :
  D9 k = ks.length ∧ k ≠ 14 ∧ (¬(k = 1 ∨ k = 5) → nm = ⟨#[]⟩) ∧ (k ≠ 2 → num = 0) ∧ (k = 5 ∨ k = 13 → F4 ty = true) ∧ (¬(k = 5 ∨ k = 13) → ty = B3) ∧ fr = B3 ∧ lb = 0 ∧ N7 12 14 ks (d + 1) = true := by
 obtain ⟨_, h2, h3, h4⟩ := A0R h
 obtain ⟨n1, n2, n3, n4, n5, n6, n7, n8, n9⟩ := V8.1 h3
 exact ⟨n1, h2, n3, fun hk => by have := A4A.1 (n5 hk); omega, fun hk => n6 (by omega), fun hk => A2m (n7 (by omega)), A2m (n9 h2).1, (n9 h2).2, h4⟩
abbrev ElR (Γ : GC) (u : Tm) (a : Ty) (r : Option (Tm × Ty × Int)) : Prop := ∃ e A e' A' l2, u = e.tm ∧ a = A.ty ∧ r = some (e'.tm, A'.ty, l2) ∧ GP Γ e e' A A'
section
variable {cx cx' : Cx} {Γ : GC} {es es' : List GE} {As As' : List GT} {l l' : Int} {u : Tm} {a : Ty} {l2 : Int} {nm : ByteArray} {num : Int}
theorem B5Y (hc : CxR cx cx' Γ) (he : R2 cx 1 nm 0 B3 B3 0 [] [] l = some (u, a, l2)) : ElR Γ u a (R2 cx' 1 nm 0 B3 B3 0 [] [] l') := by
 obtain ⟨w, hw, hv, rfl⟩ := A1G he
 unfold J6 at hw
 rw [if_pos rfl] at hw
 split at hw
 ·rename_i t ht
  cases hw
  obtain ⟨A, A', rfl, h2, h3, h4⟩ := hc _ _ ht
  refine ⟨.var nm, A, .var nm, A', l', ?_, rfl, ?_, .var h3 h4⟩
  ·rw [W1, if_neg (by decide)]; rfl
  ·rw [A1H (w := []) (a := A'.ty) (by unfold J6; rw [if_pos rfl, h2]) (A3a h4 hv), W1, if_neg (by decide)]; rfl
 ·cases hw
theorem B5Z (he : R2 cx 2 ⟨#[]⟩ num B3 B3 0 [] [] l = some (u, a, l2)) : ElR Γ u a (R2 cx' 2 ⟨#[]⟩ num B3 B3 0 [] [] l') := by
 obtain ⟨w, hw, hv, rfl⟩ := A1G he
 cases hw
 exact ⟨.num num, .int, .num num, .int, l', by rw [W1, if_neg (by decide)]; rfl, rfl, by rw [A1H (w := []) (a := Q9) rfl hv, W1, if_neg (by decide)]; rfl, .num⟩
theorem B50 (b : Bool) (he : R2 cx (if b = true then 3 else 4) ⟨#[]⟩ 0 B3 B3 0 [] [] l = some (u, a, l2)) : ElR Γ u a (R2 cx' (if b = true then 3 else 4) ⟨#[]⟩ 0 B3 B3 0 [] [] l') := by
 obtain ⟨w, hw, hv, rfl⟩ := A1G he
 cases b <;> (cases hw; exact ⟨.tru _, .bool, .tru _, .bool, l', by rw [W1, if_neg (by decide)]; rfl, rfl, by rw [A1H (w := []) (a := U9) rfl hv, W1, if_neg (by decide)]; rfl, .tru⟩)
theorem B51 {A A' B B' : GT} {e e' : GE} (hA : Le A A') (hp : GP (gup Γ nm A A') e e' B B') (he : R2 cx 5 nm 0 A.ty B3 0 [e.tm] [B.ty] l = some (u, a, l2)) : ElR Γ u a (R2 cx' 5 nm 0 A'.ty B3 0 [e'.tm] [B'.ty] l') := by
 obtain ⟨w, hw, hv, rfl⟩ := A1G he
 cases hw
 exact ⟨.lam nm A e, .fn A B, .lam nm A' e', .fn A' B', l', by rw [W1, if_neg (by decide)]; rfl, rfl, by rw [A1H (w := []) (a := .mk 4 [A'.ty, B'.ty]) rfl (A3a (.fn hA hp.le) hv), W1, if_neg (by decide)]; rfl, .lam hA hp⟩
theorem B52 {A A' B B' : GT} {e e' f f' : GE} (hp : GP Γ e e' A A') (hq : GP Γ f f' B B') (he : R2 cx 6 ⟨#[]⟩ 0 B3 B3 0 [e.tm, f.tm] [A.ty, B.ty] l = some (u, a, l2)) : ElR Γ u a (R2 cx' 6 ⟨#[]⟩ 0 B3 B3 0 [e'.tm, f'.tm] [A'.ty, B'.ty] l') := by
 obtain ⟨w, hw, hv, rfl⟩ := A1G he
 unfold J6 at hw
 rw [if_neg (by decide), if_neg (by decide), if_neg (by decide), if_neg (by decide), if_pos rfl] at hw
 simp only [List.getD_cons_zero, List.getD_cons_succ, B0K] at hw
 cases hm : gmF A with
 | none => rw [hm] at hw; cases hw
 | some pq =>
  obtain ⟨p, q⟩ := pq
  rw [hm] at hw
  simp only [Option.map_some] at hw
  split at hw
  ·rename_i hc
   cases hw
   obtain ⟨c1, p', q', hm', h1, h2, c2⟩ := B5U hp.le hm
   have hco := (A0S _ _).1 hc
   have hco' := hco.up hq.le h1
   obtain ⟨m, n, l1, h3⟩ := A4M e f A (.fn p q) B p l
   obtain ⟨m', n', l1', h3'⟩ := A4M e' f' A' (.fn p' q') B' p' l'
   refine ⟨.app (T1 A (.fn p q) m e) (T1 B p n f), q, .app (T1 A' (.fn p' q') m' e') (T1 B' p' n' f'), q', l1', ?_, rfl, ?_, .app (A2f hp c1 c2 (.fn h1 h2)) (A2f hq hco hco' h1)⟩
   ·rw [if_neg (by decide)]
    show Tm.mk _ _ _ _ _ _ (E9 [e.tm, f.tm] [A.ty, B.ty] [(GT.fn p q).ty, p.ty] l).1 = _
    rw [h3]; rfl
   ·rw [A1H (w := [(GT.fn p' q').ty, p'.ty]) (a := q'.ty) ?_ (A3a h2 hv), if_neg (by decide), h3']
    ·rfl
    ·unfold J6
     rw [if_neg (by decide), if_neg (by decide), if_neg (by decide), if_neg (by decide), if_pos rfl]
     simp only [List.getD_cons_zero, List.getD_cons_succ, B0K, hm', Option.map_some]
     rw [if_pos ((A0S _ _).2 hco')]; rfl
  ·cases hw
theorem B53 (s : Bool) {A A' B B' : GT} {e e' f f' : GE} (hp : GP Γ e e' A A') (hq : GP Γ f f' B B') (he : R2 cx (if s = true then 8 else 7) ⟨#[]⟩ 0 B3 B3 0 [e.tm, f.tm] [A.ty, B.ty] l = some (u, a, l2)) : ElR Γ u a (R2 cx' (if s = true then 8 else 7) ⟨#[]⟩ 0 B3 B3 0 [e'.tm, f'.tm] [A'.ty, B'.ty] l') := by
 have hk : (if s = true then (8 : Int) else 7) = 7 ∨ (if s = true then (8 : Int) else 7) = 8 := by cases s <;> simp
 have hT : (if (if s = true then (8 : Int) else 7) = 8 then U9 else Q9) = GT.ty (if s = true then .bool else .int) := by cases s <;> rfl
 obtain ⟨w, hw, hv, rfl⟩ := A1G he
 unfold J6 at hw
 rw [if_neg (by omega), if_neg (by omega), if_neg (by omega), if_neg (by omega), if_neg (by omega), if_pos hk] at hw
 simp only [List.getD_cons_zero, List.getD_cons_succ] at hw
 split at hw
 ·rename_i hc
  rw [hT] at hw
  cases hw
  have c1 := (A0S A .int).1 hc.1
  have c2 := (A0S B .int).1 hc.2
  have d1 := c1.up hp.le Le.refl
  have d2 := c2.up hq.le Le.refl
  obtain ⟨m, n, l1, h3⟩ := A4M e f A .int B .int l
  obtain ⟨m', n', l1', h3'⟩ := A4M e' f' A' .int B' .int l'
  refine ⟨.ar s (T1 A .int m e) (T1 B .int n f), _, .ar s (T1 A' .int m' e') (T1 B' .int n' f'), _, l1', ?_, rfl, ?_, .ar (A2f hp c1 d1 .int) (A2f hq c2 d2 .int)⟩
  ·rw [if_neg (by omega)]
   show Tm.mk _ _ _ _ _ _ (E9 [e.tm, f.tm] [A.ty, B.ty] [GT.int.ty, GT.int.ty] l).1 = _
   rw [h3]; rfl
  ·rw [A1H (w := [GT.int.ty, GT.int.ty]) (a := GT.ty (if s = true then .bool else .int)) ?_ hv, if_neg (by omega), h3']
   ·rfl
   ·unfold J6
    rw [if_neg (by omega), if_neg (by omega), if_neg (by omega), if_neg (by omega), if_neg (by omega), if_pos hk]
    simp only [List.getD_cons_zero, List.getD_cons_succ]
    rw [if_pos ⟨(A0S A' .int).2 d1, (A0S B' .int).2 d2⟩, hT]; rfl
 ·cases hw
theorem B54 {A A' B B' C C' : GT} {e e' f f' g g' : GE} (hp : GP Γ e e' A A') (hq : GP Γ f f' B B') (hr : GP Γ g g' C C') (he : R2 cx 9 ⟨#[]⟩ 0 B3 B3 0 [e.tm, f.tm, g.tm] [A.ty, B.ty, C.ty] l = some (u, a, l2)) :
  ElR Γ u a (R2 cx' 9 ⟨#[]⟩ 0 B3 B3 0 [e'.tm, f'.tm, g'.tm] [A'.ty, B'.ty, C'.ty] l') := by
 obtain ⟨w, hw, hv, rfl⟩ := A1G he
 unfold J6 at hw
 rw [if_neg (by decide), if_neg (by decide), if_neg (by decide), if_neg (by decide), if_neg (by decide), if_neg (by decide), if_pos rfl] at hw
 simp only [List.getD_cons_zero, List.getD_cons_succ] at hw
 split at hw
 ·rename_i hc
  have c1 := (A0S A .bool).1 hc.1
  have c2 := (A0S B C).1 hc.2
  have d1 := c1.up hp.le Le.refl
  have d2 := c2.up hq.le hr.le
  rw [B0J c2] at hw
  cases hw
  have hM := B5S c2 hq.le hr.le
  obtain ⟨m, n, o, l1, h3⟩ := B0M e f g A .bool B (S7 B C) C (S7 B C) l
  obtain ⟨m', n', o', l1', h3'⟩ := B0M e' f' g' A' .bool B' (S7 B' C') C' (S7 B' C') l'
  refine ⟨.ite (T1 A .bool m e) (T1 B (S7 B C) n f) (T1 C (S7 B C) o g), S7 B C, .ite (T1 A' .bool m' e') (T1 B' (S7 B' C') n' f') (T1 C' (S7 B' C') o' g'), S7 B' C', l1', ?_, rfl, ?_,
   .ite (A2f hp c1 d1 .bool) (A2f hq (A5J c2).co.symm (A5J d2).co.symm hM) (A2f hr (A5K c2).co.symm (A5K d2).co.symm hM)⟩
  ·rw [if_neg (by decide)]
   show Tm.mk _ _ _ _ _ _ (E9 [e.tm, f.tm, g.tm] [A.ty, B.ty, C.ty] [GT.bool.ty, (S7 B C).ty, (S7 B C).ty] l).1 = _
   rw [h3]; rfl
  ·rw [A1H (w := [GT.bool.ty, (S7 B' C').ty, (S7 B' C').ty]) (a := (S7 B' C').ty) ?_ (A3a hM hv), if_neg (by decide), h3']
   ·rfl
   ·unfold J6
    rw [if_neg (by decide), if_neg (by decide), if_neg (by decide), if_neg (by decide), if_neg (by decide), if_neg (by decide), if_pos rfl]
    simp only [List.getD_cons_zero, List.getD_cons_succ]
    rw [if_pos ⟨(A0S A' .bool).2 d1, (A0S B' C').2 d2⟩, B0J d2]; rfl
 ·cases hw
theorem B55 {A A' B B' : GT} {e e' f f' : GE} (hp : GP Γ e e' A A') (hq : GP Γ f f' B B') (he : R2 cx 10 ⟨#[]⟩ 0 B3 B3 0 [e.tm, f.tm] [A.ty, B.ty] l = some (u, a, l2)) : ElR Γ u a (R2 cx' 10 ⟨#[]⟩ 0 B3 B3 0 [e'.tm, f'.tm] [A'.ty, B'.ty] l') := by
 obtain ⟨w, hw, hv, rfl⟩ := A1G he
 cases hw
 exact ⟨.pair e f, .pr A B, .pair e' f', .pr A' B', l', by rw [W1, if_neg (by decide)]; rfl, rfl, by rw [A1H (w := []) (a := .mk 5 [A'.ty, B'.ty]) rfl (A3a (.pr hp.le hq.le) hv), W1, if_neg (by decide)]; rfl, .pair hp hq⟩
theorem B56 (s : Bool) {A A' : GT} {e e' : GE} (hp : GP Γ e e' A A') (he : R2 cx (if s = true then 12 else 11) ⟨#[]⟩ 0 B3 B3 0 [e.tm] [A.ty] l = some (u, a, l2)) : ElR Γ u a (R2 cx' (if s = true then 12 else 11) ⟨#[]⟩ 0 B3 B3 0 [e'.tm] [A'.ty] l') := by
 have hk : (if s = true then (12 : Int) else 11) = 11 ∨ (if s = true then (12 : Int) else 11) = 12 := by cases s <;> simp
 have hT : ∀ p q : GT, (if (if s = true then (12 : Int) else 11) = 12 then q.ty else p.ty) = GT.ty (if s = true then q else p) := by intro p q; cases s <;> rfl
 obtain ⟨w, hw, hv, rfl⟩ := A1G he
 unfold J6 at hw
 rw [if_neg (by omega), if_neg (by omega), if_neg (by omega), if_neg (by omega), if_neg (by omega), if_neg (by omega), if_neg (by omega), if_neg (by omega), if_neg (by omega)] at hw
 simp only [List.getD_cons_zero, B0L] at hw
 cases hm : gmP A with
 | none => rw [hm] at hw; cases hw
 | some pq =>
  obtain ⟨p, q⟩ := pq
  rw [hm] at hw
  simp only [Option.map_some, hT] at hw
  cases hw
  obtain ⟨c1, p', q', hm', h1, h2, c2⟩ := B5V hp.le hm
  obtain ⟨m, l1, h3⟩ := A4L e A (.pr p q) l
  obtain ⟨m', l1', h3'⟩ := A4L e' A' (.pr p' q') l'
  refine ⟨.part s (T1 A (.pr p q) m e), _, .part s (T1 A' (.pr p' q') m' e'), _, l1', ?_, rfl, ?_, .part (A2f hp c1 c2 (.pr h1 h2))⟩
  ·rw [if_neg (by omega)]
   show Tm.mk _ _ _ _ _ _ (E9 [e.tm] [A.ty] [(GT.pr p q).ty] l).1 = _
   rw [h3]; rfl
  ·rw [A1H (w := [(GT.pr p' q').ty]) (a := GT.ty (if s = true then q' else p')) ?_ (A3a (by cases s; exact h1; exact h2) hv), if_neg (by omega), h3']
   ·rfl
   ·unfold J6
    rw [if_neg (by omega), if_neg (by omega), if_neg (by omega), if_neg (by omega), if_neg (by omega), if_neg (by omega), if_neg (by omega), if_neg (by omega), if_neg (by omega)]
    simp only [List.getD_cons_zero, B0L, hm', Option.map_some, hT]; rfl
theorem B57 {A A' B B' : GT} {e e' : GE} (hB : Le B B') (hp : GP Γ e e' A A') (he : R2 cx 13 ⟨#[]⟩ 0 B.ty B3 0 [e.tm] [A.ty] l = some (u, a, l2)) : ElR Γ u a (R2 cx' 13 ⟨#[]⟩ 0 B'.ty B3 0 [e'.tm] [A'.ty] l') := by
 obtain ⟨w, hw, hv, rfl⟩ := A1G he
 unfold J6 at hw
 rw [if_neg (by decide), if_neg (by decide), if_neg (by decide), if_neg (by decide), if_neg (by decide), if_neg (by decide), if_neg (by decide), if_neg (by decide), if_pos rfl] at hw
 simp only [List.getD_cons_zero] at hw
 split at hw
 ·rename_i hc
  cases hw
  have c1 := (A0S A B).1 hc
  have d1 := c1.up hp.le hB
  obtain ⟨m, l1, h3⟩ := A4L e A B l
  obtain ⟨m', l1', h3'⟩ := A4L e' A' B' l'
  refine ⟨T1 A B m e, B, T1 A' B' m' e', B', l1', ?_, rfl, ?_, A2f hp c1 d1 hB⟩
  ·rw [if_pos rfl, h3]; rfl
  ·rw [A1H (w := [B'.ty]) (a := B'.ty) ?_ (A3a hB hv), if_pos rfl, h3']
   ·rfl
   ·unfold J6
    rw [if_neg (by decide), if_neg (by decide), if_neg (by decide), if_neg (by decide), if_neg (by decide), if_neg (by decide), if_neg (by decide), if_neg (by decide), if_pos rfl]
    simp only [List.getD_cons_zero]
    rw [if_pos ((A0S A' B').2 d1)]
 ·cases hw
end
theorem B58 (ks : List Tm) (ih : ∀ t ∈ ks, ∀ (t' : Tm) (d : Int) (cx cx' : Cx) (Γ : GC) (l l' : Int) (u : Tm) (a : Ty) (l2 : Int), N5 12 14 t d = true → N5 12 14 t' d = true → A29 t t' = true → CxR cx cx' Γ → M8 cx t l = some (u, a, l2) → ElR Γ u a (M8 cx' t' l')) :
  ∀ (ks' : List Tm) (d : Int) (cx cx' : Cx) (Γ : GC) (l l' : Int) (us : List Tm) (h : List Ty) (l2 : Int), N7 12 14 ks d = true → N7 12 14 ks' d = true → A2v ks ks' = true → CxR cx cx' Γ → L6 cx ks l = some (us, h, l2) →
   ∃ es As es' As' l2', us = es.map GE.tm ∧ h = As.map GT.ty ∧ L6 cx' ks' l' = some (es'.map GE.tm, As'.map GT.ty, l2') ∧ GPL Γ es es' As As' := by
 induction ks with
 | nil =>
  intro ks' d cx cx' Γ l l' us h l2 _ _ hp _ he
  cases ks' with
  | cons _ _ => cases hp
  | nil =>
   rw [L6] at he
   cases he
   exact ⟨[], [], [], [], l', rfl, rfl, by rw [L6]; rfl, .nil⟩
 | cons t ts ihl =>
  intro ks' d cx cx' Γ l l' us h l2 hs hs' hp hc he
  cases ks' with
  | nil => cases hp
  | cons t' ts' =>
   rw [N7, Bool.and_eq_true] at hs hs'
   rw [A2v, Bool.and_eq_true] at hp
   rw [L6] at he ⊢
   split at he
   ·cases he
   ·rename_i u a l1 h1
    split at he
    ·cases he
    ·rename_i us' h' l3 h2
     cases he
     obtain ⟨e, A, e', A', m, rfl, rfl, h3, h4⟩ := ih t List.mem_cons_self t' d cx cx' Γ l l' u a l1 hs.1 hs'.1 hp.1 hc h1
     obtain ⟨es, As, es', As', m2, rfl, rfl, h5, h6⟩ := ihl (fun x hx => ih x (List.mem_cons_of_mem _ hx)) ts' d cx cx' Γ l1 m us' h' l2 hs.2 hs'.2 hp.2 hc h2
     rw [h3]
     simp only [h5]
     exact ⟨e :: es, A :: As, e' :: es', A' :: As', m2, rfl, rfl, rfl, .cons h4 h6⟩
theorem A7j {cx : Cx} : ∀ {ks : List Tm} {l : Int} {us : List Tm} {h : List Ty} {l2 : Int}, L6 cx ks l = some (us, h, l2) → us.length = ks.length
 | [], _, _, _, _, h => by rw [L6] at h; cases h; rfl
 | t :: ts, _, _, _, _, h => by
  rw [L6] at h
  split at h
  ·cases h
  ·split at h
   ·cases h
   ·rename_i h2; cases h; simp [A7j h2]
theorem B59 : ∀ (t t' : Tm) (d : Int) (cx cx' : Cx) (Γ : GC) (l l' : Int) (u : Tm) (a : Ty) (l2 : Int), N5 12 14 t d = true → N5 12 14 t' d = true → A29 t t' = true → CxR cx cx' Γ → M8 cx t l = some (u, a, l2) → ElR Γ u a (M8 cx' t' l') := by
 refine Tm.ind fun k nm num ty fr lb ks ih t' d cx cx' Γ l l' u a l2 hs hs' hp hc he => ?_
 obtain ⟨k', nm', num', ty', fr', lb', ks'⟩ := t'
 obtain ⟨rfl, rfl, rfl, hty, hpk⟩ := B0H.1 hp
 obtain ⟨n1, n2, n3, n4, n5, n6, n7, n8, n9⟩ := B0N hs
 obtain ⟨m1, m2, m3, m4, m5, m6, m7, m8, m9⟩ := B0N hs'
 subst n7 n8 m7 m8
 rw [M8] at he ⊢
 split at he
 ·cases he
 ·rename_i us h l1 hL
  
  have key : ∀ Δ, CxR (K1 cx k nm ty) (K1 cx' k nm ty') Δ → ∃ es As es' As' l2', us = es.map GE.tm ∧ h = As.map GT.ty ∧ L6 (K1 cx' k nm ty') ks' l' = some (es'.map GE.tm, As'.map GT.ty, l2') ∧ GPL Δ es es' As As' :=
   fun Δ hD => B58 ks ih ks' (d + 1) _ _ Δ l l' us h l1 n9 m9 hpk hD hL
  by_cases h5 : k = 5
  ·subst h5
   obtain ⟨A, rfl⟩ := A2w ty (n5 (.inl rfl))
   obtain ⟨A', rfl⟩ := A2w ty' (m5 (.inl rfl))
   have hA := (B0I A A').1 (hty (.inl rfl))
   obtain rfl := n4 (by decide)
   obtain ⟨es, As, es', As', l3, rfl, rfl, e1, e2⟩ := key (gup Γ nm A A') (by rw [K1, K1, if_pos rfl, if_pos rfl]; exact B5X hc hA nm)
   have hlen : es.length = 1 := by
    have h1 := A7j hL
    rw [List.length_map] at h1
    have : D9 5 = 1 := rfl
    omega
   obtain ⟨e, e', B, B', rfl, rfl, rfl, rfl, hq⟩ := e2.one hlen
   rw [e1]
   exact B51 hA hq he
  ·obtain ⟨es, As, es', As', l3, rfl, rfl, e1, e2⟩ := key Γ (by rw [K1, K1, if_neg h5, if_neg h5]; exact hc)
   have hlen : (es.length : Int) = D9 k := by
    have h1 := A7j hL
    rw [List.length_map] at h1
    omega
   rw [e1]
   have hk : 1 ≤ k ∧ k ≤ 14 := by
    apply Classical.byContradiction
    intro hk
    rw [A5c hk] at n1; omega
   by_cases h1 : k = 1
   ·subst h1
    obtain rfl := n4 (by decide)
    obtain rfl := n6 (by decide)
    obtain rfl := m6 (by decide)
    obtain ⟨rfl, rfl, rfl, rfl⟩ := e2.zero (by have : D9 1 = 0 := rfl; omega)
    exact B5Y hc he
   obtain rfl := n3 (by omega)
   by_cases h2 : k = 2
   ·subst h2
    obtain rfl := n6 (by decide)
    obtain rfl := m6 (by decide)
    obtain ⟨rfl, rfl, rfl, rfl⟩ := e2.zero (by have : D9 2 = 0 := rfl; omega)
    exact B5Z he
   obtain rfl := n4 h2
   by_cases h13 : k = 13
   ·subst h13
    obtain ⟨B, rfl⟩ := A2w ty (n5 (.inr rfl))
    obtain ⟨B', rfl⟩ := A2w ty' (m5 (.inr rfl))
    obtain ⟨e, e', A, A', rfl, rfl, rfl, rfl, hq⟩ := e2.one (by have : D9 13 = 1 := rfl; omega)
    exact B57 ((B0I B B').1 (hty (.inr rfl))) hq he
   obtain rfl := n6 (by omega)
   obtain rfl := m6 (by omega)
   by_cases h34 : k = 3 ∨ k = 4
   ·obtain ⟨b, rfl⟩ : ∃ b : Bool, k = if b = true then 3 else 4 := by rcases h34 with h | h; exact ⟨true, h⟩; exact ⟨false, h⟩
    obtain ⟨rfl, rfl, rfl, rfl⟩ := e2.zero (by have : D9 (if b = true then 3 else 4) = 0 := (by cases b <;> rfl); omega)
    exact B50 b he
   by_cases h6 : k = 6
   ·subst h6
    obtain ⟨e, e', A, A', f, f', B, B', rfl, rfl, rfl, rfl, hp1, hp2⟩ := e2.two (by have : D9 6 = 2 := rfl; omega)
    exact B52 hp1 hp2 he
   by_cases h78 : k = 7 ∨ k = 8
   ·obtain ⟨b, rfl⟩ : ∃ b : Bool, k = if b = true then 8 else 7 := by rcases h78 with h | h; exact ⟨false, h⟩; exact ⟨true, h⟩
    obtain ⟨e, e', A, A', f, f', B, B', rfl, rfl, rfl, rfl, hp1, hp2⟩ := e2.two (by have : D9 (if b = true then 8 else 7) = 2 := (by cases b <;> rfl); omega)
    exact B53 b hp1 hp2 he
   by_cases h9 : k = 9
   ·subst h9
    obtain ⟨e, e', A, A', f, f', B, B', g, g', C, C', rfl, rfl, rfl, rfl, hp1, hp2, hp3⟩ := e2.three (by have : D9 9 = 3 := rfl; omega)
    exact B54 hp1 hp2 hp3 he
   by_cases h10 : k = 10
   ·subst h10
    obtain ⟨e, e', A, A', f, f', B, B', rfl, rfl, rfl, rfl, hp1, hp2⟩ := e2.two (by have : D9 10 = 2 := rfl; omega)
    exact B55 hp1 hp2 he
   have h11 : k = 11 ∨ k = 12 := by omega
   obtain ⟨b, rfl⟩ : ∃ b : Bool, k = if b = true then 12 else 11 := by rcases h11 with h | h; exact ⟨false, h⟩; exact ⟨true, h⟩
   obtain ⟨e, e', A, A', rfl, rfl, rfl, rfl, hp1⟩ := e2.one (by have : D9 (if b = true then 12 else 11) = 1 := (by cases b <;> rfl); omega)
   exact B56 b hp1 he
theorem B6a {a b u : Tm} {t : Ty} (ha : O8 a = some (u, t)) (hp : A5I a b = true) : ∃ e e' A A', u = e.tm ∧ t = A.ty ∧ O8 b = some (e'.tm, A'.ty) ∧ GP Q0 e e' A A' := by
 unfold A5I at hp
 rw [Bool.and_eq_true, Bool.and_eq_true] at hp
 unfold O8 at ha ⊢
 rw [if_pos hp.1] at ha
 rw [if_pos hp.2.1]
 split at ha
 ·rename_i u' t' l' he
  cases ha
  obtain ⟨e, A, e', A', l2, rfl, rfl, h1, h2⟩ := B59 a b 1 [] [] Q0 0 0 u t l' ((A1p a).1 hp.1).1 ((A1p b).1 hp.2.1).1 hp.2.2 B5W he
  rw [h1]
  exact ⟨e, e', A, A', rfl, rfl, rfl, h2⟩
 ·cases ha
variable {P : Program} {G : IM}
theorem Fn.forget {f : FuncId} {args : List Value} {v0 : Value} {post : IM → Value → List A6 → Prop} (h : Fn P f args [] G post) (hv : ∀ G' v outs, post G' v outs → v = v0) : Fn P f args [] G (J0 v0 G) := by
 refine ⟨fun w hw => (h.run w hw).mono ?_⟩
 rintro e w' ⟨u, G', outs, rfl, hres, hp⟩
 refine ⟨u, G, [], rfl, ⟨⟨fun b l hb => hres.own.inn b l (hres.le b l hb), by simp, by simp [Fp], by simp [Fp]⟩, hres.ext, C4.refl _, fun _ _ h => .inl h, by simp [Fp], fun b l h h0 => absurd h (by rw [h0]; simp)⟩, rfl, hv _ _ _ hp, rfl⟩
def X8 (t : Tm) : IM → Value → List A6 → Prop := K8 fun G' v => ∃ cells, v = .agg ⟨cells⟩ ∧ B1 G' t cells
theorem X8.mk {G : IM} {t : Tm} {cells : List Value} (h : B1 G t cells) : X8 t G (.agg ⟨cells⟩) [] := ⟨rfl, cells, rfl, h⟩
def mGk (k : Int) : Ty := if k = 4 ∨ k = 5 then .mk k [R4, R4] else .mk k []
theorem A04 {G : IM} {k : Int} {ks : List Tm} {p : Option Addr} {n c : Nat} {es : List (List Value)} (hk : H0 k) (hn : n = ks.length) (hs : E3 G p n c 9 es) (hr : E5 G ks es) : B1 G (Y5 k ks) [.int .i64 k, .string ⟨⟨[]⟩⟩, .int .i64 0, .int .i64 0, .slice none 0 0, .int .i64 0, .slice none 0 0, .int .i64 0, .slice p n c] := by
 subst hn
 simp only [Y5, B1]
 exact ⟨[.int .i64 0, .slice none 0 0], [.int .i64 0, .slice none 0 0], p, c, es, rfl, hk, ⟨by decide, by decide⟩, ⟨by decide, by decide⟩, A18 G, A18 G, hs, hr⟩
theorem A5L (k : Int) (G : IM) (hk : H0 k) : Fn Tryz.prog 115 [.int .i64 k] [] G (K8 fun G' v => ∃ cells, v = .agg ⟨cells⟩ ∧ C3 G' (mGk k) cells) := by
 have hB := A2s k R4 R4 G _ _ hk (A0Q G) (A0Q G)
 refine C6 Tryz.func115 rfl Tryz.ntmps115 Tryz.results115 rfl ?_
 intro w0
 refine A4 ?_
 refine sE (A9 rfl) rfl (fun b3 => ?_)
 refine A8 ?_
 refine sB (qE rfl rfl) rfl rfl (fun h10 => ?_) (fun h10 => ?_)
 refine J2 ?_
 refine H6 rfl ((A10 _ _)) rfl rfl ?_
 refine H6 rfl ((A10 _ _)) rfl rfl ?_
 (refine E6 rfl hB rfl rfl (fun v G1 hle1 hh => ?_); obtain ⟨cb, rfl, hrb⟩ := hh; obtain ⟨p1, c1, e1, rfl, _⟩ := hrb.open)
 refine B0 ?_
 refine N9 (rC rfl (A5 rfl rfl)) ?_
 (exact ⟨rfl, _, rfl, by unfold mGk; rw [if_pos (by omega)]; exact hrb⟩)
 refine A4 ?_
 refine sB (qE rfl rfl) rfl rfl (fun h33 => ?_) (fun h33 => ?_)
 refine B7 ?_
 refine H6 rfl ((A10 _ _)) rfl rfl ?_
 refine H6 rfl ((A10 _ _)) rfl rfl ?_
 (refine E6 rfl hB rfl rfl (fun v G1 hle1 hh => ?_); obtain ⟨cb, rfl, hrb⟩ := hh; obtain ⟨p1, c1, e1, rfl, _⟩ := hrb.open)
 refine B0 ?_
 refine N9 (rC rfl (A5 rfl rfl)) ?_
 (exact ⟨rfl, _, rfl, by unfold mGk; rw [if_pos (by omega)]; exact hrb⟩)
 refine E1 ?_
 refine H6 rfl ((A10 _ _)) rfl rfl ?_
 refine B4 ?_
 refine N9 (rC rfl (A5 rfl rfl)) ?_
 (exact ⟨rfl, _, rfl, by unfold mGk; rw [if_neg (by omega)]; exact P1 _ hk⟩)
theorem B0O (t : Ty) (G : IM) (cells : List Value) (hr : C3 G t cells) : Fn Tryz.prog 237 [.agg ⟨cells⟩] [] G (J0 (.bool (R9 t)) G) := by
 refine Fn.forget (post := K8 fun _ v => v = .bool (R9 t)) ?_ (fun _ _ _ h => h.2)
 have hr0 := hr
 obtain ⟨tk, tks⟩ := t
 obtain ⟨p, c, es, rfl, hk, _⟩ := hr.open
 simp only [Ty.k, Ty.ks] at hk hr0 ⊢
 rw [show R9 (.mk tk tks) = (decide (tk ≠ 1) && N3 (.mk tk tks) (mGk tk)) from rfl]
 refine C6 Tryz.func237 rfl Tryz.ntmps237 Tryz.results237 rfl ?_
 intro w0
 refine A4 ?_
 refine sE (C9 rfl rfl) rfl (fun b3 => ?_)
 refine B4 ?_
 refine D7 D8 rfl ?_
 refine I6 (i := 0) (l' := [tt,ff,ff,ff,ff,ff,ff,ff,ff,ff,ff]) rfl D2 (B8 rfl) rfl (by kernel_rfl) rfl rfl ?_
 refine aL 1 rfl (C7 rfl rfl) rfl ?_
 refine A0q (i := 2) (l' := [tt,tt,tt,ff,ff,ff,ff,ff,ff,ff,ff]) rfl D2 (N2 rfl rfl) rfl (by kernel_rfl) rfl rfl (fun h11 => ?_) (fun h11 => ?_)
 refine aP 3 rfl (qM rfl) rfl ?_
 refine aL 4 rfl (A5 rfl rfl) rfl ?_
 refine aP 5 rfl (B8 rfl) rfl ?_
 refine aL 6 rfl (C7 rfl rfl) rfl ?_
 refine A2 7 ?_
 (refine H3 rfl rfl (A5L tk G hk) rfl rfl rfl (fun v G1 hle1 hh => ?_); obtain ⟨cg, rfl, hrg⟩ := hh; have hT := A69 (.mk tk tks) (mGk tk) G1 _ _ (hr0.mono hle1) hrg; obtain ⟨pg, cgg, eg, rfl, _⟩ := hrg.open)
 refine A2 8 ?_
 refine N6 rfl rfl (hT) rfl rfl rfl ?_
 refine aP 9 rfl (N1 rfl rfl) rfl ?_
 refine aP 10 rfl (qA rfl) rfl ?_
 refine B4 ?_
 (exact ⟨rfl, by rw [decide_eq_true (by omega), Bool.true_and]⟩)
 refine aP 3 rfl (qM rfl) rfl ?_
 refine C1 4 rfl rfl rfl ?_
 refine C1 5 rfl rfl rfl ?_
 refine C1 6 rfl rfl rfl ?_
 refine C1 7 rfl rfl rfl ?_
 refine C1 8 rfl rfl rfl ?_
 refine aP 9 rfl (P0 rfl rfl) rfl ?_
 refine aP 10 rfl (qA rfl) rfl ?_
 refine B4 ?_
 (exact ⟨rfl, by rw [decide_eq_false (by omega), Bool.false_and]⟩)
theorem A2x {Q : Prop} (h : Q := by (exact ⟨rfl, by rw [decide_eq_true (by omega)], rfl⟩)) : Q := h
theorem A3b {Q : Prop} (h : Q := by (exact ⟨rfl, by rw [decide_eq_false (by omega)], rfl⟩)) : Q := h
theorem A3c (t : Tm) (G : IM) (cells : List Value) (hr : B1 G t cells) : Fn Tryz.prog 106 [.agg ⟨cells⟩] [] G (J0 (.bool (P6 t)) G) := by
 obtain ⟨k, nm, num, ⟨tk, tks⟩, ⟨fk, fks⟩, lb, ks⟩ := t
 obtain ⟨pt, ct, pf, cf, p, c, es, rfl, hk, hnum, hlb, hty, hfr, hsl, hkl⟩ := hr.open9
 have hd : P6 (.mk k nm num (.mk tk tks) (.mk fk fks) lb ks) = decide (k = 14 ∧ fk = tk ∧ (tk = 4 ∨ tk = 5)) := rfl
 rw [hd]
 refine C6 Tryz.func106 rfl Tryz.ntmps106 Tryz.results106 rfl ?_
 intro w0
 refine A4 ?_
 refine sE (C9 rfl rfl) rfl (fun b3 => ?_)
 refine B7 ?_
 refine sB (qE rfl rfl) rfl rfl (fun h11 => ?_) (fun h11 => ?_)
 refine B7 ?_
 refine sB (qE rfl rfl) rfl rfl (fun h19 => ?_) (fun h19 => ?_)
 refine B0 ?_
 refine sB (qE rfl rfl) rfl rfl (fun h25 => ?_) (fun h25 => ?_)
 refine N4 ?_
 exact A2x
 refine B4 ?_
 refine sB (qE rfl rfl) rfl rfl (fun h43 => ?_) (fun h43 => ?_)
 refine B7 ?_
 exact A2x
 refine B7 ?_
 exact A3b
 refine V1 ?_
 exact A3b
 refine A4d ?_
 exact A3b
theorem A5M {Q : Prop} (h : Q := by (exact ⟨rfl, by rw [decide_eq_false (by omega), Bool.false_and], rfl⟩)) : Q := h
theorem A4N (t : Tm) (G : IM) (cells : List Value) (hr : B1 G t cells) : Fn Tryz.prog 223 [.agg ⟨cells⟩] [] G (J0 (.bool (inj t)) G) := by
 obtain ⟨k, nm, num, ⟨tk, tks⟩, ⟨fk, fks⟩, lb, ks⟩ := t
 obtain ⟨pt, ct, pf, cf, p, c, es, rfl, hk, hnum, hlb, hty, hfr, hsl, hkl⟩ := hr.open9
 have hd : inj (.mk k nm num (.mk tk tks) (.mk fk fks) lb ks) = (decide (k = 14 ∧ tk = 1) && R9 (.mk fk fks)) := rfl
 rw [hd]
 refine C6 Tryz.func223 rfl Tryz.ntmps223 Tryz.results223 rfl ?_
 intro w0
 refine A4 ?_
 refine sE (C9 rfl rfl) rfl (fun b3 => ?_)
 refine B7 ?_
 refine sB (qE rfl rfl) rfl rfl (fun h11 => ?_) (fun h11 => ?_)
 refine B4 ?_
 refine sB (qE rfl rfl) rfl rfl (fun h16 => ?_) (fun h16 => ?_)
 refine B4 ?_
 refine H6 rfl ((B0O (.mk fk fks) G _ hfr)) rfl rfl ?_
 refine A8 ?_
 (exact ⟨rfl, by rw [decide_eq_true (by omega), Bool.true_and], rfl⟩)
 refine J8 ?_
 exact A5M
 refine K0 ?_
 exact A5M
theorem B6b (t : Tm) (G : IM) (cells : List Value) (hr : B1 G t cells) : Fn Tryz.prog 226 [.agg ⟨cells⟩] [] G (J0 (.bool (decide (t.k = 2 ∨ t.k = 3 ∨ t.k = 4 ∨ t.k = 5))) G) := by
 obtain ⟨k, nm, num, ⟨tk, tks⟩, ⟨fk, fks⟩, lb, ks⟩ := t
 obtain ⟨pt, ct, pf, cf, p, c, es, rfl, hk, hnum, hlb, hty, hfr, hsl, hkl⟩ := hr.open9
 rw [show (Tm.mk k nm num (.mk tk tks) (.mk fk fks) lb ks).k = k from rfl]
 refine C6 Tryz.func226 rfl Tryz.ntmps226 Tryz.results226 rfl ?_
 intro w0
 refine A4 ?_
 refine sE (C9 rfl rfl) rfl (fun b3 => ?_)
 refine B7 ?_
 refine sB (qE rfl rfl) rfl rfl (fun h11 => ?_) (fun h11 => ?_)
 refine A0D ?_
 exact A2x
 refine B9 ?_
 refine sB (qE rfl rfl) rfl rfl (fun h36 => ?_) (fun h36 => ?_)
 refine K0 ?_
 exact A2x
 refine B4 ?_
 refine sB (qE rfl rfl) rfl rfl (fun h58 => ?_) (fun h58 => ?_)
 refine J8 ?_
 exact A2x
 refine B4 ?_
 refine sB (qE rfl rfl) rfl rfl (fun h75 => ?_) (fun h75 => ?_)
 refine A8 ?_
 exact A2x
 refine A8 ?_
 exact A3b
theorem B6c (G : IM) (p : Option Addr) (n c : Nat) (es : List (List Value)) (hsl : E3 G p n c 9 es) (fid : FuncId) [C0 Tryz.prog fid] (us cs : List Value) (ins : List A6) (q : Nat → Bool)
  (hq : ∀ i e, es[i]? = some e → Fn Tryz.prog fid (us ++ [.agg ⟨e⟩] ++ cs) ins G (W5 (.bool (q i)) ins G)) :
  Fn Tryz.prog 238 [.slice p n c, .func (.func fid) ⟨us⟩ ⟨cs⟩] ins G (W5 (.int .i64 (A0O q n)) ins G) := by
 have hn := hsl.le
 refine C6 Tryz.func238 rfl Tryz.ntmps238 Tryz.results238 rfl ?_
 intro w0
 refine K4 ?_
 refine C5 ?_
 refine K2 (fun i : Nat => ⟨[(8, .int .i64 i), (7, .int .i64 n), (1, .func (.func fid) ⟨us⟩ ⟨cs⟩), (0, .slice p n c)], ins, G⟩) (fun i => i ≤ n ∧ ∀ j, j < i → q j = false) (fun i => n - i) 0 ?_ ?_ ?_
 exact D6
 exact ⟨by omega, by omega⟩
 rintro i ⟨hi, hf⟩
 refine A4 ?_
 refine sB (J4 rfl rfl) rfl rfl (fun h21 => ?_) (fun h21 => ?_)
 refine B7 ?_
 refine C5 ?_
 refine J8 ?_
 (obtain ⟨e, b, o, he, rfl, hl, _, hat, _⟩ := hsl.get (i := i) (by omega); refine sP (B5 rfl rfl rfl (by omega)) rfl rfl ?_)
 refine sL (A3 rfl rfl (hat _) hl) rfl rfl ?_
 refine A6l rfl rfl (hq i e he) A0B rfl rfl (fun h43 => ?_) (fun h43 => ?_)
 refine I7 ?_
 refine H7 (rT rfl) A1.refl ?_
 exact ⟨rfl, by rw [A8E (by omega) hf (by assumption)], rfl⟩
 refine B7 ?_
 refine sP (H9 rfl rfl (by omega) (by omega)) rfl rfl ?_
 refine A4 ?_
 refine I5 (i + 1) ?_ ?_ ?_
 exact D6
 exact zq1
 omega
 refine I7 ?_
 refine H7 (rT rfl) A1.refl ?_
 exact ⟨rfl, by rw [A6o (fun j hj => hf j (by omega))], rfl⟩
theorem B6d (G : IM) (p : Option Addr) (n c : Nat) (es : List (List Value)) (hsl : E3 G p n c 9 es) (fid : FuncId) [C0 Tryz.prog fid] (us cs : List Value) (ins : List A6) (q : Nat → Bool)
  (hq : ∀ i e, es[i]? = some e → Fn Tryz.prog fid (us ++ [.agg ⟨e⟩] ++ cs) ins G (W5 (.bool (q i)) ins G)) :
  Fn Tryz.prog 224 [.slice p n c, .func (.func fid) ⟨us⟩ ⟨cs⟩] ins G (W5 (.bool (decide (0 ≤ A0O q n))) ins G) := by
 refine C6 Tryz.func224 rfl Tryz.ntmps224 Tryz.results224 rfl ?_
 intro w0
 refine E1 ?_
 refine A2Q rfl (B6c G p n c es hsl fid us cs ins q hq) A0B rfl rfl ?_
 refine sQ (A0X rfl rfl) rfl ?_
 refine B4 ?_
 refine H7 (rT rfl) A1.refl ?_
 exact ⟨rfl, rfl, rfl⟩
theorem B6e (G : IM) (p : Option Addr) (n c : Nat) (es : List (List Value)) (hsl : E3 G p n c 9 es) (fid : FuncId) [C0 Tryz.prog fid] (us cs : List Value) (ins : List A6) (f : Tm → Bool) (ks : List Tm)
  (hn : ks.length = n) {A : Bool} (hA : ks.all f = A) (hq : ∀ i e, es[i]? = some e → Fn Tryz.prog fid (us ++ [.agg ⟨e⟩] ++ cs) ins G (W5 (.bool (!f (ks.getD i J7))) ins G)) :
  Fn Tryz.prog 224 [.slice p n c, .func (.func fid) ⟨us⟩ ⟨cs⟩] ins G (W5 (.bool (!A)) ins G) := by
 subst hn hA
 rw [← A8G f ks J7]
 exact B6d G p _ c es hsl fid us cs ins _ hq
theorem B0P : ∀ ks, A1r ks = ks.all E4
 | [] => rfl
 | t :: ts => by rw [A1r, B0P ts, List.all_cons]
theorem B6f (t : Tm) (G : IM) (cells : List Value) (hl : cells.length = 9) (ho : cells.all (·.oneCell') = true) (h : Fn Tryz.prog 194 [.agg ⟨cells⟩] [] G (J0 (.bool (E4 t)) G)) :
  Fn Tryz.prog 225 [.agg ⟨cells⟩] [] G (W5 (.bool (!E4 t)) [] G) := by
 refine C6 Tryz.func225 rfl Tryz.ntmps225 Tryz.results225 rfl ?_
 intro w0
 refine A4 ?_
 refine sE (C9 rfl rfl) rfl (fun b3 => ?_)
 refine B0 ?_
 refine sL (A3 rfl rfl (B6 (by repeat first | exact mH | apply mT)) hl) rfl rfl ?_
 refine H6 rfl (h) rfl rfl ?_
 refine sQ (A3k rfl) rfl ?_
 refine B0 ?_
 (exact ⟨rfl, rfl, rfl⟩)
theorem A05 (k : Int) (nm : ByteArray) (num : Int) (ty fr : Ty) (lb : Int) (ks : List Tm) : P6 (.mk k nm num ty fr lb ks) = decide (k = 14 ∧ fr.k = ty.k ∧ (ty.k = 4 ∨ ty.k = 5)) := rfl
theorem A4O (k : Int) (nm : ByteArray) (num : Int) (ty fr : Ty) (lb : Int) (ks : List Tm) : inj (.mk k nm num ty fr lb ks) = (decide (k = 14 ∧ ty.k = 1) && R9 fr) := rfl
theorem A3R {k : Int} {nm : ByteArray} {num : Int} {ty fr : Ty} {lb : Int} {ks : List Tm} (h : k = 10 ∨ P6 (.mk k nm num ty fr lb ks) = true ∨ inj (.mk k nm num ty fr lb ks) = true) : E4 (.mk k nm num ty fr lb ks) = ks.all E4 := by
 rw [E4, if_pos, B0P]
 rw [A05, A4O] at h
 simp only [Bool.and_eq_true, decide_eq_true_eq] at h
 rcases h with h | h | h
 ·exact .inl h
 ·exact .inr (.inl h)
 ·exact .inr (.inr ⟨h.1.1, h.1.2, h.2⟩)
theorem A5N {k : Int} {nm : ByteArray} {num : Int} {ty fr : Ty} {lb : Int} {ks : List Tm} (h : ¬k = 10) (h2 : P6 (.mk k nm num ty fr lb ks) = false) (h3 : inj (.mk k nm num ty fr lb ks) = false) : E4 (.mk k nm num ty fr lb ks) = decide (k = 2 ∨ k = 3 ∨ k = 4 ∨ k = 5) := by
 rw [E4, if_neg]
 rw [A05] at h2
 rw [A4O] at h3
 simp only [Bool.and_eq_false_iff, decide_eq_false_iff_not] at h2 h3
 rintro (h' | h' | h')
 ·exact h h'
 ·exact h2 h'
 ·rcases h3 with h3 | h3
  ·exact h3 ⟨h'.1, h'.2.1⟩
  ·rw [h3] at h'; cases h'.2.2
theorem A7k {Q : Prop} (h : Q := by (exact ⟨rfl, by rw [hy (by first | exact .inl (by omega) | exact .inr (.inl (by assumption)) | exact .inr (.inr (by assumption)))]; cases A <;> rfl, rfl⟩)) : Q := h
theorem B0Q : ∀ (t : Tm) (G : IM) (cells : List Value), B1 G t cells → Fn Tryz.prog 194 [.agg ⟨cells⟩] [] G (J0 (.bool (E4 t)) G) := by
 refine Tm.ind fun k nm num ty fr lb ks ih G cells hr => ?_
 have hr0 := hr
 have hP := A3c _ G _ hr
 have hI := A4N _ G _ hr
 have hPl := B6b _ G _ hr
 have hy := @A3R k nm num ty fr lb ks
 have hn := @A5N k nm num ty fr lb ks
 rw [show (Tm.mk k nm num ty fr lb ks).k = k from rfl] at hPl
 obtain ⟨A, hA⟩ : ∃ A, ks.all E4 = A := ⟨_, rfl⟩
 rw [hA] at hy
 generalize hpx : P6 (.mk k nm num ty fr lb ks) = bp at hP hy hn
 generalize hij : inj (.mk k nm num ty fr lb ks) = bi at hI hy hn
 generalize E4 (.mk k nm num ty fr lb ks) = R at hy hn ⊢
 obtain ⟨tk, tks⟩ := ty
 obtain ⟨fk, fks⟩ := fr
 obtain ⟨pt, ct, pf, cf, p, c, es, rfl, hk, hnum, hlb, hty, hfr, hsl, hkl⟩ := hr.open9
 have hC := B6e G p ks.length c es hsl 225 [] [] [] E4 ks rfl hA (fun i e he => by
  have hx := hkl.inv he J7
  exact B6f _ G e hx.2.len hx.2.one (ih _ hx.1 G e hx.2))
 refine C6 Tryz.func194 rfl Tryz.ntmps194 Tryz.results194 rfl ?_
 intro w0
 refine A4 ?_
 refine sE (C9 rfl rfl) rfl (fun b3 => ?_)
 refine D4 ?_
 refine sB (qE rfl rfl) rfl rfl (fun h12 => ?_) (fun h12 => ?_)
 refine I7 ?_
 refine A2Q rfl hC A0B rfl rfl ?_
 refine sQ (A3k rfl) rfl ?_
 refine A8 ?_
 exact A7k
 refine A4 ?_
 refine H1 rfl (hP) rfl rfl (fun h39 => ?_) (fun h39 => ?_)
 refine N4 ?_
 refine A2Q rfl hC A0B rfl rfl ?_
 refine sQ (A3k rfl) rfl ?_
 refine A8 ?_
 exact A7k
 refine B9 ?_
 refine H1 rfl (hI) rfl rfl (fun h64 => ?_) (fun h64 => ?_)
 refine D4 ?_
 refine A2Q rfl hC A0B rfl rfl ?_
 refine sQ (A3k rfl) rfl ?_
 refine A8 ?_
 exact A7k
 refine E1 ?_
 refine H6 rfl (hPl) rfl rfl ?_
 refine B0 ?_
 (exact ⟨rfl, by rw [hn (by omega) (by assumption) (by assumption)], rfl⟩)
theorem B1.put {G : IM} {k : Int} {nm : ByteArray} {num tk fk lb : Int} {tks fks : List Ty} {us : List Tm} {pt pf p : Option Addr} {ct cf n c : Nat} {es : List (List Value)} (hk : H0 k) (hnum : H0 num) (hlb : H0 lb) (hty : C3 G (.mk tk tks) [.int .i64 tk, .slice pt tks.length ct]) (hfr : C3 G (.mk fk fks) [.int .i64 fk, .slice pf fks.length cf])
  (hn : n = us.length) (hs : E3 G p n c 9 es) (hr : E5 G us es) : B1 G (.mk k nm num (.mk tk tks) (.mk fk fks) lb us) [.int .i64 k, .string nm, .int .i64 num, .int .i64 tk, .slice pt tks.length ct, .int .i64 fk, .slice pf fks.length cf, .int .i64 lb, .slice p n c] := by
 subst hn
 simp only [B1]
 exact ⟨_, _, p, c, es, rfl, hk, hnum, hlb, hty, hfr, hs, hr⟩
theorem nine {uc : List Value} (h : uc.length = 9) : ∃ v1 v2 v3 v4 v5 v6 v7 v8 v9, uc = [v1, v2, v3, v4, v5, v6, v7, v8, v9] := by
 match uc, h with
 | [a, b, c, d, e, f, g, i, j], _ => exact ⟨a, b, c, d, e, f, g, i, j, rfl⟩
theorem B0R {x : ByteArray} {v : Tm} {ks : List Tm} {i : Nat} (h : i < ks.length) : (R0 x v ks).take (i + 1) = (R0 x v ks).take i ++ [S2 x v ks[i]] := by
 rw [A5z, List.take_succ_eq_append_getElem (by rw [List.length_map]; exact h), List.getElem_map]
theorem A1I (x : ByteArray) (v : Tm) (ks : List Tm) : (R0 x v ks).length = ks.length := by rw [A5z, List.length_map]
theorem A3S {Q : Prop} (h : Q := by (exact ⟨Nat.zero_le _, C4.refl _, by simp [E5]⟩)) : Q := h
theorem A7l {Q : Prop} (h : Q := by (dsimp only; exact ⟨by omega, hle.trans hle1, by rw [B0R (by omega)]; exact E5.snoc (hst.mono hle1) hru⟩)) : Q := h
theorem A7m {Q : Prop} (h : Q := by (rw [if_neg (by rintro ⟨h1, h2⟩; first | omega | contradiction), if_neg (by rintro ⟨h1, h2⟩; first | omega | contradiction)]; rw [List.take_of_length_le (by rw [A1I]; omega)] at hst; exact X8.mk (B1.put hk hnum hlb (hty.mono hle2) (hfr.mono hle2) (by rw [A1I]) (E3.of hsl2 (by omega) hst.all (fun e he => (hst.each e he).2)) (hst.mono hle2)))) : Q := h
theorem B6g (y : ByteArray) (v : Tm) (vc : List Value) : ∀ (t : Tm) (G : IM) (cells : List Value), t.small → B1 G t cells → B1 G v vc → Fn Tryz.prog 239 [.agg ⟨cells⟩, .string y, .agg ⟨vc⟩] [] G (X8 (S2 y v t)) := by
 refine Tm.ind fun k nm num ty fr lb ks ih G cells hts hr hv => ?_
 have hr0 := hr
 obtain ⟨_, _, _, hsm, hks⟩ := A0v.1 hts
 have hvl := hv.len
 have hvo := hv.one
 have hRl := hr.len
 have hRo := hr.one
 rw [S2]
 obtain ⟨tk, tks⟩ := ty
 obtain ⟨fk, fks⟩ := fr
 obtain ⟨pt, ct, pf, cf, p, c, es, rfl, hk, hnum, hlb, hty, hfr, hsl, hkl⟩ := hr.open9
 have hn := hsl.le
 refine C6 Tryz.func239 rfl Tryz.ntmps239 Tryz.results239 rfl ?_
 intro w0
 refine A4 ?_
 refine sE (C9 rfl rfl) rfl (fun b3 => ?_)
 refine sE (C9 rfl rfl) rfl (fun b4 => ?_)
 refine sE (A9 rfl) rfl (fun b5 => ?_)
 refine B9 ?_
 refine C5 ?_
 refine B4 ?_
 refine sB (qE rfl rfl) rfl rfl (fun h14 => ?_) (fun h14 => ?_)
 refine B4 ?_
 refine sB (A1T rfl rfl) rfl rfl (fun h19 => ?_) (fun h19 => ?_)
 refine B7 ?_
 refine sL (A3 rfl rfl (B6 (by repeat first | exact mH | apply mT)) hvl) rfl rfl ?_
 refine sS rfl rfl rfl hvl hvo rfl ?_ (hu := by exact E0 hvl.symm)
 refine B0 ?_
 refine N9 (rC rfl (A3 rfl rfl (B6 (by repeat first | exact mH | apply mT)) hvl)) ?_
 (rw [if_pos (by refine ⟨by omega, by assumption⟩)]; exact X8.mk hv)
 refine E1 ?_
 refine sP (I9 rfl rfl (by omega)) rfl rfl ?_
 refine K0 ?_
 refine sE (A9 rfl) rfl (fun b62 => ?_)
 refine V1 ?_
 refine C5 ?_
 (refine V0 37 9 ?_; refine K2 (fun (x : Nat × Option Addr × Nat × List (List Value) × IM) => ⟨[(37, .int .i64 x.1), (36, .int .i64 ks.length), (35, .slice p ks.length c), (1, .string y), (3, .pointer (some ⟨b3, 0, none⟩)), (5, .pointer (some ⟨b4, 0, none⟩)), (6, .pointer (some ⟨b5, 0, none⟩)), (7, .pointer (some ⟨b62, 0, none⟩))], [.blk b62 [.int .i64 k, .string nm, .int .i64 num, .int .i64 tk, .slice pt tks.length ct, .int .i64 fk, .slice pf fks.length cf, .int .i64 lb, .slice x.2.1 x.1 x.2.2.1], .slc x.2.1 x.2.2.1 37 9 x.1 x.2.2.2.1.flatten, .blk b5 [.int .i64 0, .string ⟨⟨[]⟩⟩, .int .i64 0, .int .i64 0, .slice none 0 0, .int .i64 0, .slice none 0 0, .int .i64 0, .slice none 0 0], .blk b4 vc, .blk b3 [.int .i64 k, .string nm, .int .i64 num, .int .i64 tk, .slice pt tks.length ct, .int .i64 fk, .slice pf fks.length cf, .int .i64 lb, .slice p ks.length c]], x.2.2.2.2⟩) (fun x => x.1 ≤ ks.length ∧ C4 G x.2.2.2.2 ∧ E5 x.2.2.2.2 ((R0 y v ks).take x.1) x.2.2.2.1) (fun x => ks.length - x.1) (0, none, 0, [], G) ?_ ?_ ?_)
 (simp only [I1]; exact D6)
 exact A3S
 (rintro ⟨i, pn, cn, es', Gi⟩ ⟨hi, hle, hst⟩; simp only [] at hi hle hst ⊢; replace hsl := hsl.mono hle; replace hkl := hkl.mono hle; replace hv := hv.mono hle; replace hty := hty.mono hle; replace hfr := hfr.mono hle; have hsl' := hst.len; rw [List.length_take, A1I] at hsl')
 refine A4 ?_
 refine sB (J4 rfl rfl) rfl rfl (fun h88 => ?_) (fun h88 => ?_)
 refine B7 ?_
 refine C5 ?_
 refine A4 ?_
 (have hil : i < ks.length := (by omega); obtain ⟨bx, ox, e, rfl, hl, hat, hre, hgb⟩ := hsl.kidTm hkl (i := i) (by omega) (by omega); have hel := hre.len; have heo := hre.one; refine sP (B5 (j := i) rfl rfl rfl (by omega)) rfl rfl ?_)
 refine sL (A3 rfl rfl (hat _) hl) rfl rfl ?_
 refine sE (A9 rfl) rfl (fun b101 => ?_)
 refine sS rfl rfl rfl hel heo rfl ?_ (hu := by exact E0 hel.symm)
 refine A4 ?_
 refine D7 D8 rfl ?_
 refine L3 (i := 2) (l' := [ff,ff,tt,ff,ff,ff,ff,ff,ff,ff]) rfl D2 (A3 rfl rfl (B6 (by repeat first | exact mH | apply mT)) hel) rfl (by kernel_rfl) rfl rfl ?_
 refine aL 4 rfl (A3 rfl rfl (B6 (by repeat first | exact mH | apply mT)) hvl) rfl ?_
 refine aP 0 rfl (B8 rfl) rfl ?_
 refine aL 1 rfl (C7 rfl rfl) rfl ?_
 refine aP 3 rfl (qM rfl) rfl ?_
 refine A2 5 ?_
 (refine H3 rfl rfl (ih ks[i] (List.getElem_mem (by omega)) Gi _ (Tm.smallL_mem hks _ (List.getElem_mem (by omega))) hre hv) rfl rfl rfl (fun u G1 hle1 hh => ?_); obtain ⟨uc, rfl, hru⟩ := hh; have hul := hru.len; have huo := hru.one; obtain ⟨v1, v2, v3, v4, v5, v6, v7, v8, v9, rfl⟩ := nine hul)
 refine A2 6 ?_
 (refine E2 rfl (D0 rfl rfl rfl (by omega) (by unfold maxLen; omega) rfl) rfl rfl ?_; rintro _ ⟨b114, rfl⟩)
 refine A2 7 ?_
 (refine P5 rfl rfl rfl rfl rfl rfl (fun _ _ => by repeat (first | exact Sw.here | apply Sw.there)) (M9 (by repeat first | exact mH | apply mT)) rfl (fun u hu => List.all_eq_true.1 huo u hu) (by unfold maxLen; omega) (by omega) rfl rfl (by repeat (first | exact A7.nil | apply A7.dep (by decide +kernel) | apply A7.im (by decide +kernel) (by assumption) (by repeat first | exact mH | apply mT) | apply A7.blk (by decide +kernel) (by repeat (first | exact Pk.here | apply Pk.there)) (by repeat first | exact mH | apply mT))) (fun p7 c7 => ?_))
 refine aP 8 rfl (B8 rfl) rfl ?_
 refine A2 9 ?_
 refine Q8 rfl rfl rfl rfl rfl rfl rfl rfl (by decide +kernel) (by repeat first | exact Sw.here | apply Sw.there) (by rfl) ?_
 refine B4 ?_
 refine sP (H9 rfl rfl (by omega) (by omega)) rfl rfl ?_
 refine A4 ?_
 refine I5 (i + 1, p7, c7, es' ++ [[v1, v2, v3, v4, v5, v6, v7, v8, v9]], G1) ?_ ?_ ?_
 (simp only [I1]; exact D6)
 exact A7l
 exact V5
 refine I7 ?_
 (refine H2 (cs := es'.flatten) (by repeat (first | exact Pk.here | apply Pk.there)) (fun G2 hle2 hsl2 hno2 => ?_); obtain rfl : i = ks.length := (by omega))
 refine tT ?_
 refine N9 (rC rfl (A5 rfl rfl)) ?_
 exact A7m
 refine J5 ?_
 refine sB (qE rfl rfl) rfl rfl (fun h164 => ?_) (fun h164 => ?_)
 refine B4 ?_
 refine sB (A1T rfl rfl) rfl rfl (fun h169 => ?_) (fun h169 => ?_)
 refine J5 ?_
 refine N9 (rC rfl (A5 rfl rfl)) ?_
 (rw [if_neg (by rintro ⟨h1, h2⟩; first | omega | contradiction), if_pos (by refine ⟨by omega, by assumption⟩)]; exact X8.mk hr0)
 refine J8 ?_
 refine sE (A9 rfl) rfl (fun b197 => ?_)
 refine V1 ?_
 refine C5 ?_
 (refine V0 37 9 ?_; refine K2 (fun (x : Nat × Option Addr × Nat × List (List Value) × IM) => ⟨[(37, .int .i64 x.1), (36, .int .i64 ks.length), (35, .slice p ks.length c), (1, .string y), (3, .pointer (some ⟨b3, 0, none⟩)), (5, .pointer (some ⟨b4, 0, none⟩)), (6, .pointer (some ⟨b5, 0, none⟩)), (7, .pointer (some ⟨b197, 0, none⟩))], [.blk b197 [.int .i64 k, .string nm, .int .i64 num, .int .i64 tk, .slice pt tks.length ct, .int .i64 fk, .slice pf fks.length cf, .int .i64 lb, .slice x.2.1 x.1 x.2.2.1], .slc x.2.1 x.2.2.1 37 9 x.1 x.2.2.2.1.flatten, .blk b5 [.int .i64 0, .string ⟨⟨[]⟩⟩, .int .i64 0, .int .i64 0, .slice none 0 0, .int .i64 0, .slice none 0 0, .int .i64 0, .slice none 0 0], .blk b4 vc, .blk b3 [.int .i64 k, .string nm, .int .i64 num, .int .i64 tk, .slice pt tks.length ct, .int .i64 fk, .slice pf fks.length cf, .int .i64 lb, .slice p ks.length c]], x.2.2.2.2⟩) (fun x => x.1 ≤ ks.length ∧ C4 G x.2.2.2.2 ∧ E5 x.2.2.2.2 ((R0 y v ks).take x.1) x.2.2.2.1) (fun x => ks.length - x.1) (0, none, 0, [], G) ?_ ?_ ?_)
 (simp only [I1]; exact D6)
 exact A3S
 (rintro ⟨i, pn, cn, es', Gi⟩ ⟨hi, hle, hst⟩; simp only [] at hi hle hst ⊢; replace hsl := hsl.mono hle; replace hkl := hkl.mono hle; replace hv := hv.mono hle; replace hty := hty.mono hle; replace hfr := hfr.mono hle; have hsl' := hst.len; rw [List.length_take, A1I] at hsl')
 refine A4 ?_
 refine sB (J4 rfl rfl) rfl rfl (fun h223 => ?_) (fun h223 => ?_)
 refine B7 ?_
 refine C5 ?_
 refine A4 ?_
 (have hil : i < ks.length := (by omega); obtain ⟨bx, ox, e, rfl, hl, hat, hre, hgb⟩ := hsl.kidTm hkl (i := i) (by omega) (by omega); have hel := hre.len; have heo := hre.one; refine sP (B5 (j := i) rfl rfl rfl (by omega)) rfl rfl ?_)
 refine sL (A3 rfl rfl (hat _) hl) rfl rfl ?_
 refine sE (A9 rfl) rfl (fun b236 => ?_)
 refine sS rfl rfl rfl hel heo rfl ?_ (hu := by exact E0 hel.symm)
 refine A4 ?_
 refine D7 D8 rfl ?_
 refine L3 (i := 2) (l' := [ff,ff,tt,ff,ff,ff,ff,ff,ff,ff]) rfl D2 (A3 rfl rfl (B6 (by repeat first | exact mH | apply mT)) hel) rfl (by kernel_rfl) rfl rfl ?_
 refine aL 4 rfl (A3 rfl rfl (B6 (by repeat first | exact mH | apply mT)) hvl) rfl ?_
 refine aP 0 rfl (B8 rfl) rfl ?_
 refine aL 1 rfl (C7 rfl rfl) rfl ?_
 refine aP 3 rfl (qM rfl) rfl ?_
 refine A2 5 ?_
 (refine H3 rfl rfl (ih ks[i] (List.getElem_mem (by omega)) Gi _ (Tm.smallL_mem hks _ (List.getElem_mem (by omega))) hre hv) rfl rfl rfl (fun u G1 hle1 hh => ?_); obtain ⟨uc, rfl, hru⟩ := hh; have hul := hru.len; have huo := hru.one; obtain ⟨v1, v2, v3, v4, v5, v6, v7, v8, v9, rfl⟩ := nine hul)
 refine A2 6 ?_
 (refine E2 rfl (D0 rfl rfl rfl (by omega) (by unfold maxLen; omega) rfl) rfl rfl ?_; rintro _ ⟨b249, rfl⟩)
 refine A2 7 ?_
 (refine P5 rfl rfl rfl rfl rfl rfl (fun _ _ => by repeat (first | exact Sw.here | apply Sw.there)) (M9 (by repeat first | exact mH | apply mT)) rfl (fun u hu => List.all_eq_true.1 huo u hu) (by unfold maxLen; omega) (by omega) rfl rfl (by repeat (first | exact A7.nil | apply A7.dep (by decide +kernel) | apply A7.im (by decide +kernel) (by assumption) (by repeat first | exact mH | apply mT) | apply A7.blk (by decide +kernel) (by repeat (first | exact Pk.here | apply Pk.there)) (by repeat first | exact mH | apply mT))) (fun p7 c7 => ?_))
 refine aP 8 rfl (B8 rfl) rfl ?_
 refine A2 9 ?_
 refine Q8 rfl rfl rfl rfl rfl rfl rfl rfl (by decide +kernel) (by repeat first | exact Sw.here | apply Sw.there) (by rfl) ?_
 refine B4 ?_
 refine sP (H9 rfl rfl (by omega) (by omega)) rfl rfl ?_
 refine A4 ?_
 refine I5 (i + 1, p7, c7, es' ++ [[v1, v2, v3, v4, v5, v6, v7, v8, v9]], G1) ?_ ?_ ?_
 (simp only [I1]; exact D6)
 exact A7l
 exact V5
 refine I7 ?_
 (refine H2 (cs := es'.flatten) (by repeat (first | exact Pk.here | apply Pk.there)) (fun G2 hle2 hsl2 hno2 => ?_); obtain rfl : i = ks.length := (by omega))
 refine tT ?_
 refine N9 (rC rfl (A5 rfl rfl)) ?_
 exact A7m
 refine K0 ?_
 refine sE (A9 rfl) rfl (fun b301 => ?_)
 refine V1 ?_
 refine C5 ?_
 (refine V0 37 9 ?_; refine K2 (fun (x : Nat × Option Addr × Nat × List (List Value) × IM) => ⟨[(37, .int .i64 x.1), (36, .int .i64 ks.length), (35, .slice p ks.length c), (1, .string y), (3, .pointer (some ⟨b3, 0, none⟩)), (5, .pointer (some ⟨b4, 0, none⟩)), (6, .pointer (some ⟨b5, 0, none⟩)), (7, .pointer (some ⟨b301, 0, none⟩))], [.blk b301 [.int .i64 k, .string nm, .int .i64 num, .int .i64 tk, .slice pt tks.length ct, .int .i64 fk, .slice pf fks.length cf, .int .i64 lb, .slice x.2.1 x.1 x.2.2.1], .slc x.2.1 x.2.2.1 37 9 x.1 x.2.2.2.1.flatten, .blk b5 [.int .i64 0, .string ⟨⟨[]⟩⟩, .int .i64 0, .int .i64 0, .slice none 0 0, .int .i64 0, .slice none 0 0, .int .i64 0, .slice none 0 0], .blk b4 vc, .blk b3 [.int .i64 k, .string nm, .int .i64 num, .int .i64 tk, .slice pt tks.length ct, .int .i64 fk, .slice pf fks.length cf, .int .i64 lb, .slice p ks.length c]], x.2.2.2.2⟩) (fun x => x.1 ≤ ks.length ∧ C4 G x.2.2.2.2 ∧ E5 x.2.2.2.2 ((R0 y v ks).take x.1) x.2.2.2.1) (fun x => ks.length - x.1) (0, none, 0, [], G) ?_ ?_ ?_)
 (simp only [I1]; exact D6)
 exact A3S
 (rintro ⟨i, pn, cn, es', Gi⟩ ⟨hi, hle, hst⟩; simp only [] at hi hle hst ⊢; replace hsl := hsl.mono hle; replace hkl := hkl.mono hle; replace hv := hv.mono hle; replace hty := hty.mono hle; replace hfr := hfr.mono hle; have hsl' := hst.len; rw [List.length_take, A1I] at hsl')
 refine A4 ?_
 refine sB (J4 rfl rfl) rfl rfl (fun h327 => ?_) (fun h327 => ?_)
 refine B7 ?_
 refine C5 ?_
 refine A4 ?_
 (have hil : i < ks.length := (by omega); obtain ⟨bx, ox, e, rfl, hl, hat, hre, hgb⟩ := hsl.kidTm hkl (i := i) (by omega) (by omega); have hel := hre.len; have heo := hre.one; refine sP (B5 (j := i) rfl rfl rfl (by omega)) rfl rfl ?_)
 refine sL (A3 rfl rfl (hat _) hl) rfl rfl ?_
 refine sE (A9 rfl) rfl (fun b340 => ?_)
 refine sS rfl rfl rfl hel heo rfl ?_ (hu := by exact E0 hel.symm)
 refine A4 ?_
 refine D7 D8 rfl ?_
 refine L3 (i := 2) (l' := [ff,ff,tt,ff,ff,ff,ff,ff,ff,ff]) rfl D2 (A3 rfl rfl (B6 (by repeat first | exact mH | apply mT)) hel) rfl (by kernel_rfl) rfl rfl ?_
 refine aL 4 rfl (A3 rfl rfl (B6 (by repeat first | exact mH | apply mT)) hvl) rfl ?_
 refine aP 0 rfl (B8 rfl) rfl ?_
 refine aL 1 rfl (C7 rfl rfl) rfl ?_
 refine aP 3 rfl (qM rfl) rfl ?_
 refine A2 5 ?_
 (refine H3 rfl rfl (ih ks[i] (List.getElem_mem (by omega)) Gi _ (Tm.smallL_mem hks _ (List.getElem_mem (by omega))) hre hv) rfl rfl rfl (fun u G1 hle1 hh => ?_); obtain ⟨uc, rfl, hru⟩ := hh; have hul := hru.len; have huo := hru.one; obtain ⟨v1, v2, v3, v4, v5, v6, v7, v8, v9, rfl⟩ := nine hul)
 refine A2 6 ?_
 (refine E2 rfl (D0 rfl rfl rfl (by omega) (by unfold maxLen; omega) rfl) rfl rfl ?_; rintro _ ⟨b353, rfl⟩)
 refine A2 7 ?_
 (refine P5 rfl rfl rfl rfl rfl rfl (fun _ _ => by repeat (first | exact Sw.here | apply Sw.there)) (M9 (by repeat first | exact mH | apply mT)) rfl (fun u hu => List.all_eq_true.1 huo u hu) (by unfold maxLen; omega) (by omega) rfl rfl (by repeat (first | exact A7.nil | apply A7.dep (by decide +kernel) | apply A7.im (by decide +kernel) (by assumption) (by repeat first | exact mH | apply mT) | apply A7.blk (by decide +kernel) (by repeat (first | exact Pk.here | apply Pk.there)) (by repeat first | exact mH | apply mT))) (fun p7 c7 => ?_))
 refine aP 8 rfl (B8 rfl) rfl ?_
 refine A2 9 ?_
 refine Q8 rfl rfl rfl rfl rfl rfl rfl rfl (by decide +kernel) (by repeat first | exact Sw.here | apply Sw.there) (by rfl) ?_
 refine B4 ?_
 refine sP (H9 rfl rfl (by omega) (by omega)) rfl rfl ?_
 refine A4 ?_
 refine I5 (i + 1, p7, c7, es' ++ [[v1, v2, v3, v4, v5, v6, v7, v8, v9]], G1) ?_ ?_ ?_
 (simp only [I1]; exact D6)
 exact A7l
 exact V5
 refine I7 ?_
 (refine H2 (cs := es'.flatten) (by repeat (first | exact Pk.here | apply Pk.there)) (fun G2 hle2 hsl2 hno2 => ?_); obtain rfl : i = ks.length := (by omega))
 refine tT ?_
 refine N9 (rC rfl (A5 rfl rfl)) ?_
 exact A7m
theorem A1J (e : Tm) (a b : Ty) (l : Int) (G : IM) (ce ca cb : List Value) (hl : H0 l) (he : B1 G e ce) (ha : C3 G a ca) (hb : C3 G b cb) : Fn Tryz.prog 241 [.agg ⟨ce⟩, .agg ⟨ca⟩, .agg ⟨cb⟩, .int .i64 l] [] G (X8 (K5 e a b l)) := by
 have hel := he.len
 have heo := he.one
 obtain ⟨v1, v2, v3, v4, v5, v6, v7, v8, v9, rfl⟩ := nine hel
 obtain ⟨ak, aks⟩ := a
 obtain ⟨bk, bks⟩ := b
 obtain ⟨pa, cca, ea, rfl, _⟩ := ha.open
 obtain ⟨pb, ccb, eb, rfl, _⟩ := hb.open
 refine C6 Tryz.func241 rfl Tryz.ntmps241 Tryz.results241 rfl ?_
 intro w0
 refine A4 ?_
 refine sE (C9 rfl rfl) rfl (fun b3 => ?_)
 refine sE (C9 rfl rfl) rfl (fun b4 => ?_)
 refine sE (C9 rfl rfl) rfl (fun b5 => ?_)
 refine sE (A9 rfl) rfl (fun b6 => ?_)
 refine B4 ?_
 refine sL (A3 rfl rfl (B6 (by repeat first | exact mH | apply mT)) rfl) rfl rfl ?_
 refine sL (A3 rfl rfl (B6 (by repeat first | exact mH | apply mT)) rfl) rfl rfl ?_
 refine F8 ?_
 refine sL (A3 rfl rfl (B6 (by repeat first | exact mH | apply mT)) rfl) rfl rfl ?_
 (refine I3 (D0 rfl rfl rfl (by omega) (by unfold maxLen; omega) rfl) rfl ?_; rintro _ ⟨b15, rfl⟩)
 refine B4 ?_
 (refine H2 (cs := [v1, v2, v3, v4, v5, v6, v7, v8, v9]) (by repeat (first | exact Pk.here | apply Pk.there)) (fun G2 hle2 hsl2 hno2 => ?_))
 refine tT ?_
 refine N9 (rC rfl (A5 rfl rfl)) ?_
 (exact X8.mk (B1.put (us := [e]) (es := [[v1, v2, v3, v4, v5, v6, v7, v8, v9]]) ⟨by decide, by decide⟩ ⟨by decide, by decide⟩ hl (hb.mono hle2) (ha.mono hle2) rfl (E3.of hsl2 rfl (by intro x hx; obtain rfl := List.mem_singleton.1 hx; rfl) (by intro x hx; obtain rfl := List.mem_singleton.1 hx; exact heo)) (by simp only [E5]; exact ⟨_, _, rfl, he.mono hle2, rfl⟩)))
theorem A3T (k : Int) (p : Option Addr) (n c : Nat) (G : IM) : Fn Tryz.prog 242 [.int .i64 k, .slice p n c] [] G (J0 (.agg ⟨[.int .i64 k, .string ⟨⟨[]⟩⟩, .int .i64 0, .int .i64 0, .slice none 0 0, .int .i64 0, .slice none 0 0, .int .i64 0, .slice p n c]⟩) G) := by
 refine C6 Tryz.func242 rfl Tryz.ntmps242 Tryz.results242 rfl ?_
 intro w0
 refine A4 ?_
 refine sE (A9 rfl) rfl (fun b3 => ?_)
 refine J8 ?_
 refine N9 (rC rfl (A5 rfl rfl)) ?_
 (exact ⟨rfl, rfl, rfl⟩)
theorem B6h (G : IM) {k : Int} (hk : H0 k) : B1 G (Y5 k []) [.int .i64 k, .string ⟨⟨[]⟩⟩, .int .i64 0, .int .i64 0, .slice none 0 0, .int .i64 0, .slice none 0 0, .int .i64 0, .slice none 0 0] := A04 hk rfl (E3.nil _ _) rfl
theorem A5O {Q : Prop} (h : Q := by (exact X8.mk (B6h _ ⟨by decide, by decide⟩))) : Q := h
theorem B6i (G : IM) : Fn Tryz.prog 240 [.bool true] [] G (X8 (Y6 (true = true))) := by
 refine C6 Tryz.func240 rfl Tryz.ntmps240 Tryz.results240 rfl ?_
 intro w0
 refine A4 ?_
 refine sE (A9 rfl) rfl (fun b3 => ?_)
 refine J8 ?_
 refine H6 rfl ((A3T _ _ _ _ _)) rfl rfl ?_
 refine B0 ?_
 refine N9 (rC rfl (A5 rfl rfl)) ?_
 exact A5O
theorem B6j (G : IM) : Fn Tryz.prog 240 [.bool false] [] G (X8 (Y6 (false = true))) := by
 refine C6 Tryz.func240 rfl Tryz.ntmps240 Tryz.results240 rfl ?_
 intro w0
 refine A4 ?_
 refine sE (A9 rfl) rfl (fun b3 => ?_)
 refine K4 ?_
 refine H6 rfl ((A3T _ _ _ _ _)) rfl rfl ?_
 refine B4 ?_
 refine N9 (rC rfl (A5 rfl rfl)) ?_
 exact A5O
theorem B0S (b : Bool) (G : IM) : Fn Tryz.prog 240 [.bool b] [] G (X8 (Y6 (b = true))) := by
 cases b
 ·exact B6j G
 ·exact B6i G
theorem B0T {a b : Int} (h : 0 ≤ a ∧ a ≤ 999) (h' : 0 ≤ b ∧ b ≤ 999) : (a + b).tmod 1000 = (a + b) % 1000 := by
 rw [Int.tmod_eq_emod_of_nonneg (by omega)]
def Y7 (k : Int) (ks : List Tm) : Option Tm :=
 if k = 6 then (if (kd ks 0).k = 5 then some (S2 (kd ks 0).nm (kd ks 1) (kd (kd ks 0).ks 0)) else none)
 else if k = 7 ∨ k = 8 then (if (kd ks 0).k = 2 ∧ (kd ks 1).k = 2 then some (if k = 7 then A2o (((kd ks 0).num + (kd ks 1).num) % 1000) else Y6 ((kd ks 0).num < (kd ks 1).num)) else none)
 else if k = 9 then (if (kd ks 0).k = 3 then some (kd ks 1) else if (kd ks 0).k = 4 then some (kd ks 2) else none)
 else if k = 11 ∨ k = 12 then (if (kd ks 0).k = 10 then some (kd (kd ks 0).ks (k - 11).toNat) else none)
 else none
def W2 (o : Option Tm) : IM → Value → List A6 → Prop := K8 fun G' v => ∃ u cells c, v = .tuple ⟨[.agg ⟨cells⟩, .int .i64 c]⟩ ∧ B1 G' u cells ∧ (∀ x, o = some x → c = 1 ∧ u = x) ∧ (o = none → c = 3)
theorem W2.yes {G : IM} {o : Option Tm} {u : Tm} {cells : List Value} (h : o = some u) (hr : B1 G u cells) : W2 o G (.tuple ⟨[.agg ⟨cells⟩, .int .i64 1]⟩) [] := by
 subst h; exact ⟨rfl, u, cells, 1, rfl, hr, fun x hx => (by cases hx; exact ⟨rfl, rfl⟩), fun h => (by cases h)⟩
theorem W2.no {G : IM} {o : Option Tm} {u : Tm} {cells : List Value} (h : o = none) (hr : B1 G u cells) : W2 o G (.tuple ⟨[.agg ⟨cells⟩, .int .i64 3]⟩) [] := by
 subst h; exact ⟨rfl, u, cells, 3, rfl, hr, fun x hx => (by cases hx), fun _ => rfl⟩
theorem Q2 (G : IM) : B1 G J7 [.int .i64 0, .string ⟨⟨[]⟩⟩, .int .i64 0, .int .i64 0, .slice none 0 0, .int .i64 0, .slice none 0 0, .int .i64 0, .slice none 0 0] := (Q4.zero G).R
theorem A3d {Q : Prop} (h : Q := by (exact W2.no (by rw [if_neg (by omega)]) (Q2 _))) : Q := h
theorem B6k (a b : Tm) (nm : ByteArray) (num : Int) (ty fr : Ty) (lb : Int) (G : IM) (cells : List Value) (hca : cv a) (hr : B1 G (.mk 6 nm num ty fr lb [a, b]) cells) : Fn Tryz.prog 229 [.agg ⟨cells⟩] [] G (W2 (Y7 6 [a, b])) := by
 have hsm := A2p a hca
 obtain ⟨ak, anm, anum, ⟨atk, atks⟩, ⟨afk, afks⟩, alb, aks⟩ := a
 obtain ⟨tk, tks⟩ := ty
 obtain ⟨fk, fks⟩ := fr
 obtain ⟨pt, ct, pf, cf, p, c, es, rfl, hk, hnum, hlb, hty, hfr, hsl, hkl⟩ := hr.open9
 obtain ⟨bx, ox, e0, rfl, hl0, hat0, hre0, hgb0⟩ := hsl.kidTm hkl (i := 0) (by simp) (by simp)
 replace hre0 : B1 G (.mk ak anm anum (.mk atk atks) (.mk afk afks) alb aks) e0 := hre0
 obtain ⟨apt, act, apf, acf, ap, ac, aes, rfl, hak, hanum, halb, haty, hafr, hasl, hakl⟩ := hre0.open9
 obtain ⟨_, _, e1, hp1, hl1, hat1, hre1, hgb1⟩ := hsl.kidTm hkl (i := 1) (by simp) (by simp)
 cases hp1
 replace hre1 : B1 G b e1 := hre1
 have ho1 := hre1.one
 obtain ⟨hN, _⟩ := hca.node
 have hops := hN.ops
 obtain ⟨_, _, _, _, hksm⟩ := A0v.1 hsm
 have h1 : ak = 5 → aks.length = 1 := fun h => by rw [h] at hops; have : D9 5 = 1 := rfl; omega
 have hL : ([Tm.mk ak anm anum (.mk atk atks) (.mk afk afks) alb aks, b] : List Tm).length = 2 := rfl
 rw [show Y7 6 [Tm.mk ak anm anum (.mk atk atks) (.mk afk afks) alb aks, b] = (if ak = 5 then some (S2 anm b (kd aks 0)) else none) from rfl]
 refine C6 Tryz.func229 rfl Tryz.ntmps229 Tryz.results229 rfl ?_
 intro w0
 refine A4 ?_
 refine sE (C9 rfl rfl) rfl (fun b3 => ?_)
 refine sE (A9 rfl) rfl (fun b4 => ?_)
 refine A8 ?_
 refine sE (A9 rfl) rfl (fun b11 => ?_)
 refine E1 ?_
 refine sP (A3t rfl rfl (by omega)) rfl rfl ?_
 refine A8 ?_
 refine sP (B5 (j := 0) rfl rfl rfl (by simp)) rfl rfl ?_
 refine sL (A3 rfl rfl (hat0 _) rfl) rfl rfl ?_
 refine J2 ?_
 refine C5 ?_
 refine A4 ?_
 refine sP (Y3 rfl rfl (by omega)) rfl rfl ?_
 refine D4 ?_
 refine sB (qE rfl rfl) rfl rfl (fun h52 => ?_) (fun h52 => ?_)
 refine B4 ?_
 (have hq : ak = 5 := (by omega); have hq1 := h1 hq; obtain ⟨bq, oq, e3, rfl, hl3, hat3, hre3, hgb3⟩ := hasl.kidTm hakl (i := 0) (by omega) (by omega); have hS := B6g anm b e1 aks[0] G e3 (Tm.smallL_mem hksm _ (List.getElem_mem (by omega))) hre3 hre1; refine D7 D8 rfl ?_)
 refine I6 (i := 0) (l' := [tt,ff,ff,ff,ff,ff,ff,ff,ff,ff,ff,ff,ff]) rfl D2 (B8 rfl) rfl (by kernel_rfl) rfl rfl ?_
 refine aL 1 rfl (C7 rfl rfl) rfl ?_
 refine aP 2 rfl (B5 (j := 0) rfl rfl rfl (by omega)) rfl ?_
 refine aL 3 rfl (A3 rfl rfl (hat3 _) hl3) rfl ?_
 refine aP 4 rfl (B8 rfl) rfl ?_
 refine aL 5 rfl (C7 rfl rfl) rfl ?_
 refine aP 6 rfl (B8 rfl) rfl ?_
 refine aL 7 rfl (C7 rfl rfl) rfl ?_
 refine aP 8 rfl (B5 (j := 1) rfl rfl rfl (by simp)) rfl ?_
 refine aL 9 rfl (A3 rfl rfl (hat1 _) hl1) rfl ?_
 refine A2 10 ?_
 (refine H3 rfl rfl hS rfl rfl rfl (fun u G1 hle1 hh => ?_); obtain ⟨uc, rfl, hru⟩ := hh; have hul := hru.len; have huo := hru.one)
 refine A2 11 ?_
 (refine oS rfl rfl rfl rfl hul huo rfl rfl ?_ (hu := by exact E0 hul.symm))
 refine aP 12 rfl (qA rfl) rfl ?_
 refine B0 ?_
 refine H5 (rC rfl (A3 rfl rfl (B6 (by repeat first | exact mH | apply mT)) hul)) (rT rfl) ?_
 (exact W2.yes (by rw [if_pos (by omega)]; unfold kd; rw [List.getD_eq_getElem?_getD, List.getElem?_eq_getElem (by omega), Option.getD_some]) hru)
 refine J5 ?_
 refine H5 (rC rfl (A5 rfl rfl)) (rT rfl) ?_
 exact A3d
theorem B0U (k : Int) (a b : Tm) (nm : ByteArray) (num : Int) (ty fr : Ty) (lb : Int) (G : IM) (cells : List Value) (hk78 : k = 7 ∨ k = 8) (hca : cv a) (hcb : cv b) (hr : B1 G (.mk k nm num ty fr lb [a, b]) cells) : Fn Tryz.prog 229 [.agg ⟨cells⟩] [] G (W2 (Y7 k [a, b])) := by
 obtain ⟨ak, anm, anum, ⟨atk, atks⟩, ⟨afk, afks⟩, alb, aks⟩ := a
 obtain ⟨tk, tks⟩ := ty
 obtain ⟨fk, fks⟩ := fr
 obtain ⟨pt, ct, pf, cf, p, c, es, rfl, hk, hnum, hlb, hty, hfr, hsl, hkl⟩ := hr.open9
 obtain ⟨bx, ox, e0, rfl, hl0, hat0, hre0, hgb0⟩ := hsl.kidTm hkl (i := 0) (by simp) (by simp)
 replace hre0 : B1 G (.mk ak anm anum (.mk atk atks) (.mk afk afks) alb aks) e0 := hre0
 obtain ⟨apt, act, apf, acf, ap, ac, aes, rfl, hak, hanum, halb, haty, hafr, hasl, hakl⟩ := hre0.open9
 obtain ⟨bk, bnm, bnum, ⟨btk, btks⟩, ⟨bfk, bfks⟩, blb, bks⟩ := b
 obtain ⟨_, _, e1, hp1, hl1, hat1, hre1, hgb1⟩ := hsl.kidTm hkl (i := 1) (by simp) (by simp)
 cases hp1
 replace hre1 : B1 G (.mk bk bnm bnum (.mk btk btks) (.mk bfk bfks) blb bks) e1 := hre1
 obtain ⟨bpt, bct, bpf, bcf, bp, bc, bes, rfl, hbk, hbnum, hblb, hbty, hbfr, hbsl, hbkl⟩ := hre1.open9
 obtain ⟨hN, _⟩ := hca.node
 obtain ⟨hM, _⟩ := hcb.node
 obtain ⟨hn1, hn2⟩ := hN.num0
 obtain ⟨hm1, hm2⟩ := hM.num0
 have hL : ([Tm.mk ak anm anum (.mk atk atks) (.mk afk afks) alb aks, Tm.mk bk bnm bnum (.mk btk btks) (.mk bfk bfks) blb bks] : List Tm).length = 2 := rfl
 have hR : Y7 k [Tm.mk ak anm anum (.mk atk atks) (.mk afk afks) alb aks, Tm.mk bk bnm bnum (.mk btk btks) (.mk bfk bfks) blb bks] = (if ak = 2 ∧ bk = 2 then some (if k = 7 then A2o ((anum + bnum) % 1000) else Y6 (anum < bnum)) else none) := by
  unfold Y7; rw [if_neg (by omega), if_pos hk78]; rfl
 rw [hR]
 have htm : (anum + bnum).tmod 1000 = (anum + bnum) % 1000 := B0T ⟨hn1, hn2⟩ ⟨hm1, hm2⟩
 have hb : H0 ((anum + bnum) % 1000) := ⟨by omega, by omega⟩
 refine C6 Tryz.func229 rfl Tryz.ntmps229 Tryz.results229 rfl ?_
 intro w0
 refine A4 ?_
 refine sE (C9 rfl rfl) rfl (fun b3 => ?_)
 refine sE (A9 rfl) rfl (fun b4 => ?_)
 refine A8 ?_
 refine sE (A9 rfl) rfl (fun b11 => ?_)
 refine E1 ?_
 refine sP (A3t rfl rfl (by omega)) rfl rfl ?_
 refine A8 ?_
 refine sP (B5 (j := 0) rfl rfl rfl (by simp)) rfl rfl ?_
 refine sL (A3 rfl rfl (hat0 _) rfl) rfl rfl ?_
 refine J2 ?_
 refine C5 ?_
 refine A4 ?_
 refine sP (I9 rfl rfl (by omega)) rfl rfl ?_
 refine B7 ?_
 refine sB (qE rfl rfl) rfl rfl (fun h51 => ?_) (fun h51 => ?_)
 refine J8 ?_
 refine sP (B5 (j := 1) rfl rfl rfl (by simp)) rfl rfl ?_
 refine sL (A3 rfl rfl (hat1 _) rfl) rfl rfl ?_
 refine sE (A9 rfl) rfl (fun b65 => ?_)
 refine B9 ?_
 refine C5 ?_
 refine B4 ?_
 refine sB (N2 rfl rfl) rfl rfl (fun h74 => ?_) (fun h74 => ?_)
 refine A0E ?_
 refine H5 (rC rfl (A5 rfl rfl)) (rT rfl) ?_
 exact A3d
 refine B9 ?_
 refine sB (N2 rfl rfl) rfl rfl (fun h101 => ?_) (fun h101 => ?_)
 refine S4 ?_
 refine H5 (rC rfl (A5 rfl rfl)) (rT rfl) ?_
 exact A3d
 refine E1 ?_
 refine sP (Y3 rfl rfl (by omega)) rfl rfl ?_
 refine J2 ?_
 refine sP (H9 rfl rfl (by omega) (by omega)) rfl rfl ?_
 refine sP (A38 rfl rfl (by omega)) rfl rfl ?_
 refine F8 ?_
 (rw [htm]; refine sS' ?_)
 refine B7 ?_
 refine H5 (rC rfl (A5 rfl rfl)) (rT rfl) ?_
 (exact W2.yes (u := A2o (HMod.hMod (anum + bnum) 1000)) (by rw [if_pos ⟨by omega, by omega⟩, if_pos (by omega)]) (B1.put (us := []) ⟨by decide, by decide⟩ hb ⟨by decide, by decide⟩ (A18 _) (A18 _) rfl (E3.nil _ _) rfl))
 refine B0 ?_
 refine sP (Y3 rfl rfl (by omega)) rfl rfl ?_
 refine D4 ?_
 refine sP (B5 (j := 1) rfl rfl rfl (by simp)) rfl rfl ?_
 refine sL (A3 rfl rfl (hat1 _) rfl) rfl rfl ?_
 refine sE (A9 rfl) rfl (fun b170 => ?_)
 refine B9 ?_
 refine C5 ?_
 refine B4 ?_
 refine sB (N2 rfl rfl) rfl rfl (fun h179 => ?_) (fun h179 => ?_)
 refine A0E ?_
 refine H5 (rC rfl (A5 rfl rfl)) (rT rfl) ?_
 exact A3d
 refine B9 ?_
 refine sB (N2 rfl rfl) rfl rfl (fun h206 => ?_) (fun h206 => ?_)
 refine S4 ?_
 refine H5 (rC rfl (A5 rfl rfl)) (rT rfl) ?_
 exact A3d
 refine E1 ?_
 refine sP (I9 rfl rfl (by omega)) rfl rfl ?_
 refine J2 ?_
 (refine sB (J4 rfl rfl) rfl rfl (fun h246 => ?_) (fun h246 => ?_))
 (refine E6 rfl (B0S _ _) rfl rfl (fun u G1 hle1 hh => ?_); obtain ⟨uc, rfl, hru⟩ := hh; have hul := hru.len; have huo := hru.one)
 refine sS rfl rfl rfl hul huo rfl ?_ (hu := by exact E0 hul.symm)
 refine B7 ?_
 refine H5 (rC rfl (A3 rfl rfl (B6 (by repeat first | exact mH | apply mT)) hul)) (rT rfl) ?_
 (exact W2.yes (by rw [if_pos ⟨by omega, by omega⟩, if_neg (by omega)]; unfold Y6; rw [if_pos (by omega), if_pos rfl]) hru)
 (refine E6 rfl (B0S _ _) rfl rfl (fun u G1 hle1 hh => ?_); obtain ⟨uc, rfl, hru⟩ := hh; have hul := hru.len; have huo := hru.one)
 refine sS rfl rfl rfl hul huo rfl ?_ (hu := by exact E0 hul.symm)
 refine B7 ?_
 refine H5 (rC rfl (A3 rfl rfl (B6 (by repeat first | exact mH | apply mT)) hul)) (rT rfl) ?_
 (exact W2.yes (by rw [if_pos ⟨by omega, by omega⟩, if_neg (by omega)]; unfold Y6; rw [if_neg (by omega), if_neg (by decide)]) hru)
theorem B6l (a b c0 : Tm) (nm : ByteArray) (num : Int) (ty fr : Ty) (lb : Int) (G : IM) (cells : List Value) (hr : B1 G (.mk 9 nm num ty fr lb [a, b, c0]) cells) : Fn Tryz.prog 229 [.agg ⟨cells⟩] [] G (W2 (Y7 9 [a, b, c0])) := by
 obtain ⟨ak, anm, anum, ⟨atk, atks⟩, ⟨afk, afks⟩, alb, aks⟩ := a
 obtain ⟨tk, tks⟩ := ty
 obtain ⟨fk, fks⟩ := fr
 obtain ⟨pt, ct, pf, cf, p, c, es, rfl, hk, hnum, hlb, hty, hfr, hsl, hkl⟩ := hr.open9
 obtain ⟨bx, ox, e0, rfl, hl0, hat0, hre0, hgb0⟩ := hsl.kidTm hkl (i := 0) (by simp) (by simp)
 replace hre0 : B1 G (.mk ak anm anum (.mk atk atks) (.mk afk afks) alb aks) e0 := hre0
 obtain ⟨apt, act, apf, acf, ap, ac, aes, rfl, hak, hanum, halb, haty, hafr, hasl, hakl⟩ := hre0.open9
 obtain ⟨_, _, e1, hp1, hl1, hat1, hre1, hgb1⟩ := hsl.kidTm hkl (i := 1) (by simp) (by simp)
 cases hp1
 replace hre1 : B1 G b e1 := hre1
 have ho1 := hre1.one
 obtain ⟨_, _, e2, hp2, hl2, hat2, hre2, hgb2⟩ := hsl.kidTm hkl (i := 2) (by simp) (by simp)
 cases hp2
 replace hre2 : B1 G c0 e2 := hre2
 have ho2 := hre2.one
 have hL : ([Tm.mk ak anm anum (.mk atk atks) (.mk afk afks) alb aks, b, c0] : List Tm).length = 3 := rfl
 rw [show Y7 9 [Tm.mk ak anm anum (.mk atk atks) (.mk afk afks) alb aks, b, c0] = (if ak = 3 then some b else if ak = 4 then some c0 else none) from rfl]
 refine C6 Tryz.func229 rfl Tryz.ntmps229 Tryz.results229 rfl ?_
 intro w0
 refine A4 ?_
 refine sE (C9 rfl rfl) rfl (fun b3 => ?_)
 refine sE (A9 rfl) rfl (fun b4 => ?_)
 refine A8 ?_
 refine sE (A9 rfl) rfl (fun b11 => ?_)
 refine E1 ?_
 refine sP (A3t rfl rfl (by omega)) rfl rfl ?_
 refine A8 ?_
 refine sP (B5 (j := 0) rfl rfl rfl (by simp)) rfl rfl ?_
 refine sL (A3 rfl rfl (hat0 _) rfl) rfl rfl ?_
 refine J2 ?_
 refine C5 ?_
 refine A4 ?_
 refine sP (I9 rfl rfl (by omega)) rfl rfl ?_
 refine B7 ?_
 refine sP (I9 rfl rfl (by omega)) rfl rfl ?_
 refine B0 ?_
 refine sP (I9 rfl rfl (by omega)) rfl rfl ?_
 refine A8 ?_
 refine sP (Y3 rfl rfl (by omega)) rfl rfl ?_
 refine J2 ?_
 refine C5 (tS (tR (sB (qE rfl rfl) rfl rfl (fun h78 => ?_) (fun h78 => ?_))))
 refine D4 ?_
 refine sP (B5 (j := 1) rfl rfl rfl (by simp)) rfl rfl ?_
 refine sL (A3 rfl rfl (hat1 _) hl1) rfl rfl ?_
 refine sS rfl rfl rfl hl1 ho1 rfl ?_ (hu := by exact E0 hl1.symm)
 refine B7 ?_
 refine H5 (rC rfl (A3 rfl rfl (B6 (by repeat first | exact mH | apply mT)) hl1)) (rT rfl) ?_
 (exact W2.yes (by rw [if_pos (by omega)]) hre1)
 refine A8 ?_
 refine sB (qE rfl rfl) rfl rfl (fun h105 => ?_) (fun h105 => ?_)
 refine D4 ?_
 refine sP (B5 (j := 2) rfl rfl rfl (by simp)) rfl rfl ?_
 refine sL (A3 rfl rfl (hat2 _) hl2) rfl rfl ?_
 refine sS rfl rfl rfl hl2 ho2 rfl ?_ (hu := by exact E0 hl2.symm)
 refine B7 ?_
 refine H5 (rC rfl (A3 rfl rfl (B6 (by repeat first | exact mH | apply mT)) hl2)) (rT rfl) ?_
 (exact W2.yes (by rw [if_neg (by omega), if_pos (by omega)]) hre2)
 refine K0 ?_
 refine H5 (rC rfl (A5 rfl rfl)) (rT rfl) ?_
 (exact W2.no (by rw [if_neg (by omega), if_neg (by omega)]) (Q2 _))
theorem B0V (k : Int) (a : Tm) (nm : ByteArray) (num : Int) (ty fr : Ty) (lb : Int) (G : IM) (cells : List Value) (hk1 : k = 11 ∨ k = 12) (hca : cv a) (hr : B1 G (.mk k nm num ty fr lb [a]) cells) : Fn Tryz.prog 229 [.agg ⟨cells⟩] [] G (W2 (Y7 k [a])) := by
 obtain ⟨ak, anm, anum, ⟨atk, atks⟩, ⟨afk, afks⟩, alb, aks⟩ := a
 obtain ⟨tk, tks⟩ := ty
 obtain ⟨fk, fks⟩ := fr
 obtain ⟨pt, ct, pf, cf, p, c, es, rfl, hk, hnum, hlb, hty, hfr, hsl, hkl⟩ := hr.open9
 obtain ⟨bx, ox, e0, rfl, hl0, hat0, hre0, hgb0⟩ := hsl.kidTm hkl (i := 0) (by simp) (by simp)
 replace hre0 : B1 G (.mk ak anm anum (.mk atk atks) (.mk afk afks) alb aks) e0 := hre0
 obtain ⟨apt, act, apf, acf, ap, ac, aes, rfl, hak, hanum, halb, haty, hafr, hasl, hakl⟩ := hre0.open9
 obtain ⟨hN, _⟩ := hca.node
 have hops := hN.ops
 have h2 : ak = 10 → aks.length = 2 := fun h => by rw [h] at hops; have : D9 10 = 2 := rfl; omega
 have hL : ([Tm.mk ak anm anum (.mk atk atks) (.mk afk afks) alb aks] : List Tm).length = 1 := rfl
 have hR : Y7 k [Tm.mk ak anm anum (.mk atk atks) (.mk afk afks) alb aks] = (if ak = 10 then some (kd aks (k - 11).toNat) else none) := by
  unfold Y7; rw [if_neg (by omega), if_neg (by omega), if_neg (by omega), if_pos hk1]; rfl
 rw [hR]
 obtain ⟨i, hi⟩ : ∃ i : Nat, (k - 11).toNat = i := ⟨_, rfl⟩
 rw [hi]
 refine C6 Tryz.func229 rfl Tryz.ntmps229 Tryz.results229 rfl ?_
 intro w0
 refine A4 ?_
 refine sE (C9 rfl rfl) rfl (fun b3 => ?_)
 refine sE (A9 rfl) rfl (fun b4 => ?_)
 refine A8 ?_
 refine sE (A9 rfl) rfl (fun b11 => ?_)
 refine E1 ?_
 refine sP (A3t rfl rfl (by omega)) rfl rfl ?_
 refine A8 ?_
 refine sP (B5 (j := 0) rfl rfl rfl (by simp)) rfl rfl ?_
 refine sL (A3 rfl rfl (hat0 _) rfl) rfl rfl ?_
 refine J2 ?_
 refine C5 ?_
 refine A4 ?_
 refine sP (I9 rfl rfl (by omega)) rfl rfl ?_
 refine B7 ?_
 refine sP (I9 rfl rfl (by omega)) rfl rfl ?_
 refine B0 ?_
 refine sP (I9 rfl rfl (by omega)) rfl rfl ?_
 refine A8 ?_
 refine sP (I9 rfl rfl (by omega)) rfl rfl ?_
 refine B7 ?_
 refine sB (qE rfl rfl) rfl rfl (fun h72 => ?_) (fun h72 => ?_)
 refine J8 ?_
 refine sB (qE rfl rfl) rfl rfl (fun h84 => ?_) (fun h84 => ?_)
 refine B4 ?_
 (have hq : ak = 10 := (by omega); have hq1 := h2 hq; obtain ⟨bq, oq, e3, rfl, hl3, hat3, hre3, hgb3⟩ := hasl.kidTm hakl (i := i) (by omega) (by omega); have ho3 := hre3.one)
 refine B0 ?_
 refine sP (P4 rfl rfl (by omega) (by omega)) rfl rfl ?_
 (rw [show (k - 11 : Int) = ((i : Nat) : Int) from (by omega)]; refine sP (B5 (j := i) rfl rfl rfl (by omega)) rfl rfl ?_)
 refine sL (A3 rfl rfl (hat3 _) hl3) rfl rfl ?_
 refine sS rfl rfl rfl hl3 ho3 rfl ?_ (hu := by exact E0 hl3.symm)
 refine A8 ?_
 refine H5 (rC rfl (A3 rfl rfl (B6 (by repeat first | exact mH | apply mT)) hl3)) (rT rfl) ?_
 (exact W2.yes (by rw [if_pos (by omega)]; unfold kd; rw [List.getD_eq_getElem?_getD, List.getElem?_eq_getElem (by omega), Option.getD_some]) hre3)
 refine J5 ?_
 refine H5 (rC rfl (A5 rfl rfl)) (rT rfl) ?_
 exact A3d
 refine B0 ?_
 refine sP (Y3 rfl rfl (by omega)) rfl rfl ?_
 refine D4 ?_
 refine sB (qE rfl rfl) rfl rfl (fun h137 => ?_) (fun h137 => ?_)
 refine B4 ?_
 (have hq : ak = 10 := (by omega); have hq1 := h2 hq; obtain ⟨bq, oq, e3, rfl, hl3, hat3, hre3, hgb3⟩ := hasl.kidTm hakl (i := i) (by omega) (by omega); have ho3 := hre3.one)
 refine B0 ?_
 refine sP (P4 rfl rfl (by omega) (by omega)) rfl rfl ?_
 (rw [show (k - 11 : Int) = ((i : Nat) : Int) from (by omega)]; refine sP (B5 (j := i) rfl rfl rfl (by omega)) rfl rfl ?_)
 refine sL (A3 rfl rfl (hat3 _) hl3) rfl rfl ?_
 refine sS rfl rfl rfl hl3 ho3 rfl ?_ (hu := by exact E0 hl3.symm)
 refine A8 ?_
 refine H5 (rC rfl (A3 rfl rfl (B6 (by repeat first | exact mH | apply mT)) hl3)) (rT rfl) ?_
 (exact W2.yes (by rw [if_pos (by omega)]; unfold kd; rw [List.getD_eq_getElem?_getD, List.getElem?_eq_getElem (by omega), Option.getD_some]) hre3)
 refine J5 ?_
 refine H5 (rC rfl (A5 rfl rfl)) (rT rfl) ?_
 exact A3d
section
variable {P : Program} {Γ : M0} {K : Po} {ops : Array Oper} {env : M6} {hp : List A6} {G : IM}
theorem A1t {H : List (Nat × Nat)} {fuel j : Nat} {listed : List Bool} {hp' : List A6} {p : Option Addr} {c el sz n : Nat} {cs : List Value} (hk : Pk hp (.slc p c el sz n cs) hp')
  (h : ∀ G', C4 G G' → Sl G' p n c sz cs → (∀ b ∈ I2 p, G b = none ∧ G' b ≠ none) → W3 P Γ ops K H fuel listed j ⟨env, hp', G'⟩) : W3 P Γ ops K H fuel listed j ⟨env, hp, G⟩ :=
 ⟨fun a w hs => let ⟨G', h1, h2, h3, h4⟩ := hs.freeze hk; (h G' h2 h3 h4).run a w h1⟩
end
theorem C3.kids {G : IM} {t : Ty} {a : Value} {p : Option Addr} {n c : Nat} (h : C3 G t [a, .slice p n c]) : ∃ es, E3 G p t.ks.length c 2 es ∧ D5 G t.ks es := by
 obtain ⟨p', c', es, he, _, h1, h2⟩ := h.open
 simp only [List.cons.injEq, Value.slice.injEq, and_true] at he
 obtain ⟨_, rfl, _, rfl⟩ := he
 exact ⟨es, h1, h2⟩
def Z5 (k : Int) (ty fr : Ty) (lb : Int) (ks : List Tm) : Stp :=
 if k = 6 then
  (if P6 (kd ks 0) = true ∧ (kd ks 0).ty.k = 4 then (K5 (Y5 6 [kd (kd ks 0).ks 0, K5 (kd ks 1) (kt (kd ks 0).ty.ks 0) (kt (kd ks 0).fr.ks 0) (-(kd ks 0).lb)]) (kt (kd ks 0).fr.ks 1) (kt (kd ks 0).ty.ks 1) (kd ks 0).lb, 1, 0) else Q7)
 else if k = 11 ∨ k = 12 then
  (if P6 (kd ks 0) = true ∧ (kd ks 0).ty.k = 5 then (K5 (Y5 k [kd (kd ks 0).ks 0]) (kt (kd ks 0).fr.ks (k - 11).toNat) (kt (kd ks 0).ty.ks (k - 11).toNat) (kd ks 0).lb, 1, 0) else Q7)
 else if k = 14 then
  (if fr.k = ty.k then (kd ks 0, 1, 0)
   else if ty.k = 1 then (K5 (K5 (kd ks 0) fr (T8 fr) lb) (T8 fr) ty lb, 1, 0)
   else if R9 ty = false then (K5 (K5 (kd ks 0) fr (T8 ty) lb) (T8 ty) ty lb, 1, 0)
   else if inj (kd ks 0) = false then Q7
   else if (kd ks 0).fr.k = ty.k then (kd (kd ks 0).ks 0, 1, 0)
   else (J7, 2, lb))
 else Q7
theorem B6m (k : Int) (ty fr : Ty) (lb : Int) (ks : List Tm) : M7 k ty fr lb ks = match Y7 k ks with | some u => (u, 1, 0) | none => Z5 k ty fr lb ks := by
 unfold M7 Y7 Z5
 by_cases h6 : k = 6
 ·rw [if_pos h6, if_pos h6, if_pos h6]
  by_cases h : (kd ks 0).k = 5
  ·rw [if_pos h, if_pos h]
  ·rw [if_neg h, if_neg h]
 rw [if_neg h6, if_neg h6, if_neg h6]
 by_cases h7 : k = 7 ∨ k = 8
 ·rw [if_pos h7, if_pos h7]
  by_cases h : (kd ks 0).k = 2 ∧ (kd ks 1).k = 2
  ·rw [if_pos h, if_pos h]
  ·rw [if_neg h, if_neg h]; simp only; rw [if_neg (by omega), if_neg (by omega)]
 rw [if_neg h7, if_neg h7]
 by_cases h9 : k = 9
 ·rw [if_pos h9, if_pos h9]
  by_cases h : (kd ks 0).k = 3
  ·rw [if_pos h, if_pos h]
  ·rw [if_neg h, if_neg h]
   by_cases h' : (kd ks 0).k = 4
   ·rw [if_pos h', if_pos h']
   ·rw [if_neg h', if_neg h']; simp only; rw [if_neg (by omega), if_neg (by omega)]
 rw [if_neg h9, if_neg h9]
 by_cases h11 : k = 11 ∨ k = 12
 ·rw [if_pos h11, if_pos h11, if_pos h11]
  by_cases h : (kd ks 0).k = 10
  ·rw [if_pos h, if_pos h]
  ·rw [if_neg h, if_neg h]
 rw [if_neg h11, if_neg h11, if_neg h11]
def W8 (r : Stp) : IM → Value → List A6 → Prop := K8 fun G' v => ∃ u cells, v = .tuple ⟨[.agg ⟨cells⟩, .int .i64 r.2.1, .int .i64 r.2.2]⟩ ∧ B1 G' u cells ∧ (r.2.1 = 1 → u = r.1)
theorem W8.mk {G : IM} {r : Stp} {u : Tm} {cells : List Value} {c l : Int} (h : r = (u, c, l)) (hr : B1 G u cells) : W8 r G (.tuple ⟨[.agg ⟨cells⟩, .int .i64 c, .int .i64 l]⟩) [] := by
 subst h; exact ⟨rfl, u, cells, rfl, hr, fun _ => rfl⟩
theorem A2y {ks : List Tm} {i : Nat} (h : i < ks.length) : kd ks i = ks[i] := by unfold kd; rw [List.getD_eq_getElem?_getD, List.getElem?_eq_getElem h, Option.getD_some]
theorem A06 {ks : List Ty} {i : Nat} (h : i < ks.length) : kt ks i = ks[i] := by unfold kt; rw [List.getD_eq_getElem?_getD, List.getElem?_eq_getElem h, Option.getD_some]
theorem B0W {t : Ty} (h : R9 t = true) : t = T8 t := by
 unfold R9 at h
 rw [Bool.and_eq_true] at h
 exact (Z2 _ _).1 h.2
theorem B0X {Q : Prop} (h : Q := by (exact W8.mk (by rw [if_pos hq, A2y (by omega), A06 (by omega), A06 (by omega), A06 (by omega), A06 (by omega)]) hrw)) : Q := h
theorem A3U {Q : Prop} (h : Q := by (exact W8.mk (by rw [if_neg (by omega)]; rfl) (Q2 _))) : Q := h
theorem B6n (a b : Tm) (nm : ByteArray) (num : Int) (ty fr : Ty) (lb : Int) (G : IM) (cells : List Value) (hca : cv a) (hr : B1 G (.mk 6 nm num ty fr lb [a, b]) cells) : Fn Tryz.prog 230 [.agg ⟨cells⟩] [] G (W8 (Z5 6 ty fr lb [a, b])) := by
 obtain ⟨ak, anm, anum, ⟨atk, atks⟩, ⟨afk, afks⟩, alb, aks⟩ := a
 obtain ⟨hN, hkk⟩ := hca.node
 have hops := hN.ops
 have hbl := hN.lbB
 have htyA := hN.tyA
 have hfrA := hN.frA
 rw [F9] at htyA hfrA
 have h14 : ak = 14 → aks.length = 1 := fun h => by rw [h] at hops; have : D9 14 = 1 := rfl; omega
 obtain ⟨tk, tks⟩ := ty
 obtain ⟨fk, fks⟩ := fr
 obtain ⟨pt, ct, pf, cf, p, c, es, rfl, hk, hnum, hlb, hty, hfr, hsl, hkl⟩ := hr.open9
 obtain ⟨bx, ox, e0, rfl, hl0, hat0, hre0, hgb0⟩ := hsl.kidTm hkl (i := 0) (by simp) (by simp)
 replace hre0 : B1 G (Tm.mk ak anm anum (.mk atk atks) (.mk afk afks) alb aks) e0 := hre0
 have hP : Fn Tryz.prog 106 [.agg ⟨e0⟩] [] G (J0 (.bool (decide (ak = 14 ∧ afk = atk ∧ (atk = 4 ∨ atk = 5)))) G) := A3c _ G _ hre0
 obtain ⟨apt, act, apf, acf, ap, ac, aes, rfl, hak, hanum, halb, haty, hafr, hasl, hakl⟩ := hre0.open9
 obtain ⟨tes, htS, htL⟩ := haty.kids
 obtain ⟨fes, hfS, hfL⟩ := hafr.kids
 simp only [Ty.ks] at htS htL hfS hfL
 obtain ⟨_, _, e1, hp1, hl1, hat1, hre1, hgb1⟩ := hsl.kidTm hkl (i := 1) (by simp) (by simp)
 cases hp1
 replace hre1 : B1 G b e1 := hre1
 have ho1 := hre1.one
 have hR : Z5 6 (.mk tk tks) (.mk fk fks) lb [Tm.mk ak anm anum (.mk atk atks) (.mk afk afks) alb aks, b] = (if (ak = 14 ∧ afk = atk ∧ (atk = 4 ∨ atk = 5)) ∧ atk = 4 then (K5 (Y5 6 [kd aks 0, K5 b (kt atks 0) (kt afks 0) (-alb)]) (kt afks 1) (kt atks 1) alb, 1, 0) else Q7) := by
  unfold Z5
  rw [if_pos rfl, show kd [Tm.mk ak anm anum (.mk atk atks) (.mk afk afks) alb aks, b] 0 = Tm.mk ak anm anum (.mk atk atks) (.mk afk afks) alb aks from rfl, A05]
  simp only [decide_eq_true_eq]
  rfl
 rw [hR]
 refine C6 Tryz.func230 rfl Tryz.ntmps230 Tryz.results230 rfl ?_
 intro w0
 refine A4 ?_
 refine sE (C9 rfl rfl) rfl (fun b3 => ?_)
 refine sE (A9 rfl) rfl (fun b4 => ?_)
 refine D4 ?_
 refine sP (B5 (j := 0) rfl rfl rfl (by simp)) rfl rfl ?_
 refine sL (A3 rfl rfl (hat0 _) rfl) rfl rfl ?_
 refine sE (A9 rfl) rfl (fun b15 => ?_)
 refine B4 ?_
 refine C5 ?_
 refine B4 ?_
 refine sP (Y3 rfl rfl (by omega)) rfl rfl ?_
 refine A4 ?_
 focus (by_cases hpx : (ak = 14 ∧ afk = atk ∧ (atk = 4 ∨ atk = 5)); rw [decide_eq_true hpx] at hP; rotate_left; rw [decide_eq_false hpx] at hP; rotate_left; all_goals (refine H6 rfl hP rfl rfl ?_))
 refine B0 ?_
 refine sB (qE rfl rfl) rfl rfl (fun h34 => ?_) (fun h34 => ?_)
 refine A8 ?_
 (have hq : (ak = 14 ∧ afk = atk ∧ (atk = 4 ∨ atk = 5)) ∧ atk = 4 := ⟨hpx, by omega⟩; have hq1 := h14 hq.1.1; have hq2 := htyA.1 (by omega); have hq3 := hfrA.1 (by omega); obtain ⟨bq, oq, e3, rfl, hl3, hat3, hre3, hgb3⟩ := hasl.kidTm hakl (i := 0) (by omega) (by omega); have ho3 := hre3.one; obtain ⟨b5, o5, q5, d5, rfl, hat5, hre5, hgb5⟩ := htS.kidTy htL (i := 0) (by omega) (by omega); obtain ⟨_, _, q6, d6, hp6, hat6, hre6, hgb6⟩ := htS.kidTy htL (i := 1) (by omega) (by omega); cases hp6; obtain ⟨b7, o7, q7, d7, rfl, hat7, hre7, hgb7⟩ := hfS.kidTy hfL (i := 0) (by omega) (by omega); obtain ⟨_, _, q8, d8, hp8, hat8, hre8, hgb8⟩ := hfS.kidTy hfL (i := 1) (by omega) (by omega); cases hp8; obtain ⟨x1, x2, x3, x4, x5, x6, x7, x8, x9, rfl⟩ := nine hl3; obtain ⟨y1, y2, y3, y4, y5, y6, y7, y8, y9, rfl⟩ := nine hl1; refine D7 D8 rfl ?_)
 refine I6 (i := 0) (l' := [tt,ff,ff,ff,ff,ff,ff,ff,ff,ff,ff,ff]) rfl D2 (B8 rfl) rfl (by kernel_rfl) rfl rfl ?_
 refine aL 1 rfl (C7 rfl rfl) rfl ?_
 refine aP 2 rfl (B5 (j := 0) rfl rfl rfl (by omega)) rfl ?_
 refine aL 3 rfl (A3 rfl rfl (hat3 _) rfl) rfl ?_
 refine aP 4 rfl (B8 rfl) rfl ?_
 refine aL 5 rfl (C7 rfl rfl) rfl ?_
 refine aP 6 rfl (B5 (j := 1) rfl rfl rfl (by simp)) rfl ?_
 refine aL 7 rfl (A3 rfl rfl (hat1 _) rfl) rfl ?_
 refine Q3 (j := 8) (j' := 9) (by kernel_rfl) ?_ ?_
 (refine E2 rfl (A9 rfl) rfl rfl ?_; rintro _ ⟨b51, rfl⟩)
 refine A2 9 ?_
 (refine E2 rfl (A9 rfl) rfl rfl ?_; rintro _ ⟨b53, rfl⟩)
 refine A2 10 ?_
 (refine oS rfl rfl rfl rfl rfl ho3 rfl rfl ?_ (hu := by exact E0 rfl.symm))
 refine A2 11 ?_
 (refine oS rfl rfl rfl rfl rfl ho1 rfl rfl ?_ (hu := by exact E0 rfl.symm))
 refine B9 ?_
 refine D7 D8 rfl ?_
 refine L3 (i := 0) (l' := [tt,ff,ff,ff,ff,ff,ff,ff,ff,ff,ff,ff,ff,ff,ff,ff,ff,ff,ff,ff,ff,ff,ff,ff,ff,ff,ff,ff,ff,ff,ff,ff,ff,ff]) rfl D2 (A3 rfl rfl (B6 (by repeat first | exact mH | apply mT)) rfl) rfl (by kernel_rfl) rfl rfl ?_
 refine aL 1 rfl (A3 rfl rfl (B6 (by repeat first | exact mH | apply mT)) rfl) rfl ?_
 refine aP 2 rfl (B8 rfl) rfl ?_
 refine aP 3 rfl (qF rfl) rfl ?_
 refine aL 4 rfl (C7 rfl rfl) rfl ?_
 refine aP 5 rfl (B5 (j := 0) rfl rfl rfl (by omega)) rfl ?_
 refine aL 6 rfl (A3 rfl rfl (hat5 _) rfl) rfl ?_
 refine aP 7 rfl (B8 rfl) rfl ?_
 refine aP 8 rfl (qF rfl) rfl ?_
 refine aL 9 rfl (C7 rfl rfl) rfl ?_
 refine aP 10 rfl (B5 (j := 0) rfl rfl rfl (by omega)) rfl ?_
 refine aL 11 rfl (A3 rfl rfl (hat7 _) rfl) rfl ?_
 refine aP 12 rfl (B8 rfl) rfl ?_
 refine aL 13 rfl (C7 rfl rfl) rfl ?_
 refine aP 14 rfl (A3m rfl (by omega) (by omega)) rfl ?_
 refine aP 18 rfl (B8 rfl) rfl ?_
 refine aP 19 rfl (qF rfl) rfl ?_
 refine aL 20 rfl (C7 rfl rfl) rfl ?_
 refine aP 21 rfl (B5 (j := 1) rfl rfl rfl (by omega)) rfl ?_
 refine aL 22 rfl (A3 rfl rfl (hat8 _) rfl) rfl ?_
 refine aP 23 rfl (B8 rfl) rfl ?_
 refine aP 24 rfl (qF rfl) rfl ?_
 refine aL 25 rfl (C7 rfl rfl) rfl ?_
 refine aP 26 rfl (B5 (j := 1) rfl rfl rfl (by omega)) rfl ?_
 refine aL 27 rfl (A3 rfl rfl (hat6 _) rfl) rfl ?_
 refine aP 28 rfl (B8 rfl) rfl ?_
 refine aL 29 rfl (C7 rfl rfl) rfl ?_
 refine A2 15 ?_
 (refine H3 rfl rfl (A1J b atks[0] afks[0] (-alb) G _ _ _ ⟨by omega, by omega⟩ hre1 hre5 hre7) rfl rfl rfl (fun u G1 hle1 hh => ?_); obtain ⟨uc, rfl, hru⟩ := hh; have hul := hru.len; have huo := hru.one; obtain ⟨z1, z2, z3, z4, z5, z6, z7, z8, z9, rfl⟩ := nine hul; replace hre3 := hre3.mono hle1; replace hre6 := hre6.mono hle1; replace hre8 := hre8.mono hle1)
 refine A2 16 ?_
 (refine E2 rfl (D0 rfl rfl rfl (by omega) (by unfold maxLen; omega) rfl) rfl rfl ?_; rintro _ ⟨b92, rfl⟩)
 refine A2 17 ?_
 (refine A1t (cs := [x1, x2, x3, x4, x5, x6, x7, x8, x9, z1, z2, z3, z4, z5, z6, z7, z8, z9]) (by repeat (first | exact Pk.here | apply Pk.there)) (fun G2 hle2 hsl2 hno2 => ?_); have hrN := A04 (k := 6) (ks := [aks[0], K5 b atks[0] afks[0] (-alb)]) (es := [[x1, x2, x3, x4, x5, x6, x7, x8, x9], [z1, z2, z3, z4, z5, z6, z7, z8, z9]]) ⟨by decide, by decide⟩ rfl (E3.of hsl2 rfl (by simp) (by intro x hx; rcases List.mem_cons.1 hx with rfl | hx; exact ho3; obtain rfl := List.mem_singleton.1 hx; exact huo)) (by simp only [E5]; exact ⟨_, _, rfl, hre3.mono hle2, _, _, rfl, hru.mono hle2, rfl⟩); replace hre6 := hre6.mono hle2; replace hre8 := hre8.mono hle2; refine N6 rfl rfl (A3T _ _ _ _ _) rfl rfl rfl ?_)
 refine A2 30 ?_
 (refine H3 rfl rfl (A1J _ afks[1] atks[1] alb G2 _ _ _ ⟨by omega, by omega⟩ hrN hre8 hre6) rfl rfl rfl (fun u G3 hle3 hh => ?_); obtain ⟨wc, rfl, hrw⟩ := hh; have hwl := hrw.len; have hwo := hrw.one)
 refine A2 31 ?_
 (refine oS rfl rfl rfl rfl hwl hwo rfl rfl ?_ (hu := by exact E0 hwl.symm))
 refine aP 32 rfl (qA rfl) rfl ?_
 refine aP 33 rfl (qA rfl) rfl ?_
 refine B0 ?_
 refine D3 (rC rfl (A3 rfl rfl (B6 (by repeat first | exact mH | apply mT)) hwl)) (rT rfl) (rT rfl) ?_
 exact B0X
 (refine E2 rfl (A9 rfl) rfl rfl ?_; rintro _ ⟨b108, rfl⟩)
 refine A2 8 ?_
 (refine E2 rfl (A9 rfl) rfl rfl ?_; rintro _ ⟨b110, rfl⟩)
 refine A2 10 ?_
 (refine oS rfl rfl rfl rfl rfl ho3 rfl rfl ?_ (hu := by exact E0 rfl.symm))
 refine A2 11 ?_
 (refine oS rfl rfl rfl rfl rfl ho1 rfl rfl ?_ (hu := by exact E0 rfl.symm))
 refine B9 ?_
 refine D7 D8 rfl ?_
 refine L3 (i := 0) (l' := [tt,ff,ff,ff,ff,ff,ff,ff,ff,ff,ff,ff,ff,ff,ff,ff,ff,ff,ff,ff,ff,ff,ff,ff,ff,ff,ff,ff,ff,ff,ff,ff,ff,ff]) rfl D2 (A3 rfl rfl (B6 (by repeat first | exact mH | apply mT)) rfl) rfl (by kernel_rfl) rfl rfl ?_
 refine aL 1 rfl (A3 rfl rfl (B6 (by repeat first | exact mH | apply mT)) rfl) rfl ?_
 refine aP 2 rfl (B8 rfl) rfl ?_
 refine aP 3 rfl (qF rfl) rfl ?_
 refine aL 4 rfl (C7 rfl rfl) rfl ?_
 refine aP 5 rfl (B5 (j := 0) rfl rfl rfl (by omega)) rfl ?_
 refine aL 6 rfl (A3 rfl rfl (hat5 _) rfl) rfl ?_
 refine aP 7 rfl (B8 rfl) rfl ?_
 refine aP 8 rfl (qF rfl) rfl ?_
 refine aL 9 rfl (C7 rfl rfl) rfl ?_
 refine aP 10 rfl (B5 (j := 0) rfl rfl rfl (by omega)) rfl ?_
 refine aL 11 rfl (A3 rfl rfl (hat7 _) rfl) rfl ?_
 refine aP 12 rfl (B8 rfl) rfl ?_
 refine aL 13 rfl (C7 rfl rfl) rfl ?_
 refine aP 14 rfl (A3m rfl (by omega) (by omega)) rfl ?_
 refine aP 18 rfl (B8 rfl) rfl ?_
 refine aP 19 rfl (qF rfl) rfl ?_
 refine aL 20 rfl (C7 rfl rfl) rfl ?_
 refine aP 21 rfl (B5 (j := 1) rfl rfl rfl (by omega)) rfl ?_
 refine aL 22 rfl (A3 rfl rfl (hat8 _) rfl) rfl ?_
 refine aP 23 rfl (B8 rfl) rfl ?_
 refine aP 24 rfl (qF rfl) rfl ?_
 refine aL 25 rfl (C7 rfl rfl) rfl ?_
 refine aP 26 rfl (B5 (j := 1) rfl rfl rfl (by omega)) rfl ?_
 refine aL 27 rfl (A3 rfl rfl (hat6 _) rfl) rfl ?_
 refine aP 28 rfl (B8 rfl) rfl ?_
 refine aL 29 rfl (C7 rfl rfl) rfl ?_
 refine A2 15 ?_
 (refine H3 rfl rfl (A1J b atks[0] afks[0] (-alb) G _ _ _ ⟨by omega, by omega⟩ hre1 hre5 hre7) rfl rfl rfl (fun u G1 hle1 hh => ?_); obtain ⟨uc, rfl, hru⟩ := hh; have hul := hru.len; have huo := hru.one; obtain ⟨z1, z2, z3, z4, z5, z6, z7, z8, z9, rfl⟩ := nine hul; replace hre3 := hre3.mono hle1; replace hre6 := hre6.mono hle1; replace hre8 := hre8.mono hle1)
 refine A2 16 ?_
 (refine E2 rfl (D0 rfl rfl rfl (by omega) (by unfold maxLen; omega) rfl) rfl rfl ?_; rintro _ ⟨b149, rfl⟩)
 refine A2 17 ?_
 (refine A1t (cs := [x1, x2, x3, x4, x5, x6, x7, x8, x9, z1, z2, z3, z4, z5, z6, z7, z8, z9]) (by repeat (first | exact Pk.here | apply Pk.there)) (fun G2 hle2 hsl2 hno2 => ?_); have hrN := A04 (k := 6) (ks := [aks[0], K5 b atks[0] afks[0] (-alb)]) (es := [[x1, x2, x3, x4, x5, x6, x7, x8, x9], [z1, z2, z3, z4, z5, z6, z7, z8, z9]]) ⟨by decide, by decide⟩ rfl (E3.of hsl2 rfl (by simp) (by intro x hx; rcases List.mem_cons.1 hx with rfl | hx; exact ho3; obtain rfl := List.mem_singleton.1 hx; exact huo)) (by simp only [E5]; exact ⟨_, _, rfl, hre3.mono hle2, _, _, rfl, hru.mono hle2, rfl⟩); replace hre6 := hre6.mono hle2; replace hre8 := hre8.mono hle2; refine N6 rfl rfl (A3T _ _ _ _ _) rfl rfl rfl ?_)
 refine A2 30 ?_
 (refine H3 rfl rfl (A1J _ afks[1] atks[1] alb G2 _ _ _ ⟨by omega, by omega⟩ hrN hre8 hre6) rfl rfl rfl (fun u G3 hle3 hh => ?_); obtain ⟨wc, rfl, hrw⟩ := hh; have hwl := hrw.len; have hwo := hrw.one)
 refine A2 31 ?_
 (refine oS rfl rfl rfl rfl hwl hwo rfl rfl ?_ (hu := by exact E0 hwl.symm))
 refine aP 32 rfl (qA rfl) rfl ?_
 refine aP 33 rfl (qA rfl) rfl ?_
 refine B0 ?_
 refine D3 (rC rfl (A3 rfl rfl (B6 (by repeat first | exact mH | apply mT)) hwl)) (rT rfl) (rT rfl) ?_
 exact B0X
 refine E1 ?_
 refine sP (I9 rfl rfl (by omega)) rfl rfl ?_
 refine B9 ?_
 refine sP (I9 rfl rfl (by omega)) rfl rfl ?_
 refine A0C ?_
 refine sP (A0A rfl rfl (by omega)) rfl rfl ?_
 refine I7 ?_
 refine D3 (rC rfl (A5 rfl rfl)) (rT rfl) (rT rfl) ?_
 exact A3U
 refine I7 ?_
 refine sP (I9 rfl rfl (by omega)) rfl rfl ?_
 refine B9 ?_
 refine sP (I9 rfl rfl (by omega)) rfl rfl ?_
 refine A0C ?_
 refine sP (A0A rfl rfl (by omega)) rfl rfl ?_
 refine I7 ?_
 refine D3 (rC rfl (A5 rfl rfl)) (rT rfl) (rT rfl) ?_
 exact A3U
theorem B0Y {Q : Prop} (h : Q := by (exact W8.mk (by rw [if_pos hq, A2y (by omega), A06 (by omega), A06 (by omega)]) hrw)) : Q := h
theorem B0Z (k : Int) (a : Tm) (nm : ByteArray) (num : Int) (ty fr : Ty) (lb : Int) (G : IM) (cells : List Value) (hk1 : k = 11 ∨ k = 12) (hca : cv a) (hr : B1 G (.mk k nm num ty fr lb [a]) cells) : Fn Tryz.prog 230 [.agg ⟨cells⟩] [] G (W8 (Z5 k ty fr lb [a])) := by
 obtain ⟨ak, anm, anum, ⟨atk, atks⟩, ⟨afk, afks⟩, alb, aks⟩ := a
 obtain ⟨hN, hkk⟩ := hca.node
 have hops := hN.ops
 have hbl := hN.lbB
 have htyA := hN.tyA
 have hfrA := hN.frA
 rw [F9] at htyA hfrA
 have h14 : ak = 14 → aks.length = 1 := fun h => by rw [h] at hops; have : D9 14 = 1 := rfl; omega
 obtain ⟨tk, tks⟩ := ty
 obtain ⟨fk, fks⟩ := fr
 obtain ⟨pt, ct, pf, cf, p, c, es, rfl, hk, hnum, hlb, hty, hfr, hsl, hkl⟩ := hr.open9
 obtain ⟨bx, ox, e0, rfl, hl0, hat0, hre0, hgb0⟩ := hsl.kidTm hkl (i := 0) (by simp) (by simp)
 replace hre0 : B1 G (Tm.mk ak anm anum (.mk atk atks) (.mk afk afks) alb aks) e0 := hre0
 have hP : Fn Tryz.prog 106 [.agg ⟨e0⟩] [] G (J0 (.bool (decide (ak = 14 ∧ afk = atk ∧ (atk = 4 ∨ atk = 5)))) G) := A3c _ G _ hre0
 have hI := A4N _ G _ hre0
 have ho0 := hre0.one
 obtain ⟨apt, act, apf, acf, ap, ac, aes, rfl, hak, hanum, halb, haty, hafr, hasl, hakl⟩ := hre0.open9
 have hfk64 : H0 fk := by obtain ⟨_, _, _, _, h, _⟩ := hfr.open; exact h
 have htk64 : H0 tk := by obtain ⟨_, _, _, _, h, _⟩ := hty.open; exact h
 obtain ⟨tes, htS, htL⟩ := haty.kids
 obtain ⟨fes, hfS, hfL⟩ := hafr.kids
 simp only [Ty.ks] at htS htL hfS hfL
 obtain ⟨i, hi⟩ : ∃ i : Nat, (k - 11).toNat = i := ⟨_, rfl⟩
 have hR : Z5 k (.mk tk tks) (.mk fk fks) lb [Tm.mk ak anm anum (.mk atk atks) (.mk afk afks) alb aks] = (if (ak = 14 ∧ afk = atk ∧ (atk = 4 ∨ atk = 5)) ∧ atk = 5 then (K5 (Y5 k [kd aks 0]) (kt afks i) (kt atks i) alb, 1, 0) else Q7) := by
  unfold Z5
  rw [if_neg (by omega), if_pos hk1, hi, show kd [Tm.mk ak anm anum (.mk atk atks) (.mk afk afks) alb aks] 0 = Tm.mk ak anm anum (.mk atk atks) (.mk afk afks) alb aks from rfl, A05]
  simp only [decide_eq_true_eq]
  rfl
 rw [hR]
 refine C6 Tryz.func230 rfl Tryz.ntmps230 Tryz.results230 rfl ?_
 intro w0
 refine A4 ?_
 refine sE (C9 rfl rfl) rfl (fun b3 => ?_)
 refine sE (A9 rfl) rfl (fun b4 => ?_)
 refine D4 ?_
 refine sP (B5 (j := 0) rfl rfl rfl (by simp)) rfl rfl ?_
 refine sL (A3 rfl rfl (hat0 _) rfl) rfl rfl ?_
 refine sE (A9 rfl) rfl (fun b15 => ?_)
 refine B4 ?_
 refine C5 ?_
 refine B4 ?_
 refine sP (I9 rfl rfl (by omega)) rfl rfl ?_
 refine V1 ?_
 refine sB (qE rfl rfl) rfl rfl (fun h44 => ?_) (fun h44 => ?_)
 refine B7 ?_
 focus (by_cases hpx : (ak = 14 ∧ afk = atk ∧ (atk = 4 ∨ atk = 5)); rw [decide_eq_true hpx] at hP; rotate_left; rw [decide_eq_false hpx] at hP; rotate_left; all_goals (refine H6 rfl hP rfl rfl ?_))
 refine B0 ?_
 refine sB (qE rfl rfl) rfl rfl (fun h58 => ?_) (fun h58 => ?_)
 refine E1 ?_
 refine sP (P4 rfl rfl (by omega) (by omega)) rfl rfl ?_
 refine B4 ?_
 (have hq : (ak = 14 ∧ afk = atk ∧ (atk = 4 ∨ atk = 5)) ∧ atk = 5 := ⟨hpx, by omega⟩; have hq1 := h14 hq.1.1; have hq2 := htyA.1 (by omega); have hq3 := hfrA.1 (by omega); rw [show (k - 11 : Int) = ((i : Nat) : Int) from (by omega)]; obtain ⟨bq, oq, e3, rfl, hl3, hat3, hre3, hgb3⟩ := hasl.kidTm hakl (i := 0) (by omega) (by omega); have ho3 := hre3.one; obtain ⟨b5, o5, q5, d5, rfl, hat5, hre5, hgb5⟩ := htS.kidTy htL (i := i) (by omega) (by omega); obtain ⟨b7, o7, q7, d7, rfl, hat7, hre7, hgb7⟩ := hfS.kidTy hfL (i := i) (by omega) (by omega); obtain ⟨x1, x2, x3, x4, x5, x6, x7, x8, x9, rfl⟩ := nine hl3; refine D7 D8 rfl ?_)
 refine I6 (i := 0) (l' := [tt,ff,ff,ff,ff,ff,ff,ff,ff,ff,ff,ff,ff,ff,ff,ff,ff,ff,ff,ff,ff,ff,ff,ff,ff,ff]) rfl D2 (B8 rfl) rfl (by kernel_rfl) rfl rfl ?_
 refine aL 1 rfl (C7 rfl rfl) rfl ?_
 refine aP 2 rfl (B8 rfl) rfl ?_
 refine aL 3 rfl (C7 rfl rfl) rfl ?_
 refine aP 4 rfl (B5 (j := 0) rfl rfl rfl (by omega)) rfl ?_
 refine aL 5 rfl (A3 rfl rfl (hat3 _) rfl) rfl ?_
 refine aP 8 rfl (B8 rfl) rfl ?_
 refine aP 9 rfl (qF rfl) rfl ?_
 refine aL 10 rfl (C7 rfl rfl) rfl ?_
 refine aP 11 rfl (qM rfl) rfl ?_
 refine aP 12 rfl (B5 (j := i) rfl rfl rfl (by omega)) rfl ?_
 refine aL 13 rfl (A3 rfl rfl (hat7 _) rfl) rfl ?_
 refine aP 14 rfl (B8 rfl) rfl ?_
 refine aP 15 rfl (qF rfl) rfl ?_
 refine aL 16 rfl (C7 rfl rfl) rfl ?_
 refine aP 17 rfl (qM rfl) rfl ?_
 refine aP 18 rfl (B5 (j := i) rfl rfl rfl (by omega)) rfl ?_
 refine aL 19 rfl (A3 rfl rfl (hat5 _) rfl) rfl ?_
 refine aP 20 rfl (B8 rfl) rfl ?_
 refine aL 21 rfl (C7 rfl rfl) rfl ?_
 refine A2 6 ?_
 (refine E2 rfl (D0 rfl rfl rfl (by omega) (by unfold maxLen; omega) rfl) rfl rfl ?_; rintro _ ⟨b95, rfl⟩)
 refine A2 7 ?_
 (refine A1t (cs := [x1, x2, x3, x4, x5, x6, x7, x8, x9]) (by repeat (first | exact Pk.here | apply Pk.there)) (fun G2 hle2 hsl2 hno2 => ?_); have hrN := A04 (k := k) (ks := [aks[0]]) (es := [[x1, x2, x3, x4, x5, x6, x7, x8, x9]]) hk rfl (E3.of hsl2 rfl (by simp) (by intro x hx; obtain rfl := List.mem_singleton.1 hx; exact ho3)) (by simp only [E5]; exact ⟨_, _, rfl, hre3.mono hle2, rfl⟩); replace hre5 := hre5.mono hle2; replace hre7 := hre7.mono hle2; refine N6 rfl rfl (A3T _ _ _ _ _) rfl rfl rfl ?_)
 refine A2 22 ?_
 (refine H3 rfl rfl (A1J _ afks[i] atks[i] alb G2 _ _ _ ⟨by omega, by omega⟩ hrN hre7 hre5) rfl rfl rfl (fun u G3 hle3 hh => ?_); obtain ⟨wc, rfl, hrw⟩ := hh; have hwl := hrw.len; have hwo := hrw.one)
 refine A2 23 ?_
 (refine oS rfl rfl rfl rfl hwl hwo rfl rfl ?_ (hu := by exact E0 hwl.symm))
 refine aP 24 rfl (qA rfl) rfl ?_
 refine aP 25 rfl (qA rfl) rfl ?_
 refine B0 ?_
 refine D3 (rC rfl (A3 rfl rfl (B6 (by repeat first | exact mH | apply mT)) hwl)) (rT rfl) (rT rfl) ?_
 exact B0Y
 refine E1 ?_
 refine sP (A0A rfl rfl (by omega)) rfl rfl ?_
 refine I7 ?_
 refine D3 (rC rfl (A5 rfl rfl)) (rT rfl) (rT rfl) ?_
 exact A3U
 refine I7 ?_
 refine sP (A0A rfl rfl (by omega)) rfl rfl ?_
 refine I7 ?_
 refine D3 (rC rfl (A5 rfl rfl)) (rT rfl) (rT rfl) ?_
 exact A3U
 refine B9 ?_
 refine sP (Y3 rfl rfl (by omega)) rfl rfl ?_
 refine B9 ?_
 focus (by_cases hpx : (ak = 14 ∧ afk = atk ∧ (atk = 4 ∨ atk = 5)); rw [decide_eq_true hpx] at hP; rotate_left; rw [decide_eq_false hpx] at hP; rotate_left; all_goals (refine H6 rfl hP rfl rfl ?_))
 refine B0 ?_
 refine sB (qE rfl rfl) rfl rfl (fun h184 => ?_) (fun h184 => ?_)
 refine E1 ?_
 refine sP (P4 rfl rfl (by omega) (by omega)) rfl rfl ?_
 refine B4 ?_
 (have hq : (ak = 14 ∧ afk = atk ∧ (atk = 4 ∨ atk = 5)) ∧ atk = 5 := ⟨hpx, by omega⟩; have hq1 := h14 hq.1.1; have hq2 := htyA.1 (by omega); have hq3 := hfrA.1 (by omega); rw [show (k - 11 : Int) = ((i : Nat) : Int) from (by omega)]; obtain ⟨bq, oq, e3, rfl, hl3, hat3, hre3, hgb3⟩ := hasl.kidTm hakl (i := 0) (by omega) (by omega); have ho3 := hre3.one; obtain ⟨b5, o5, q5, d5, rfl, hat5, hre5, hgb5⟩ := htS.kidTy htL (i := i) (by omega) (by omega); obtain ⟨b7, o7, q7, d7, rfl, hat7, hre7, hgb7⟩ := hfS.kidTy hfL (i := i) (by omega) (by omega); obtain ⟨x1, x2, x3, x4, x5, x6, x7, x8, x9, rfl⟩ := nine hl3; refine D7 D8 rfl ?_)
 refine I6 (i := 0) (l' := [tt,ff,ff,ff,ff,ff,ff,ff,ff,ff,ff,ff,ff,ff,ff,ff,ff,ff,ff,ff,ff,ff,ff,ff,ff,ff]) rfl D2 (B8 rfl) rfl (by kernel_rfl) rfl rfl ?_
 refine aL 1 rfl (C7 rfl rfl) rfl ?_
 refine aP 2 rfl (B8 rfl) rfl ?_
 refine aL 3 rfl (C7 rfl rfl) rfl ?_
 refine aP 4 rfl (B5 (j := 0) rfl rfl rfl (by omega)) rfl ?_
 refine aL 5 rfl (A3 rfl rfl (hat3 _) rfl) rfl ?_
 refine aP 8 rfl (B8 rfl) rfl ?_
 refine aP 9 rfl (qF rfl) rfl ?_
 refine aL 10 rfl (C7 rfl rfl) rfl ?_
 refine aP 11 rfl (qM rfl) rfl ?_
 refine aP 12 rfl (B5 (j := i) rfl rfl rfl (by omega)) rfl ?_
 refine aL 13 rfl (A3 rfl rfl (hat7 _) rfl) rfl ?_
 refine aP 14 rfl (B8 rfl) rfl ?_
 refine aP 15 rfl (qF rfl) rfl ?_
 refine aL 16 rfl (C7 rfl rfl) rfl ?_
 refine aP 17 rfl (qM rfl) rfl ?_
 refine aP 18 rfl (B5 (j := i) rfl rfl rfl (by omega)) rfl ?_
 refine aL 19 rfl (A3 rfl rfl (hat5 _) rfl) rfl ?_
 refine aP 20 rfl (B8 rfl) rfl ?_
 refine aL 21 rfl (C7 rfl rfl) rfl ?_
 refine A2 6 ?_
 (refine E2 rfl (D0 rfl rfl rfl (by omega) (by unfold maxLen; omega) rfl) rfl rfl ?_; rintro _ ⟨b221, rfl⟩)
 refine A2 7 ?_
 (refine A1t (cs := [x1, x2, x3, x4, x5, x6, x7, x8, x9]) (by repeat (first | exact Pk.here | apply Pk.there)) (fun G2 hle2 hsl2 hno2 => ?_); have hrN := A04 (k := k) (ks := [aks[0]]) (es := [[x1, x2, x3, x4, x5, x6, x7, x8, x9]]) hk rfl (E3.of hsl2 rfl (by simp) (by intro x hx; obtain rfl := List.mem_singleton.1 hx; exact ho3)) (by simp only [E5]; exact ⟨_, _, rfl, hre3.mono hle2, rfl⟩); replace hre5 := hre5.mono hle2; replace hre7 := hre7.mono hle2; refine N6 rfl rfl (A3T _ _ _ _ _) rfl rfl rfl ?_)
 refine A2 22 ?_
 (refine H3 rfl rfl (A1J _ afks[i] atks[i] alb G2 _ _ _ ⟨by omega, by omega⟩ hrN hre7 hre5) rfl rfl rfl (fun u G3 hle3 hh => ?_); obtain ⟨wc, rfl, hrw⟩ := hh; have hwl := hrw.len; have hwo := hrw.one)
 refine A2 23 ?_
 (refine oS rfl rfl rfl rfl hwl hwo rfl rfl ?_ (hu := by exact E0 hwl.symm))
 refine aP 24 rfl (qA rfl) rfl ?_
 refine aP 25 rfl (qA rfl) rfl ?_
 refine B0 ?_
 refine D3 (rC rfl (A3 rfl rfl (B6 (by repeat first | exact mH | apply mT)) hwl)) (rT rfl) (rT rfl) ?_
 exact B0Y
 refine E1 ?_
 refine sP (A0A rfl rfl (by omega)) rfl rfl ?_
 refine I7 ?_
 refine D3 (rC rfl (A5 rfl rfl)) (rT rfl) (rT rfl) ?_
 exact A3U
 refine I7 ?_
 refine sP (A0A rfl rfl (by omega)) rfl rfl ?_
 refine I7 ?_
 refine D3 (rC rfl (A5 rfl rfl)) (rT rfl) (rT rfl) ?_
 exact A3U
theorem A4P {t : Tm} (h : inj t = true) : t.k = 14 := by
 unfold inj at h
 simp only [Bool.and_eq_true, decide_eq_true_eq] at h
 exact h.1.1
theorem B6o {t u : Ty} (h : R9 t = true) (h' : R9 u = true) : N3 t u = decide (t.k = u.k) := by
 have e1 := B0W h
 have e2 := B0W h'
 by_cases hk : t.k = u.k
 ·rw [decide_eq_true hk, Z2, e1, e2]
  unfold T8; rw [hk]
 ·rw [decide_eq_false hk]
  cases hs : N3 t u with
  | false => rfl
  | true => exact absurd (congrArg Ty.k ((Z2 _ _).1 hs)) hk
theorem A7n {t : Tm} (h : inj t = true) : R9 t.fr = true := by
 unfold inj at h
 rw [Bool.and_eq_true] at h
 exact h.2
theorem B6p (a : Tm) (nm : ByteArray) (num : Int) (ty fr : Ty) (lb : Int) (G : IM) (cells : List Value) (hca : cv a) (hlb9 : -99 ≤ lb ∧ lb ≤ 99) (hr : B1 G (.mk 14 nm num ty fr lb [a]) cells) : Fn Tryz.prog 230 [.agg ⟨cells⟩] [] G (W8 (Z5 14 ty fr lb [a])) := by
 have hji := @A7n a
 have hjk := @A4P a
 obtain ⟨ak, anm, anum, ⟨atk, atks⟩, ⟨afk, afks⟩, alb, aks⟩ := a
 obtain ⟨hN, hkk⟩ := hca.node
 have hops := hN.ops
 have hbl := hN.lbB
 have htyA := hN.tyA
 have hfrA := hN.frA
 rw [F9] at htyA hfrA
 have h14 : ak = 14 → aks.length = 1 := fun h => by rw [h] at hops; have : D9 14 = 1 := rfl; omega
 obtain ⟨tk, tks⟩ := ty
 obtain ⟨fk, fks⟩ := fr
 obtain ⟨pt, ct, pf, cf, p, c, es, rfl, hk, hnum, hlb, hty, hfr, hsl, hkl⟩ := hr.open9
 obtain ⟨bx, ox, e0, rfl, hl0, hat0, hre0, hgb0⟩ := hsl.kidTm hkl (i := 0) (by simp) (by simp)
 replace hre0 : B1 G (Tm.mk ak anm anum (.mk atk atks) (.mk afk afks) alb aks) e0 := hre0
 have hP : Fn Tryz.prog 106 [.agg ⟨e0⟩] [] G (J0 (.bool (decide (ak = 14 ∧ afk = atk ∧ (atk = 4 ∨ atk = 5)))) G) := A3c _ G _ hre0
 have hI := A4N _ G _ hre0
 have ho0 := hre0.one
 obtain ⟨apt, act, apf, acf, ap, ac, aes, rfl, hak, hanum, halb, haty, hafr, hasl, hakl⟩ := hre0.open9
 have hfk64 : H0 fk := by obtain ⟨_, _, _, _, h, _⟩ := hfr.open; exact h
 have htk64 : H0 tk := by obtain ⟨_, _, _, _, h, _⟩ := hty.open; exact h
 obtain ⟨tes, htS, htL⟩ := haty.kids
 obtain ⟨fes, hfS, hfL⟩ := hafr.kids
 simp only [Ty.ks] at htS htL hfS hfL
 obtain ⟨J, hJ⟩ : ∃ J, inj (Tm.mk ak anm anum (.mk atk atks) (.mk afk afks) alb aks) = J := ⟨_, rfl⟩
 obtain ⟨D, hD⟩ : ∃ D, R9 (.mk tk tks) = D := ⟨_, rfl⟩
 have hGr := B0O _ G _ hty
 rw [hD] at hGr
 rw [hJ] at hI hji hjk
 have hR : Z5 14 (.mk tk tks) (.mk fk fks) lb [Tm.mk ak anm anum (.mk atk atks) (.mk afk afks) alb aks] = (if fk = tk then (Tm.mk ak anm anum (.mk atk atks) (.mk afk afks) alb aks, 1, 0)
   else if tk = 1 then (K5 (K5 (Tm.mk ak anm anum (.mk atk atks) (.mk afk afks) alb aks) (.mk fk fks) (mGk fk) lb) (mGk fk) (.mk tk tks) lb, 1, 0)
   else if D = false then (K5 (K5 (Tm.mk ak anm anum (.mk atk atks) (.mk afk afks) alb aks) (.mk fk fks) (mGk tk) lb) (mGk tk) (.mk tk tks) lb, 1, 0)
   else if J = false then Q7
   else if afk = tk then (kd aks 0, 1, 0)
   else (J7, 2, lb)) := by
  rw [← hJ, ← hD]; rfl
 rw [hR]
 have hSm : J = true → D = true → N3 (.mk afk afks) (.mk tk tks) = decide (afk = tk) := fun h1 h2 => B6o (hji h1) (hD.trans h2)
 have hTS := A69 (.mk afk afks) (.mk tk tks) G _ _ hafr hty
 refine C6 Tryz.func230 rfl Tryz.ntmps230 Tryz.results230 rfl ?_
 intro w0
 refine A4 ?_
 refine sE (C9 rfl rfl) rfl (fun b3 => ?_)
 refine sE (A9 rfl) rfl (fun b4 => ?_)
 refine D4 ?_
 refine sP (B5 (j := 0) rfl rfl rfl (by simp)) rfl rfl ?_
 refine sL (A3 rfl rfl (hat0 _) rfl) rfl rfl ?_
 refine sE (A9 rfl) rfl (fun b15 => ?_)
 refine B4 ?_
 refine C5 ?_
 refine B4 ?_
 refine sP (I9 rfl rfl (by omega)) rfl rfl ?_
 refine V1 ?_
 refine sP (I9 rfl rfl (by omega)) rfl rfl ?_
 refine B9 ?_
 refine sP (I9 rfl rfl (by omega)) rfl rfl ?_
 refine A0C ?_
 refine sP (A1V rfl rfl (by omega)) rfl rfl ?_
 refine N4 ?_
 refine sB (qE rfl rfl) rfl rfl (fun h81 => ?_) (fun h81 => ?_)
 refine I7 ?_
 refine D3 (rC rfl (A5 rfl rfl)) (rT rfl) (rT rfl) ?_
 (exact W8.mk (by rw [if_pos (by omega)]) hre0)
 refine E1 ?_
 refine sB (qE rfl rfl) rfl rfl (fun h108 => ?_) (fun h108 => ?_)
 refine E1 ?_
 (refine E6 rfl (A5L fk G hfk64) rfl rfl (fun u G1 hle1 hh => ?_); obtain ⟨gc, rfl, hrg⟩ := hh; obtain ⟨pg, cg, eg, rfl, _⟩ := hrg.open; have hgk : tk = 1 := (by omega); replace hre0 := hre0.mono hle1; replace hfr := hfr.mono hle1; replace hty := hty.mono hle1)
 refine sE (A9 rfl) rfl (fun b119 => ?_)
 refine B4 ?_
 refine D7 D8 rfl ?_
 refine L3 (i := 0) (l' := [tt,ff,ff,ff,ff,ff,ff,ff,ff,ff,ff,ff,ff,ff,ff,ff]) rfl D2 (A3 rfl rfl (B6 (by repeat first | exact mH | apply mT)) rfl) rfl (by kernel_rfl) rfl rfl ?_
 refine aL 3 rfl (A3 rfl rfl (B6 (by repeat first | exact mH | apply mT)) rfl) rfl ?_
 refine aL 7 rfl (A3 rfl rfl (B6 (by repeat first | exact mH | apply mT)) rfl) rfl ?_
 refine aP 1 rfl (B8 rfl) rfl ?_
 refine aL 2 rfl (A5 rfl rfl) rfl ?_
 refine aP 4 rfl (B8 rfl) rfl ?_
 refine aL 5 rfl (C7 rfl rfl) rfl ?_
 refine aP 8 rfl (B8 rfl) rfl ?_
 refine aL 9 rfl (A5 rfl rfl) rfl ?_
 refine aP 10 rfl (B8 rfl) rfl ?_
 refine aL 11 rfl (C7 rfl rfl) rfl ?_
 refine A2 6 ?_
 (refine H3 rfl rfl (A1J _ (.mk fk fks) _ lb G1 _ _ _ ⟨by omega, by omega⟩ hre0 hfr hrg) rfl rfl rfl (fun u G3 hle3 hh => ?_); obtain ⟨wc, rfl, hrw⟩ := hh; have hwl := hrw.len; have hwo := hrw.one; replace hrg := hrg.mono hle3; replace hty := hty.mono hle3)
 refine A2 12 ?_
 (refine H3 rfl rfl (A1J _ _ (.mk tk tks) lb G3 _ _ _ ⟨by omega, by omega⟩ hrw hrg hty) rfl rfl rfl (fun u G4 hle4 hh => ?_); obtain ⟨xc, rfl, hrx⟩ := hh; have hxl := hrx.len; have hxo := hrx.one)
 refine A2 13 ?_
 (refine oS rfl rfl rfl rfl hxl hxo rfl rfl ?_ (hu := by exact E0 hxl.symm))
 refine aP 14 rfl (qA rfl) rfl ?_
 refine aP 15 rfl (qA rfl) rfl ?_
 refine B0 ?_
 refine D3 (rC rfl (A3 rfl rfl (B6 (by repeat first | exact mH | apply mT)) hxl)) (rT rfl) (rT rfl) ?_
 (exact W8.mk (by rw [if_neg (by omega), if_pos (by omega)]) hrx)
 refine D4 ?_
 focus (cases hDD : D; all_goals (rw [hDD] at hGr; refine H6 rfl hGr rfl rfl ?_))
 refine J2 ?_
 (refine E6 rfl (A5L tk G htk64) rfl rfl (fun u G1 hle1 hh => ?_); obtain ⟨gc, rfl, hrg⟩ := hh; obtain ⟨pg, cg, eg, rfl, _⟩ := hrg.open; replace hre0 := hre0.mono hle1; replace hfr := hfr.mono hle1; replace hty := hty.mono hle1)
 refine sE (A9 rfl) rfl (fun b171 => ?_)
 refine B4 ?_
 refine D7 D8 rfl ?_
 refine L3 (i := 0) (l' := [tt,ff,ff,ff,ff,ff,ff,ff,ff,ff,ff,ff,ff,ff,ff,ff]) rfl D2 (A3 rfl rfl (B6 (by repeat first | exact mH | apply mT)) rfl) rfl (by kernel_rfl) rfl rfl ?_
 refine aL 3 rfl (A3 rfl rfl (B6 (by repeat first | exact mH | apply mT)) rfl) rfl ?_
 refine aL 7 rfl (A3 rfl rfl (B6 (by repeat first | exact mH | apply mT)) rfl) rfl ?_
 refine aP 1 rfl (B8 rfl) rfl ?_
 refine aL 2 rfl (A5 rfl rfl) rfl ?_
 refine aP 4 rfl (B8 rfl) rfl ?_
 refine aL 5 rfl (C7 rfl rfl) rfl ?_
 refine aP 8 rfl (B8 rfl) rfl ?_
 refine aL 9 rfl (A5 rfl rfl) rfl ?_
 refine aP 10 rfl (B8 rfl) rfl ?_
 refine aL 11 rfl (C7 rfl rfl) rfl ?_
 refine A2 6 ?_
 (refine H3 rfl rfl (A1J _ (.mk fk fks) _ lb G1 _ _ _ ⟨by omega, by omega⟩ hre0 hfr hrg) rfl rfl rfl (fun u G3 hle3 hh => ?_); obtain ⟨wc, rfl, hrw⟩ := hh; have hwl := hrw.len; have hwo := hrw.one; replace hrg := hrg.mono hle3; replace hty := hty.mono hle3)
 refine A2 12 ?_
 (refine H3 rfl rfl (A1J _ _ (.mk tk tks) lb G3 _ _ _ ⟨by omega, by omega⟩ hrw hrg hty) rfl rfl rfl (fun u G4 hle4 hh => ?_); obtain ⟨xc, rfl, hrx⟩ := hh; have hxl := hrx.len; have hxo := hrx.one)
 refine A2 13 ?_
 (refine oS rfl rfl rfl rfl hxl hxo rfl rfl ?_ (hu := by exact E0 hxl.symm))
 refine aP 14 rfl (qA rfl) rfl ?_
 refine aP 15 rfl (qA rfl) rfl ?_
 refine B0 ?_
 refine D3 (rC rfl (A3 rfl rfl (B6 (by repeat first | exact mH | apply mT)) hxl)) (rT rfl) (rT rfl) ?_
 (exact W8.mk (by rw [if_neg (by omega), if_neg (by omega), if_pos rfl]) hrx)
 refine D4 ?_
 focus (cases hJJ : J; all_goals (rw [hJJ] at hI; refine H6 rfl hI rfl rfl ?_))
 refine K0 ?_
 refine D3 (rC rfl (A5 rfl rfl)) (rT rfl) (rT rfl) ?_
 (exact W8.mk (by rw [if_neg (by omega), if_neg (by omega), if_neg (by decide), if_pos rfl]; rfl) (Q2 _))
 refine J8 ?_
 focus (rw [hSm hJJ hDD] at hTS; by_cases hfk : afk = tk; rw [decide_eq_true hfk] at hTS; rotate_left; rw [decide_eq_false hfk] at hTS; rotate_left; all_goals (refine H6 rfl hTS rfl rfl ?_))
 refine D4 ?_
 (have hq1 := h14 (hjk (by assumption)); obtain ⟨bq, oq, e3, rfl, hl3, hat3, hre3, hgb3⟩ := hasl.kidTm hakl (i := 0) (by omega) (by omega); have ho3 := hre3.one; refine sP (B5 (j := 0) rfl rfl rfl (by omega)) rfl rfl ?_)
 refine sL (A3 rfl rfl (hat3 _) hl3) rfl rfl ?_
 refine sS rfl rfl rfl hl3 ho3 rfl ?_ (hu := by exact E0 hl3.symm)
 refine B7 ?_
 refine D3 (rC rfl (A3 rfl rfl (B6 (by repeat first | exact mH | apply mT)) hl3)) (rT rfl) (rT rfl) ?_
 (exact W8.mk (by rw [if_neg (by omega), if_neg (by omega), if_neg (by decide), if_neg (by decide), if_pos hfk, A2y (by omega)]) hre3)
 refine D4 ?_
 refine D7 D8 rfl ?_
 refine I6 (i := 0) (l' := [tt,ff,ff,ff,ff,ff]) rfl D2 (Y0 rfl rfl) rfl (by kernel_rfl) rfl rfl ?_
 refine aP 1 rfl (B8 rfl) rfl ?_
 refine aL 2 rfl (C7 rfl rfl) rfl ?_
 refine A2 3 ?_
 refine H8 rfl ?_
 refine aP 4 rfl (qA rfl) rfl ?_
 refine aP 5 rfl (qA rfl) rfl ?_
 refine B9 ?_
 refine D3 (rC rfl (A5 rfl rfl)) (rT rfl) (rT rfl) ?_
 (exact W8.mk (by rw [if_neg (by omega), if_neg (by omega), if_neg (by decide), if_neg (by decide), if_neg hfk]) (Q2 _))
theorem B00 (k : Int) (a b : Tm) (nm : ByteArray) (num : Int) (ty fr : Ty) (lb : Int) (G : IM) (cells : List Value) (hk1 : k = 7 ∨ k = 8) (hca : cv a) (hr : B1 G (.mk k nm num ty fr lb [a, b]) cells) : Fn Tryz.prog 230 [.agg ⟨cells⟩] [] G (W8 (Z5 k ty fr lb [a, b])) := by
 have hR : Z5 k ty fr lb [a, b] = Q7 := by unfold Z5; rw [if_neg (by omega), if_neg (by omega), if_neg (by omega)]
 rw [hR]
 obtain ⟨ak, anm, anum, ⟨atk, atks⟩, ⟨afk, afks⟩, alb, aks⟩ := a
 obtain ⟨hN, hkk⟩ := hca.node
 have hops := hN.ops
 have hbl := hN.lbB
 have htyA := hN.tyA
 have hfrA := hN.frA
 rw [F9] at htyA hfrA
 have h14 : ak = 14 → aks.length = 1 := fun h => by rw [h] at hops; have : D9 14 = 1 := rfl; omega
 obtain ⟨tk, tks⟩ := ty
 obtain ⟨fk, fks⟩ := fr
 obtain ⟨pt, ct, pf, cf, p, c, es, rfl, hk, hnum, hlb, hty, hfr, hsl, hkl⟩ := hr.open9
 obtain ⟨bx, ox, e0, rfl, hl0, hat0, hre0, hgb0⟩ := hsl.kidTm hkl (i := 0) (by simp) (by simp)
 replace hre0 : B1 G (Tm.mk ak anm anum (.mk atk atks) (.mk afk afks) alb aks) e0 := hre0
 have hP : Fn Tryz.prog 106 [.agg ⟨e0⟩] [] G (J0 (.bool (decide (ak = 14 ∧ afk = atk ∧ (atk = 4 ∨ atk = 5)))) G) := A3c _ G _ hre0
 have hI := A4N _ G _ hre0
 have ho0 := hre0.one
 obtain ⟨apt, act, apf, acf, ap, ac, aes, rfl, hak, hanum, halb, haty, hafr, hasl, hakl⟩ := hre0.open9
 have hfk64 : H0 fk := by obtain ⟨_, _, _, _, h, _⟩ := hfr.open; exact h
 have htk64 : H0 tk := by obtain ⟨_, _, _, _, h, _⟩ := hty.open; exact h
 obtain ⟨tes, htS, htL⟩ := haty.kids
 obtain ⟨fes, hfS, hfL⟩ := hafr.kids
 simp only [Ty.ks] at htS htL hfS hfL
 refine C6 Tryz.func230 rfl Tryz.ntmps230 Tryz.results230 rfl ?_
 intro w0
 refine A4 ?_
 refine sE (C9 rfl rfl) rfl (fun b3 => ?_)
 refine sE (A9 rfl) rfl (fun b4 => ?_)
 refine D4 ?_
 refine sP (B5 (j := 0) rfl rfl rfl (by simp)) rfl rfl ?_
 refine sL (A3 rfl rfl (hat0 _) rfl) rfl rfl ?_
 refine sE (A9 rfl) rfl (fun b15 => ?_)
 refine B4 ?_
 refine C5 ?_
 refine B4 ?_
 refine sP (I9 rfl rfl (by omega)) rfl rfl ?_
 refine V1 ?_
 refine sP (I9 rfl rfl (by omega)) rfl rfl ?_
 refine B9 ?_
 refine sP (I9 rfl rfl (by omega)) rfl rfl ?_
 refine A0C ?_
 refine sP (A0A rfl rfl (by omega)) rfl rfl ?_
 refine I7 ?_
 refine D3 (rC rfl (A5 rfl rfl)) (rT rfl) (rT rfl) ?_
 (exact W8.mk rfl (Q2 _))
theorem B6q (a b c0 : Tm) (nm : ByteArray) (num : Int) (ty fr : Ty) (lb : Int) (G : IM) (cells : List Value) (hca : cv a) (hr : B1 G (.mk 9 nm num ty fr lb [a, b, c0]) cells) : Fn Tryz.prog 230 [.agg ⟨cells⟩] [] G (W8 (Z5 9 ty fr lb [a, b, c0])) := by
 have hR : Z5 9 ty fr lb [a, b, c0] = Q7 := by unfold Z5; rw [if_neg (by omega), if_neg (by omega), if_neg (by omega)]
 rw [hR]
 obtain ⟨ak, anm, anum, ⟨atk, atks⟩, ⟨afk, afks⟩, alb, aks⟩ := a
 obtain ⟨hN, hkk⟩ := hca.node
 have hops := hN.ops
 have hbl := hN.lbB
 have htyA := hN.tyA
 have hfrA := hN.frA
 rw [F9] at htyA hfrA
 have h14 : ak = 14 → aks.length = 1 := fun h => by rw [h] at hops; have : D9 14 = 1 := rfl; omega
 obtain ⟨tk, tks⟩ := ty
 obtain ⟨fk, fks⟩ := fr
 obtain ⟨pt, ct, pf, cf, p, c, es, rfl, hk, hnum, hlb, hty, hfr, hsl, hkl⟩ := hr.open9
 obtain ⟨bx, ox, e0, rfl, hl0, hat0, hre0, hgb0⟩ := hsl.kidTm hkl (i := 0) (by simp) (by simp)
 replace hre0 : B1 G (Tm.mk ak anm anum (.mk atk atks) (.mk afk afks) alb aks) e0 := hre0
 have hP : Fn Tryz.prog 106 [.agg ⟨e0⟩] [] G (J0 (.bool (decide (ak = 14 ∧ afk = atk ∧ (atk = 4 ∨ atk = 5)))) G) := A3c _ G _ hre0
 have hI := A4N _ G _ hre0
 have ho0 := hre0.one
 obtain ⟨apt, act, apf, acf, ap, ac, aes, rfl, hak, hanum, halb, haty, hafr, hasl, hakl⟩ := hre0.open9
 have hfk64 : H0 fk := by obtain ⟨_, _, _, _, h, _⟩ := hfr.open; exact h
 have htk64 : H0 tk := by obtain ⟨_, _, _, _, h, _⟩ := hty.open; exact h
 obtain ⟨tes, htS, htL⟩ := haty.kids
 obtain ⟨fes, hfS, hfL⟩ := hafr.kids
 simp only [Ty.ks] at htS htL hfS hfL
 refine C6 Tryz.func230 rfl Tryz.ntmps230 Tryz.results230 rfl ?_
 intro w0
 refine A4 ?_
 refine sE (C9 rfl rfl) rfl (fun b3 => ?_)
 refine sE (A9 rfl) rfl (fun b4 => ?_)
 refine D4 ?_
 refine sP (B5 (j := 0) rfl rfl rfl (by simp)) rfl rfl ?_
 refine sL (A3 rfl rfl (hat0 _) rfl) rfl rfl ?_
 refine sE (A9 rfl) rfl (fun b15 => ?_)
 refine B4 ?_
 refine C5 ?_
 refine B4 ?_
 refine sP (I9 rfl rfl (by omega)) rfl rfl ?_
 refine V1 ?_
 refine sP (I9 rfl rfl (by omega)) rfl rfl ?_
 refine B9 ?_
 refine sP (I9 rfl rfl (by omega)) rfl rfl ?_
 refine A0C ?_
 refine sP (A0A rfl rfl (by omega)) rfl rfl ?_
 refine I7 ?_
 refine D3 (rC rfl (A5 rfl rfl)) (rT rfl) (rT rfl) ?_
 (exact W8.mk rfl (Q2 _))
theorem B6r (nm : ByteArray) (num : Int) (ty fr : Ty) (lb : Int) (G : IM) (cells : List Value) (hr : B1 G (.mk 1 nm num ty fr lb []) cells) : Fn Tryz.prog 229 [.agg ⟨cells⟩] [] G (W2 (Y7 1 [])) := by
 rw [show Y7 1 [] = none from rfl]
 obtain ⟨tk, tks⟩ := ty
 obtain ⟨fk, fks⟩ := fr
 obtain ⟨pt, ct, pf, cf, p, c, es, rfl, hk, hnum, hlb, hty, hfr, hsl, hkl⟩ := hr.open9
 have hL : ([] : List Tm).length = 0 := rfl
 refine C6 Tryz.func229 rfl Tryz.ntmps229 Tryz.results229 rfl ?_
 intro w0
 refine A4 ?_
 refine sE (C9 rfl rfl) rfl (fun b3 => ?_)
 refine sE (A9 rfl) rfl (fun b4 => ?_)
 refine A8 ?_
 refine sE (A9 rfl) rfl (fun b11 => ?_)
 refine E1 ?_
 refine sP (A8q rfl rfl (by omega)) rfl rfl ?_
 refine N4 ?_
 refine C5 ?_
 refine A4 ?_
 refine sP (I9 rfl rfl (by omega)) rfl rfl ?_
 refine B7 ?_
 refine sP (I9 rfl rfl (by omega)) rfl rfl ?_
 refine B0 ?_
 refine sP (I9 rfl rfl (by omega)) rfl rfl ?_
 refine A8 ?_
 refine sP (I9 rfl rfl (by omega)) rfl rfl ?_
 refine B7 ?_
 refine sP (I9 rfl rfl (by omega)) rfl rfl ?_
 refine B0 ?_
 refine sP (I9 rfl rfl (by omega)) rfl rfl ?_
 refine I7 ?_
 refine H5 (rC rfl (A5 rfl rfl)) (rT rfl) ?_
 (exact W2.no rfl (Q2 _))
theorem B6s (a : Tm) (nm : ByteArray) (num : Int) (ty fr : Ty) (lb : Int) (G : IM) (cells : List Value) (hr : B1 G (.mk 14 nm num ty fr lb [a]) cells) : Fn Tryz.prog 229 [.agg ⟨cells⟩] [] G (W2 (Y7 14 [a])) := by
 rw [show Y7 14 [a] = none from rfl]
 obtain ⟨tk, tks⟩ := ty
 obtain ⟨fk, fks⟩ := fr
 obtain ⟨pt, ct, pf, cf, p, c, es, rfl, hk, hnum, hlb, hty, hfr, hsl, hkl⟩ := hr.open9
 obtain ⟨bx, ox, e0, rfl, hl0, hat0, hre0, hgb0⟩ := hsl.kidTm hkl (i := 0) (by simp) (by simp)
 have ho0 : e0.all (·.oneCell') = true := (show B1 G a e0 from hre0).one
 refine C6 Tryz.func229 rfl Tryz.ntmps229 Tryz.results229 rfl ?_
 intro w0
 refine A4 ?_
 refine sE (C9 rfl rfl) rfl (fun b3 => ?_)
 refine sE (A9 rfl) rfl (fun b4 => ?_)
 refine A8 ?_
 refine sE (A9 rfl) rfl (fun b11 => ?_)
 refine E1 ?_
 refine sB (A0g rfl rfl) rfl rfl (fun h21 => ?_) (fun h21 => ?_)
 refine A8 ?_
 refine sP (B5 (j := 0) rfl rfl rfl (by simp)) rfl rfl ?_
 refine sL (A3 rfl rfl (hat0 _) hl0) rfl rfl ?_
 refine sS rfl rfl rfl hl0 ho0 rfl ?_ (hu := by exact E0 hl0.symm)
 refine E1 ?_
 refine C5 ?_
 refine A4 ?_
 refine sP (I9 rfl rfl (by omega)) rfl rfl ?_
 refine B7 ?_
 refine sP (I9 rfl rfl (by omega)) rfl rfl ?_
 refine B0 ?_
 refine sP (I9 rfl rfl (by omega)) rfl rfl ?_
 refine A8 ?_
 refine sP (I9 rfl rfl (by omega)) rfl rfl ?_
 refine B7 ?_
 refine sP (I9 rfl rfl (by omega)) rfl rfl ?_
 refine B0 ?_
 refine sP (I9 rfl rfl (by omega)) rfl rfl ?_
 refine I7 ?_
 refine H5 (rC rfl (A5 rfl rfl)) (rT rfl) ?_
 (exact W2.no rfl (Q2 _))
 refine N4 ?_
 refine C5 ?_
 refine A4 ?_
 refine sP (I9 rfl rfl (by omega)) rfl rfl ?_
 refine B7 ?_
 refine sP (I9 rfl rfl (by omega)) rfl rfl ?_
 refine B0 ?_
 refine sP (I9 rfl rfl (by omega)) rfl rfl ?_
 refine A8 ?_
 refine sP (I9 rfl rfl (by omega)) rfl rfl ?_
 refine B7 ?_
 refine sP (I9 rfl rfl (by omega)) rfl rfl ?_
 refine B0 ?_
 refine sP (I9 rfl rfl (by omega)) rfl rfl ?_
 refine I7 ?_
 refine H5 (rC rfl (A5 rfl rfl)) (rT rfl) ?_
 (exact W2.no rfl (Q2 _))
theorem Z6 {ks : List Tm} (h : ks.length = 1) : ∃ a, ks = [a] := by
 match ks, h with
 | [a], _ => exact ⟨a, rfl⟩
theorem ks2 {ks : List Tm} (h : ks.length = 2) : ∃ a b, ks = [a, b] := by
 match ks, h with
 | [a, b], _ => exact ⟨a, b, rfl⟩
theorem ks3 {ks : List Tm} (h : ks.length = 3) : ∃ a b c, ks = [a, b, c] := by
 match ks, h with
 | [a, b, c], _ => exact ⟨a, b, c, rfl⟩
theorem B6t {k : Int} {nm : ByteArray} {num : Int} {ty fr : Ty} {lb : Int} {ks : List Tm} {G : IM} {cells : List Value} (hc : cv (.mk k nm num ty fr lb ks)) (hk : k = 1 ∨ k = 6 ∨ k = 7 ∨ k = 8 ∨ k = 9 ∨ k = 11 ∨ k = 12 ∨ k = 14) (hr : B1 G (.mk k nm num ty fr lb ks) cells) :
  Fn Tryz.prog 229 [.agg ⟨cells⟩] [] G (W2 (Y7 k ks)) := by
 obtain ⟨hN, hkk⟩ := hc.node
 have hops := hN.ops
 rcases hk with rfl | rfl | rfl | rfl | rfl | rfl | rfl | rfl
 ·obtain rfl : ks = [] := List.length_eq_zero_iff.1 (by have : D9 1 = 0 := rfl; omega)
  exact B6r _ _ _ _ _ _ _ hr
 ·obtain ⟨a, b, rfl⟩ := ks2 (ks := ks) (by have : D9 6 = 2 := rfl; omega)
  exact B6k a b _ _ _ _ _ _ _ (hkk a (by simp)) hr
 ·obtain ⟨a, b, rfl⟩ := ks2 (ks := ks) (by have : D9 7 = 2 := rfl; omega)
  exact B0U 7 a b _ _ _ _ _ _ _ (.inl rfl) (hkk a (by simp)) (hkk b (by simp)) hr
 ·obtain ⟨a, b, rfl⟩ := ks2 (ks := ks) (by have : D9 8 = 2 := rfl; omega)
  exact B0U 8 a b _ _ _ _ _ _ _ (.inr rfl) (hkk a (by simp)) (hkk b (by simp)) hr
 ·obtain ⟨a, b, c, rfl⟩ := ks3 (ks := ks) (by have : D9 9 = 3 := rfl; omega)
  exact B6l a b c _ _ _ _ _ _ _ hr
 ·obtain ⟨a, rfl⟩ := Z6 (ks := ks) (by have : D9 11 = 1 := rfl; omega)
  exact B0V 11 a _ _ _ _ _ _ _ (.inl rfl) (hkk a (by simp)) hr
 ·obtain ⟨a, rfl⟩ := Z6 (ks := ks) (by have : D9 12 = 1 := rfl; omega)
  exact B0V 12 a _ _ _ _ _ _ _ (.inr rfl) (hkk a (by simp)) hr
 ·obtain ⟨a, rfl⟩ := Z6 (ks := ks) (by have : D9 14 = 1 := rfl; omega)
  exact B6s a _ _ _ _ _ _ _ hr
theorem B6u {k : Int} {nm : ByteArray} {num : Int} {ty fr : Ty} {lb : Int} {ks : List Tm} {G : IM} {cells : List Value} (hc : cv (.mk k nm num ty fr lb ks)) (hk : k = 6 ∨ k = 7 ∨ k = 8 ∨ k = 9 ∨ k = 11 ∨ k = 12 ∨ k = 14) (hr : B1 G (.mk k nm num ty fr lb ks) cells) :
  Fn Tryz.prog 230 [.agg ⟨cells⟩] [] G (W8 (Z5 k ty fr lb ks)) := by
 obtain ⟨hN, hkk⟩ := hc.node
 have hops := hN.ops
 rcases hk with rfl | rfl | rfl | rfl | rfl | rfl | rfl
 ·obtain ⟨a, b, rfl⟩ := ks2 (ks := ks) (by have : D9 6 = 2 := rfl; omega)
  exact B6n a b _ _ _ _ _ _ _ (hkk a (by simp)) hr
 ·obtain ⟨a, b, rfl⟩ := ks2 (ks := ks) (by have : D9 7 = 2 := rfl; omega)
  exact B00 7 a b _ _ _ _ _ _ _ (.inl rfl) (hkk a (by simp)) hr
 ·obtain ⟨a, b, rfl⟩ := ks2 (ks := ks) (by have : D9 8 = 2 := rfl; omega)
  exact B00 8 a b _ _ _ _ _ _ _ (.inr rfl) (hkk a (by simp)) hr
 ·obtain ⟨a, b, c, rfl⟩ := ks3 (ks := ks) (by have : D9 9 = 3 := rfl; omega)
  exact B6q a b c _ _ _ _ _ _ _ (hkk a (by simp)) hr
 ·obtain ⟨a, rfl⟩ := Z6 (ks := ks) (by have : D9 11 = 1 := rfl; omega)
  exact B0Z 11 a _ _ _ _ _ _ _ (.inl rfl) (hkk a (by simp)) hr
 ·obtain ⟨a, rfl⟩ := Z6 (ks := ks) (by have : D9 12 = 1 := rfl; omega)
  exact B0Z 12 a _ _ _ _ _ _ _ (.inr rfl) (hkk a (by simp)) hr
 ·obtain ⟨a, rfl⟩ := Z6 (ks := ks) (by have : D9 14 = 1 := rfl; omega)
  exact B6p a _ _ _ _ _ _ _ (hkk a (by simp)) hN.lbB hr
theorem A5P (n : Nat) (t : Tm) (ts : List Tm) : T9 (n + 1) (t :: ts) = if E4 t = true then (match T9 n ts with | some (us, c, l) => some (t :: us, c, l) | none => none) else some ((F0 t).1 :: ts, (F0 t).2.1, (F0 t).2.2) := by
 rw [T9]; rfl
theorem A5Q : ∀ (n : Nat) (ks : List Tm), (∀ i, i < n → (h : i < ks.length) → E4 ks[i] = true) → T9 n ks = none
 | n, [], _ => by cases n <;> rfl
 | 0, t :: ts, _ => rfl
 | n + 1, t :: ts, h => by
  rw [A5P, if_pos (show E4 t = true from h 0 (by omega) (by simp)), A5Q n ts (fun i hi hl => h (i + 1) (by omega) (by simpa using hl))]
theorem A7o : ∀ (n : Nat) (ks : List Tm) (i : Nat) (hi : i < ks.length), i < n → (∀ j, j < i → (h : j < ks.length) → E4 ks[j] = true) → E4 ks[i] = false → T9 n ks = some (ks.set i (F0 ks[i]).1, (F0 ks[i]).2.1, (F0 ks[i]).2.2)
 | n, [], i, hi, _, _, _ => by simp at hi
 | 0, t :: ts, i, _, hn, _, _ => by omega
 | n + 1, t :: ts, 0, _, _, _, hv => by
  rw [A5P, if_neg (by rw [show E4 t = false from hv]; decide)]; rfl
 | n + 1, t :: ts, i + 1, hi, hn, hj, hv => by
  rw [A5P, if_pos (show E4 t = true from hj 0 (by omega) (by simp)), A7o n ts i (by simpa using hi) (by omega) (fun j hji hl => hj (j + 1) (by omega) (by simpa using hl)) hv]
  rfl
theorem B6v {k : Int} {ty fr : Ty} {lb : Int} {ks : List Tm} (h : (M7 k ty fr lb ks).2.1 = 1) : (M7 k ty fr lb ks).2.2 = 0 := by
 revert h
 unfold M7 Q7
 repeat' split
 all_goals first | (intro _; rfl) | (intro h; exfalso; revert h; simp)
theorem B6w {k : Int} {nm : ByteArray} {num : Int} {ty fr : Ty} {lb : Int} {ks : List Tm} (h : (F0 (.mk k nm num ty fr lb ks)).2.1 = 1) : (F0 (.mk k nm num ty fr lb ks)).2.2 = 0 := by
 rw [F0] at h ⊢
 cases hL : T9 (if k = 9 then 1 else ks.length) ks with
 | none => rw [hL] at h; exact B6v h
 | some p =>
  obtain ⟨us, c, l⟩ := p
  rw [hL] at h
  simp only at h ⊢
  by_cases hc : c = 1
  ·rw [if_pos hc]
  ·rw [if_neg hc] at h; exact absurd h hc
theorem B6x {t : Tm} (h : (F0 t).2.1 = 1) : (F0 t).2.2 = 0 := by cases t; exact B6w h
theorem B01 {k : Int} {nm : ByteArray} {num : Int} {ty fr : Ty} {lb : Int} {ks : List Tm} {i : Nat} (hi : i < ks.length) (hn : i < (if k = 9 then 1 else ks.length)) (hj : ∀ j, j < i → (h : j < ks.length) → E4 ks[j] = true) (hv : E4 ks[i] = false) :
  (F0 (.mk k nm num ty fr lb ks)).2.1 = (F0 ks[i]).2.1 ∧ (F0 (.mk k nm num ty fr lb ks)).2.2 = (F0 ks[i]).2.2 ∧ ((F0 ks[i]).2.1 = 1 → (F0 (.mk k nm num ty fr lb ks)).1 = .mk k nm num ty fr lb (ks.set i (F0 ks[i]).1)) := by
 rw [F0, A7o _ ks i hi hn hj hv]
 simp only
 by_cases hc : (F0 ks[i]).2.1 = 1
 ·rw [if_pos hc]
  exact ⟨hc.symm, (B6x hc).symm, fun _ => rfl⟩
 ·rw [if_neg hc]
  exact ⟨rfl, rfl, fun h => absurd h hc⟩
theorem B6y {k : Int} {nm : ByteArray} {num : Int} {ty fr : Ty} {lb : Int} {ks : List Tm} (h : ∀ i, i < (if k = 9 then 1 else ks.length) → (hl : i < ks.length) → E4 ks[i] = true) : F0 (.mk k nm num ty fr lb ks) = match Y7 k ks with | some u => (u, 1, 0) | none => Z5 k ty fr lb ks := by
 rw [F0, A5Q _ _ h]
 exact B6m k ty fr lb ks
theorem A4Q {k : Int} (h : 0 ≤ D9 k) : 1 ≤ k ∧ k ≤ 14 := by
 by_cases hk : 1 ≤ k ∧ k ≤ 14
 ·exact hk
 ·rw [A5c hk] at h; omega
theorem A7p {k : Int} {nm : ByteArray} {num : Int} {ty fr : Ty} {lb : Int} {ks : List Tm} (hc : cv (.mk k nm num ty fr lb ks)) (hv : E4 (.mk k nm num ty fr lb ks) = false) (h : ∀ i, i < (if k = 9 then 1 else ks.length) → (hl : i < ks.length) → E4 ks[i] = true) : k = 1 ∨ k = 6 ∨ k = 7 ∨ k = 8 ∨ k = 9 ∨ k = 11 ∨ k = 12 ∨ k = 14 := by
 obtain ⟨hN, _⟩ := hc.node
 have hr := A4Q (by rw [hN.ops]; omega : 0 ≤ D9 k)
 have h13 := hN.ne
 have h25 : ¬(k = 2 ∨ k = 3 ∨ k = 4 ∨ k = 5) := by
  intro hk
  rw [E4, if_neg (by omega)] at hv
  rw [decide_eq_true hk] at hv
  cases hv
 have h10 : k ≠ 10 := by
  rintro rfl
  rw [A3R (.inl rfl), List.all_eq_false] at hv
  obtain ⟨t, ht, hn⟩ := hv
  obtain ⟨i, hi, rfl⟩ := List.mem_iff_getElem.1 ht
  exact hn (h i (by rw [if_neg (by decide)]; exact hi) hi)
 omega
theorem B6z (t : Tm) (G : IM) (cells : List Value) (hr : B1 G t cells) : Fn Tryz.prog 227 [.agg ⟨cells⟩] [] G (J0 (.int .i64 ((if t.k = 9 then 1 else t.ks.length : Nat) : Int)) G) := by
 obtain ⟨k, nm, num, ⟨tk, tks⟩, ⟨fk, fks⟩, lb, ks⟩ := t
 obtain ⟨pt, ct, pf, cf, p, c, es, rfl, hk, hnum, hlb, hty, hfr, hsl, hkl⟩ := hr.open9
 rw [show (Tm.mk k nm num (.mk tk tks) (.mk fk fks) lb ks).k = k from rfl, show (Tm.mk k nm num (.mk tk tks) (.mk fk fks) lb ks).ks = ks from rfl]
 refine C6 Tryz.func227 rfl Tryz.ntmps227 Tryz.results227 rfl ?_
 intro w0
 refine A4 ?_
 refine sE (C9 rfl rfl) rfl (fun b3 => ?_)
 refine D4 ?_
 refine sB (qE rfl rfl) rfl rfl (fun h12 => ?_) (fun h12 => ?_)
 refine J8 ?_
 (exact ⟨rfl, by rw [if_pos (by omega)]; rfl, rfl⟩)
 refine I7 ?_
 (exact ⟨rfl, by rw [if_neg (by omega)], rfl⟩)
theorem B6A {k : Int} (h8 : k = 1 ∨ k = 6 ∨ k = 7 ∨ k = 8 ∨ k = 9 ∨ k = 11 ∨ k = 12 ∨ k = 14) (h : D9 k = 0) : k = 1 := by
 rcases h8 with rfl | rfl | rfl | rfl | rfl | rfl | rfl | rfl
 ·rfl
 all_goals exact absurd h (by decide)
theorem B02 {G : IM} {r r' : Stp} {u : Tm} {cells : List Value} {c l : Int} (h1 : r.2.1 = c) (h2 : r.2.2 = l) (hr : B1 G u cells) (h3 : c = 1 → u = r.1) : W8 r G (.tuple ⟨[.agg ⟨cells⟩, .int .i64 c, .int .i64 l]⟩) [] := by
 subst h1 h2; exact ⟨rfl, u, cells, rfl, hr, h3⟩
theorem A7q {Q : Prop} (h : Q := by (exact ⟨Nat.zero_le _, fun j hj => absurd hj (Nat.not_lt_zero j)⟩)) : Q := h
theorem A7r {Q : Prop} (h : Q := by (exact ⟨by omega, fun j hji hl2 => (by by_cases he : j = i; (subst he; assumption); exact hj j (by omega) hl2)⟩)) : Q := h
theorem B6B : ∀ (t : Tm) (G : IM) (cells : List Value), cv t → E4 t = false → B1 G t cells → Fn Tryz.prog 195 [.agg ⟨cells⟩] [] G (W8 (F0 t)) := by
 refine Tm.ind fun k nm num ty fr lb ks ih G cells hc hv hr => ?_
 have hr0 := hr
 have hN := hc.node.1
 have hkk := hc.node.2
 have hsm := A2p _ hc
 obtain ⟨_, _, _, _, hksm⟩ := A0v.1 hsm
 have hops := hN.ops
 have hle3 := A1B k
 have hkd := @A7p k nm num ty fr lb ks hc hv
 have hrd := @B6y k nm num ty fr lb ks
 have hkidS := fun (i : Nat) => @B01 k nm num ty fr lb ks i
 have hRA := fun h => @B6t k nm num ty fr lb ks G cells hc h hr
 have hCA := fun h (G1 : IM) (hle : C4 G G1) => @B6u k nm num ty fr lb ks G1 cells hc h (hr.mono hle)
 have hCt := B6z _ G _ hr
 rw [show (Tm.mk k nm num ty fr lb ks).k = k from rfl, show (Tm.mk k nm num ty fr lb ks).ks = ks from rfl] at hCt
 obtain ⟨C, hC⟩ : ∃ C : Nat, (if k = 9 then 1 else ks.length : Nat) = C := ⟨_, rfl⟩
 rw [hC] at hCt hkd hrd
 have hkidS' := fun (i : Nat) (hi : i < ks.length) (hn : i < C) => hkidS i hi (by rw [hC]; exact hn)
 have hC9 : C ≤ ks.length := by rw [← hC]; split; (have : D9 k = 3 := by (rename_i h9; rw [h9]; rfl)); omega; omega
 have hrul := hkd
 obtain ⟨tk, tks⟩ := ty
 obtain ⟨fk, fks⟩ := fr
 obtain ⟨pt, ct, pf, cf, p, c, es, rfl, hk, hnum, hlb, hty, hfr, hsl, hkl⟩ := hr.open9
 have hn := hsl.le
 have hnc := hsl.sl.2.1
 refine C6 Tryz.func195 rfl Tryz.ntmps195 Tryz.results195 rfl ?_
 intro w0
 refine A4 ?_
 refine sE (C9 rfl rfl) rfl (fun b3 => ?_)
 refine sE (A9 rfl) rfl (fun b4 => ?_)
 refine A8 ?_
 refine D7 D8 rfl ?_
 refine I6 (i := 0) (l' := [tt,ff,ff,ff,ff,ff,ff]) rfl D2 (B8 rfl) rfl (by kernel_rfl) rfl rfl ?_
 refine aL 1 rfl (C7 rfl rfl) rfl ?_
 refine aL 2 rfl (A5 rfl rfl) rfl ?_
 refine aP 6 rfl (qM rfl) rfl ?_
 refine A2 3 ?_
 refine N6 rfl rfl (hCt) rfl rfl rfl ?_
 refine aP 4 rfl (A8Z (l := C) rfl rfl rfl (by omega)) rfl ?_
 refine aP 5 rfl (pLn rfl rfl) rfl ?_
 refine A4 ?_
 refine C5 ?_
 (refine K2 (fun (i : Nat) => ⟨[(19, .int .i64 (i : Int)), (18, .int .i64 (C : Int)), (17, .slice p C c), (1, .pointer (some ⟨b3, 0, none⟩)), (2, .pointer (some ⟨b4, 0, none⟩))], [.blk b4 [.int .i64 0, .string ⟨⟨[]⟩⟩, .int .i64 0, .int .i64 0, .slice none 0 0, .int .i64 0, .slice none 0 0, .int .i64 0, .slice none 0 0], .blk b3 [.int .i64 k, .string nm, .int .i64 num, .int .i64 tk, .slice pt tks.length ct, .int .i64 fk, .slice pf fks.length cf, .int .i64 lb, .slice p ks.length c]], G⟩) (fun i => i ≤ C ∧ ∀ j, j < i → (h : j < ks.length) → E4 ks[j] = true) (fun i => C - i) 0 ?_ ?_ ?_)
 exact D6
 exact A7q
 (rintro i ⟨hi, hj⟩)
 refine A4 ?_
 refine sB (J4 rfl rfl) rfl rfl (fun h29 => ?_) (fun h29 => ?_)
 refine B7 ?_
 refine C5 ?_
 refine B9 ?_
 (have hiC : i < C := (by omega); obtain ⟨bx, ox, e, rfl, hl, hat, hre, hgb⟩ := hsl.kidTm hkl (i := i) (by omega) (by omega); have heo := hre.one; have hVi := B0Q ks[i] G e hre; refine sP (B5 (j := i) rfl rfl rfl hiC) rfl rfl ?_)
 refine sL (A3 rfl rfl (hat _) hl) rfl rfl ?_
 refine sE (A9 rfl) rfl (fun b43 => ?_)
 refine F8 ?_
 refine sS rfl rfl rfl hl heo rfl ?_ (hu := by exact E0 hl.symm)
 refine B0 ?_
 refine sL (A3 rfl rfl (B6 (by repeat first | exact mH | apply mT)) hl) rfl rfl ?_
 refine H1 rfl (hVi) rfl rfl (fun h52 => ?_) (fun h52 => ?_)
 refine D4 ?_
 refine sP (H9 rfl rfl (by omega) (by omega)) rfl rfl ?_
 refine A4 ?_
 refine I5 (i + 1) ?_ ?_ ?_
 exact D6
 exact A7r
 (show C - (i + 1) < C - i; omega)
 refine B7 ?_
 refine sL (A3 rfl rfl (B6 (by repeat first | exact mH | apply mT)) hl) rfl rfl ?_
 (have hvF : E4 ks[i] = false := (by assumption); obtain ⟨hs1, hs2, hs3⟩ := hkidS' i (by omega) hiC (fun j hji hl2 => hj j hji hl2) hvF; refine E6 rfl (ih ks[i] (List.getElem_mem (by omega)) G e (hkk _ (List.getElem_mem (by omega))) hvF hre) rfl rfl (fun v G1 hle1 hh => ?_); obtain ⟨u, uc, rfl, hru, hu1⟩ := hh; have hul := hru.len; have huo := hru.one; have hClo := B5q G1 _ ks.length c es (hsl.mono hle1) (by omega) (by omega))
 refine B4 ?_
 refine sE (A9 rfl) rfl (fun b81 => ?_)
 refine sS rfl rfl rfl hul huo rfl ?_ (hu := by exact E0 hul.symm)
 refine B7 ?_
 refine sE (A9 rfl) rfl (fun b90 => ?_)
 refine B7 ?_
 (refine A0Y rfl hClo rfl rfl (fun v98 G98 outs98 hle98 h98 => ?_); obtain ⟨hG, p1, c1, rfl, rfl⟩ := h98; replace hG := hG.symm; subst hG; refine A4y (cs := es.flatten) (by repeat (first | exact Pk.here | apply Pk.there)) (by omega) (fun bc Cc hpe hnc1 hcm => ?_); subst hpe)
 replace hru := hru.mono hle98
 refine E1 ?_
 refine sL (A3 rfl rfl (B6 (by repeat first | exact mH | apply mT)) hul) rfl rfl ?_
 refine sP (B5 (j := i) rfl rfl rfl (by omega)) rfl rfl ?_
 refine X5 rfl rfl rfl hul huo rfl (by repeat first | exact Sw.here | apply Sw.there) (by exact A4z (by rw [hkl.len]; omega) (fun e he => (hsl.all e he)) hul) ?_
 refine N4 ?_
 (refine A2R (bs := [(bc, (es.set i uc).flatten ++ Cc)]) (Pk.perm (by repeat (first | exact Pk.here | apply Pk.there))) (fun hn2 hd2 hle2 => ?_))
 refine A8 ?_
 refine D3 (rC rfl (A5 rfl rfl)) (rT rfl) (rT rfl) ?_
 (have hks2 := E5.set (j := i) ((hkl.mono hle1).mono hle2) (hru.mono hle2); refine B02 (r' := Q7) hs1 hs2 (B1.put (us := ks.set i u) (es := es.set i uc) hk hnum hlb ((hty.mono hle1).mono hle2) ((hfr.mono hle1).mono hle2) (by rw [List.length_set]) (E3.of (Sl.of_blk (A := []) (by rw [A00 hks2.all, hks2.len, List.length_set]) (by omega) hcm (Wi.in hn2 List.mem_cons_self)) (by rw [hks2.len, List.length_set]) hks2.all (fun e he => by obtain ⟨q, hq⟩ := List.getElem?_of_mem he; exact (hks2.inv hq J7).2.one)) hks2) (fun h1 => by rw [hs3 h1, hu1 h1]))
 refine K4 ?_
 focus (have hall : ∀ i, i < C → (hl : i < ks.length) → E4 ks[i] = true := (fun j hjc hl2 => hj j (by omega) hl2); have hk8 := hkd hall; have hrd' := hrd hall; refine E6 rfl (hRA hk8) rfl rfl (fun v G1 hle1 hh => ?_); obtain ⟨u, uc, cc, rfl, hru, hy, hno⟩ := hh; have hul := hru.len; have huo := hru.one; rcases hm : Y7 k ks with _ | x; rotate_left; obtain ⟨rfl, rfl⟩ := hy _ hm; rotate_left; obtain rfl := hno hm; rw [hm] at hrd')
 refine B9 ?_
 refine sE (A9 rfl) rfl (fun b149 => ?_)
 refine sS rfl rfl rfl hul huo rfl ?_ (hu := by exact E0 hul.symm)
 refine A8 ?_
 refine sP (I9 rfl rfl (by omega)) rfl rfl ?_
 refine J8 ?_
 refine sB (qE rfl rfl) rfl rfl (fun h169 => ?_) (fun h169 => ?_)
 refine K4 ?_
 refine D3 (rC rfl (A5 rfl rfl)) (rT rfl) (rT rfl) ?_
 (obtain rfl : k = 1 := B6A hk8 (by omega); rw [hrd']; exact W8.mk rfl (Q2 _))
 refine D4 ?_
 (have hk7 : k = 6 ∨ k = 7 ∨ k = 8 ∨ k = 9 ∨ k = 11 ∨ k = 12 ∨ k = 14 := (by rcases hk8 with h1 | hh; (rw [h1] at hops; have : D9 1 = 0 := rfl; omega); exact hh); refine E6 rfl (hCA hk7 _ hle1) rfl rfl (fun v G2 hle2 hh => ?_); obtain ⟨w, wc, rfl, hrw, hw1⟩ := hh; have hwl := hrw.len; have hwo := hrw.one)
 refine B9 ?_
 refine sS rfl rfl rfl hwl hwo rfl ?_ (hu := by exact E0 hwl.symm)
 refine B0 ?_
 refine D3 (rC rfl (A3 rfl rfl (B6 (by repeat first | exact mH | apply mT)) hwl)) (rT rfl) (rT rfl) ?_
 (rw [hrd']; exact B02 (r' := Q7) rfl rfl hrw hw1)
 refine B9 ?_
 refine sE (A9 rfl) rfl (fun b208 => ?_)
 refine sS rfl rfl rfl hul huo rfl ?_ (hu := by exact E0 hul.symm)
 refine A8 ?_
 refine sP (Y3 rfl rfl (by omega)) rfl rfl ?_
 refine B0 ?_
 refine sL (A3 rfl rfl (B6 (by repeat first | exact mH | apply mT)) hul) rfl rfl ?_
 refine F8 ?_
 refine sS rfl rfl rfl hul huo rfl ?_ (hu := by exact E0 hul.symm)
 refine A8 ?_
 refine D3 (rC rfl (A3 rfl rfl (B6 (by repeat first | exact mH | apply mT)) hul)) (rT rfl) (rT rfl) ?_
 (rw [hrd', hm]; exact W8.mk rfl hru)
def M2 (r : Stp) : IM → Value → List A6 → Prop := K8 fun G' v => ∃ cells, v = .tuple ⟨[.agg ⟨cells⟩, .int .i64 r.2.1, .int .i64 r.2.2]⟩ ∧ B1 G' r.1 cells
theorem M2.mk {G : IM} {r : Stp} {u : Tm} {c l : Int} {cells : List Value} (h : r = (u, c, l)) (hr : B1 G u cells) : M2 r G (.tuple ⟨[.agg ⟨cells⟩, .int .i64 c, .int .i64 l]⟩) [] := by
 subst h; exact ⟨rfl, cells, rfl, hr⟩
theorem A5R {t : Tm} (h : M5 t = true) : t.small := A2p t (A03 h).1
theorem A5S {e : Tm} (h : M5 e = false) : H4 e = (J7, 3, 0) := by unfold H4; rw [if_pos h]; rfl
theorem A4R {e : Tm} (h : M5 e = true) (h2 : E4 e = true) : H4 e = (e, 0, 0) := by unfold H4; rw [if_neg (by rw [h]; decide), if_pos h2]
theorem A4S {e : Tm} (h : M5 e = true) (h2 : E4 e = false) (h3 : (F0 e).2.1 ≠ 1) : H4 e = (J7, (F0 e).2.1, (F0 e).2.2) := by
 unfold H4; rw [if_neg (by rw [h]; decide), if_neg (by rw [h2]; decide), if_pos h3]
theorem A4T {e : Tm} (h : M5 e = true) (h2 : E4 e = false) (h3 : (F0 e).2.1 = 1) (h4 : M5 (F0 e).1 = false) : H4 e = (J7, 4, 0) := by
 unfold H4; rw [if_neg (by rw [h]; decide), if_neg (by rw [h2]; decide), if_neg (by omega), if_pos h4]
theorem A4U {e : Tm} (h : M5 e = true) (h2 : E4 e = false) (h3 : (F0 e).2.1 = 1) (h4 : M5 (F0 e).1 = true) : H4 e = ((F0 e).1, 1, 0) := by
 unfold H4; rw [if_neg (by rw [h]; decide), if_neg (by rw [h2]; decide), if_neg (by omega), if_neg (by rw [h4]; decide)]
theorem B6C {e : Tm} (h : (H4 e).2.1 = 1) : M5 (H4 e).1 = true := by
 cases h1 : M5 e with
 | false => rw [A5S h1] at h; simp at h
 | true =>
  cases h2 : E4 e with
  | true => rw [A4R h1 h2] at h; simp at h
  | false =>
   by_cases h3 : (F0 e).2.1 = 1
   ·cases h4 : M5 (F0 e).1 with
    | false => rw [A4T h1 h2 h3 h4] at h; simp at h
    | true => rw [A4U h1 h2 h3 h4]; exact h4
   ·rw [A4S h1 h2 h3] at h; exact absurd h h3
theorem B6D (t : Tm) (G : IM) (cells : List Value) (hr : B1 G t cells) : Fn Tryz.prog 146 [.agg ⟨cells⟩] [] G (M2 (H4 t)) := by
 have hRl := hr.len
 have hRo := hr.one
 have hV := A5k t G cells hr
 have hI := B0Q t G cells hr
 refine C6 Tryz.func146 rfl Tryz.ntmps146 Tryz.results146 rfl ?_
 intro w0
 refine A4 ?_
 refine sE (C9 rfl rfl) rfl (fun b3 => ?_)
 refine sE (A9 rfl) rfl (fun b4 => ?_)
 refine B0 ?_
 refine C5 ?_
 refine A4 ?_
 refine sL (A3 rfl rfl (B6 (by repeat first | exact mH | apply mT)) hRl) rfl rfl ?_
 refine H1 rfl (hV) rfl rfl (fun h14 => ?_) (fun h14 => ?_)
 refine B7 ?_
 refine sL (A3 rfl rfl (B6 (by repeat first | exact mH | apply mT)) hRl) rfl rfl ?_
 refine H1 rfl (hI) rfl rfl (fun h23 => ?_) (fun h23 => ?_)
 refine A8 ?_
 refine sL (A3 rfl rfl (B6 (by repeat first | exact mH | apply mT)) hRl) rfl rfl ?_
 (refine E6 rfl (A5q t G cells (A5R (by assumption)) hr) rfl rfl (fun v G1 hle1 hh => ?_); obtain ⟨cs1, F1, rfl, hs1, hn1⟩ := hh; have hul := hs1.R.len; have huo := hs1.R.one)
 refine sS rfl rfl rfl hul huo rfl ?_ (hu := by exact E0 hul.symm)
 refine B7 ?_
 refine D3 (rC rfl (A3 rfl rfl (B6 (by repeat first | exact mH | apply mT)) hul)) (rT rfl) (rT rfl) ?_
 (exact M2.mk (A4R (by assumption) (by assumption)) (hs1.R.mono (C2.le _ _)))
 refine E1 ?_
 refine sL (A3 rfl rfl (B6 (by repeat first | exact mH | apply mT)) hRl) rfl rfl ?_
 (refine E6 rfl (B6B t G cells (A03 (by assumption)).1 (by assumption) hr) rfl rfl (fun v G1 hle1 hh => ?_); obtain ⟨u, uc, rfl, hru, hu1⟩ := hh; have hul := hru.len; have huo := hru.one; have hVu := A5k u G1 uc hru)
 refine B4 ?_
 refine sE (A9 rfl) rfl (fun b57 => ?_)
 refine sS rfl rfl rfl hul huo rfl ?_ (hu := by exact E0 hul.symm)
 refine B0 ?_
 refine C5 ?_
 refine B9 ?_
 refine sB (N2 rfl rfl) rfl rfl (fun h68 => ?_) (fun h68 => ?_)
 refine S4 ?_
 refine D3 (rC rfl (A5 rfl rfl)) (rT rfl) (rT rfl) ?_
 (exact M2.mk (A4S (by assumption) (by assumption) (by omega)) (Q2 _))
 refine A8 ?_
 refine sL (A3 rfl rfl (B6 (by repeat first | exact mH | apply mT)) hul) rfl rfl ?_
 refine H1 rfl (hVu) rfl rfl (fun h95 => ?_) (fun h95 => ?_)
 refine J2 ?_
 refine sL (A3 rfl rfl (B6 (by repeat first | exact mH | apply mT)) hul) rfl rfl ?_
 (refine E6 rfl (A5q u G1 uc (A5R (by assumption)) hru) rfl rfl (fun v G2 hle2 hh => ?_); obtain ⟨cs2, F2, rfl, hs2, hn2⟩ := hh; have hwl := hs2.R.len; have hwo := hs2.R.one)
 refine sS rfl rfl rfl hwl hwo rfl ?_ (hu := by exact E0 hwl.symm)
 refine B0 ?_
 refine D3 (rC rfl (A3 rfl rfl (B6 (by repeat first | exact mH | apply mT)) hwl)) (rT rfl) (rT rfl) ?_
 (have h9 := hu1 (by omega); subst h9; exact M2.mk (A4U (by assumption) (by assumption) (by omega) (by assumption)) (hs2.R.mono (C2.le _ _)))
 refine K0 ?_
 refine D3 (rC rfl (A5 rfl rfl)) (rT rfl) (rT rfl) ?_
 (have h9 := hu1 (by omega); subst h9; exact M2.mk (A4T (by assumption) (by assumption) (by omega) (by assumption)) (Q2 _))
 refine K0 ?_
 refine D3 (rC rfl (A5 rfl rfl)) (rT rfl) (rT rfl) ?_
 (exact M2.mk (A5S (by assumption)) (Q2 _))
def P7 : Nat → Tm → Tm × Int × Int × Nat
 | 0, e => ((H4 e).1, (H4 e).2.1, (H4 e).2.2, 0)
 | n + 1, e => if (H4 e).2.1 = 1 then ((P7 n (H4 e).1).1, (P7 n (H4 e).1).2.1, (P7 n (H4 e).1).2.2.1, (P7 n (H4 e).1).2.2.2 + 1)
  else ((H4 e).1, (H4 e).2.1, (H4 e).2.2, 0)
theorem A7s (e : Tm) : P7 0 e = ((H4 e).1, (H4 e).2.1, (H4 e).2.2, 0) := by rw [P7]
theorem A7t {n : Nat} {e : Tm} (h : (H4 e).2.1 = 1) : P7 (n + 1) e = ((P7 n (H4 e).1).1, (P7 n (H4 e).1).2.1, (P7 n (H4 e).1).2.2.1, (P7 n (H4 e).1).2.2.2 + 1) := by rw [P7, if_pos h]
theorem A7u {n : Nat} {e : Tm} (h : (H4 e).2.1 ≠ 1) : P7 (n + 1) e = ((H4 e).1, (H4 e).2.1, (H4 e).2.2, 0) := by rw [P7, if_neg h]
theorem B03 : ∀ (n : Nat) (e : Tm), (P7 n e).2.1 = 1 → K3 n e = (J7, 5, 0, (P7 n e).2.2.2)
 | 0, e, h => by rw [A7s] at h ⊢; rw [K3, if_pos h]
 | n + 1, e, h => by
  by_cases h1 : (H4 e).2.1 = 1
  ·rw [A7t h1] at h ⊢
   rw [K3, if_pos h1, B03 n _ h]
  ·rw [A7u h1] at h; exact absurd h h1
theorem B04 : ∀ (n : Nat) (e : Tm), (P7 n e).2.1 ≠ 1 → K3 n e = P7 n e
 | 0, e, h => by rw [A7s] at h ⊢; rw [K3, if_neg h]
 | n + 1, e, h => by
  by_cases h1 : (H4 e).2.1 = 1
  ·rw [A7t h1] at h ⊢
   rw [K3, if_pos h1, B04 n _ h]
  ·rw [A7u h1]; rw [K3, if_neg h1]
def EvP (r : Tm × Int × Int × Nat) : IM → Value → List A6 → Prop := K8 fun G' v => ∃ cells, v = .tuple ⟨[.agg ⟨cells⟩, .int .i64 r.2.1, .int .i64 r.2.2.1, .int .i64 (r.2.2.2 : Int)]⟩ ∧ B1 G' r.1 cells
def A0n (i : Nat) (r : Tm × Int × Int × Nat) : Tm × Int × Int × Nat := (r.1, r.2.1, r.2.2.1, r.2.2.2 + i)
theorem B6E {m i : Nat} {e : Tm} (h : (H4 e).2.1 ≠ 1 ∨ m = 0) : A0n i (P7 m e) = ((H4 e).1, (H4 e).2.1, (H4 e).2.2, i) := by
 cases m with
 | zero => simp [A0n, P7]
 | succ m =>
  rcases h with h | h
  ·simp only [A0n, P7]; rw [if_neg h]; simp
  ·cases h
theorem B6F {m i : Nat} {e : Tm} (h : (H4 e).2.1 = 1) (hm : 0 < m) : A0n i (P7 m e) = A0n (i + 1) (P7 (m - 1) (H4 e).1) := by
 obtain ⟨k, rfl⟩ : ∃ k, m = k + 1 := ⟨m - 1, by omega⟩
 simp only [A0n, P7]; rw [if_pos h]; simp only [Nat.add_sub_cancel, Nat.add_assoc, Nat.add_comm 1 i]
section fin
variable {P : Program} {Γ : M0} {env : M6} {hp : List A6} {G : IM}
theorem B6G {post : IM → Value → List A6 → Prop} {σ : Sy} (hk : post σ.G (.tuple ⟨[]⟩) []) : A0N P Γ [] post .normal σ := ⟨[], .nil, [], σ.hp, by simp, hk⟩
theorem A5T {r r2 r3 r4 : ResultVar} {post : IM → Value → List A6 → Prop} {v v2 v3 v4 : Value} (h : A0a P Γ ⟨env, hp, G⟩ r v) (h2 : A0a P Γ ⟨env, hp, G⟩ r2 v2) (h3 : A0a P Γ ⟨env, hp, G⟩ r3 v3) (h4 : A0a P Γ ⟨env, hp, G⟩ r4 v4) (hk : post G (.tuple ⟨[v, v2, v3, v4]⟩) []) :
  A0N P Γ [r, r2, r3, r4] post .ret ⟨env, hp, G⟩ := A47 (.cons h (.cons h2 (.cons h3 (.cons h4 .nil)))) hk
end fin
theorem EvP.mk {G : IM} {r : Tm × Int × Int × Nat} {u : Tm} {c l : Int} {i : Nat} {cells : List Value} (h : r = (u, c, l, i)) (hr : B1 G u cells) : EvP r G (.tuple ⟨[.agg ⟨cells⟩, .int .i64 c, .int .i64 l, .int .i64 (i : Int)]⟩) [] := by
 subst h; exact ⟨rfl, cells, rfl, hr⟩
theorem A7v {Q : Prop} (h : Q := by (exact EvP.mk (by rw [← hev]; exact hend (by omega)) hrw)) : Q := h
theorem B6H (e : Tm) (n : Nat) (hn : n ≤ 300) (fid : FuncId) [C0 Tryz.prog fid] (us cs : List Value) (hq : ∀ (G : IM) (u : Tm) (cells : List Value), B1 G u cells → Fn Tryz.prog fid (us ++ [.agg ⟨cells⟩] ++ cs) [] G (J0 (.tuple ⟨[]⟩) G))
  (G : IM) (cells : List Value) (hr : B1 G e cells) : Fn Tryz.prog 104 [.agg ⟨cells⟩, .int .i64 (n : Int), .func (.func fid) ⟨us⟩ ⟨cs⟩] [] G (EvP (P7 n e)) := by
 have hRl := hr.len
 have hRo := hr.one
 have hq0 := hq G e cells hr
 refine C6 Tryz.func104 rfl Tryz.ntmps104 Tryz.results104 rfl ?_
 intro w0
 refine A4 ?_
 refine sE (C9 rfl rfl) rfl (fun b3 => ?_)
 refine sE (A9 rfl) rfl (fun b4 => ?_)
 refine D4 ?_
 refine sL (A3 rfl rfl (B6 (by repeat first | exact mH | apply mT)) hRl) rfl rfl ?_
 (refine A8w rfl rfl hq0 rfl rfl ?_)
 refine B7 ?_
 refine C5 ?_
 (refine K2 (fun (x : Nat × Tm × List Value × IM) => ⟨[(10, .int .i64 (x.1 : Int)), (1, .int .i64 (n : Int)), (2, .func (.func fid) ⟨us⟩ ⟨cs⟩), (3, .pointer (some ⟨b3, 0, none⟩)), (6, .pointer (some ⟨b4, 0, none⟩))], [.blk b3 x.2.2.1, .blk b4 [.int .i64 0, .string ⟨⟨[]⟩⟩, .int .i64 0, .int .i64 0, .slice none 0 0, .int .i64 0, .slice none 0 0, .int .i64 0, .slice none 0 0]], x.2.2.2⟩) (fun x => x.1 ≤ n ∧ C4 G x.2.2.2 ∧ B1 x.2.2.2 x.2.1 x.2.2.1 ∧ A0n x.1 (P7 (n - x.1) x.2.1) = P7 n e) (fun x => n - x.1) (0, e, cells, G) ?_ ?_ ?_)
 (simp only [I1]; exact D6)
 (exact ⟨Nat.zero_le _, C4.refl _, hr, rfl⟩)
 (rintro ⟨i, u, uc, Gi⟩ ⟨hi, hle, hru, hev⟩; simp only [] at hi hle hru hev ⊢; have hul := hru.len; have huo := hru.one)
 refine tS ?_
 refine C5 ?_
 refine A4 ?_
 refine sL (A3 rfl rfl (B6 (by repeat first | exact mH | apply mT)) hul) rfl rfl ?_
 (refine E6 rfl (B6D u Gi uc hru) rfl rfl (fun v G1 hle1 hh => ?_); obtain ⟨wc, hv, hrw⟩ := hh; have hwl := hrw.len; have hwo := hrw.one; have hend := @B6E (n - i) i u; have hgo := @B6F (n - i) i u; generalize H4 u = r at hv hrw hend hgo; obtain ⟨w, c, l⟩ := r; simp only at hv hrw hend hgo; subst hv)
 refine B4 ?_
 refine sE (A9 rfl) rfl (fun b37 => ?_)
 refine sS rfl rfl rfl hwl hwo rfl ?_ (hu := by exact E0 hwl.symm)
 refine D4 ?_
 refine sB (N2 rfl rfl) rfl rfl (fun h47 => ?_) (fun h47 => ?_)
 refine J2 ?_
 refine sL (A3 rfl rfl (B6 (by repeat first | exact mH | apply mT)) hwl) rfl rfl ?_
 refine B9 ?_
 refine sS rfl rfl rfl hwl hwo rfl ?_ (hu := by exact E0 hwl.symm)
 refine J8 ?_
 refine A5T (rC rfl (A3 rfl rfl (B6 (by repeat first | exact mH | apply mT)) hwl)) (rT rfl) (rT rfl) (rT rfl) ?_
 exact A7v
 refine B9 ?_
 refine sB (qE rfl rfl) rfl rfl (fun h79 => ?_) (fun h79 => ?_)
 refine A8 ?_
 refine sL (A3 rfl rfl (B6 (by repeat first | exact mH | apply mT)) hwl) rfl rfl ?_
 refine B9 ?_
 refine sS rfl rfl rfl hwl hwo rfl ?_ (hu := by exact E0 hwl.symm)
 refine J8 ?_
 refine A5T (rC rfl (A3 rfl rfl (B6 (by repeat first | exact mH | apply mT)) hwl)) (rT rfl) (rT rfl) (rT rfl) ?_
 exact A7v
 refine D4 ?_
 refine sL (A3 rfl rfl (B6 (by repeat first | exact mH | apply mT)) hwl) rfl rfl ?_
 refine X5 rfl rfl rfl hwl hwo rfl (by repeat first | exact Sw.here | apply Sw.there) (by exact E0 (hul.trans hwl.symm)) ?_
 refine B4 ?_
 refine sL (A3 rfl rfl (B6 (by repeat first | exact mH | apply mT)) hwl) rfl rfl ?_
 (refine A8w rfl rfl (hq G1 w wc hrw) rfl rfl ?_)
 refine B0 ?_
 refine sP (H9 rfl rfl (by omega) (by omega)) rfl rfl ?_
 refine A4 ?_
 refine I5 (i + 1, w, wc, G1) ?_ ?_ ?_
 (simp only [I1]; exact D6)
 (dsimp only; exact ⟨by omega, hle.trans hle1, hrw, by rw [← hev, hgo (by omega) (by omega), show n - (i + 1) = n - i - 1 by omega]⟩)
 (show n - (i + 1) < n - i; omega)
theorem B6I (fuel : Int) (G : IM) : Fn Tryz.prog 46 [.int .i64 fuel] [] G (J0 (.bool (R7 fuel 0 300)) G) := by
 refine C6 Tryz.func46 rfl Tryz.ntmps46 Tryz.results46 rfl ?_
 intro w0
 refine D4 ?_
 refine H6 rfl ((A1m _ _ _ _)) rfl rfl ?_
 refine B0 ?_
 (exact ⟨rfl, rfl, rfl⟩)
theorem A7w {e : Tm} {fuel : Int} (h : R7 fuel 0 300 = false) : S9 e fuel = (J7, 3, 0) := by
 unfold S9; rw [if_neg (A6p h)]; rfl
theorem B05 {e : Tm} {fuel : Int} (h : R7 fuel 0 300 = true) (h1 : (P7 fuel.toNat e).2.1 = 1) : S9 e fuel = (J7, 5, 0) := by
 unfold S9; rw [if_pos (A3w h), B03 _ _ h1]
theorem B06 {e : Tm} {fuel : Int} (h : R7 fuel 0 300 = true) (h1 : (P7 fuel.toNat e).2.1 ≠ 1) : S9 e fuel = ((P7 fuel.toNat e).1, (P7 fuel.toNat e).2.1, (P7 fuel.toNat e).2.2.1) := by
 unfold S9; rw [if_pos (A3w h), B04 _ _ h1]
theorem B6J (G : IM) (cells : List Value) (hl : cells.length = 9) (ho : cells.all (·.oneCell') = true) : Fn Tryz.prog 105 [.agg ⟨cells⟩] [] G (J0 (.tuple ⟨[]⟩) G) := by
 refine C6 Tryz.func105 rfl Tryz.ntmps105 Tryz.results105 rfl ?_
 intro w0
 refine tR ?_
 refine sE (C9 rfl rfl) rfl (fun b2 => ?_)
 refine sD ?_
 refine B6G ?_
 (exact ⟨rfl, rfl, rfl⟩)
theorem B6K (e : Tm) (fuel : Int) (G : IM) (cells : List Value) (hr : B1 G e cells) : Fn Tryz.prog 58 [.agg ⟨cells⟩, .int .i64 fuel] [] G (M2 (S9 e fuel)) := by
 have hRl := hr.len
 have hRo := hr.one
 have hno := @A7w e fuel
 have hmu := @B05 e fuel
 have hen := @B06 e fuel
 refine C6 Tryz.func58 rfl Tryz.ntmps58 Tryz.results58 rfl ?_
 intro w0
 refine A4 ?_
 refine sE (C9 rfl rfl) rfl (fun b3 => ?_)
 refine sE (A9 rfl) rfl (fun b4 => ?_)
 refine D4 ?_
 refine H1 rfl ((B6I fuel _)) rfl rfl (fun h13 => ?_) (fun h13 => ?_)
 refine D4 ?_
 refine sL (A3 rfl rfl (B6 (by repeat first | exact mH | apply mT)) hRl) rfl rfl ?_
 refine F8 ?_
 (have hf : R7 fuel 0 300 = true := (by assumption); have hf2 := A3w hf; have hE := B6H e fuel.toNat (by omega) 105 [] [] (fun G u cells hru => B6J G cells hru.len hru.one) G cells hr; rw [Int.toNat_of_nonneg hf2.1] at hE; refine E6 rfl hE rfl rfl (fun v G1 hle1 hh => ?_); obtain ⟨wc, hv, hrw⟩ := hh; have hwl := hrw.len; have hwo := hrw.one; have hmu := hmu hf; have hen := hen hf; generalize P7 fuel.toNat e = r at hv hrw hmu hen; obtain ⟨w, c, l, i⟩ := r; simp only at hv hrw hmu hen; subst hv)
 refine B0 ?_
 refine sE (A9 rfl) rfl (fun b30 => ?_)
 refine sS rfl rfl rfl hwl hwo rfl ?_ (hu := by exact E0 hwl.symm)
 refine E1 ?_
 refine sB (qE rfl rfl) rfl rfl (fun h41 => ?_) (fun h41 => ?_)
 refine K4 ?_
 refine D3 (rC rfl (A5 rfl rfl)) (rT rfl) (rT rfl) ?_
 (exact M2.mk (hmu (by omega)) (Q2 _))
 refine B7 ?_
 refine sL (A3 rfl rfl (B6 (by repeat first | exact mH | apply mT)) hwl) rfl rfl ?_
 refine A4 ?_
 refine sS rfl rfl rfl hwl hwo rfl ?_ (hu := by exact E0 hwl.symm)
 refine B0 ?_
 refine D3 (rC rfl (A3 rfl rfl (B6 (by repeat first | exact mH | apply mT)) hwl)) (rT rfl) (rT rfl) ?_
 (exact M2.mk (hen (by omega)) hrw)
 refine J5 ?_
 refine D3 (rC rfl (A5 rfl rfl)) (rT rfl) (rT rfl) ?_
 (exact M2.mk (hno (by assumption)) (Q2 _))
end Gw
end Go.Proofs.YtebfignffjhnhaaGreatDoor
