/-
  Casts put into terms of which one is more precise: the results are so, too. A function that only reads may be handed an own slice. The program's evaluator: proxies, injections, values, casts. The program's evaluator: values, casts, nodes. The program's evaluator: replacing a name, casts, nodes. The program's evaluator: casts, nodes, the rules without casts. The program's evaluator: the rules of casts. The program's evaluator: the rules of casts, selections and casts themselves. The program's evaluator: a step. The program's evaluator: step. The program's evaluator: StepCast, runs of steps, their results.
-/
import Derived.Test.YthpdjmbpbdbodaaGreatDoorKl4
import Derived.Test.YthpdjmbpbdbodaaGreatDoorKl0
import Derived.Test.YthpdjmbpbdbodaaGreatDoorKl3
import Derived.Test.YthpdjmbpbdbodaaGreatDoorKl1
set_option linter.unusedVariables false
set_option linter.unusedSimpArgs false
set_option maxHeartbeats 0
set_option maxRecDepth 100000
set_option synthInstance.maxSize 4000
set_option synthInstance.maxHeartbeats 0
namespace Go.Proofs.YthpdjmbpbdbodaaGreatDoor
open Go Go.RowKit
namespace Gw
theorem A2i : ∀ (t : Ty), F4 t = true → ∃ a : GT, t = a.ty
 | .mk k ks, h => by
  by_cases h4 : k = 4
  ·obtain ⟨x, y, hxy, hx, hy⟩ := A3v (.inl h4) h
   have : SizeOf.sizeOf x < SizeOf.sizeOf ks ∧ SizeOf.sizeOf y < SizeOf.sizeOf ks := by subst hxy; simp; omega
   obtain ⟨a, ha⟩ := A2i x hx
   obtain ⟨b, hb⟩ := A2i y hy
   exact ⟨.fn a b, by rw [h4, hxy, ha, hb]; rfl⟩
  ·by_cases h5 : k = 5
   ·obtain ⟨x, y, hxy, hx, hy⟩ := A3v (.inr h5) h
    have : SizeOf.sizeOf x < SizeOf.sizeOf ks ∧ SizeOf.sizeOf y < SizeOf.sizeOf ks := by subst hxy; simp; omega
    obtain ⟨a, ha⟩ := A2i x hx
    obtain ⟨b, hb⟩ := A2i y hy
    exact ⟨.pr a b, by rw [h5, hxy, ha, hb]; rfl⟩
   ·obtain ⟨h1, rfl⟩ := A6S h h4 h5
    rcases h1 with rfl | rfl | rfl
    ·exact ⟨.any, rfl⟩
    ·exact ⟨.int, rfl⟩
    ·exact ⟨.bool, rfl⟩
 termination_by t => SizeOf.sizeOf t
 decreasing_by all_goals (simp only [Ty.mk.sizeOf_spec]; omega)
theorem B0s : ∀ (a b : GT), V9 a.ty b.ty = true ↔ Le a b := by
 intro a
 induction a with
 | any => intro b; cases b <;> simp [GT.ty, A0A, S4] <;> first | exact .any | (intro h; cases h)
 | int => intro b; cases b <;> simp [GT.ty, A0A, S4] <;> first | exact .any | exact .int | (intro h; cases h)
 | bool => intro b; cases b <;> simp [GT.ty, A0A, S4] <;> first | exact .any | exact .bool | (intro h; cases h)
 | fn x y i j =>
  intro b
  cases b with
  | fn z w => simp only [GT.ty, A0A, S4, i, j, Bool.or_eq_true, Bool.and_eq_true, decide_eq_true_eq, Bool.and_true, true_and]; exact ⟨fun h => by rcases h with h | h; exact absurd h (by decide); exact .fn h.1 h.2, fun h => by cases h with | fn a b => exact .inr ⟨a, b⟩⟩
  | any => simp [GT.ty, A0A, S4]; exact .any
  | _ => simp [GT.ty, A0A, S4]; intro h; cases h
 | pr x y i j =>
  intro b
  cases b with
  | pr z w => simp only [GT.ty, A0A, S4, i, j, Bool.or_eq_true, Bool.and_eq_true, decide_eq_true_eq, Bool.and_true, true_and]; exact ⟨fun h => by rcases h with h | h; exact absurd h (by decide); exact .pr h.1 h.2, fun h => by cases h with | pr a b => exact .inr ⟨a, b⟩⟩
  | any => simp [GT.ty, A0A, S4]; exact .any
  | _ => simp [GT.ty, A0A, S4]; intro h; cases h
theorem A0Y : ∀ (a b : GT), K5 a.ty b.ty = true ↔ Co a b := by
 intro a
 induction a with
 | any => intro b; cases b <;> simp [GT.ty, U6, N8] <;> exact .l
 | int => intro b; cases b <;> simp [GT.ty, U6, N8] <;> first | exact .r | exact .int | (intro h; cases h)
 | bool => intro b; cases b <;> simp [GT.ty, U6, N8] <;> first | exact .r | exact .bool | (intro h; cases h)
 | fn x y i j =>
  intro b
  cases b with
  | fn z w => simp only [GT.ty, U6, N8, i, j, Bool.or_eq_true, Bool.and_eq_true, decide_eq_true_eq, Bool.and_true, true_and]; exact ⟨fun h => by rcases h with h | h; exact absurd h (by decide); exact .fn h.1 h.2, fun h => by cases h with | fn a b => exact .inr ⟨a, b⟩⟩
  | any => simp [GT.ty, U6, N8]; exact .r
  | _ => simp [GT.ty, U6, N8]; intro h; cases h
 | pr x y i j =>
  intro b
  cases b with
  | pr z w => simp only [GT.ty, U6, N8, i, j, Bool.or_eq_true, Bool.and_eq_true, decide_eq_true_eq, Bool.and_true, true_and]; exact ⟨fun h => by rcases h with h | h; exact absurd h (by decide); exact .pr h.1 h.2, fun h => by cases h with | pr a b => exact .inr ⟨a, b⟩⟩
  | any => simp [GT.ty, U6, N8]; exact .r
  | _ => simp [GT.ty, U6, N8]; intro h; cases h
def S0 : GT → GT → GT
 | .any, b => b
 | .fn a b, .fn c d => .fn (S0 a c) (S0 b d)
 | .pr a b, .pr c d => .pr (S0 a c) (S0 b d)
 | a, _ => a
theorem A3w (a : GT) : S0 a .any = a := by cases a <;> rfl
theorem B0t {a b : GT} (h : Co a b) : U8 a.ty b.ty = (S0 a b).ty := by
 induction h with
 | l => simp [GT.ty, U8, S0]
 | @r a => rw [A3w]; cases a <;> simp [GT.ty, A1a]
 | int => simp [GT.ty, A1a, T2, S0]
 | bool => simp [GT.ty, A1a, T2, S0]
 | fn _ _ i j => simp [GT.ty, A1a, T2, S0, i, j]
 | pr _ _ i j => simp [GT.ty, A1a, T2, S0, i, j]
theorem A5p {a b : GT} (h : Co a b) : Le (S0 a b) a := by
 induction h with
 | l => exact .any
 | r => rw [A3w]; exact Le.refl
 | int => exact .int
 | bool => exact .bool
 | fn _ _ i j => exact .fn i j
 | pr _ _ i j => exact .pr i j
theorem A5q {a b : GT} (h : Co a b) : Le (S0 a b) b := by
 induction h with
 | l => exact Le.refl
 | r => exact .any
 | int => exact .int
 | bool => exact .bool
 | fn _ _ i j => exact .fn i j
 | pr _ _ i j => exact .pr i j
theorem B5j {a b : GT} (h : Co a b) : ∀ {a' b' : GT}, Le a a' → Le b b' → Le (S0 a b) (S0 a' b') := by
 induction h with
 | l => intro a' b' h1 h2; cases h1; exact h2
 | r => intro a' b' h1 h2; cases h2; rw [A3w, A3w]; exact h1
 | int => intro a' b' h1 h2; cases h1 <;> cases h2 <;> first | exact .int | exact .any
 | bool => intro a' b' h1 h2; cases h1 <;> cases h2 <;> first | exact .bool | exact .any
 | fn c d i j =>
  intro a' b' h1 h2
  cases h1 with
  | any => exact (A5q (.fn c d)).trans h2
  | fn p q => cases h2 with
   | any => rw [A3w]; exact (A5p (.fn c d)).trans (.fn p q)
   | fn r s => exact .fn (i p r) (j q s)
 | pr c d i j =>
  intro a' b' h1 h2
  cases h1 with
  | any => exact (A5q (.pr c d)).trans h2
  | pr p q => cases h2 with
   | any => rw [A3w]; exact (A5p (.pr c d)).trans (.pr p q)
   | pr r s => exact .pr (i p r) (j q s)
theorem B5k {a b : GT} (h : Le a b) : ∀ (d : Int), O7 a.ty d = true → O7 b.ty d = true := by
 induction h with
 | @any a => intro d h; cases a <;> (simp only [GT.ty, A2g, Bool.and_eq_true, decide_eq_true_eq] at h ⊢; exact ⟨⟨h.1.1, rfl⟩, by rw [U2]⟩)
 | int => exact fun _ h => h
 | bool => exact fun _ h => h
 | fn _ _ i j =>
  intro d h
  simp only [GT.ty, A2g, U2, Bool.and_eq_true, decide_eq_true_eq] at h ⊢
  exact ⟨⟨h.1.1, rfl⟩, i _ h.2.1, j _ h.2.2.1, trivial⟩
 | pr _ _ i j =>
  intro d h
  simp only [GT.ty, A2g, U2, Bool.and_eq_true, decide_eq_true_eq] at h ⊢
  exact ⟨⟨h.1.1, rfl⟩, i _ h.2.1, j _ h.2.2.1, trivial⟩
theorem A2S {a b : GT} (h : Le a b) (hv : F4 a.ty = true) : F4 b.ty = true := B5k h 1 hv
def gmF : GT → Option (GT × GT)
 | .fn a b => some (a, b)
 | .any => some (.any, .any)
 | _ => none
def gmP : GT → Option (GT × GT)
 | .pr a b => some (a, b)
 | .any => some (.any, .any)
 | _ => none
theorem B0u (a : GT) : R6 4 a.ty = (gmF a).map fun p => (p.1.ty, p.2.ty) := by cases a <;> rfl
theorem B0v (a : GT) : R6 5 a.ty = (gmP a).map fun p => (p.1.ty, p.2.ty) := by cases a <;> rfl
theorem B5l {a b p q : GT} (h : Le a b) (hm : gmF a = some (p, q)) : Co a (.fn p q) ∧ ∃ p' q', gmF b = some (p', q') ∧ Le p p' ∧ Le q q' ∧ Co b (.fn p' q') := by
 cases h with
 | any =>
  refine ⟨?_, .any, .any, rfl, .any, .any, .l⟩
  cases a with
  | fn _ _ => cases hm; exact Co.refl
  | any => exact .l
  | _ => cases hm
 | fn h1 h2 => cases hm; exact ⟨Co.refl, _, _, rfl, h1, h2, Co.refl⟩
 | _ => cases hm
theorem B5m {a b p q : GT} (h : Le a b) (hm : gmP a = some (p, q)) : Co a (.pr p q) ∧ ∃ p' q', gmP b = some (p', q') ∧ Le p p' ∧ Le q q' ∧ Co b (.pr p' q') := by
 cases h with
 | any =>
  refine ⟨?_, .any, .any, rfl, .any, .any, .l⟩
  cases a with
  | pr _ _ => cases hm; exact Co.refl
  | any => exact .l
  | _ => cases hm
 | pr h1 h2 => cases hm; exact ⟨Co.refl, _, _, rfl, h1, h2, Co.refl⟩
 | _ => cases hm
def CxR (cx cx' : Cx) (Γ : GC) : Prop := ∀ x a, P4 cx x = some a → ∃ A A', a = A.ty ∧ P4 cx' x = some A'.ty ∧ Γ x = some (A, A') ∧ Le A A'
theorem B5n : CxR [] [] N0 := by intro x a h; simp [P4, V8] at h
theorem B5o {cx cx' : Cx} {Γ : GC} (h : CxR cx cx' Γ) {A A' : GT} (hl : Le A A') (x : ByteArray) : CxR (cx ++ [(x, A.ty)]) (cx' ++ [(x, A'.ty)]) (gup Γ x A A') := by
 intro y a ha
 rw [A1o] at ha ⊢
 unfold gup
 by_cases hy : x = y
 ·rw [if_pos hy] at ha ⊢
  rw [if_pos hy]
  cases ha
  exact ⟨A, A', rfl, rfl, rfl, hl⟩
 ·rw [if_neg hy] at ha ⊢
  rw [if_neg hy]
  exact h y a ha
def S5 (A B : GT) (l : Int) (e : GE) : GE := if M5 A.ty B.ty = true then e else .cast A B l e
theorem A1X {Γ : GC} {e e' : GE} {A A' B B' : GT} {l l' : Int} (h : GP Γ e e' A A') (h1 : Co A B) (h2 : Co A' B') (h3 : Le B B') : GP Γ (S5 A B l e) (S5 A' B' l' e') B B' := by
 unfold S5
 by_cases hs : M5 A.ty B.ty = true
 ·rw [if_pos hs]
  obtain rfl := GT.inj ((Z2 _ _).1 hs)
  by_cases ht : M5 A'.ty B'.ty = true
  ·rw [if_pos ht]
   obtain rfl := GT.inj ((Z2 _ _).1 ht)
   exact h
  ·rw [if_neg ht]; exact .castR h h2 h3
 ·rw [if_neg hs]
  by_cases ht : M5 A'.ty B'.ty = true
  ·rw [if_pos ht]
   obtain rfl := GT.inj ((Z2 _ _).1 ht)
   exact .castL h h1 h3
  ·rw [if_neg ht]; exact .castB h h1 h2 h3
theorem A6V (e : GE) (us : List Tm) (A B : GT) (h w : List Ty) (l : Int) : ∃ m l1, H2 (e.tm :: us) (A.ty :: h) (B.ty :: w) l = ((S5 A B m e).tm :: (H2 us h w l1).1, (H2 us h w l1).2) := by
 rw [H2]
 unfold S5
 by_cases hs : M5 A.ty B.ty = true
 ·rw [if_pos hs]; exact ⟨0, l, by rw [if_pos hs]⟩
 ·rw [if_neg hs]; exact ⟨l + 1, l + 1, by rw [if_neg hs]; rfl⟩
theorem A4k (e : GE) (A B : GT) (l : Int) : ∃ m l1, H2 [e.tm] [A.ty] [B.ty] l = ([(S5 A B m e).tm], l1) := by
 obtain ⟨m, l1, h⟩ := A6V e [] A B [] [] l
 rw [V4] at h
 exact ⟨m, l1, h⟩
theorem A4l (e f : GE) (A B C D : GT) (l : Int) : ∃ m n l1, H2 [e.tm, f.tm] [A.ty, C.ty] [B.ty, D.ty] l = ([(S5 A B m e).tm, (S5 C D n f).tm], l1) := by
 obtain ⟨m, l1, h⟩ := A6V e [f.tm] A B [C.ty] [D.ty] l
 obtain ⟨n, l2, h2⟩ := A4k f C D l1
 rw [h2] at h
 exact ⟨m, n, l2, h⟩
theorem B0w (e f g : GE) (A B C D E F : GT) (l : Int) : ∃ m n o l1, H2 [e.tm, f.tm, g.tm] [A.ty, C.ty, E.ty] [B.ty, D.ty, F.ty] l = ([(S5 A B m e).tm, (S5 C D n f).tm, (S5 E F o g).tm], l1) := by
 obtain ⟨m, l1, h⟩ := A6V e [f.tm, g.tm] A B [C.ty, E.ty] [D.ty, F.ty] l
 obtain ⟨n, o, l2, h2⟩ := A4l f g C D E F l1
 rw [h2] at h
 exact ⟨m, n, o, l2, h⟩
inductive GPL (Γ : GC) : List GE → List GE → List GT → List GT → Prop
 | nil : GPL Γ [] [] [] []
 | cons {e e' A A' es es' As As'} : GP Γ e e' A A' → GPL Γ es es' As As' → GPL Γ (e :: es) (e' :: es') (A :: As) (A' :: As')
theorem GPL.one {Γ : GC} {es es' : List GE} {As As' : List GT} (h : GPL Γ es es' As As') (hl : es.length = 1) : ∃ e e' A A', es = [e] ∧ es' = [e'] ∧ As = [A] ∧ As' = [A'] ∧ GP Γ e e' A A' := by
 cases h with
 | nil => simp at hl
 | cons h h2 => cases h2 with
  | nil => exact ⟨_, _, _, _, rfl, rfl, rfl, rfl, h⟩
  | cons _ _ => simp at hl
theorem GPL.two {Γ : GC} {es es' : List GE} {As As' : List GT} (h : GPL Γ es es' As As') (hl : es.length = 2) : ∃ e e' A A' f f' B B', es = [e, f] ∧ es' = [e', f'] ∧ As = [A, B] ∧ As' = [A', B'] ∧ GP Γ e e' A A' ∧ GP Γ f f' B B' := by
 cases h with
 | nil => simp at hl
 | cons h h2 =>
  obtain ⟨f, f', B, B', rfl, rfl, rfl, rfl, h3⟩ := h2.one (by simpa using hl)
  exact ⟨_, _, _, _, f, f', B, B', rfl, rfl, rfl, rfl, h, h3⟩
theorem GPL.three {Γ : GC} {es es' : List GE} {As As' : List GT} (h : GPL Γ es es' As As') (hl : es.length = 3) : ∃ e e' A A' f f' B B' g g' C C', es = [e, f, g] ∧ es' = [e', f', g'] ∧ As = [A, B, C] ∧ As' = [A', B', C'] ∧ GP Γ e e' A A' ∧ GP Γ f f' B B' ∧ GP Γ g g' C C' := by
 cases h with
 | nil => simp at hl
 | cons h h2 =>
  obtain ⟨f, f', B, B', g, g', C, C', rfl, rfl, rfl, rfl, h3, h4⟩ := h2.two (by simpa using hl)
  exact ⟨_, _, _, _, f, f', B, B', g, g', C, C', rfl, rfl, rfl, rfl, h, h3, h4⟩
theorem GPL.zero {Γ : GC} {es es' : List GE} {As As' : List GT} (h : GPL Γ es es' As As') (hl : es.length = 0) : es = [] ∧ es' = [] ∧ As = [] ∧ As' = [] := by
 cases h with
 | nil => exact ⟨rfl, rfl, rfl, rfl⟩
 | cons _ _ => simp at hl
theorem A1q {cx : Cx} {k : Int} {nm : ByteArray} {num : Int} {ty fr : Ty} {lb : Int} {us : List Tm} {h : List Ty} {l : Int} {u : Tm} {a : Ty} {l2 : Int} (he : Q7 cx k nm num ty fr lb us h l = some (u, a, l2)) :
  ∃ w, J7 cx k nm ty h = some (w, a) ∧ F4 a = true ∧ u = if k = 13 then (H2 us h w l).1.getD 0 I3 else .mk k nm num ty fr lb (H2 us h w l).1 := by
 unfold Q7 at he
 split at he
 ·cases he
 ·rename_i w t hn
  simp only [Option.some.injEq, Prod.mk.injEq] at he
  obtain ⟨rfl, rfl, rfl⟩ := he
  obtain ⟨h1, h2⟩ := A4c hn
  exact ⟨w, h2, h1, rfl⟩
theorem A1r {cx : Cx} {k : Int} {nm : ByteArray} {num : Int} {ty fr : Ty} {lb : Int} {us : List Tm} {h : List Ty} {l : Int} {w : List Ty} {a : Ty} (hw : J7 cx k nm ty h = some (w, a)) (hv : F4 a = true) :
  Q7 cx k nm num ty fr lb us h l = some (if k = 13 then (H2 us h w l).1.getD 0 I3 else .mk k nm num ty fr lb (H2 us h w l).1, a, (H2 us h w l).2) := by
 unfold Q7 T6
 rw [hw]
 simp only [hv, if_true]
theorem B0x {k : Int} {nm : ByteArray} {num : Int} {ty fr : Ty} {lb : Int} {ks : List Tm} {d : Int} (h : M8 12 14 (.mk k nm num ty fr lb ks) d = true) :
  D7 k = ks.length ∧ k ≠ 14 ∧ (¬(k = 1 ∨ k = 5) → nm = ⟨#[]⟩) ∧ (k ≠ 2 → num = 0) ∧ (k = 5 ∨ k = 13 → F4 ty = true) ∧ (¬(k = 5 ∨ k = 13) → ty = B4) ∧ fr = B4 ∧ lb = 0 ∧ O0 12 14 ks (d + 1) = true := by
 obtain ⟨_, h2, h3, h4⟩ := A0s h
 obtain ⟨n1, n2, n3, n4, n5, n6, n7, n8, n9⟩ := U3.1 h3
 exact ⟨n1, h2, n3, fun hk => by have := A2b.1 (n5 hk); omega, fun hk => n6 (by omega), fun hk => A18 (n7 (by omega)), A18 (n9 h2).1, (n9 h2).2, h4⟩
abbrev ElR (Γ : GC) (u : Tm) (a : Ty) (r : Option (Tm × Ty × Int)) : Prop := ∃ e A e' A' l2, u = e.tm ∧ a = A.ty ∧ r = some (e'.tm, A'.ty, l2) ∧ GP Γ e e' A A'
section
variable {cx cx' : Cx} {Γ : GC} {es es' : List GE} {As As' : List GT} {l l' : Int} {u : Tm} {a : Ty} {l2 : Int} {nm : ByteArray} {num : Int}
theorem B5p (hc : CxR cx cx' Γ) (he : Q7 cx 1 nm 0 B4 B4 0 [] [] l = some (u, a, l2)) : ElR Γ u a (Q7 cx' 1 nm 0 B4 B4 0 [] [] l') := by
 obtain ⟨w, hw, hv, rfl⟩ := A1q he
 unfold J7 at hw
 rw [if_pos rfl] at hw
 split at hw
 ·rename_i t ht
  cases hw
  obtain ⟨A, A', rfl, h2, h3, h4⟩ := hc _ _ ht
  refine ⟨.var nm, A, .var nm, A', l', ?_, rfl, ?_, .var h3 h4⟩
  ·rw [V4, if_neg (by decide)]; rfl
  ·rw [A1r (w := []) (a := A'.ty) (by unfold J7; rw [if_pos rfl, h2]) (A2S h4 hv), V4, if_neg (by decide)]; rfl
 ·cases hw
theorem B5q (he : Q7 cx 2 ⟨#[]⟩ num B4 B4 0 [] [] l = some (u, a, l2)) : ElR Γ u a (Q7 cx' 2 ⟨#[]⟩ num B4 B4 0 [] [] l') := by
 obtain ⟨w, hw, hv, rfl⟩ := A1q he
 cases hw
 exact ⟨.num num, .int, .num num, .int, l', by rw [V4, if_neg (by decide)]; rfl, rfl, by rw [A1r (w := []) (a := P9) rfl hv, V4, if_neg (by decide)]; rfl, .num⟩
theorem B5r (b : Bool) (he : Q7 cx (if b = true then 3 else 4) ⟨#[]⟩ 0 B4 B4 0 [] [] l = some (u, a, l2)) : ElR Γ u a (Q7 cx' (if b = true then 3 else 4) ⟨#[]⟩ 0 B4 B4 0 [] [] l') := by
 obtain ⟨w, hw, hv, rfl⟩ := A1q he
 cases b <;> (cases hw; exact ⟨.tru _, .bool, .tru _, .bool, l', by rw [V4, if_neg (by decide)]; rfl, rfl, by rw [A1r (w := []) (a := U4) rfl hv, V4, if_neg (by decide)]; rfl, .tru⟩)
theorem B5s {A A' B B' : GT} {e e' : GE} (hA : Le A A') (hp : GP (gup Γ nm A A') e e' B B') (he : Q7 cx 5 nm 0 A.ty B4 0 [e.tm] [B.ty] l = some (u, a, l2)) : ElR Γ u a (Q7 cx' 5 nm 0 A'.ty B4 0 [e'.tm] [B'.ty] l') := by
 obtain ⟨w, hw, hv, rfl⟩ := A1q he
 cases hw
 exact ⟨.lam nm A e, .fn A B, .lam nm A' e', .fn A' B', l', by rw [V4, if_neg (by decide)]; rfl, rfl, by rw [A1r (w := []) (a := .mk 4 [A'.ty, B'.ty]) rfl (A2S (.fn hA hp.le) hv), V4, if_neg (by decide)]; rfl, .lam hA hp⟩
theorem B5t {A A' B B' : GT} {e e' f f' : GE} (hp : GP Γ e e' A A') (hq : GP Γ f f' B B') (he : Q7 cx 6 ⟨#[]⟩ 0 B4 B4 0 [e.tm, f.tm] [A.ty, B.ty] l = some (u, a, l2)) : ElR Γ u a (Q7 cx' 6 ⟨#[]⟩ 0 B4 B4 0 [e'.tm, f'.tm] [A'.ty, B'.ty] l') := by
 obtain ⟨w, hw, hv, rfl⟩ := A1q he
 unfold J7 at hw
 rw [if_neg (by decide), if_neg (by decide), if_neg (by decide), if_neg (by decide), if_pos rfl] at hw
 simp only [List.getD_cons_zero, List.getD_cons_succ, B0u] at hw
 cases hm : gmF A with
 | none => rw [hm] at hw; cases hw
 | some pq =>
  obtain ⟨p, q⟩ := pq
  rw [hm] at hw
  simp only [Option.map_some] at hw
  split at hw
  ·rename_i hc
   cases hw
   obtain ⟨c1, p', q', hm', h1, h2, c2⟩ := B5l hp.le hm
   have hco := (A0Y _ _).1 hc
   have hco' := hco.up hq.le h1
   obtain ⟨m, n, l1, h3⟩ := A4l e f A (.fn p q) B p l
   obtain ⟨m', n', l1', h3'⟩ := A4l e' f' A' (.fn p' q') B' p' l'
   refine ⟨.app (S5 A (.fn p q) m e) (S5 B p n f), q, .app (S5 A' (.fn p' q') m' e') (S5 B' p' n' f'), q', l1', ?_, rfl, ?_, .app (A1X hp c1 c2 (.fn h1 h2)) (A1X hq hco hco' h1)⟩
   ·rw [if_neg (by decide)]
    show Tm.mk _ _ _ _ _ _ (H2 [e.tm, f.tm] [A.ty, B.ty] [(GT.fn p q).ty, p.ty] l).1 = _
    rw [h3]; rfl
   ·rw [A1r (w := [(GT.fn p' q').ty, p'.ty]) (a := q'.ty) ?_ (A2S h2 hv), if_neg (by decide), h3']
    ·rfl
    ·unfold J7
     rw [if_neg (by decide), if_neg (by decide), if_neg (by decide), if_neg (by decide), if_pos rfl]
     simp only [List.getD_cons_zero, List.getD_cons_succ, B0u, hm', Option.map_some]
     rw [if_pos ((A0Y _ _).2 hco')]; rfl
  ·cases hw
theorem B5u (s : Bool) {A A' B B' : GT} {e e' f f' : GE} (hp : GP Γ e e' A A') (hq : GP Γ f f' B B') (he : Q7 cx (if s = true then 8 else 7) ⟨#[]⟩ 0 B4 B4 0 [e.tm, f.tm] [A.ty, B.ty] l = some (u, a, l2)) : ElR Γ u a (Q7 cx' (if s = true then 8 else 7) ⟨#[]⟩ 0 B4 B4 0 [e'.tm, f'.tm] [A'.ty, B'.ty] l') := by
 have hk : (if s = true then (8 : Int) else 7) = 7 ∨ (if s = true then (8 : Int) else 7) = 8 := by cases s <;> simp
 have hT : (if (if s = true then (8 : Int) else 7) = 8 then U4 else P9) = GT.ty (if s = true then .bool else .int) := by cases s <;> rfl
 obtain ⟨w, hw, hv, rfl⟩ := A1q he
 unfold J7 at hw
 rw [if_neg (by omega), if_neg (by omega), if_neg (by omega), if_neg (by omega), if_neg (by omega), if_pos hk] at hw
 simp only [List.getD_cons_zero, List.getD_cons_succ] at hw
 split at hw
 ·rename_i hc
  rw [hT] at hw
  cases hw
  have c1 := (A0Y A .int).1 hc.1
  have c2 := (A0Y B .int).1 hc.2
  have d1 := c1.up hp.le Le.refl
  have d2 := c2.up hq.le Le.refl
  obtain ⟨m, n, l1, h3⟩ := A4l e f A .int B .int l
  obtain ⟨m', n', l1', h3'⟩ := A4l e' f' A' .int B' .int l'
  refine ⟨.ar s (S5 A .int m e) (S5 B .int n f), _, .ar s (S5 A' .int m' e') (S5 B' .int n' f'), _, l1', ?_, rfl, ?_, .ar (A1X hp c1 d1 .int) (A1X hq c2 d2 .int)⟩
  ·rw [if_neg (by omega)]
   show Tm.mk _ _ _ _ _ _ (H2 [e.tm, f.tm] [A.ty, B.ty] [GT.int.ty, GT.int.ty] l).1 = _
   rw [h3]; rfl
  ·rw [A1r (w := [GT.int.ty, GT.int.ty]) (a := GT.ty (if s = true then .bool else .int)) ?_ hv, if_neg (by omega), h3']
   ·rfl
   ·unfold J7
    rw [if_neg (by omega), if_neg (by omega), if_neg (by omega), if_neg (by omega), if_neg (by omega), if_pos hk]
    simp only [List.getD_cons_zero, List.getD_cons_succ]
    rw [if_pos ⟨(A0Y A' .int).2 d1, (A0Y B' .int).2 d2⟩, hT]; rfl
 ·cases hw
theorem B5v {A A' B B' C C' : GT} {e e' f f' g g' : GE} (hp : GP Γ e e' A A') (hq : GP Γ f f' B B') (hr : GP Γ g g' C C') (he : Q7 cx 9 ⟨#[]⟩ 0 B4 B4 0 [e.tm, f.tm, g.tm] [A.ty, B.ty, C.ty] l = some (u, a, l2)) :
  ElR Γ u a (Q7 cx' 9 ⟨#[]⟩ 0 B4 B4 0 [e'.tm, f'.tm, g'.tm] [A'.ty, B'.ty, C'.ty] l') := by
 obtain ⟨w, hw, hv, rfl⟩ := A1q he
 unfold J7 at hw
 rw [if_neg (by decide), if_neg (by decide), if_neg (by decide), if_neg (by decide), if_neg (by decide), if_neg (by decide), if_pos rfl] at hw
 simp only [List.getD_cons_zero, List.getD_cons_succ] at hw
 split at hw
 ·rename_i hc
  have c1 := (A0Y A .bool).1 hc.1
  have c2 := (A0Y B C).1 hc.2
  have d1 := c1.up hp.le Le.refl
  have d2 := c2.up hq.le hr.le
  rw [B0t c2] at hw
  cases hw
  have hM := B5j c2 hq.le hr.le
  obtain ⟨m, n, o, l1, h3⟩ := B0w e f g A .bool B (S0 B C) C (S0 B C) l
  obtain ⟨m', n', o', l1', h3'⟩ := B0w e' f' g' A' .bool B' (S0 B' C') C' (S0 B' C') l'
  refine ⟨.ite (S5 A .bool m e) (S5 B (S0 B C) n f) (S5 C (S0 B C) o g), S0 B C, .ite (S5 A' .bool m' e') (S5 B' (S0 B' C') n' f') (S5 C' (S0 B' C') o' g'), S0 B' C', l1', ?_, rfl, ?_,
   .ite (A1X hp c1 d1 .bool) (A1X hq (A5p c2).co.symm (A5p d2).co.symm hM) (A1X hr (A5q c2).co.symm (A5q d2).co.symm hM)⟩
  ·rw [if_neg (by decide)]
   show Tm.mk _ _ _ _ _ _ (H2 [e.tm, f.tm, g.tm] [A.ty, B.ty, C.ty] [GT.bool.ty, (S0 B C).ty, (S0 B C).ty] l).1 = _
   rw [h3]; rfl
  ·rw [A1r (w := [GT.bool.ty, (S0 B' C').ty, (S0 B' C').ty]) (a := (S0 B' C').ty) ?_ (A2S hM hv), if_neg (by decide), h3']
   ·rfl
   ·unfold J7
    rw [if_neg (by decide), if_neg (by decide), if_neg (by decide), if_neg (by decide), if_neg (by decide), if_neg (by decide), if_pos rfl]
    simp only [List.getD_cons_zero, List.getD_cons_succ]
    rw [if_pos ⟨(A0Y A' .bool).2 d1, (A0Y B' C').2 d2⟩, B0t d2]; rfl
 ·cases hw
theorem B5w {A A' B B' : GT} {e e' f f' : GE} (hp : GP Γ e e' A A') (hq : GP Γ f f' B B') (he : Q7 cx 10 ⟨#[]⟩ 0 B4 B4 0 [e.tm, f.tm] [A.ty, B.ty] l = some (u, a, l2)) : ElR Γ u a (Q7 cx' 10 ⟨#[]⟩ 0 B4 B4 0 [e'.tm, f'.tm] [A'.ty, B'.ty] l') := by
 obtain ⟨w, hw, hv, rfl⟩ := A1q he
 cases hw
 exact ⟨.pair e f, .pr A B, .pair e' f', .pr A' B', l', by rw [V4, if_neg (by decide)]; rfl, rfl, by rw [A1r (w := []) (a := .mk 5 [A'.ty, B'.ty]) rfl (A2S (.pr hp.le hq.le) hv), V4, if_neg (by decide)]; rfl, .pair hp hq⟩
theorem B5x (s : Bool) {A A' : GT} {e e' : GE} (hp : GP Γ e e' A A') (he : Q7 cx (if s = true then 12 else 11) ⟨#[]⟩ 0 B4 B4 0 [e.tm] [A.ty] l = some (u, a, l2)) : ElR Γ u a (Q7 cx' (if s = true then 12 else 11) ⟨#[]⟩ 0 B4 B4 0 [e'.tm] [A'.ty] l') := by
 have hk : (if s = true then (12 : Int) else 11) = 11 ∨ (if s = true then (12 : Int) else 11) = 12 := by cases s <;> simp
 have hT : ∀ p q : GT, (if (if s = true then (12 : Int) else 11) = 12 then q.ty else p.ty) = GT.ty (if s = true then q else p) := by intro p q; cases s <;> rfl
 obtain ⟨w, hw, hv, rfl⟩ := A1q he
 unfold J7 at hw
 rw [if_neg (by omega), if_neg (by omega), if_neg (by omega), if_neg (by omega), if_neg (by omega), if_neg (by omega), if_neg (by omega), if_neg (by omega), if_neg (by omega)] at hw
 simp only [List.getD_cons_zero, B0v] at hw
 cases hm : gmP A with
 | none => rw [hm] at hw; cases hw
 | some pq =>
  obtain ⟨p, q⟩ := pq
  rw [hm] at hw
  simp only [Option.map_some, hT] at hw
  cases hw
  obtain ⟨c1, p', q', hm', h1, h2, c2⟩ := B5m hp.le hm
  obtain ⟨m, l1, h3⟩ := A4k e A (.pr p q) l
  obtain ⟨m', l1', h3'⟩ := A4k e' A' (.pr p' q') l'
  refine ⟨.part s (S5 A (.pr p q) m e), _, .part s (S5 A' (.pr p' q') m' e'), _, l1', ?_, rfl, ?_, .part (A1X hp c1 c2 (.pr h1 h2))⟩
  ·rw [if_neg (by omega)]
   show Tm.mk _ _ _ _ _ _ (H2 [e.tm] [A.ty] [(GT.pr p q).ty] l).1 = _
   rw [h3]; rfl
  ·rw [A1r (w := [(GT.pr p' q').ty]) (a := GT.ty (if s = true then q' else p')) ?_ (A2S (by cases s; exact h1; exact h2) hv), if_neg (by omega), h3']
   ·rfl
   ·unfold J7
    rw [if_neg (by omega), if_neg (by omega), if_neg (by omega), if_neg (by omega), if_neg (by omega), if_neg (by omega), if_neg (by omega), if_neg (by omega), if_neg (by omega)]
    simp only [List.getD_cons_zero, B0v, hm', Option.map_some, hT]; rfl
theorem B5y {A A' B B' : GT} {e e' : GE} (hB : Le B B') (hp : GP Γ e e' A A') (he : Q7 cx 13 ⟨#[]⟩ 0 B.ty B4 0 [e.tm] [A.ty] l = some (u, a, l2)) : ElR Γ u a (Q7 cx' 13 ⟨#[]⟩ 0 B'.ty B4 0 [e'.tm] [A'.ty] l') := by
 obtain ⟨w, hw, hv, rfl⟩ := A1q he
 unfold J7 at hw
 rw [if_neg (by decide), if_neg (by decide), if_neg (by decide), if_neg (by decide), if_neg (by decide), if_neg (by decide), if_neg (by decide), if_neg (by decide), if_pos rfl] at hw
 simp only [List.getD_cons_zero] at hw
 split at hw
 ·rename_i hc
  cases hw
  have c1 := (A0Y A B).1 hc
  have d1 := c1.up hp.le hB
  obtain ⟨m, l1, h3⟩ := A4k e A B l
  obtain ⟨m', l1', h3'⟩ := A4k e' A' B' l'
  refine ⟨S5 A B m e, B, S5 A' B' m' e', B', l1', ?_, rfl, ?_, A1X hp c1 d1 hB⟩
  ·rw [if_pos rfl, h3]; rfl
  ·rw [A1r (w := [B'.ty]) (a := B'.ty) ?_ (A2S hB hv), if_pos rfl, h3']
   ·rfl
   ·unfold J7
    rw [if_neg (by decide), if_neg (by decide), if_neg (by decide), if_neg (by decide), if_neg (by decide), if_neg (by decide), if_neg (by decide), if_neg (by decide), if_pos rfl]
    simp only [List.getD_cons_zero]
    rw [if_pos ((A0Y A' B').2 d1)]
 ·cases hw
end
theorem B5z (ks : List Tm) (ih : ∀ t ∈ ks, ∀ (t' : Tm) (d : Int) (cx cx' : Cx) (Γ : GC) (l l' : Int) (u : Tm) (a : Ty) (l2 : Int), M8 12 14 t d = true → M8 12 14 t' d = true → W0 t t' = true → CxR cx cx' Γ → M6 cx t l = some (u, a, l2) → ElR Γ u a (M6 cx' t' l')) :
  ∀ (ks' : List Tm) (d : Int) (cx cx' : Cx) (Γ : GC) (l l' : Int) (us : List Tm) (h : List Ty) (l2 : Int), O0 12 14 ks d = true → O0 12 14 ks' d = true → X1 ks ks' = true → CxR cx cx' Γ → L9 cx ks l = some (us, h, l2) →
   ∃ es As es' As' l2', us = es.map GE.tm ∧ h = As.map GT.ty ∧ L9 cx' ks' l' = some (es'.map GE.tm, As'.map GT.ty, l2') ∧ GPL Γ es es' As As' := by
 induction ks with
 | nil =>
  intro ks' d cx cx' Γ l l' us h l2 _ _ hp _ he
  cases ks' with
  | cons _ _ => cases hp
  | nil =>
   rw [L9] at he
   cases he
   exact ⟨[], [], [], [], l', rfl, rfl, by rw [L9]; rfl, .nil⟩
 | cons t ts ihl =>
  intro ks' d cx cx' Γ l l' us h l2 hs hs' hp hc he
  cases ks' with
  | nil => cases hp
  | cons t' ts' =>
   rw [O0, Bool.and_eq_true] at hs hs'
   rw [X1, Bool.and_eq_true] at hp
   rw [L9] at he ⊢
   split at he
   ·cases he
   ·rename_i u a l1 h1
    split at he
    ·cases he
    ·rename_i us' h' l3 h2
     cases he
     obtain ⟨e, A, e', A', m, rfl, rfl, h3, h4⟩ := ih t List.mem_cons_self t' d cx cx' Γ l l' u a l1 hs.1 hs'.1 hp.1 hc h1
     obtain ⟨es, As, es', As', m2, rfl, rfl, h5, h6⟩ := ihl (fun x hx => ih x (List.mem_cons_of_mem _ hx)) ts' d cx cx' Γ l1 m us' h' l2 hs.2 hs'.2 hp.2 hc h2
     rw [h3]
     simp only [h5]
     exact ⟨e :: es, A :: As, e' :: es', A' :: As', m2, rfl, rfl, rfl, .cons h4 h6⟩
theorem A6W {cx : Cx} : ∀ {ks : List Tm} {l : Int} {us : List Tm} {h : List Ty} {l2 : Int}, L9 cx ks l = some (us, h, l2) → us.length = ks.length
 | [], _, _, _, _, h => by rw [L9] at h; cases h; rfl
 | t :: ts, _, _, _, _, h => by
  rw [L9] at h
  split at h
  ·cases h
  ·split at h
   ·cases h
   ·rename_i h2; cases h; simp [A6W h2]
theorem B5A : ∀ (t t' : Tm) (d : Int) (cx cx' : Cx) (Γ : GC) (l l' : Int) (u : Tm) (a : Ty) (l2 : Int), M8 12 14 t d = true → M8 12 14 t' d = true → W0 t t' = true → CxR cx cx' Γ → M6 cx t l = some (u, a, l2) → ElR Γ u a (M6 cx' t' l') := by
 refine Tm.ind fun k nm num ty fr lb ks ih t' d cx cx' Γ l l' u a l2 hs hs' hp hc he => ?_
 obtain ⟨k', nm', num', ty', fr', lb', ks'⟩ := t'
 obtain ⟨rfl, rfl, rfl, hty, hpk⟩ := A2R.1 hp
 obtain ⟨n1, n2, n3, n4, n5, n6, n7, n8, n9⟩ := B0x hs
 obtain ⟨m1, m2, m3, m4, m5, m6, m7, m8, m9⟩ := B0x hs'
 subst n7 n8 m7 m8
 rw [M6] at he ⊢
 split at he
 ·cases he
 ·rename_i us h l1 hL
  
  have key : ∀ Δ, CxR (K1 cx k nm ty) (K1 cx' k nm ty') Δ → ∃ es As es' As' l2', us = es.map GE.tm ∧ h = As.map GT.ty ∧ L9 (K1 cx' k nm ty') ks' l' = some (es'.map GE.tm, As'.map GT.ty, l2') ∧ GPL Δ es es' As As' :=
   fun Δ hD => B5z ks ih ks' (d + 1) _ _ Δ l l' us h l1 n9 m9 hpk hD hL
  by_cases h5 : k = 5
  ·subst h5
   obtain ⟨A, rfl⟩ := A2i ty (n5 (.inl rfl))
   obtain ⟨A', rfl⟩ := A2i ty' (m5 (.inl rfl))
   have hA := (B0s A A').1 (hty (.inl rfl))
   obtain rfl := n4 (by decide)
   obtain ⟨es, As, es', As', l3, rfl, rfl, e1, e2⟩ := key (gup Γ nm A A') (by rw [K1, K1, if_pos rfl, if_pos rfl]; exact B5o hc hA nm)
   have hlen : es.length = 1 := by
    have h1 := A6W hL
    rw [List.length_map] at h1
    have : D7 5 = 1 := rfl
    omega
   obtain ⟨e, e', B, B', rfl, rfl, rfl, rfl, hq⟩ := e2.one hlen
   rw [e1]
   exact B5s hA hq he
  ·obtain ⟨es, As, es', As', l3, rfl, rfl, e1, e2⟩ := key Γ (by rw [K1, K1, if_neg h5, if_neg h5]; exact hc)
   have hlen : (es.length : Int) = D7 k := by
    have h1 := A6W hL
    rw [List.length_map] at h1
    omega
   rw [e1]
   have hk : 1 ≤ k ∧ k ≤ 14 := by
    apply Classical.byContradiction
    intro hk
    rw [A4V hk] at n1; omega
   by_cases h1 : k = 1
   ·subst h1
    obtain rfl := n4 (by decide)
    obtain rfl := n6 (by decide)
    obtain rfl := m6 (by decide)
    obtain ⟨rfl, rfl, rfl, rfl⟩ := e2.zero (by have : D7 1 = 0 := rfl; omega)
    exact B5p hc he
   obtain rfl := n3 (by omega)
   by_cases h2 : k = 2
   ·subst h2
    obtain rfl := n6 (by decide)
    obtain rfl := m6 (by decide)
    obtain ⟨rfl, rfl, rfl, rfl⟩ := e2.zero (by have : D7 2 = 0 := rfl; omega)
    exact B5q he
   obtain rfl := n4 h2
   by_cases h13 : k = 13
   ·subst h13
    obtain ⟨B, rfl⟩ := A2i ty (n5 (.inr rfl))
    obtain ⟨B', rfl⟩ := A2i ty' (m5 (.inr rfl))
    obtain ⟨e, e', A, A', rfl, rfl, rfl, rfl, hq⟩ := e2.one (by have : D7 13 = 1 := rfl; omega)
    exact B5y ((B0s B B').1 (hty (.inr rfl))) hq he
   obtain rfl := n6 (by omega)
   obtain rfl := m6 (by omega)
   by_cases h34 : k = 3 ∨ k = 4
   ·obtain ⟨b, rfl⟩ : ∃ b : Bool, k = if b = true then 3 else 4 := by rcases h34 with h | h; exact ⟨true, h⟩; exact ⟨false, h⟩
    obtain ⟨rfl, rfl, rfl, rfl⟩ := e2.zero (by have : D7 (if b = true then 3 else 4) = 0 := (by cases b <;> rfl); omega)
    exact B5r b he
   by_cases h6 : k = 6
   ·subst h6
    obtain ⟨e, e', A, A', f, f', B, B', rfl, rfl, rfl, rfl, hp1, hp2⟩ := e2.two (by have : D7 6 = 2 := rfl; omega)
    exact B5t hp1 hp2 he
   by_cases h78 : k = 7 ∨ k = 8
   ·obtain ⟨b, rfl⟩ : ∃ b : Bool, k = if b = true then 8 else 7 := by rcases h78 with h | h; exact ⟨false, h⟩; exact ⟨true, h⟩
    obtain ⟨e, e', A, A', f, f', B, B', rfl, rfl, rfl, rfl, hp1, hp2⟩ := e2.two (by have : D7 (if b = true then 8 else 7) = 2 := (by cases b <;> rfl); omega)
    exact B5u b hp1 hp2 he
   by_cases h9 : k = 9
   ·subst h9
    obtain ⟨e, e', A, A', f, f', B, B', g, g', C, C', rfl, rfl, rfl, rfl, hp1, hp2, hp3⟩ := e2.three (by have : D7 9 = 3 := rfl; omega)
    exact B5v hp1 hp2 hp3 he
   by_cases h10 : k = 10
   ·subst h10
    obtain ⟨e, e', A, A', f, f', B, B', rfl, rfl, rfl, rfl, hp1, hp2⟩ := e2.two (by have : D7 10 = 2 := rfl; omega)
    exact B5w hp1 hp2 he
   have h11 : k = 11 ∨ k = 12 := by omega
   obtain ⟨b, rfl⟩ : ∃ b : Bool, k = if b = true then 12 else 11 := by rcases h11 with h | h; exact ⟨false, h⟩; exact ⟨true, h⟩
   obtain ⟨e, e', A, A', rfl, rfl, rfl, rfl, hp1⟩ := e2.one (by have : D7 (if b = true then 12 else 11) = 1 := (by cases b <;> rfl); omega)
   exact B5x b hp1 he
theorem B0y {a b u : Tm} {t : Ty} (ha : T7 a = some (u, t)) (hp : X2 a b = true) : ∃ e e' A A', u = e.tm ∧ t = A.ty ∧ T7 b = some (e'.tm, A'.ty) ∧ GP N0 e e' A A' := by
 unfold X2 at hp
 rw [Bool.and_eq_true, Bool.and_eq_true] at hp
 unfold T7 at ha ⊢
 rw [if_pos hp.1] at ha
 rw [if_pos hp.2.1]
 split at ha
 ·rename_i u' t' l' he
  cases ha
  obtain ⟨e, A, e', A', l2, rfl, rfl, h1, h2⟩ := B5A a b 1 [] [] N0 0 0 u t l' ((A0L a).1 hp.1).1 ((A0L b).1 hp.2.1).1 hp.2.2 B5n he
  rw [h1]
  exact ⟨e, e', A, A', rfl, rfl, rfl, h2⟩
 ·cases ha
variable {P : Program} {G : IM}
theorem Fn.forget {f : FuncId} {args : List Value} {v0 : Value} {post : IM → Value → List A7 → Prop} (h : Fn P f args [] G post) (hv : ∀ G' v outs, post G' v outs → v = v0) : Fn P f args [] G (H5 v0 G) := by
 refine ⟨fun w hw => (h.run w hw).mono ?_⟩
 rintro e w' ⟨u, G', outs, rfl, hres, hp⟩
 refine ⟨u, G, [], rfl, ⟨⟨fun b l hb => hres.own.inn b l (hres.le b l hb), by simp, by simp [Fp], by simp [Fp]⟩, hres.ext, C6.refl _, fun _ _ h => .inl h, by simp [Fp], fun b l h h0 => absurd h (by rw [h0]; simp)⟩, rfl, hv _ _ _ hp, rfl⟩
def X3 (t : Tm) : IM → Value → List A7 → Prop := M3 fun G' v => ∃ cells, v = .agg ⟨cells⟩ ∧ B3 G' t cells
theorem X3.mk {G : IM} {t : Tm} {cells : List Value} (h : B3 G t cells) : X3 t G (.agg ⟨cells⟩) [] := ⟨rfl, cells, rfl, h⟩
def mGk (k : Int) : Ty := if k = 4 ∨ k = 5 then .mk k [Q5, Q5] else .mk k []
theorem A0Z {G : IM} {k : Int} {ks : List Tm} {p : Option Addr} {n c : Nat} {es : List (List Value)} (hk : H1 k) (hn : n = ks.length) (hs : E0 G p n c 9 es) (hr : E4 G ks es) : B3 G (Y2 k ks) [.int .i64 k, .string ⟨⟨[]⟩⟩, .int .i64 0, .int .i64 0, .slice none 0 0, .int .i64 0, .slice none 0 0, .int .i64 0, .slice p n c] := by
 subst hn
 simp only [Y2, B3]
 exact ⟨[.int .i64 0, .slice none 0 0], [.int .i64 0, .slice none 0 0], p, c, es, rfl, hk, ⟨by decide, by decide⟩, ⟨by decide, by decide⟩, A1R G, A1R G, hs, hr⟩
theorem A6X (k : Int) (G : IM) (hk : H1 k) : Fn Tryz.prog 153 [.int .i64 k] [] G (M3 fun G' v => ∃ cells, v = .agg ⟨cells⟩ ∧ C1 G' (mGk k) cells) := by
 have hB := A2f k Q5 Q5 G _ _ hk (A0M G) (A0M G)
 refine C2 Tryz.func153 rfl Tryz.ntmps153 Tryz.results153 rfl ?_
 intro w0
 refine A5 ?_
 refine sE (A8 rfl) rfl (fun b3 => ?_)
 refine B0 ?_
 refine sB (qE rfl rfl) rfl rfl (fun h10 => ?_) (fun h10 => ?_)
 refine J0 ?_
 refine H9 rfl ((A1L _ _)) rfl rfl ?_
 refine H9 rfl ((A1L _ _)) rfl rfl ?_
 (refine E5 rfl hB rfl rfl (fun v G1 hle1 hh => ?_); obtain ⟨cb, rfl, hrb⟩ := hh; obtain ⟨p1, c1, e1, rfl, _⟩ := hrb.open)
 refine B2 ?_
 refine N4 (rC rfl (A6 rfl rfl)) ?_
 (exact ⟨rfl, _, rfl, by unfold mGk; rw [if_pos (by omega)]; exact hrb⟩)
 refine A5 ?_
 refine sB (qE rfl rfl) rfl rfl (fun h33 => ?_) (fun h33 => ?_)
 refine B5 ?_
 refine H9 rfl ((A1L _ _)) rfl rfl ?_
 refine H9 rfl ((A1L _ _)) rfl rfl ?_
 (refine E5 rfl hB rfl rfl (fun v G1 hle1 hh => ?_); obtain ⟨cb, rfl, hrb⟩ := hh; obtain ⟨p1, c1, e1, rfl, _⟩ := hrb.open)
 refine B2 ?_
 refine N4 (rC rfl (A6 rfl rfl)) ?_
 (exact ⟨rfl, _, rfl, by unfold mGk; rw [if_pos (by omega)]; exact hrb⟩)
 refine E1 ?_
 refine H9 rfl ((A1L _ _)) rfl rfl ?_
 refine B7 ?_
 refine N4 (rC rfl (A6 rfl rfl)) ?_
 (exact ⟨rfl, _, rfl, by unfold mGk; rw [if_neg (by omega)]; exact O3 _ hk⟩)
theorem B0z (t : Ty) (G : IM) (cells : List Value) (hr : C1 G t cells) : Fn Tryz.prog 111 [.agg ⟨cells⟩] [] G (H5 (.bool (R7 t)) G) := by
 refine Fn.forget (post := M3 fun _ v => v = .bool (R7 t)) ?_ (fun _ _ _ h => h.2)
 have hr0 := hr
 obtain ⟨tk, tks⟩ := t
 obtain ⟨p, c, es, rfl, hk, _⟩ := hr.open
 simp only [Ty.k, Ty.ks] at hk hr0 ⊢
 rw [show R7 (.mk tk tks) = (decide (tk ≠ 1) && M5 (.mk tk tks) (mGk tk)) from rfl]
 refine C2 Tryz.func111 rfl Tryz.ntmps111 Tryz.results111 rfl ?_
 intro w0
 refine A5 ?_
 refine sE (C7 rfl rfl) rfl (fun b3 => ?_)
 refine B7 ?_
 refine D8 D9 rfl ?_
 refine I6 (i := 0) (l' := [tt,ff,ff,ff,ff,ff,ff,ff,ff,ff,ff]) rfl D3 (B8 rfl) rfl (by kernel_rfl) rfl rfl ?_
 refine aL 1 rfl (C4 rfl rfl) rfl ?_
 refine A0R (i := 2) (l' := [tt,tt,tt,ff,ff,ff,ff,ff,ff,ff,ff]) rfl D3 (M1 rfl rfl) rfl (by kernel_rfl) rfl rfl (fun h11 => ?_) (fun h11 => ?_)
 refine aP 3 rfl (qM rfl) rfl ?_
 refine aL 4 rfl (A6 rfl rfl) rfl ?_
 refine aP 5 rfl (B8 rfl) rfl ?_
 refine aL 6 rfl (C4 rfl rfl) rfl ?_
 refine A4 7 ?_
 (refine H4 rfl rfl (A6X tk G hk) rfl rfl rfl (fun v G1 hle1 hh => ?_); obtain ⟨cg, rfl, hrg⟩ := hh; have hT := A6M (.mk tk tks) (mGk tk) G1 _ _ (hr0.mono hle1) hrg; obtain ⟨pg, cgg, eg, rfl, _⟩ := hrg.open)
 refine A4 8 ?_
 refine N6 rfl rfl (hT) rfl rfl rfl ?_
 refine aP 9 rfl (N3 rfl rfl) rfl ?_
 refine aP 10 rfl (qA rfl) rfl ?_
 refine B7 ?_
 (exact ⟨rfl, by rw [decide_eq_true (by omega), Bool.true_and]⟩)
 refine aP 3 rfl (qM rfl) rfl ?_
 refine C5 4 rfl rfl rfl ?_
 refine C5 5 rfl rfl rfl ?_
 refine C5 6 rfl rfl rfl ?_
 refine C5 7 rfl rfl rfl ?_
 refine C5 8 rfl rfl rfl ?_
 refine aP 9 rfl (P6 rfl rfl) rfl ?_
 refine aP 10 rfl (qA rfl) rfl ?_
 refine B7 ?_
 (exact ⟨rfl, by rw [decide_eq_false (by omega), Bool.false_and]⟩)
theorem A2j {Q : Prop} (h : Q := by (exact ⟨rfl, by rw [decide_eq_true (by omega)], rfl⟩)) : Q := h
theorem A2T {Q : Prop} (h : Q := by (exact ⟨rfl, by rw [decide_eq_false (by omega)], rfl⟩)) : Q := h
theorem A2U (t : Tm) (G : IM) (cells : List Value) (hr : B3 G t cells) : Fn Tryz.prog 69 [.agg ⟨cells⟩] [] G (H5 (.bool (O9 t)) G) := by
 obtain ⟨k, nm, num, ⟨tk, tks⟩, ⟨fk, fks⟩, lb, ks⟩ := t
 obtain ⟨pt, ct, pf, cf, p, c, es, rfl, hk, hnum, hlb, hty, hfr, hsl, hkl⟩ := hr.open9
 have hd : O9 (.mk k nm num (.mk tk tks) (.mk fk fks) lb ks) = decide (k = 14 ∧ fk = tk ∧ (tk = 4 ∨ tk = 5)) := rfl
 rw [hd]
 refine C2 Tryz.func69 rfl Tryz.ntmps69 Tryz.results69 rfl ?_
 intro w0
 refine A5 ?_
 refine sE (C7 rfl rfl) rfl (fun b3 => ?_)
 refine B5 ?_
 refine sB (qE rfl rfl) rfl rfl (fun h11 => ?_) (fun h11 => ?_)
 refine B5 ?_
 refine sB (qE rfl rfl) rfl rfl (fun h19 => ?_) (fun h19 => ?_)
 refine B2 ?_
 refine sB (qE rfl rfl) rfl rfl (fun h25 => ?_) (fun h25 => ?_)
 refine N5 ?_
 exact A2j
 refine B7 ?_
 refine sB (qE rfl rfl) rfl rfl (fun h43 => ?_) (fun h43 => ?_)
 refine B5 ?_
 exact A2j
 refine B5 ?_
 exact A2T
 refine U1 ?_
 exact A2T
 refine A4S ?_
 exact A2T
theorem A5r {Q : Prop} (h : Q := by (exact ⟨rfl, by rw [decide_eq_false (by omega), Bool.false_and], rfl⟩)) : Q := h
theorem A4m (t : Tm) (G : IM) (cells : List Value) (hr : B3 G t cells) : Fn Tryz.prog 70 [.agg ⟨cells⟩] [] G (H5 (.bool (inj t)) G) := by
 obtain ⟨k, nm, num, ⟨tk, tks⟩, ⟨fk, fks⟩, lb, ks⟩ := t
 obtain ⟨pt, ct, pf, cf, p, c, es, rfl, hk, hnum, hlb, hty, hfr, hsl, hkl⟩ := hr.open9
 have hd : inj (.mk k nm num (.mk tk tks) (.mk fk fks) lb ks) = (decide (k = 14 ∧ tk = 1) && R7 (.mk fk fks)) := rfl
 rw [hd]
 refine C2 Tryz.func70 rfl Tryz.ntmps70 Tryz.results70 rfl ?_
 intro w0
 refine A5 ?_
 refine sE (C7 rfl rfl) rfl (fun b3 => ?_)
 refine B5 ?_
 refine sB (qE rfl rfl) rfl rfl (fun h11 => ?_) (fun h11 => ?_)
 refine B7 ?_
 refine sB (qE rfl rfl) rfl rfl (fun h16 => ?_) (fun h16 => ?_)
 refine B7 ?_
 refine H9 rfl ((B0z (.mk fk fks) G _ hfr)) rfl rfl ?_
 refine B0 ?_
 (exact ⟨rfl, by rw [decide_eq_true (by omega), Bool.true_and], rfl⟩)
 refine I8 ?_
 exact A5r
 refine K4 ?_
 exact A5r
theorem B5B (t : Tm) (G : IM) (cells : List Value) (hr : B3 G t cells) : Fn Tryz.prog 73 [.agg ⟨cells⟩] [] G (H5 (.bool (decide (t.k = 2 ∨ t.k = 3 ∨ t.k = 4 ∨ t.k = 5))) G) := by
 obtain ⟨k, nm, num, ⟨tk, tks⟩, ⟨fk, fks⟩, lb, ks⟩ := t
 obtain ⟨pt, ct, pf, cf, p, c, es, rfl, hk, hnum, hlb, hty, hfr, hsl, hkl⟩ := hr.open9
 rw [show (Tm.mk k nm num (.mk tk tks) (.mk fk fks) lb ks).k = k from rfl]
 refine C2 Tryz.func73 rfl Tryz.ntmps73 Tryz.results73 rfl ?_
 intro w0
 refine A5 ?_
 refine sE (C7 rfl rfl) rfl (fun b3 => ?_)
 refine B5 ?_
 refine sB (qE rfl rfl) rfl rfl (fun h11 => ?_) (fun h11 => ?_)
 refine A0o ?_
 exact A2j
 refine B9 ?_
 refine sB (qE rfl rfl) rfl rfl (fun h36 => ?_) (fun h36 => ?_)
 refine K4 ?_
 exact A2j
 refine B7 ?_
 refine sB (qE rfl rfl) rfl rfl (fun h58 => ?_) (fun h58 => ?_)
 refine I8 ?_
 exact A2j
 refine B7 ?_
 refine sB (qE rfl rfl) rfl rfl (fun h75 => ?_) (fun h75 => ?_)
 refine B0 ?_
 exact A2j
 refine B0 ?_
 exact A2T
theorem B5C (G : IM) (p : Option Addr) (n c : Nat) (es : List (List Value)) (hsl : E0 G p n c 9 es) (fid : FuncId) [C0 Tryz.prog fid] (us cs : List Value) (ins : List A7) (q : Nat → Bool)
  (hq : ∀ i e, es[i]? = some e → Fn Tryz.prog fid (us ++ [.agg ⟨e⟩] ++ cs) ins G (T9 (.bool (q i)) ins G)) :
  Fn Tryz.prog 112 [.slice p n c, .func (.func fid) ⟨us⟩ ⟨cs⟩] ins G (T9 (.int .i64 (A0H q n)) ins G) := by
 have hn := hsl.le
 refine C2 Tryz.func112 rfl Tryz.ntmps112 Tryz.results112 rfl ?_
 intro w0
 refine J4 ?_
 refine C3 ?_
 refine K2 (fun i : Nat => ⟨[(8, .int .i64 i), (7, .int .i64 n), (1, .func (.func fid) ⟨us⟩ ⟨cs⟩), (0, .slice p n c)], ins, G⟩) (fun i => i ≤ n ∧ ∀ j, j < i → q j = false) (fun i => n - i) 0 ?_ ?_ ?_
 exact E2
 exact ⟨by omega, by omega⟩
 rintro i ⟨hi, hf⟩
 refine A5 ?_
 refine sB (J8 rfl rfl) rfl rfl (fun h21 => ?_) (fun h21 => ?_)
 refine B5 ?_
 refine C3 ?_
 refine I8 ?_
 (obtain ⟨e, b, o, he, rfl, hl, _, hat, _⟩ := hsl.get (i := i) (by omega); refine sP (B6 rfl rfl rfl (by omega)) rfl rfl ?_)
 refine sL (A3 rfl rfl (hat _) hl) rfl rfl ?_
 refine A4Q rfl rfl (hq i e he) A0f rfl rfl (fun h43 => ?_) (fun h43 => ?_)
 refine H6 ?_
 refine H7 (rT rfl) A0.refl ?_
 exact ⟨rfl, by rw [A8i (by omega) hf (by assumption)], rfl⟩
 refine B5 ?_
 refine sP (J6 rfl rfl (by omega) (by omega)) rfl rfl ?_
 refine A5 ?_
 refine K3 (i + 1) ?_ ?_ ?_
 exact E2
 exact zq1
 omega
 refine H6 ?_
 refine H7 (rT rfl) A0.refl ?_
 exact ⟨rfl, by rw [A50 (fun j hj => hf j (by omega))], rfl⟩
theorem B5D (G : IM) (p : Option Addr) (n c : Nat) (es : List (List Value)) (hsl : E0 G p n c 9 es) (fid : FuncId) [C0 Tryz.prog fid] (us cs : List Value) (ins : List A7) (q : Nat → Bool)
  (hq : ∀ i e, es[i]? = some e → Fn Tryz.prog fid (us ++ [.agg ⟨e⟩] ++ cs) ins G (T9 (.bool (q i)) ins G)) :
  Fn Tryz.prog 71 [.slice p n c, .func (.func fid) ⟨us⟩ ⟨cs⟩] ins G (T9 (.bool (decide (0 ≤ A0H q n))) ins G) := by
 refine C2 Tryz.func71 rfl Tryz.ntmps71 Tryz.results71 rfl ?_
 intro w0
 refine E1 ?_
 refine A2w rfl (B5C G p n c es hsl fid us cs ins q hq) A0f rfl rfl ?_
 refine sQ (A0S rfl rfl) rfl ?_
 refine B7 ?_
 refine H7 (rT rfl) A0.refl ?_
 exact ⟨rfl, rfl, rfl⟩
theorem B5E (G : IM) (p : Option Addr) (n c : Nat) (es : List (List Value)) (hsl : E0 G p n c 9 es) (fid : FuncId) [C0 Tryz.prog fid] (us cs : List Value) (ins : List A7) (f : Tm → Bool) (ks : List Tm)
  (hn : ks.length = n) {A : Bool} (hA : ks.all f = A) (hq : ∀ i e, es[i]? = some e → Fn Tryz.prog fid (us ++ [.agg ⟨e⟩] ++ cs) ins G (T9 (.bool (!f (ks.getD i I3))) ins G)) :
  Fn Tryz.prog 71 [.slice p n c, .func (.func fid) ⟨us⟩ ⟨cs⟩] ins G (T9 (.bool (!A)) ins G) := by
 subst hn hA
 rw [← A8l f ks I3]
 exact B5D G p _ c es hsl fid us cs ins _ hq
theorem B0A : ∀ ks, A1c ks = ks.all E3
 | [] => rfl
 | t :: ts => by rw [A1c, B0A ts, List.all_cons]
theorem B5F (t : Tm) (G : IM) (cells : List Value) (hl : cells.length = 9) (ho : cells.all (·.oneCell') = true) (h : Fn Tryz.prog 37 [.agg ⟨cells⟩] [] G (H5 (.bool (E3 t)) G)) :
  Fn Tryz.prog 72 [.agg ⟨cells⟩] [] G (T9 (.bool (!E3 t)) [] G) := by
 refine C2 Tryz.func72 rfl Tryz.ntmps72 Tryz.results72 rfl ?_
 intro w0
 refine A5 ?_
 refine sE (C7 rfl rfl) rfl (fun b3 => ?_)
 refine B2 ?_
 refine sL (A3 rfl rfl (B1 (by repeat first | exact mH | apply mT)) hl) rfl rfl ?_
 refine H9 rfl (h) rfl rfl ?_
 refine sQ (A22 rfl) rfl ?_
 refine B2 ?_
 (exact ⟨rfl, rfl, rfl⟩)
theorem A0N (k : Int) (nm : ByteArray) (num : Int) (ty fr : Ty) (lb : Int) (ks : List Tm) : O9 (.mk k nm num ty fr lb ks) = decide (k = 14 ∧ fr.k = ty.k ∧ (ty.k = 4 ∨ ty.k = 5)) := rfl
theorem A4n (k : Int) (nm : ByteArray) (num : Int) (ty fr : Ty) (lb : Int) (ks : List Tm) : inj (.mk k nm num ty fr lb ks) = (decide (k = 14 ∧ ty.k = 1) && R7 fr) := rfl
theorem A3x {k : Int} {nm : ByteArray} {num : Int} {ty fr : Ty} {lb : Int} {ks : List Tm} (h : k = 10 ∨ O9 (.mk k nm num ty fr lb ks) = true ∨ inj (.mk k nm num ty fr lb ks) = true) : E3 (.mk k nm num ty fr lb ks) = ks.all E3 := by
 rw [E3, if_pos, B0A]
 rw [A0N, A4n] at h
 simp only [Bool.and_eq_true, decide_eq_true_eq] at h
 rcases h with h | h | h
 ·exact .inl h
 ·exact .inr (.inl h)
 ·exact .inr (.inr ⟨h.1.1, h.1.2, h.2⟩)
theorem A5s {k : Int} {nm : ByteArray} {num : Int} {ty fr : Ty} {lb : Int} {ks : List Tm} (h : ¬k = 10) (h2 : O9 (.mk k nm num ty fr lb ks) = false) (h3 : inj (.mk k nm num ty fr lb ks) = false) : E3 (.mk k nm num ty fr lb ks) = decide (k = 2 ∨ k = 3 ∨ k = 4 ∨ k = 5) := by
 rw [E3, if_neg]
 rw [A0N] at h2
 rw [A4n] at h3
 simp only [Bool.and_eq_false_iff, decide_eq_false_iff_not] at h2 h3
 rintro (h' | h' | h')
 ·exact h h'
 ·exact h2 h'
 ·rcases h3 with h3 | h3
  ·exact h3 ⟨h'.1, h'.2.1⟩
  ·rw [h3] at h'; cases h'.2.2
theorem A6Y {Q : Prop} (h : Q := by (exact ⟨rfl, by rw [hy (by first | exact .inl (by omega) | exact .inr (.inl (by assumption)) | exact .inr (.inr (by assumption)))]; cases A <;> rfl, rfl⟩)) : Q := h
theorem B0B : ∀ (t : Tm) (G : IM) (cells : List Value), B3 G t cells → Fn Tryz.prog 37 [.agg ⟨cells⟩] [] G (H5 (.bool (E3 t)) G) := by
 refine Tm.ind fun k nm num ty fr lb ks ih G cells hr => ?_
 have hr0 := hr
 have hP := A2U _ G _ hr
 have hI := A4m _ G _ hr
 have hPl := B5B _ G _ hr
 have hy := @A3x k nm num ty fr lb ks
 have hn := @A5s k nm num ty fr lb ks
 rw [show (Tm.mk k nm num ty fr lb ks).k = k from rfl] at hPl
 obtain ⟨A, hA⟩ : ∃ A, ks.all E3 = A := ⟨_, rfl⟩
 rw [hA] at hy
 generalize hpx : O9 (.mk k nm num ty fr lb ks) = bp at hP hy hn
 generalize hij : inj (.mk k nm num ty fr lb ks) = bi at hI hy hn
 generalize E3 (.mk k nm num ty fr lb ks) = R at hy hn ⊢
 obtain ⟨tk, tks⟩ := ty
 obtain ⟨fk, fks⟩ := fr
 obtain ⟨pt, ct, pf, cf, p, c, es, rfl, hk, hnum, hlb, hty, hfr, hsl, hkl⟩ := hr.open9
 have hC := B5E G p ks.length c es hsl 72 [] [] [] E3 ks rfl hA (fun i e he => by
  have hx := hkl.inv he I3
  exact B5F _ G e hx.2.len hx.2.one (ih _ hx.1 G e hx.2))
 refine C2 Tryz.func37 rfl Tryz.ntmps37 Tryz.results37 rfl ?_
 intro w0
 refine A5 ?_
 refine sE (C7 rfl rfl) rfl (fun b3 => ?_)
 refine D0 ?_
 refine sB (qE rfl rfl) rfl rfl (fun h12 => ?_) (fun h12 => ?_)
 refine H6 ?_
 refine A2w rfl hC A0f rfl rfl ?_
 refine sQ (A22 rfl) rfl ?_
 refine B0 ?_
 exact A6Y
 refine A5 ?_
 refine E8 rfl (hP) rfl rfl (fun h39 => ?_) (fun h39 => ?_)
 refine N5 ?_
 refine A2w rfl hC A0f rfl rfl ?_
 refine sQ (A22 rfl) rfl ?_
 refine B0 ?_
 exact A6Y
 refine B9 ?_
 refine E8 rfl (hI) rfl rfl (fun h64 => ?_) (fun h64 => ?_)
 refine D0 ?_
 refine A2w rfl hC A0f rfl rfl ?_
 refine sQ (A22 rfl) rfl ?_
 refine B0 ?_
 exact A6Y
 refine E1 ?_
 refine H9 rfl (hPl) rfl rfl ?_
 refine B2 ?_
 (exact ⟨rfl, by rw [hn (by omega) (by assumption) (by assumption)], rfl⟩)
theorem B3.put {G : IM} {k : Int} {nm : ByteArray} {num tk fk lb : Int} {tks fks : List Ty} {us : List Tm} {pt pf p : Option Addr} {ct cf n c : Nat} {es : List (List Value)} (hk : H1 k) (hnum : H1 num) (hlb : H1 lb) (hty : C1 G (.mk tk tks) [.int .i64 tk, .slice pt tks.length ct]) (hfr : C1 G (.mk fk fks) [.int .i64 fk, .slice pf fks.length cf])
  (hn : n = us.length) (hs : E0 G p n c 9 es) (hr : E4 G us es) : B3 G (.mk k nm num (.mk tk tks) (.mk fk fks) lb us) [.int .i64 k, .string nm, .int .i64 num, .int .i64 tk, .slice pt tks.length ct, .int .i64 fk, .slice pf fks.length cf, .int .i64 lb, .slice p n c] := by
 subst hn
 simp only [B3]
 exact ⟨_, _, p, c, es, rfl, hk, hnum, hlb, hty, hfr, hs, hr⟩
theorem nine {uc : List Value} (h : uc.length = 9) : ∃ v1 v2 v3 v4 v5 v6 v7 v8 v9, uc = [v1, v2, v3, v4, v5, v6, v7, v8, v9] := by
 match uc, h with
 | [a, b, c, d, e, f, g, i, j], _ => exact ⟨a, b, c, d, e, f, g, i, j, rfl⟩
theorem B0C {x : ByteArray} {v : Tm} {ks : List Tm} {i : Nat} (h : i < ks.length) : (Q0 x v ks).take (i + 1) = (Q0 x v ks).take i ++ [R8 x v ks[i]] := by
 rw [A5e, List.take_succ_eq_append_getElem (by rw [List.length_map]; exact h), List.getElem_map]
theorem A1s (x : ByteArray) (v : Tm) (ks : List Tm) : (Q0 x v ks).length = ks.length := by rw [A5e, List.length_map]
theorem A3y {Q : Prop} (h : Q := by (exact ⟨Nat.zero_le _, C6.refl _, by simp [E4]⟩)) : Q := h
theorem A6Z {Q : Prop} (h : Q := by (dsimp only; exact ⟨by omega, hle.trans hle1, by rw [B0C (by omega)]; exact E4.snoc (hst.mono hle1) hru⟩)) : Q := h
theorem A60 {Q : Prop} (h : Q := by (rw [if_neg (by rintro ⟨h1, h2⟩; first | omega | contradiction), if_neg (by rintro ⟨h1, h2⟩; first | omega | contradiction)]; rw [List.take_of_length_le (by rw [A1s]; omega)] at hst; exact X3.mk (B3.put hk hnum hlb (hty.mono hle2) (hfr.mono hle2) (by rw [A1s]) (E0.of hsl2 (by omega) hst.all (fun e he => (hst.each e he).2)) (hst.mono hle2)))) : Q := h
theorem B5G (y : ByteArray) (v : Tm) (vc : List Value) : ∀ (t : Tm) (G : IM) (cells : List Value), t.small → B3 G t cells → B3 G v vc → Fn Tryz.prog 168 [.agg ⟨cells⟩, .string y, .agg ⟨vc⟩] [] G (X3 (R8 y v t)) := by
 refine Tm.ind fun k nm num ty fr lb ks ih G cells hts hr hv => ?_
 have hr0 := hr
 obtain ⟨_, _, _, hsm, hks⟩ := A0t.1 hts
 have hvl := hv.len
 have hvo := hv.one
 have hRl := hr.len
 have hRo := hr.one
 rw [R8]
 obtain ⟨tk, tks⟩ := ty
 obtain ⟨fk, fks⟩ := fr
 obtain ⟨pt, ct, pf, cf, p, c, es, rfl, hk, hnum, hlb, hty, hfr, hsl, hkl⟩ := hr.open9
 have hn := hsl.le
 refine C2 Tryz.func168 rfl Tryz.ntmps168 Tryz.results168 rfl ?_
 intro w0
 refine A5 ?_
 refine sE (C7 rfl rfl) rfl (fun b3 => ?_)
 refine sE (C7 rfl rfl) rfl (fun b4 => ?_)
 refine sE (A8 rfl) rfl (fun b5 => ?_)
 refine B9 ?_
 refine C3 ?_
 refine B7 ?_
 refine sB (qE rfl rfl) rfl rfl (fun h14 => ?_) (fun h14 => ?_)
 refine B7 ?_
 refine sB (A0F rfl rfl) rfl rfl (fun h19 => ?_) (fun h19 => ?_)
 refine B5 ?_
 refine sL (A3 rfl rfl (B1 (by repeat first | exact mH | apply mT)) hvl) rfl rfl ?_
 refine sS rfl rfl rfl hvl hvo rfl ?_ (hu := by exact D4 hvl.symm)
 refine B2 ?_
 refine N4 (rC rfl (A3 rfl rfl (B1 (by repeat first | exact mH | apply mT)) hvl)) ?_
 (rw [if_pos (by refine ⟨by omega, by assumption⟩)]; exact X3.mk hv)
 refine E1 ?_
 refine sP (I7 rfl rfl (by omega)) rfl rfl ?_
 refine K4 ?_
 refine sE (A8 rfl) rfl (fun b62 => ?_)
 refine U1 ?_
 refine C3 ?_
 (refine U9 28 9 ?_; refine K2 (fun (x : Nat × Option Addr × Nat × List (List Value) × IM) => ⟨[(37, .int .i64 x.1), (36, .int .i64 ks.length), (35, .slice p ks.length c), (1, .string y), (3, .pointer (some ⟨b3, 0, none⟩)), (5, .pointer (some ⟨b4, 0, none⟩)), (6, .pointer (some ⟨b5, 0, none⟩)), (7, .pointer (some ⟨b62, 0, none⟩))], [.blk b62 [.int .i64 k, .string nm, .int .i64 num, .int .i64 tk, .slice pt tks.length ct, .int .i64 fk, .slice pf fks.length cf, .int .i64 lb, .slice x.2.1 x.1 x.2.2.1], .slc x.2.1 x.2.2.1 28 9 x.1 x.2.2.2.1.flatten, .blk b5 [.int .i64 0, .string ⟨⟨[]⟩⟩, .int .i64 0, .int .i64 0, .slice none 0 0, .int .i64 0, .slice none 0 0, .int .i64 0, .slice none 0 0], .blk b4 vc, .blk b3 [.int .i64 k, .string nm, .int .i64 num, .int .i64 tk, .slice pt tks.length ct, .int .i64 fk, .slice pf fks.length cf, .int .i64 lb, .slice p ks.length c]], x.2.2.2.2⟩) (fun x => x.1 ≤ ks.length ∧ C6 G x.2.2.2.2 ∧ E4 x.2.2.2.2 ((Q0 y v ks).take x.1) x.2.2.2.1) (fun x => ks.length - x.1) (0, none, 0, [], G) ?_ ?_ ?_)
 (simp only [J9]; exact E2)
 exact A3y
 (rintro ⟨i, pn, cn, es', Gi⟩ ⟨hi, hle, hst⟩; simp only [] at hi hle hst ⊢; replace hsl := hsl.mono hle; replace hkl := hkl.mono hle; replace hv := hv.mono hle; replace hty := hty.mono hle; replace hfr := hfr.mono hle; have hsl' := hst.len; rw [List.length_take, A1s] at hsl')
 refine A5 ?_
 refine sB (J8 rfl rfl) rfl rfl (fun h88 => ?_) (fun h88 => ?_)
 refine B5 ?_
 refine C3 ?_
 refine A5 ?_
 (have hil : i < ks.length := (by omega); obtain ⟨bx, ox, e, rfl, hl, hat, hre, hgb⟩ := hsl.kidTm hkl (i := i) (by omega) (by omega); have hel := hre.len; have heo := hre.one; refine sP (B6 (j := i) rfl rfl rfl (by omega)) rfl rfl ?_)
 refine sL (A3 rfl rfl (hat _) hl) rfl rfl ?_
 refine sE (A8 rfl) rfl (fun b101 => ?_)
 refine sS rfl rfl rfl hel heo rfl ?_ (hu := by exact D4 hel.symm)
 refine A5 ?_
 refine D8 D9 rfl ?_
 refine L3 (i := 2) (l' := [ff,ff,tt,ff,ff,ff,ff,ff,ff,ff]) rfl D3 (A3 rfl rfl (B1 (by repeat first | exact mH | apply mT)) hel) rfl (by kernel_rfl) rfl rfl ?_
 refine aL 4 rfl (A3 rfl rfl (B1 (by repeat first | exact mH | apply mT)) hvl) rfl ?_
 refine aP 0 rfl (B8 rfl) rfl ?_
 refine aL 1 rfl (C4 rfl rfl) rfl ?_
 refine aP 3 rfl (qM rfl) rfl ?_
 refine A4 5 ?_
 (refine H4 rfl rfl (ih ks[i] (List.getElem_mem (by omega)) Gi _ (Tm.smallL_mem hks _ (List.getElem_mem (by omega))) hre hv) rfl rfl rfl (fun u G1 hle1 hh => ?_); obtain ⟨uc, rfl, hru⟩ := hh; have hul := hru.len; have huo := hru.one; obtain ⟨v1, v2, v3, v4, v5, v6, v7, v8, v9, rfl⟩ := nine hul)
 refine A4 6 ?_
 (refine E6 rfl (D2 rfl rfl rfl (by omega) (by unfold maxLen; omega) rfl) rfl rfl ?_; rintro _ ⟨b114, rfl⟩)
 refine A4 7 ?_
 (refine R4 rfl rfl rfl rfl rfl rfl (fun _ _ => by repeat (first | exact Sw.here | apply Sw.there)) (O2 (by repeat first | exact mH | apply mT)) rfl (fun u hu => List.all_eq_true.1 huo u hu) (by unfold maxLen; omega) (by omega) rfl rfl (by repeat (first | exact A9.nil | apply A9.dep (by decide +kernel) | apply A9.im (by decide +kernel) (by assumption) (by repeat first | exact mH | apply mT) | apply A9.blk (by decide +kernel) (by repeat (first | exact Pk.here | apply Pk.there)) (by repeat first | exact mH | apply mT))) (fun p7 c7 => ?_))
 refine aP 8 rfl (B8 rfl) rfl ?_
 refine A4 9 ?_
 refine R9 rfl rfl rfl rfl rfl rfl rfl rfl (by decide +kernel) (by repeat first | exact Sw.here | apply Sw.there) (by rfl) ?_
 refine B7 ?_
 refine sP (J6 rfl rfl (by omega) (by omega)) rfl rfl ?_
 refine A5 ?_
 refine K3 (i + 1, p7, c7, es' ++ [[v1, v2, v3, v4, v5, v6, v7, v8, v9]], G1) ?_ ?_ ?_
 (simp only [J9]; exact E2)
 exact A6Z
 exact X7
 refine H6 ?_
 (refine H3 (cs := es'.flatten) (by repeat (first | exact Pk.here | apply Pk.there)) (fun G2 hle2 hsl2 hno2 => ?_); obtain rfl : i = ks.length := (by omega))
 refine tT ?_
 refine N4 (rC rfl (A6 rfl rfl)) ?_
 exact A60
 refine J1 ?_
 refine sB (qE rfl rfl) rfl rfl (fun h164 => ?_) (fun h164 => ?_)
 refine B7 ?_
 refine sB (A0F rfl rfl) rfl rfl (fun h169 => ?_) (fun h169 => ?_)
 refine J1 ?_
 refine N4 (rC rfl (A6 rfl rfl)) ?_
 (rw [if_neg (by rintro ⟨h1, h2⟩; first | omega | contradiction), if_pos (by refine ⟨by omega, by assumption⟩)]; exact X3.mk hr0)
 refine I8 ?_
 refine sE (A8 rfl) rfl (fun b197 => ?_)
 refine U1 ?_
 refine C3 ?_
 (refine U9 28 9 ?_; refine K2 (fun (x : Nat × Option Addr × Nat × List (List Value) × IM) => ⟨[(37, .int .i64 x.1), (36, .int .i64 ks.length), (35, .slice p ks.length c), (1, .string y), (3, .pointer (some ⟨b3, 0, none⟩)), (5, .pointer (some ⟨b4, 0, none⟩)), (6, .pointer (some ⟨b5, 0, none⟩)), (7, .pointer (some ⟨b197, 0, none⟩))], [.blk b197 [.int .i64 k, .string nm, .int .i64 num, .int .i64 tk, .slice pt tks.length ct, .int .i64 fk, .slice pf fks.length cf, .int .i64 lb, .slice x.2.1 x.1 x.2.2.1], .slc x.2.1 x.2.2.1 28 9 x.1 x.2.2.2.1.flatten, .blk b5 [.int .i64 0, .string ⟨⟨[]⟩⟩, .int .i64 0, .int .i64 0, .slice none 0 0, .int .i64 0, .slice none 0 0, .int .i64 0, .slice none 0 0], .blk b4 vc, .blk b3 [.int .i64 k, .string nm, .int .i64 num, .int .i64 tk, .slice pt tks.length ct, .int .i64 fk, .slice pf fks.length cf, .int .i64 lb, .slice p ks.length c]], x.2.2.2.2⟩) (fun x => x.1 ≤ ks.length ∧ C6 G x.2.2.2.2 ∧ E4 x.2.2.2.2 ((Q0 y v ks).take x.1) x.2.2.2.1) (fun x => ks.length - x.1) (0, none, 0, [], G) ?_ ?_ ?_)
 (simp only [J9]; exact E2)
 exact A3y
 (rintro ⟨i, pn, cn, es', Gi⟩ ⟨hi, hle, hst⟩; simp only [] at hi hle hst ⊢; replace hsl := hsl.mono hle; replace hkl := hkl.mono hle; replace hv := hv.mono hle; replace hty := hty.mono hle; replace hfr := hfr.mono hle; have hsl' := hst.len; rw [List.length_take, A1s] at hsl')
 refine A5 ?_
 refine sB (J8 rfl rfl) rfl rfl (fun h223 => ?_) (fun h223 => ?_)
 refine B5 ?_
 refine C3 ?_
 refine A5 ?_
 (have hil : i < ks.length := (by omega); obtain ⟨bx, ox, e, rfl, hl, hat, hre, hgb⟩ := hsl.kidTm hkl (i := i) (by omega) (by omega); have hel := hre.len; have heo := hre.one; refine sP (B6 (j := i) rfl rfl rfl (by omega)) rfl rfl ?_)
 refine sL (A3 rfl rfl (hat _) hl) rfl rfl ?_
 refine sE (A8 rfl) rfl (fun b236 => ?_)
 refine sS rfl rfl rfl hel heo rfl ?_ (hu := by exact D4 hel.symm)
 refine A5 ?_
 refine D8 D9 rfl ?_
 refine L3 (i := 2) (l' := [ff,ff,tt,ff,ff,ff,ff,ff,ff,ff]) rfl D3 (A3 rfl rfl (B1 (by repeat first | exact mH | apply mT)) hel) rfl (by kernel_rfl) rfl rfl ?_
 refine aL 4 rfl (A3 rfl rfl (B1 (by repeat first | exact mH | apply mT)) hvl) rfl ?_
 refine aP 0 rfl (B8 rfl) rfl ?_
 refine aL 1 rfl (C4 rfl rfl) rfl ?_
 refine aP 3 rfl (qM rfl) rfl ?_
 refine A4 5 ?_
 (refine H4 rfl rfl (ih ks[i] (List.getElem_mem (by omega)) Gi _ (Tm.smallL_mem hks _ (List.getElem_mem (by omega))) hre hv) rfl rfl rfl (fun u G1 hle1 hh => ?_); obtain ⟨uc, rfl, hru⟩ := hh; have hul := hru.len; have huo := hru.one; obtain ⟨v1, v2, v3, v4, v5, v6, v7, v8, v9, rfl⟩ := nine hul)
 refine A4 6 ?_
 (refine E6 rfl (D2 rfl rfl rfl (by omega) (by unfold maxLen; omega) rfl) rfl rfl ?_; rintro _ ⟨b249, rfl⟩)
 refine A4 7 ?_
 (refine R4 rfl rfl rfl rfl rfl rfl (fun _ _ => by repeat (first | exact Sw.here | apply Sw.there)) (O2 (by repeat first | exact mH | apply mT)) rfl (fun u hu => List.all_eq_true.1 huo u hu) (by unfold maxLen; omega) (by omega) rfl rfl (by repeat (first | exact A9.nil | apply A9.dep (by decide +kernel) | apply A9.im (by decide +kernel) (by assumption) (by repeat first | exact mH | apply mT) | apply A9.blk (by decide +kernel) (by repeat (first | exact Pk.here | apply Pk.there)) (by repeat first | exact mH | apply mT))) (fun p7 c7 => ?_))
 refine aP 8 rfl (B8 rfl) rfl ?_
 refine A4 9 ?_
 refine R9 rfl rfl rfl rfl rfl rfl rfl rfl (by decide +kernel) (by repeat first | exact Sw.here | apply Sw.there) (by rfl) ?_
 refine B7 ?_
 refine sP (J6 rfl rfl (by omega) (by omega)) rfl rfl ?_
 refine A5 ?_
 refine K3 (i + 1, p7, c7, es' ++ [[v1, v2, v3, v4, v5, v6, v7, v8, v9]], G1) ?_ ?_ ?_
 (simp only [J9]; exact E2)
 exact A6Z
 exact X7
 refine H6 ?_
 (refine H3 (cs := es'.flatten) (by repeat (first | exact Pk.here | apply Pk.there)) (fun G2 hle2 hsl2 hno2 => ?_); obtain rfl : i = ks.length := (by omega))
 refine tT ?_
 refine N4 (rC rfl (A6 rfl rfl)) ?_
 exact A60
 refine K4 ?_
 refine sE (A8 rfl) rfl (fun b301 => ?_)
 refine U1 ?_
 refine C3 ?_
 (refine U9 28 9 ?_; refine K2 (fun (x : Nat × Option Addr × Nat × List (List Value) × IM) => ⟨[(37, .int .i64 x.1), (36, .int .i64 ks.length), (35, .slice p ks.length c), (1, .string y), (3, .pointer (some ⟨b3, 0, none⟩)), (5, .pointer (some ⟨b4, 0, none⟩)), (6, .pointer (some ⟨b5, 0, none⟩)), (7, .pointer (some ⟨b301, 0, none⟩))], [.blk b301 [.int .i64 k, .string nm, .int .i64 num, .int .i64 tk, .slice pt tks.length ct, .int .i64 fk, .slice pf fks.length cf, .int .i64 lb, .slice x.2.1 x.1 x.2.2.1], .slc x.2.1 x.2.2.1 28 9 x.1 x.2.2.2.1.flatten, .blk b5 [.int .i64 0, .string ⟨⟨[]⟩⟩, .int .i64 0, .int .i64 0, .slice none 0 0, .int .i64 0, .slice none 0 0, .int .i64 0, .slice none 0 0], .blk b4 vc, .blk b3 [.int .i64 k, .string nm, .int .i64 num, .int .i64 tk, .slice pt tks.length ct, .int .i64 fk, .slice pf fks.length cf, .int .i64 lb, .slice p ks.length c]], x.2.2.2.2⟩) (fun x => x.1 ≤ ks.length ∧ C6 G x.2.2.2.2 ∧ E4 x.2.2.2.2 ((Q0 y v ks).take x.1) x.2.2.2.1) (fun x => ks.length - x.1) (0, none, 0, [], G) ?_ ?_ ?_)
 (simp only [J9]; exact E2)
 exact A3y
 (rintro ⟨i, pn, cn, es', Gi⟩ ⟨hi, hle, hst⟩; simp only [] at hi hle hst ⊢; replace hsl := hsl.mono hle; replace hkl := hkl.mono hle; replace hv := hv.mono hle; replace hty := hty.mono hle; replace hfr := hfr.mono hle; have hsl' := hst.len; rw [List.length_take, A1s] at hsl')
 refine A5 ?_
 refine sB (J8 rfl rfl) rfl rfl (fun h327 => ?_) (fun h327 => ?_)
 refine B5 ?_
 refine C3 ?_
 refine A5 ?_
 (have hil : i < ks.length := (by omega); obtain ⟨bx, ox, e, rfl, hl, hat, hre, hgb⟩ := hsl.kidTm hkl (i := i) (by omega) (by omega); have hel := hre.len; have heo := hre.one; refine sP (B6 (j := i) rfl rfl rfl (by omega)) rfl rfl ?_)
 refine sL (A3 rfl rfl (hat _) hl) rfl rfl ?_
 refine sE (A8 rfl) rfl (fun b340 => ?_)
 refine sS rfl rfl rfl hel heo rfl ?_ (hu := by exact D4 hel.symm)
 refine A5 ?_
 refine D8 D9 rfl ?_
 refine L3 (i := 2) (l' := [ff,ff,tt,ff,ff,ff,ff,ff,ff,ff]) rfl D3 (A3 rfl rfl (B1 (by repeat first | exact mH | apply mT)) hel) rfl (by kernel_rfl) rfl rfl ?_
 refine aL 4 rfl (A3 rfl rfl (B1 (by repeat first | exact mH | apply mT)) hvl) rfl ?_
 refine aP 0 rfl (B8 rfl) rfl ?_
 refine aL 1 rfl (C4 rfl rfl) rfl ?_
 refine aP 3 rfl (qM rfl) rfl ?_
 refine A4 5 ?_
 (refine H4 rfl rfl (ih ks[i] (List.getElem_mem (by omega)) Gi _ (Tm.smallL_mem hks _ (List.getElem_mem (by omega))) hre hv) rfl rfl rfl (fun u G1 hle1 hh => ?_); obtain ⟨uc, rfl, hru⟩ := hh; have hul := hru.len; have huo := hru.one; obtain ⟨v1, v2, v3, v4, v5, v6, v7, v8, v9, rfl⟩ := nine hul)
 refine A4 6 ?_
 (refine E6 rfl (D2 rfl rfl rfl (by omega) (by unfold maxLen; omega) rfl) rfl rfl ?_; rintro _ ⟨b353, rfl⟩)
 refine A4 7 ?_
 (refine R4 rfl rfl rfl rfl rfl rfl (fun _ _ => by repeat (first | exact Sw.here | apply Sw.there)) (O2 (by repeat first | exact mH | apply mT)) rfl (fun u hu => List.all_eq_true.1 huo u hu) (by unfold maxLen; omega) (by omega) rfl rfl (by repeat (first | exact A9.nil | apply A9.dep (by decide +kernel) | apply A9.im (by decide +kernel) (by assumption) (by repeat first | exact mH | apply mT) | apply A9.blk (by decide +kernel) (by repeat (first | exact Pk.here | apply Pk.there)) (by repeat first | exact mH | apply mT))) (fun p7 c7 => ?_))
 refine aP 8 rfl (B8 rfl) rfl ?_
 refine A4 9 ?_
 refine R9 rfl rfl rfl rfl rfl rfl rfl rfl (by decide +kernel) (by repeat first | exact Sw.here | apply Sw.there) (by rfl) ?_
 refine B7 ?_
 refine sP (J6 rfl rfl (by omega) (by omega)) rfl rfl ?_
 refine A5 ?_
 refine K3 (i + 1, p7, c7, es' ++ [[v1, v2, v3, v4, v5, v6, v7, v8, v9]], G1) ?_ ?_ ?_
 (simp only [J9]; exact E2)
 exact A6Z
 exact X7
 refine H6 ?_
 (refine H3 (cs := es'.flatten) (by repeat (first | exact Pk.here | apply Pk.there)) (fun G2 hle2 hsl2 hno2 => ?_); obtain rfl : i = ks.length := (by omega))
 refine tT ?_
 refine N4 (rC rfl (A6 rfl rfl)) ?_
 exact A60
theorem A1t (e : Tm) (a b : Ty) (l : Int) (G : IM) (ce ca cb : List Value) (hl : H1 l) (he : B3 G e ce) (ha : C1 G a ca) (hb : C1 G b cb) : Fn Tryz.prog 170 [.agg ⟨ce⟩, .agg ⟨ca⟩, .agg ⟨cb⟩, .int .i64 l] [] G (X3 (K7 e a b l)) := by
 have hel := he.len
 have heo := he.one
 obtain ⟨v1, v2, v3, v4, v5, v6, v7, v8, v9, rfl⟩ := nine hel
 obtain ⟨ak, aks⟩ := a
 obtain ⟨bk, bks⟩ := b
 obtain ⟨pa, cca, ea, rfl, _⟩ := ha.open
 obtain ⟨pb, ccb, eb, rfl, _⟩ := hb.open
 refine C2 Tryz.func170 rfl Tryz.ntmps170 Tryz.results170 rfl ?_
 intro w0
 refine A5 ?_
 refine sE (C7 rfl rfl) rfl (fun b3 => ?_)
 refine sE (C7 rfl rfl) rfl (fun b4 => ?_)
 refine sE (C7 rfl rfl) rfl (fun b5 => ?_)
 refine sE (A8 rfl) rfl (fun b6 => ?_)
 refine B7 ?_
 refine sL (A3 rfl rfl (B1 (by repeat first | exact mH | apply mT)) rfl) rfl rfl ?_
 refine sL (A3 rfl rfl (B1 (by repeat first | exact mH | apply mT)) rfl) rfl rfl ?_
 refine F0 ?_
 refine sL (A3 rfl rfl (B1 (by repeat first | exact mH | apply mT)) rfl) rfl rfl ?_
 (refine J5 (D2 rfl rfl rfl (by omega) (by unfold maxLen; omega) rfl) rfl ?_; rintro _ ⟨b15, rfl⟩)
 refine B7 ?_
 (refine H3 (cs := [v1, v2, v3, v4, v5, v6, v7, v8, v9]) (by repeat (first | exact Pk.here | apply Pk.there)) (fun G2 hle2 hsl2 hno2 => ?_))
 refine tT ?_
 refine N4 (rC rfl (A6 rfl rfl)) ?_
 (exact X3.mk (B3.put (us := [e]) (es := [[v1, v2, v3, v4, v5, v6, v7, v8, v9]]) ⟨by decide, by decide⟩ ⟨by decide, by decide⟩ hl (hb.mono hle2) (ha.mono hle2) rfl (E0.of hsl2 rfl (by intro x hx; obtain rfl := List.mem_singleton.1 hx; rfl) (by intro x hx; obtain rfl := List.mem_singleton.1 hx; exact heo)) (by simp only [E4]; exact ⟨_, _, rfl, he.mono hle2, rfl⟩)))
theorem A3z (k : Int) (p : Option Addr) (n c : Nat) (G : IM) : Fn Tryz.prog 171 [.int .i64 k, .slice p n c] [] G (H5 (.agg ⟨[.int .i64 k, .string ⟨⟨[]⟩⟩, .int .i64 0, .int .i64 0, .slice none 0 0, .int .i64 0, .slice none 0 0, .int .i64 0, .slice p n c]⟩) G) := by
 refine C2 Tryz.func171 rfl Tryz.ntmps171 Tryz.results171 rfl ?_
 intro w0
 refine A5 ?_
 refine sE (A8 rfl) rfl (fun b3 => ?_)
 refine I8 ?_
 refine N4 (rC rfl (A6 rfl rfl)) ?_
 (exact ⟨rfl, rfl, rfl⟩)
theorem B5H (G : IM) {k : Int} (hk : H1 k) : B3 G (Y2 k []) [.int .i64 k, .string ⟨⟨[]⟩⟩, .int .i64 0, .int .i64 0, .slice none 0 0, .int .i64 0, .slice none 0 0, .int .i64 0, .slice none 0 0] := A0Z hk rfl (E0.nil _ _) rfl
theorem A5t {Q : Prop} (h : Q := by (exact X3.mk (B5H _ ⟨by decide, by decide⟩))) : Q := h
theorem B5I (G : IM) : Fn Tryz.prog 169 [.bool true] [] G (X3 (Y3 (true = true))) := by
 refine C2 Tryz.func169 rfl Tryz.ntmps169 Tryz.results169 rfl ?_
 intro w0
 refine A5 ?_
 refine sE (A8 rfl) rfl (fun b3 => ?_)
 refine I8 ?_
 refine H9 rfl ((A3z _ _ _ _ _)) rfl rfl ?_
 refine B2 ?_
 refine N4 (rC rfl (A6 rfl rfl)) ?_
 exact A5t
theorem B5J (G : IM) : Fn Tryz.prog 169 [.bool false] [] G (X3 (Y3 (false = true))) := by
 refine C2 Tryz.func169 rfl Tryz.ntmps169 Tryz.results169 rfl ?_
 intro w0
 refine A5 ?_
 refine sE (A8 rfl) rfl (fun b3 => ?_)
 refine J4 ?_
 refine H9 rfl ((A3z _ _ _ _ _)) rfl rfl ?_
 refine B7 ?_
 refine N4 (rC rfl (A6 rfl rfl)) ?_
 exact A5t
theorem B0D (b : Bool) (G : IM) : Fn Tryz.prog 169 [.bool b] [] G (X3 (Y3 (b = true))) := by
 cases b
 ·exact B5J G
 ·exact B5I G
theorem B0E {a b : Int} (h : 0 ≤ a ∧ a ≤ 999) (h' : 0 ≤ b ∧ b ≤ 999) : (a + b).tmod 1000 = (a + b) % 1000 := by
 rw [Int.tmod_eq_emod_of_nonneg (by omega)]
def Y5 (k : Int) (ks : List Tm) : Option Tm :=
 if k = 6 then (if (kd ks 0).k = 5 then some (R8 (kd ks 0).nm (kd ks 1) (kd (kd ks 0).ks 0)) else none)
 else if k = 7 ∨ k = 8 then (if (kd ks 0).k = 2 ∧ (kd ks 1).k = 2 then some (if k = 7 then A2a (((kd ks 0).num + (kd ks 1).num) % 1000) else Y3 ((kd ks 0).num < (kd ks 1).num)) else none)
 else if k = 9 then (if (kd ks 0).k = 3 then some (kd ks 1) else if (kd ks 0).k = 4 then some (kd ks 2) else none)
 else if k = 11 ∨ k = 12 then (if (kd ks 0).k = 10 then some (kd (kd ks 0).ks (k - 11).toNat) else none)
 else none
def V5 (o : Option Tm) : IM → Value → List A7 → Prop := M3 fun G' v => ∃ u cells c, v = .tuple ⟨[.agg ⟨cells⟩, .int .i64 c]⟩ ∧ B3 G' u cells ∧ (∀ x, o = some x → c = 1 ∧ u = x) ∧ (o = none → c = 3)
theorem V5.yes {G : IM} {o : Option Tm} {u : Tm} {cells : List Value} (h : o = some u) (hr : B3 G u cells) : V5 o G (.tuple ⟨[.agg ⟨cells⟩, .int .i64 1]⟩) [] := by
 subst h; exact ⟨rfl, u, cells, 1, rfl, hr, fun x hx => (by cases hx; exact ⟨rfl, rfl⟩), fun h => (by cases h)⟩
theorem V5.no {G : IM} {o : Option Tm} {u : Tm} {cells : List Value} (h : o = none) (hr : B3 G u cells) : V5 o G (.tuple ⟨[.agg ⟨cells⟩, .int .i64 3]⟩) [] := by
 subst h; exact ⟨rfl, u, cells, 3, rfl, hr, fun x hx => (by cases hx), fun _ => rfl⟩
theorem P5 (G : IM) : B3 G I3 [.int .i64 0, .string ⟨⟨[]⟩⟩, .int .i64 0, .int .i64 0, .slice none 0 0, .int .i64 0, .slice none 0 0, .int .i64 0, .slice none 0 0] := (Q4.zero G).R
theorem A2V {Q : Prop} (h : Q := by (exact V5.no (by rw [if_neg (by omega)]) (P5 _))) : Q := h
theorem B5K (a b : Tm) (nm : ByteArray) (num : Int) (ty fr : Ty) (lb : Int) (G : IM) (cells : List Value) (hca : cv a) (hr : B3 G (.mk 6 nm num ty fr lb [a, b]) cells) : Fn Tryz.prog 143 [.agg ⟨cells⟩] [] G (V5 (Y5 6 [a, b])) := by
 have hsm := A2L a hca
 obtain ⟨ak, anm, anum, ⟨atk, atks⟩, ⟨afk, afks⟩, alb, aks⟩ := a
 obtain ⟨tk, tks⟩ := ty
 obtain ⟨fk, fks⟩ := fr
 obtain ⟨pt, ct, pf, cf, p, c, es, rfl, hk, hnum, hlb, hty, hfr, hsl, hkl⟩ := hr.open9
 obtain ⟨bx, ox, e0, rfl, hl0, hat0, hre0, hgb0⟩ := hsl.kidTm hkl (i := 0) (by simp) (by simp)
 replace hre0 : B3 G (.mk ak anm anum (.mk atk atks) (.mk afk afks) alb aks) e0 := hre0
 obtain ⟨apt, act, apf, acf, ap, ac, aes, rfl, hak, hanum, halb, haty, hafr, hasl, hakl⟩ := hre0.open9
 obtain ⟨_, _, e1, hp1, hl1, hat1, hre1, hgb1⟩ := hsl.kidTm hkl (i := 1) (by simp) (by simp)
 cases hp1
 replace hre1 : B3 G b e1 := hre1
 have ho1 := hre1.one
 obtain ⟨hN, _⟩ := hca.node
 have hops := hN.ops
 obtain ⟨_, _, _, _, hksm⟩ := A0t.1 hsm
 have h1 : ak = 5 → aks.length = 1 := fun h => by rw [h] at hops; have : D7 5 = 1 := rfl; omega
 have hL : ([Tm.mk ak anm anum (.mk atk atks) (.mk afk afks) alb aks, b] : List Tm).length = 2 := rfl
 rw [show Y5 6 [Tm.mk ak anm anum (.mk atk atks) (.mk afk afks) alb aks, b] = (if ak = 5 then some (R8 anm b (kd aks 0)) else none) from rfl]
 refine C2 Tryz.func143 rfl Tryz.ntmps143 Tryz.results143 rfl ?_
 intro w0
 refine A5 ?_
 refine sE (C7 rfl rfl) rfl (fun b3 => ?_)
 refine sE (A8 rfl) rfl (fun b4 => ?_)
 refine B0 ?_
 refine sE (A8 rfl) rfl (fun b11 => ?_)
 refine E1 ?_
 refine sP (A3O rfl rfl (by omega)) rfl rfl ?_
 refine B0 ?_
 refine sP (B6 (j := 0) rfl rfl rfl (by simp)) rfl rfl ?_
 refine sL (A3 rfl rfl (hat0 _) rfl) rfl rfl ?_
 refine J0 ?_
 refine C3 ?_
 refine A5 ?_
 refine sP (W8 rfl rfl (by omega)) rfl rfl ?_
 refine D0 ?_
 refine sB (qE rfl rfl) rfl rfl (fun h52 => ?_) (fun h52 => ?_)
 refine B7 ?_
 (have hq : ak = 5 := (by omega); have hq1 := h1 hq; obtain ⟨bq, oq, e3, rfl, hl3, hat3, hre3, hgb3⟩ := hasl.kidTm hakl (i := 0) (by omega) (by omega); have hS := B5G anm b e1 aks[0] G e3 (Tm.smallL_mem hksm _ (List.getElem_mem (by omega))) hre3 hre1; refine D8 D9 rfl ?_)
 refine I6 (i := 0) (l' := [tt,ff,ff,ff,ff,ff,ff,ff,ff,ff,ff,ff,ff]) rfl D3 (B8 rfl) rfl (by kernel_rfl) rfl rfl ?_
 refine aL 1 rfl (C4 rfl rfl) rfl ?_
 refine aP 2 rfl (B6 (j := 0) rfl rfl rfl (by omega)) rfl ?_
 refine aL 3 rfl (A3 rfl rfl (hat3 _) hl3) rfl ?_
 refine aP 4 rfl (B8 rfl) rfl ?_
 refine aL 5 rfl (C4 rfl rfl) rfl ?_
 refine aP 6 rfl (B8 rfl) rfl ?_
 refine aL 7 rfl (C4 rfl rfl) rfl ?_
 refine aP 8 rfl (B6 (j := 1) rfl rfl rfl (by simp)) rfl ?_
 refine aL 9 rfl (A3 rfl rfl (hat1 _) hl1) rfl ?_
 refine A4 10 ?_
 (refine H4 rfl rfl hS rfl rfl rfl (fun u G1 hle1 hh => ?_); obtain ⟨uc, rfl, hru⟩ := hh; have hul := hru.len; have huo := hru.one)
 refine A4 11 ?_
 (refine oS rfl rfl rfl rfl hul huo rfl rfl ?_ (hu := by exact D4 hul.symm))
 refine aP 12 rfl (qA rfl) rfl ?_
 refine B2 ?_
 refine I5 (rC rfl (A3 rfl rfl (B1 (by repeat first | exact mH | apply mT)) hul)) (rT rfl) ?_
 (exact V5.yes (by rw [if_pos (by omega)]; unfold kd; rw [List.getD_eq_getElem?_getD, List.getElem?_eq_getElem (by omega), Option.getD_some]) hru)
 refine J1 ?_
 refine I5 (rC rfl (A6 rfl rfl)) (rT rfl) ?_
 exact A2V
theorem B0F (k : Int) (a b : Tm) (nm : ByteArray) (num : Int) (ty fr : Ty) (lb : Int) (G : IM) (cells : List Value) (hk78 : k = 7 ∨ k = 8) (hca : cv a) (hcb : cv b) (hr : B3 G (.mk k nm num ty fr lb [a, b]) cells) : Fn Tryz.prog 143 [.agg ⟨cells⟩] [] G (V5 (Y5 k [a, b])) := by
 obtain ⟨ak, anm, anum, ⟨atk, atks⟩, ⟨afk, afks⟩, alb, aks⟩ := a
 obtain ⟨tk, tks⟩ := ty
 obtain ⟨fk, fks⟩ := fr
 obtain ⟨pt, ct, pf, cf, p, c, es, rfl, hk, hnum, hlb, hty, hfr, hsl, hkl⟩ := hr.open9
 obtain ⟨bx, ox, e0, rfl, hl0, hat0, hre0, hgb0⟩ := hsl.kidTm hkl (i := 0) (by simp) (by simp)
 replace hre0 : B3 G (.mk ak anm anum (.mk atk atks) (.mk afk afks) alb aks) e0 := hre0
 obtain ⟨apt, act, apf, acf, ap, ac, aes, rfl, hak, hanum, halb, haty, hafr, hasl, hakl⟩ := hre0.open9
 obtain ⟨bk, bnm, bnum, ⟨btk, btks⟩, ⟨bfk, bfks⟩, blb, bks⟩ := b
 obtain ⟨_, _, e1, hp1, hl1, hat1, hre1, hgb1⟩ := hsl.kidTm hkl (i := 1) (by simp) (by simp)
 cases hp1
 replace hre1 : B3 G (.mk bk bnm bnum (.mk btk btks) (.mk bfk bfks) blb bks) e1 := hre1
 obtain ⟨bpt, bct, bpf, bcf, bp, bc, bes, rfl, hbk, hbnum, hblb, hbty, hbfr, hbsl, hbkl⟩ := hre1.open9
 obtain ⟨hN, _⟩ := hca.node
 obtain ⟨hM, _⟩ := hcb.node
 obtain ⟨hn1, hn2⟩ := hN.num0
 obtain ⟨hm1, hm2⟩ := hM.num0
 have hL : ([Tm.mk ak anm anum (.mk atk atks) (.mk afk afks) alb aks, Tm.mk bk bnm bnum (.mk btk btks) (.mk bfk bfks) blb bks] : List Tm).length = 2 := rfl
 have hR : Y5 k [Tm.mk ak anm anum (.mk atk atks) (.mk afk afks) alb aks, Tm.mk bk bnm bnum (.mk btk btks) (.mk bfk bfks) blb bks] = (if ak = 2 ∧ bk = 2 then some (if k = 7 then A2a ((anum + bnum) % 1000) else Y3 (anum < bnum)) else none) := by
  unfold Y5; rw [if_neg (by omega), if_pos hk78]; rfl
 rw [hR]
 have htm : (anum + bnum).tmod 1000 = (anum + bnum) % 1000 := B0E ⟨hn1, hn2⟩ ⟨hm1, hm2⟩
 have hb : H1 ((anum + bnum) % 1000) := ⟨by omega, by omega⟩
 refine C2 Tryz.func143 rfl Tryz.ntmps143 Tryz.results143 rfl ?_
 intro w0
 refine A5 ?_
 refine sE (C7 rfl rfl) rfl (fun b3 => ?_)
 refine sE (A8 rfl) rfl (fun b4 => ?_)
 refine B0 ?_
 refine sE (A8 rfl) rfl (fun b11 => ?_)
 refine E1 ?_
 refine sP (A3O rfl rfl (by omega)) rfl rfl ?_
 refine B0 ?_
 refine sP (B6 (j := 0) rfl rfl rfl (by simp)) rfl rfl ?_
 refine sL (A3 rfl rfl (hat0 _) rfl) rfl rfl ?_
 refine J0 ?_
 refine C3 ?_
 refine A5 ?_
 refine sP (I7 rfl rfl (by omega)) rfl rfl ?_
 refine B5 ?_
 refine sB (qE rfl rfl) rfl rfl (fun h51 => ?_) (fun h51 => ?_)
 refine I8 ?_
 refine sP (B6 (j := 1) rfl rfl rfl (by simp)) rfl rfl ?_
 refine sL (A3 rfl rfl (hat1 _) rfl) rfl rfl ?_
 refine sE (A8 rfl) rfl (fun b65 => ?_)
 refine B9 ?_
 refine C3 ?_
 refine B7 ?_
 refine sB (M1 rfl rfl) rfl rfl (fun h74 => ?_) (fun h74 => ?_)
 refine X6 ?_
 refine I5 (rC rfl (A6 rfl rfl)) (rT rfl) ?_
 exact A2V
 refine B9 ?_
 refine sB (M1 rfl rfl) rfl rfl (fun h101 => ?_) (fun h101 => ?_)
 refine U5 ?_
 refine I5 (rC rfl (A6 rfl rfl)) (rT rfl) ?_
 exact A2V
 refine E1 ?_
 refine sP (W8 rfl rfl (by omega)) rfl rfl ?_
 refine J0 ?_
 refine sP (J6 rfl rfl (by omega) (by omega)) rfl rfl ?_
 refine sP (A3N rfl rfl (by omega)) rfl rfl ?_
 refine F0 ?_
 (rw [htm]; refine sS' ?_)
 refine B5 ?_
 refine I5 (rC rfl (A6 rfl rfl)) (rT rfl) ?_
 (exact V5.yes (u := A2a (HMod.hMod (anum + bnum) 1000)) (by rw [if_pos ⟨by omega, by omega⟩, if_pos (by omega)]) (B3.put (us := []) ⟨by decide, by decide⟩ hb ⟨by decide, by decide⟩ (A1R _) (A1R _) rfl (E0.nil _ _) rfl))
 refine B2 ?_
 refine sP (W8 rfl rfl (by omega)) rfl rfl ?_
 refine D0 ?_
 refine sP (B6 (j := 1) rfl rfl rfl (by simp)) rfl rfl ?_
 refine sL (A3 rfl rfl (hat1 _) rfl) rfl rfl ?_
 refine sE (A8 rfl) rfl (fun b170 => ?_)
 refine B9 ?_
 refine C3 ?_
 refine B7 ?_
 refine sB (M1 rfl rfl) rfl rfl (fun h179 => ?_) (fun h179 => ?_)
 refine X6 ?_
 refine I5 (rC rfl (A6 rfl rfl)) (rT rfl) ?_
 exact A2V
 refine B9 ?_
 refine sB (M1 rfl rfl) rfl rfl (fun h206 => ?_) (fun h206 => ?_)
 refine U5 ?_
 refine I5 (rC rfl (A6 rfl rfl)) (rT rfl) ?_
 exact A2V
 refine E1 ?_
 refine sP (I7 rfl rfl (by omega)) rfl rfl ?_
 refine J0 ?_
 (refine sB (J8 rfl rfl) rfl rfl (fun h246 => ?_) (fun h246 => ?_))
 (refine E5 rfl (B0D _ _) rfl rfl (fun u G1 hle1 hh => ?_); obtain ⟨uc, rfl, hru⟩ := hh; have hul := hru.len; have huo := hru.one)
 refine sS rfl rfl rfl hul huo rfl ?_ (hu := by exact D4 hul.symm)
 refine B5 ?_
 refine I5 (rC rfl (A3 rfl rfl (B1 (by repeat first | exact mH | apply mT)) hul)) (rT rfl) ?_
 (exact V5.yes (by rw [if_pos ⟨by omega, by omega⟩, if_neg (by omega)]; unfold Y3; rw [if_pos (by omega), if_pos rfl]) hru)
 (refine E5 rfl (B0D _ _) rfl rfl (fun u G1 hle1 hh => ?_); obtain ⟨uc, rfl, hru⟩ := hh; have hul := hru.len; have huo := hru.one)
 refine sS rfl rfl rfl hul huo rfl ?_ (hu := by exact D4 hul.symm)
 refine B5 ?_
 refine I5 (rC rfl (A3 rfl rfl (B1 (by repeat first | exact mH | apply mT)) hul)) (rT rfl) ?_
 (exact V5.yes (by rw [if_pos ⟨by omega, by omega⟩, if_neg (by omega)]; unfold Y3; rw [if_neg (by omega), if_neg (by decide)]) hru)
theorem B5L (a b c0 : Tm) (nm : ByteArray) (num : Int) (ty fr : Ty) (lb : Int) (G : IM) (cells : List Value) (hr : B3 G (.mk 9 nm num ty fr lb [a, b, c0]) cells) : Fn Tryz.prog 143 [.agg ⟨cells⟩] [] G (V5 (Y5 9 [a, b, c0])) := by
 obtain ⟨ak, anm, anum, ⟨atk, atks⟩, ⟨afk, afks⟩, alb, aks⟩ := a
 obtain ⟨tk, tks⟩ := ty
 obtain ⟨fk, fks⟩ := fr
 obtain ⟨pt, ct, pf, cf, p, c, es, rfl, hk, hnum, hlb, hty, hfr, hsl, hkl⟩ := hr.open9
 obtain ⟨bx, ox, e0, rfl, hl0, hat0, hre0, hgb0⟩ := hsl.kidTm hkl (i := 0) (by simp) (by simp)
 replace hre0 : B3 G (.mk ak anm anum (.mk atk atks) (.mk afk afks) alb aks) e0 := hre0
 obtain ⟨apt, act, apf, acf, ap, ac, aes, rfl, hak, hanum, halb, haty, hafr, hasl, hakl⟩ := hre0.open9
 obtain ⟨_, _, e1, hp1, hl1, hat1, hre1, hgb1⟩ := hsl.kidTm hkl (i := 1) (by simp) (by simp)
 cases hp1
 replace hre1 : B3 G b e1 := hre1
 have ho1 := hre1.one
 obtain ⟨_, _, e2, hp2, hl2, hat2, hre2, hgb2⟩ := hsl.kidTm hkl (i := 2) (by simp) (by simp)
 cases hp2
 replace hre2 : B3 G c0 e2 := hre2
 have ho2 := hre2.one
 have hL : ([Tm.mk ak anm anum (.mk atk atks) (.mk afk afks) alb aks, b, c0] : List Tm).length = 3 := rfl
 rw [show Y5 9 [Tm.mk ak anm anum (.mk atk atks) (.mk afk afks) alb aks, b, c0] = (if ak = 3 then some b else if ak = 4 then some c0 else none) from rfl]
 refine C2 Tryz.func143 rfl Tryz.ntmps143 Tryz.results143 rfl ?_
 intro w0
 refine A5 ?_
 refine sE (C7 rfl rfl) rfl (fun b3 => ?_)
 refine sE (A8 rfl) rfl (fun b4 => ?_)
 refine B0 ?_
 refine sE (A8 rfl) rfl (fun b11 => ?_)
 refine E1 ?_
 refine sP (A3O rfl rfl (by omega)) rfl rfl ?_
 refine B0 ?_
 refine sP (B6 (j := 0) rfl rfl rfl (by simp)) rfl rfl ?_
 refine sL (A3 rfl rfl (hat0 _) rfl) rfl rfl ?_
 refine J0 ?_
 refine C3 ?_
 refine A5 ?_
 refine sP (I7 rfl rfl (by omega)) rfl rfl ?_
 refine B5 ?_
 refine sP (I7 rfl rfl (by omega)) rfl rfl ?_
 refine B2 ?_
 refine sP (I7 rfl rfl (by omega)) rfl rfl ?_
 refine B0 ?_
 refine sP (W8 rfl rfl (by omega)) rfl rfl ?_
 refine J0 ?_
 refine C3 (tS (tR (sB (qE rfl rfl) rfl rfl (fun h78 => ?_) (fun h78 => ?_))))
 refine D0 ?_
 refine sP (B6 (j := 1) rfl rfl rfl (by simp)) rfl rfl ?_
 refine sL (A3 rfl rfl (hat1 _) hl1) rfl rfl ?_
 refine sS rfl rfl rfl hl1 ho1 rfl ?_ (hu := by exact D4 hl1.symm)
 refine B5 ?_
 refine I5 (rC rfl (A3 rfl rfl (B1 (by repeat first | exact mH | apply mT)) hl1)) (rT rfl) ?_
 (exact V5.yes (by rw [if_pos (by omega)]) hre1)
 refine B0 ?_
 refine sB (qE rfl rfl) rfl rfl (fun h105 => ?_) (fun h105 => ?_)
 refine D0 ?_
 refine sP (B6 (j := 2) rfl rfl rfl (by simp)) rfl rfl ?_
 refine sL (A3 rfl rfl (hat2 _) hl2) rfl rfl ?_
 refine sS rfl rfl rfl hl2 ho2 rfl ?_ (hu := by exact D4 hl2.symm)
 refine B5 ?_
 refine I5 (rC rfl (A3 rfl rfl (B1 (by repeat first | exact mH | apply mT)) hl2)) (rT rfl) ?_
 (exact V5.yes (by rw [if_neg (by omega), if_pos (by omega)]) hre2)
 refine K4 ?_
 refine I5 (rC rfl (A6 rfl rfl)) (rT rfl) ?_
 (exact V5.no (by rw [if_neg (by omega), if_neg (by omega)]) (P5 _))
theorem B0G (k : Int) (a : Tm) (nm : ByteArray) (num : Int) (ty fr : Ty) (lb : Int) (G : IM) (cells : List Value) (hk1 : k = 11 ∨ k = 12) (hca : cv a) (hr : B3 G (.mk k nm num ty fr lb [a]) cells) : Fn Tryz.prog 143 [.agg ⟨cells⟩] [] G (V5 (Y5 k [a])) := by
 obtain ⟨ak, anm, anum, ⟨atk, atks⟩, ⟨afk, afks⟩, alb, aks⟩ := a
 obtain ⟨tk, tks⟩ := ty
 obtain ⟨fk, fks⟩ := fr
 obtain ⟨pt, ct, pf, cf, p, c, es, rfl, hk, hnum, hlb, hty, hfr, hsl, hkl⟩ := hr.open9
 obtain ⟨bx, ox, e0, rfl, hl0, hat0, hre0, hgb0⟩ := hsl.kidTm hkl (i := 0) (by simp) (by simp)
 replace hre0 : B3 G (.mk ak anm anum (.mk atk atks) (.mk afk afks) alb aks) e0 := hre0
 obtain ⟨apt, act, apf, acf, ap, ac, aes, rfl, hak, hanum, halb, haty, hafr, hasl, hakl⟩ := hre0.open9
 obtain ⟨hN, _⟩ := hca.node
 have hops := hN.ops
 have h2 : ak = 10 → aks.length = 2 := fun h => by rw [h] at hops; have : D7 10 = 2 := rfl; omega
 have hL : ([Tm.mk ak anm anum (.mk atk atks) (.mk afk afks) alb aks] : List Tm).length = 1 := rfl
 have hR : Y5 k [Tm.mk ak anm anum (.mk atk atks) (.mk afk afks) alb aks] = (if ak = 10 then some (kd aks (k - 11).toNat) else none) := by
  unfold Y5; rw [if_neg (by omega), if_neg (by omega), if_neg (by omega), if_pos hk1]; rfl
 rw [hR]
 obtain ⟨i, hi⟩ : ∃ i : Nat, (k - 11).toNat = i := ⟨_, rfl⟩
 rw [hi]
 refine C2 Tryz.func143 rfl Tryz.ntmps143 Tryz.results143 rfl ?_
 intro w0
 refine A5 ?_
 refine sE (C7 rfl rfl) rfl (fun b3 => ?_)
 refine sE (A8 rfl) rfl (fun b4 => ?_)
 refine B0 ?_
 refine sE (A8 rfl) rfl (fun b11 => ?_)
 refine E1 ?_
 refine sP (A3O rfl rfl (by omega)) rfl rfl ?_
 refine B0 ?_
 refine sP (B6 (j := 0) rfl rfl rfl (by simp)) rfl rfl ?_
 refine sL (A3 rfl rfl (hat0 _) rfl) rfl rfl ?_
 refine J0 ?_
 refine C3 ?_
 refine A5 ?_
 refine sP (I7 rfl rfl (by omega)) rfl rfl ?_
 refine B5 ?_
 refine sP (I7 rfl rfl (by omega)) rfl rfl ?_
 refine B2 ?_
 refine sP (I7 rfl rfl (by omega)) rfl rfl ?_
 refine B0 ?_
 refine sP (I7 rfl rfl (by omega)) rfl rfl ?_
 refine B5 ?_
 refine sB (qE rfl rfl) rfl rfl (fun h72 => ?_) (fun h72 => ?_)
 refine I8 ?_
 refine sB (qE rfl rfl) rfl rfl (fun h84 => ?_) (fun h84 => ?_)
 refine B7 ?_
 (have hq : ak = 10 := (by omega); have hq1 := h2 hq; obtain ⟨bq, oq, e3, rfl, hl3, hat3, hre3, hgb3⟩ := hasl.kidTm hakl (i := i) (by omega) (by omega); have ho3 := hre3.one)
 refine B2 ?_
 refine sP (P3 rfl rfl (by omega) (by omega)) rfl rfl ?_
 (rw [show (k - 11 : Int) = ((i : Nat) : Int) from (by omega)]; refine sP (B6 (j := i) rfl rfl rfl (by omega)) rfl rfl ?_)
 refine sL (A3 rfl rfl (hat3 _) hl3) rfl rfl ?_
 refine sS rfl rfl rfl hl3 ho3 rfl ?_ (hu := by exact D4 hl3.symm)
 refine B0 ?_
 refine I5 (rC rfl (A3 rfl rfl (B1 (by repeat first | exact mH | apply mT)) hl3)) (rT rfl) ?_
 (exact V5.yes (by rw [if_pos (by omega)]; unfold kd; rw [List.getD_eq_getElem?_getD, List.getElem?_eq_getElem (by omega), Option.getD_some]) hre3)
 refine J1 ?_
 refine I5 (rC rfl (A6 rfl rfl)) (rT rfl) ?_
 exact A2V
 refine B2 ?_
 refine sP (W8 rfl rfl (by omega)) rfl rfl ?_
 refine D0 ?_
 refine sB (qE rfl rfl) rfl rfl (fun h137 => ?_) (fun h137 => ?_)
 refine B7 ?_
 (have hq : ak = 10 := (by omega); have hq1 := h2 hq; obtain ⟨bq, oq, e3, rfl, hl3, hat3, hre3, hgb3⟩ := hasl.kidTm hakl (i := i) (by omega) (by omega); have ho3 := hre3.one)
 refine B2 ?_
 refine sP (P3 rfl rfl (by omega) (by omega)) rfl rfl ?_
 (rw [show (k - 11 : Int) = ((i : Nat) : Int) from (by omega)]; refine sP (B6 (j := i) rfl rfl rfl (by omega)) rfl rfl ?_)
 refine sL (A3 rfl rfl (hat3 _) hl3) rfl rfl ?_
 refine sS rfl rfl rfl hl3 ho3 rfl ?_ (hu := by exact D4 hl3.symm)
 refine B0 ?_
 refine I5 (rC rfl (A3 rfl rfl (B1 (by repeat first | exact mH | apply mT)) hl3)) (rT rfl) ?_
 (exact V5.yes (by rw [if_pos (by omega)]; unfold kd; rw [List.getD_eq_getElem?_getD, List.getElem?_eq_getElem (by omega), Option.getD_some]) hre3)
 refine J1 ?_
 refine I5 (rC rfl (A6 rfl rfl)) (rT rfl) ?_
 exact A2V
section
variable {P : Program} {Γ : M2} {K : Po} {ops : Array Oper} {env : M7} {hp : List A7} {G : IM}
theorem A1e {H : List (Nat × Nat)} {fuel j : Nat} {listed : List Bool} {hp' : List A7} {p : Option Addr} {c el sz n : Nat} {cs : List Value} (hk : Pk hp (.slc p c el sz n cs) hp')
  (h : ∀ G', C6 G G' → Sl G' p n c sz cs → (∀ b ∈ K0 p, G b = none ∧ G' b ≠ none) → V6 P Γ ops K H fuel listed j ⟨env, hp', G'⟩) : V6 P Γ ops K H fuel listed j ⟨env, hp, G⟩ :=
 ⟨fun a w hs => let ⟨G', h1, h2, h3, h4⟩ := hs.freeze hk; (h G' h2 h3 h4).run a w h1⟩
end
theorem C1.kids {G : IM} {t : Ty} {a : Value} {p : Option Addr} {n c : Nat} (h : C1 G t [a, .slice p n c]) : ∃ es, E0 G p t.ks.length c 2 es ∧ D5 G t.ks es := by
 obtain ⟨p', c', es, he, _, h1, h2⟩ := h.open
 simp only [List.cons.injEq, Value.slice.injEq, and_true] at he
 obtain ⟨_, rfl, _, rfl⟩ := he
 exact ⟨es, h1, h2⟩
def Z5 (k : Int) (ty fr : Ty) (lb : Int) (ks : List Tm) : Stp :=
 if k = 6 then
  (if O9 (kd ks 0) = true ∧ (kd ks 0).ty.k = 4 then (K7 (Y2 6 [kd (kd ks 0).ks 0, K7 (kd ks 1) (kt (kd ks 0).ty.ks 0) (kt (kd ks 0).fr.ks 0) (-(kd ks 0).lb)]) (kt (kd ks 0).fr.ks 1) (kt (kd ks 0).ty.ks 1) (kd ks 0).lb, 1, 0) else Q2)
 else if k = 11 ∨ k = 12 then
  (if O9 (kd ks 0) = true ∧ (kd ks 0).ty.k = 5 then (K7 (Y2 k [kd (kd ks 0).ks 0]) (kt (kd ks 0).fr.ks (k - 11).toNat) (kt (kd ks 0).ty.ks (k - 11).toNat) (kd ks 0).lb, 1, 0) else Q2)
 else if k = 14 then
  (if fr.k = ty.k then (kd ks 0, 1, 0)
   else if ty.k = 1 then (K7 (K7 (kd ks 0) fr (T3 fr) lb) (T3 fr) ty lb, 1, 0)
   else if R7 ty = false then (K7 (K7 (kd ks 0) fr (T3 ty) lb) (T3 ty) ty lb, 1, 0)
   else if inj (kd ks 0) = false then Q2
   else if (kd ks 0).fr.k = ty.k then (kd (kd ks 0).ks 0, 1, 0)
   else (I3, 2, lb))
 else Q2
theorem B5M (k : Int) (ty fr : Ty) (lb : Int) (ks : List Tm) : N1 k ty fr lb ks = match Y5 k ks with | some u => (u, 1, 0) | none => Z5 k ty fr lb ks := by
 unfold N1 Y5 Z5
 by_cases h6 : k = 6
 ·rw [if_pos h6, if_pos h6, if_pos h6]
  by_cases h : (kd ks 0).k = 5
  ·rw [if_pos h, if_pos h]
  ·rw [if_neg h, if_neg h]
 rw [if_neg h6, if_neg h6, if_neg h6]
 by_cases h7 : k = 7 ∨ k = 8
 ·rw [if_pos h7, if_pos h7]
  by_cases h : (kd ks 0).k = 2 ∧ (kd ks 1).k = 2
  ·rw [if_pos h, if_pos h]
  ·rw [if_neg h, if_neg h]; simp only; rw [if_neg (by omega), if_neg (by omega)]
 rw [if_neg h7, if_neg h7]
 by_cases h9 : k = 9
 ·rw [if_pos h9, if_pos h9]
  by_cases h : (kd ks 0).k = 3
  ·rw [if_pos h, if_pos h]
  ·rw [if_neg h, if_neg h]
   by_cases h' : (kd ks 0).k = 4
   ·rw [if_pos h', if_pos h']
   ·rw [if_neg h', if_neg h']; simp only; rw [if_neg (by omega), if_neg (by omega)]
 rw [if_neg h9, if_neg h9]
 by_cases h11 : k = 11 ∨ k = 12
 ·rw [if_pos h11, if_pos h11, if_pos h11]
  by_cases h : (kd ks 0).k = 10
  ·rw [if_pos h, if_pos h]
  ·rw [if_neg h, if_neg h]
 rw [if_neg h11, if_neg h11, if_neg h11]
def W1 (r : Stp) : IM → Value → List A7 → Prop := M3 fun G' v => ∃ u cells, v = .tuple ⟨[.agg ⟨cells⟩, .int .i64 r.2.1, .int .i64 r.2.2]⟩ ∧ B3 G' u cells ∧ (r.2.1 = 1 → u = r.1)
theorem W1.mk {G : IM} {r : Stp} {u : Tm} {cells : List Value} {c l : Int} (h : r = (u, c, l)) (hr : B3 G u cells) : W1 r G (.tuple ⟨[.agg ⟨cells⟩, .int .i64 c, .int .i64 l]⟩) [] := by
 subst h; exact ⟨rfl, u, cells, rfl, hr, fun _ => rfl⟩
theorem A2k {ks : List Tm} {i : Nat} (h : i < ks.length) : kd ks i = ks[i] := by unfold kd; rw [List.getD_eq_getElem?_getD, List.getElem?_eq_getElem h, Option.getD_some]
theorem A00 {ks : List Ty} {i : Nat} (h : i < ks.length) : kt ks i = ks[i] := by unfold kt; rw [List.getD_eq_getElem?_getD, List.getElem?_eq_getElem h, Option.getD_some]
theorem B0H {t : Ty} (h : R7 t = true) : t = T3 t := by
 unfold R7 at h
 rw [Bool.and_eq_true] at h
 exact (Z2 _ _).1 h.2
theorem B0I {Q : Prop} (h : Q := by (exact W1.mk (by rw [if_pos hq, A2k (by omega), A00 (by omega), A00 (by omega), A00 (by omega), A00 (by omega)]) hrw)) : Q := h
theorem A3A {Q : Prop} (h : Q := by (exact W1.mk (by rw [if_neg (by omega)]; rfl) (P5 _))) : Q := h
theorem B5N (a b : Tm) (nm : ByteArray) (num : Int) (ty fr : Ty) (lb : Int) (G : IM) (cells : List Value) (hca : cv a) (hr : B3 G (.mk 6 nm num ty fr lb [a, b]) cells) : Fn Tryz.prog 144 [.agg ⟨cells⟩] [] G (W1 (Z5 6 ty fr lb [a, b])) := by
 obtain ⟨ak, anm, anum, ⟨atk, atks⟩, ⟨afk, afks⟩, alb, aks⟩ := a
 obtain ⟨hN, hkk⟩ := hca.node
 have hops := hN.ops
 have hbl := hN.lbB
 have htyA := hN.tyA
 have hfrA := hN.frA
 rw [F8] at htyA hfrA
 have h14 : ak = 14 → aks.length = 1 := fun h => by rw [h] at hops; have : D7 14 = 1 := rfl; omega
 obtain ⟨tk, tks⟩ := ty
 obtain ⟨fk, fks⟩ := fr
 obtain ⟨pt, ct, pf, cf, p, c, es, rfl, hk, hnum, hlb, hty, hfr, hsl, hkl⟩ := hr.open9
 obtain ⟨bx, ox, e0, rfl, hl0, hat0, hre0, hgb0⟩ := hsl.kidTm hkl (i := 0) (by simp) (by simp)
 replace hre0 : B3 G (Tm.mk ak anm anum (.mk atk atks) (.mk afk afks) alb aks) e0 := hre0
 have hP : Fn Tryz.prog 69 [.agg ⟨e0⟩] [] G (H5 (.bool (decide (ak = 14 ∧ afk = atk ∧ (atk = 4 ∨ atk = 5)))) G) := A2U _ G _ hre0
 obtain ⟨apt, act, apf, acf, ap, ac, aes, rfl, hak, hanum, halb, haty, hafr, hasl, hakl⟩ := hre0.open9
 obtain ⟨tes, htS, htL⟩ := haty.kids
 obtain ⟨fes, hfS, hfL⟩ := hafr.kids
 simp only [Ty.ks] at htS htL hfS hfL
 obtain ⟨_, _, e1, hp1, hl1, hat1, hre1, hgb1⟩ := hsl.kidTm hkl (i := 1) (by simp) (by simp)
 cases hp1
 replace hre1 : B3 G b e1 := hre1
 have ho1 := hre1.one
 have hR : Z5 6 (.mk tk tks) (.mk fk fks) lb [Tm.mk ak anm anum (.mk atk atks) (.mk afk afks) alb aks, b] = (if (ak = 14 ∧ afk = atk ∧ (atk = 4 ∨ atk = 5)) ∧ atk = 4 then (K7 (Y2 6 [kd aks 0, K7 b (kt atks 0) (kt afks 0) (-alb)]) (kt afks 1) (kt atks 1) alb, 1, 0) else Q2) := by
  unfold Z5
  rw [if_pos rfl, show kd [Tm.mk ak anm anum (.mk atk atks) (.mk afk afks) alb aks, b] 0 = Tm.mk ak anm anum (.mk atk atks) (.mk afk afks) alb aks from rfl, A0N]
  simp only [decide_eq_true_eq]
  rfl
 rw [hR]
 refine C2 Tryz.func144 rfl Tryz.ntmps144 Tryz.results144 rfl ?_
 intro w0
 refine A5 ?_
 refine sE (C7 rfl rfl) rfl (fun b3 => ?_)
 refine sE (A8 rfl) rfl (fun b4 => ?_)
 refine D0 ?_
 refine sP (B6 (j := 0) rfl rfl rfl (by simp)) rfl rfl ?_
 refine sL (A3 rfl rfl (hat0 _) rfl) rfl rfl ?_
 refine sE (A8 rfl) rfl (fun b15 => ?_)
 refine B7 ?_
 refine C3 ?_
 refine B7 ?_
 refine sP (W8 rfl rfl (by omega)) rfl rfl ?_
 refine A5 ?_
 focus (by_cases hpx : (ak = 14 ∧ afk = atk ∧ (atk = 4 ∨ atk = 5)); rw [decide_eq_true hpx] at hP; rotate_left; rw [decide_eq_false hpx] at hP; rotate_left; all_goals (refine H9 rfl hP rfl rfl ?_))
 refine B2 ?_
 refine sB (qE rfl rfl) rfl rfl (fun h34 => ?_) (fun h34 => ?_)
 refine B0 ?_
 (have hq : (ak = 14 ∧ afk = atk ∧ (atk = 4 ∨ atk = 5)) ∧ atk = 4 := ⟨hpx, by omega⟩; have hq1 := h14 hq.1.1; have hq2 := htyA.1 (by omega); have hq3 := hfrA.1 (by omega); obtain ⟨bq, oq, e3, rfl, hl3, hat3, hre3, hgb3⟩ := hasl.kidTm hakl (i := 0) (by omega) (by omega); have ho3 := hre3.one; obtain ⟨b5, o5, q5, d5, rfl, hat5, hre5, hgb5⟩ := htS.kidTy htL (i := 0) (by omega) (by omega); obtain ⟨_, _, q6, d6, hp6, hat6, hre6, hgb6⟩ := htS.kidTy htL (i := 1) (by omega) (by omega); cases hp6; obtain ⟨b7, o7, q7, d7, rfl, hat7, hre7, hgb7⟩ := hfS.kidTy hfL (i := 0) (by omega) (by omega); obtain ⟨_, _, q8, d8, hp8, hat8, hre8, hgb8⟩ := hfS.kidTy hfL (i := 1) (by omega) (by omega); cases hp8; obtain ⟨x1, x2, x3, x4, x5, x6, x7, x8, x9, rfl⟩ := nine hl3; obtain ⟨y1, y2, y3, y4, y5, y6, y7, y8, y9, rfl⟩ := nine hl1; refine D8 D9 rfl ?_)
 refine I6 (i := 0) (l' := [tt,ff,ff,ff,ff,ff,ff,ff,ff,ff,ff,ff]) rfl D3 (B8 rfl) rfl (by kernel_rfl) rfl rfl ?_
 refine aL 1 rfl (C4 rfl rfl) rfl ?_
 refine aP 2 rfl (B6 (j := 0) rfl rfl rfl (by omega)) rfl ?_
 refine aL 3 rfl (A3 rfl rfl (hat3 _) rfl) rfl ?_
 refine aP 4 rfl (B8 rfl) rfl ?_
 refine aL 5 rfl (C4 rfl rfl) rfl ?_
 refine aP 6 rfl (B6 (j := 1) rfl rfl rfl (by simp)) rfl ?_
 refine aL 7 rfl (A3 rfl rfl (hat1 _) rfl) rfl ?_
 refine Q8 (j := 8) (j' := 9) (by kernel_rfl) ?_ ?_
 (refine E6 rfl (A8 rfl) rfl rfl ?_; rintro _ ⟨b51, rfl⟩)
 refine A4 9 ?_
 (refine E6 rfl (A8 rfl) rfl rfl ?_; rintro _ ⟨b53, rfl⟩)
 refine A4 10 ?_
 (refine oS rfl rfl rfl rfl rfl ho3 rfl rfl ?_ (hu := by exact D4 rfl.symm))
 refine A4 11 ?_
 (refine oS rfl rfl rfl rfl rfl ho1 rfl rfl ?_ (hu := by exact D4 rfl.symm))
 refine B9 ?_
 refine D8 D9 rfl ?_
 refine L3 (i := 0) (l' := [tt,ff,ff,ff,ff,ff,ff,ff,ff,ff,ff,ff,ff,ff,ff,ff,ff,ff,ff,ff,ff,ff,ff,ff,ff,ff,ff,ff,ff,ff,ff,ff,ff,ff]) rfl D3 (A3 rfl rfl (B1 (by repeat first | exact mH | apply mT)) rfl) rfl (by kernel_rfl) rfl rfl ?_
 refine aL 1 rfl (A3 rfl rfl (B1 (by repeat first | exact mH | apply mT)) rfl) rfl ?_
 refine aP 2 rfl (B8 rfl) rfl ?_
 refine aP 3 rfl (qF rfl) rfl ?_
 refine aL 4 rfl (C4 rfl rfl) rfl ?_
 refine aP 5 rfl (B6 (j := 0) rfl rfl rfl (by omega)) rfl ?_
 refine aL 6 rfl (A3 rfl rfl (hat5 _) rfl) rfl ?_
 refine aP 7 rfl (B8 rfl) rfl ?_
 refine aP 8 rfl (qF rfl) rfl ?_
 refine aL 9 rfl (C4 rfl rfl) rfl ?_
 refine aP 10 rfl (B6 (j := 0) rfl rfl rfl (by omega)) rfl ?_
 refine aL 11 rfl (A3 rfl rfl (hat7 _) rfl) rfl ?_
 refine aP 12 rfl (B8 rfl) rfl ?_
 refine aL 13 rfl (C4 rfl rfl) rfl ?_
 refine aP 14 rfl (A4I rfl (by omega) (by omega)) rfl ?_
 refine aP 18 rfl (B8 rfl) rfl ?_
 refine aP 19 rfl (qF rfl) rfl ?_
 refine aL 20 rfl (C4 rfl rfl) rfl ?_
 refine aP 21 rfl (B6 (j := 1) rfl rfl rfl (by omega)) rfl ?_
 refine aL 22 rfl (A3 rfl rfl (hat8 _) rfl) rfl ?_
 refine aP 23 rfl (B8 rfl) rfl ?_
 refine aP 24 rfl (qF rfl) rfl ?_
 refine aL 25 rfl (C4 rfl rfl) rfl ?_
 refine aP 26 rfl (B6 (j := 1) rfl rfl rfl (by omega)) rfl ?_
 refine aL 27 rfl (A3 rfl rfl (hat6 _) rfl) rfl ?_
 refine aP 28 rfl (B8 rfl) rfl ?_
 refine aL 29 rfl (C4 rfl rfl) rfl ?_
 refine A4 15 ?_
 (refine H4 rfl rfl (A1t b atks[0] afks[0] (-alb) G _ _ _ ⟨by omega, by omega⟩ hre1 hre5 hre7) rfl rfl rfl (fun u G1 hle1 hh => ?_); obtain ⟨uc, rfl, hru⟩ := hh; have hul := hru.len; have huo := hru.one; obtain ⟨z1, z2, z3, z4, z5, z6, z7, z8, z9, rfl⟩ := nine hul; replace hre3 := hre3.mono hle1; replace hre6 := hre6.mono hle1; replace hre8 := hre8.mono hle1)
 refine A4 16 ?_
 (refine E6 rfl (D2 rfl rfl rfl (by omega) (by unfold maxLen; omega) rfl) rfl rfl ?_; rintro _ ⟨b92, rfl⟩)
 refine A4 17 ?_
 (refine A1e (cs := [x1, x2, x3, x4, x5, x6, x7, x8, x9, z1, z2, z3, z4, z5, z6, z7, z8, z9]) (by repeat (first | exact Pk.here | apply Pk.there)) (fun G2 hle2 hsl2 hno2 => ?_); have hrN := A0Z (k := 6) (ks := [aks[0], K7 b atks[0] afks[0] (-alb)]) (es := [[x1, x2, x3, x4, x5, x6, x7, x8, x9], [z1, z2, z3, z4, z5, z6, z7, z8, z9]]) ⟨by decide, by decide⟩ rfl (E0.of hsl2 rfl (by simp) (by intro x hx; rcases List.mem_cons.1 hx with rfl | hx; exact ho3; obtain rfl := List.mem_singleton.1 hx; exact huo)) (by simp only [E4]; exact ⟨_, _, rfl, hre3.mono hle2, _, _, rfl, hru.mono hle2, rfl⟩); replace hre6 := hre6.mono hle2; replace hre8 := hre8.mono hle2; refine N6 rfl rfl (A3z _ _ _ _ _) rfl rfl rfl ?_)
 refine A4 30 ?_
 (refine H4 rfl rfl (A1t _ afks[1] atks[1] alb G2 _ _ _ ⟨by omega, by omega⟩ hrN hre8 hre6) rfl rfl rfl (fun u G3 hle3 hh => ?_); obtain ⟨wc, rfl, hrw⟩ := hh; have hwl := hrw.len; have hwo := hrw.one)
 refine A4 31 ?_
 (refine oS rfl rfl rfl rfl hwl hwo rfl rfl ?_ (hu := by exact D4 hwl.symm))
 refine aP 32 rfl (qA rfl) rfl ?_
 refine aP 33 rfl (qA rfl) rfl ?_
 refine B2 ?_
 refine D1 (rC rfl (A3 rfl rfl (B1 (by repeat first | exact mH | apply mT)) hwl)) (rT rfl) (rT rfl) ?_
 exact B0I
 (refine E6 rfl (A8 rfl) rfl rfl ?_; rintro _ ⟨b108, rfl⟩)
 refine A4 8 ?_
 (refine E6 rfl (A8 rfl) rfl rfl ?_; rintro _ ⟨b110, rfl⟩)
 refine A4 10 ?_
 (refine oS rfl rfl rfl rfl rfl ho3 rfl rfl ?_ (hu := by exact D4 rfl.symm))
 refine A4 11 ?_
 (refine oS rfl rfl rfl rfl rfl ho1 rfl rfl ?_ (hu := by exact D4 rfl.symm))
 refine B9 ?_
 refine D8 D9 rfl ?_
 refine L3 (i := 0) (l' := [tt,ff,ff,ff,ff,ff,ff,ff,ff,ff,ff,ff,ff,ff,ff,ff,ff,ff,ff,ff,ff,ff,ff,ff,ff,ff,ff,ff,ff,ff,ff,ff,ff,ff]) rfl D3 (A3 rfl rfl (B1 (by repeat first | exact mH | apply mT)) rfl) rfl (by kernel_rfl) rfl rfl ?_
 refine aL 1 rfl (A3 rfl rfl (B1 (by repeat first | exact mH | apply mT)) rfl) rfl ?_
 refine aP 2 rfl (B8 rfl) rfl ?_
 refine aP 3 rfl (qF rfl) rfl ?_
 refine aL 4 rfl (C4 rfl rfl) rfl ?_
 refine aP 5 rfl (B6 (j := 0) rfl rfl rfl (by omega)) rfl ?_
 refine aL 6 rfl (A3 rfl rfl (hat5 _) rfl) rfl ?_
 refine aP 7 rfl (B8 rfl) rfl ?_
 refine aP 8 rfl (qF rfl) rfl ?_
 refine aL 9 rfl (C4 rfl rfl) rfl ?_
 refine aP 10 rfl (B6 (j := 0) rfl rfl rfl (by omega)) rfl ?_
 refine aL 11 rfl (A3 rfl rfl (hat7 _) rfl) rfl ?_
 refine aP 12 rfl (B8 rfl) rfl ?_
 refine aL 13 rfl (C4 rfl rfl) rfl ?_
 refine aP 14 rfl (A4I rfl (by omega) (by omega)) rfl ?_
 refine aP 18 rfl (B8 rfl) rfl ?_
 refine aP 19 rfl (qF rfl) rfl ?_
 refine aL 20 rfl (C4 rfl rfl) rfl ?_
 refine aP 21 rfl (B6 (j := 1) rfl rfl rfl (by omega)) rfl ?_
 refine aL 22 rfl (A3 rfl rfl (hat8 _) rfl) rfl ?_
 refine aP 23 rfl (B8 rfl) rfl ?_
 refine aP 24 rfl (qF rfl) rfl ?_
 refine aL 25 rfl (C4 rfl rfl) rfl ?_
 refine aP 26 rfl (B6 (j := 1) rfl rfl rfl (by omega)) rfl ?_
 refine aL 27 rfl (A3 rfl rfl (hat6 _) rfl) rfl ?_
 refine aP 28 rfl (B8 rfl) rfl ?_
 refine aL 29 rfl (C4 rfl rfl) rfl ?_
 refine A4 15 ?_
 (refine H4 rfl rfl (A1t b atks[0] afks[0] (-alb) G _ _ _ ⟨by omega, by omega⟩ hre1 hre5 hre7) rfl rfl rfl (fun u G1 hle1 hh => ?_); obtain ⟨uc, rfl, hru⟩ := hh; have hul := hru.len; have huo := hru.one; obtain ⟨z1, z2, z3, z4, z5, z6, z7, z8, z9, rfl⟩ := nine hul; replace hre3 := hre3.mono hle1; replace hre6 := hre6.mono hle1; replace hre8 := hre8.mono hle1)
 refine A4 16 ?_
 (refine E6 rfl (D2 rfl rfl rfl (by omega) (by unfold maxLen; omega) rfl) rfl rfl ?_; rintro _ ⟨b149, rfl⟩)
 refine A4 17 ?_
 (refine A1e (cs := [x1, x2, x3, x4, x5, x6, x7, x8, x9, z1, z2, z3, z4, z5, z6, z7, z8, z9]) (by repeat (first | exact Pk.here | apply Pk.there)) (fun G2 hle2 hsl2 hno2 => ?_); have hrN := A0Z (k := 6) (ks := [aks[0], K7 b atks[0] afks[0] (-alb)]) (es := [[x1, x2, x3, x4, x5, x6, x7, x8, x9], [z1, z2, z3, z4, z5, z6, z7, z8, z9]]) ⟨by decide, by decide⟩ rfl (E0.of hsl2 rfl (by simp) (by intro x hx; rcases List.mem_cons.1 hx with rfl | hx; exact ho3; obtain rfl := List.mem_singleton.1 hx; exact huo)) (by simp only [E4]; exact ⟨_, _, rfl, hre3.mono hle2, _, _, rfl, hru.mono hle2, rfl⟩); replace hre6 := hre6.mono hle2; replace hre8 := hre8.mono hle2; refine N6 rfl rfl (A3z _ _ _ _ _) rfl rfl rfl ?_)
 refine A4 30 ?_
 (refine H4 rfl rfl (A1t _ afks[1] atks[1] alb G2 _ _ _ ⟨by omega, by omega⟩ hrN hre8 hre6) rfl rfl rfl (fun u G3 hle3 hh => ?_); obtain ⟨wc, rfl, hrw⟩ := hh; have hwl := hrw.len; have hwo := hrw.one)
 refine A4 31 ?_
 (refine oS rfl rfl rfl rfl hwl hwo rfl rfl ?_ (hu := by exact D4 hwl.symm))
 refine aP 32 rfl (qA rfl) rfl ?_
 refine aP 33 rfl (qA rfl) rfl ?_
 refine B2 ?_
 refine D1 (rC rfl (A3 rfl rfl (B1 (by repeat first | exact mH | apply mT)) hwl)) (rT rfl) (rT rfl) ?_
 exact B0I
 refine E1 ?_
 refine sP (I7 rfl rfl (by omega)) rfl rfl ?_
 refine B9 ?_
 refine sP (I7 rfl rfl (by omega)) rfl rfl ?_
 refine A0b ?_
 refine sP (W9 rfl rfl (by omega)) rfl rfl ?_
 refine H6 ?_
 refine D1 (rC rfl (A6 rfl rfl)) (rT rfl) (rT rfl) ?_
 exact A3A
 refine H6 ?_
 refine sP (I7 rfl rfl (by omega)) rfl rfl ?_
 refine B9 ?_
 refine sP (I7 rfl rfl (by omega)) rfl rfl ?_
 refine A0b ?_
 refine sP (W9 rfl rfl (by omega)) rfl rfl ?_
 refine H6 ?_
 refine D1 (rC rfl (A6 rfl rfl)) (rT rfl) (rT rfl) ?_
 exact A3A
theorem B0J {Q : Prop} (h : Q := by (exact W1.mk (by rw [if_pos hq, A2k (by omega), A00 (by omega), A00 (by omega)]) hrw)) : Q := h
theorem B0K (k : Int) (a : Tm) (nm : ByteArray) (num : Int) (ty fr : Ty) (lb : Int) (G : IM) (cells : List Value) (hk1 : k = 11 ∨ k = 12) (hca : cv a) (hr : B3 G (.mk k nm num ty fr lb [a]) cells) : Fn Tryz.prog 144 [.agg ⟨cells⟩] [] G (W1 (Z5 k ty fr lb [a])) := by
 obtain ⟨ak, anm, anum, ⟨atk, atks⟩, ⟨afk, afks⟩, alb, aks⟩ := a
 obtain ⟨hN, hkk⟩ := hca.node
 have hops := hN.ops
 have hbl := hN.lbB
 have htyA := hN.tyA
 have hfrA := hN.frA
 rw [F8] at htyA hfrA
 have h14 : ak = 14 → aks.length = 1 := fun h => by rw [h] at hops; have : D7 14 = 1 := rfl; omega
 obtain ⟨tk, tks⟩ := ty
 obtain ⟨fk, fks⟩ := fr
 obtain ⟨pt, ct, pf, cf, p, c, es, rfl, hk, hnum, hlb, hty, hfr, hsl, hkl⟩ := hr.open9
 obtain ⟨bx, ox, e0, rfl, hl0, hat0, hre0, hgb0⟩ := hsl.kidTm hkl (i := 0) (by simp) (by simp)
 replace hre0 : B3 G (Tm.mk ak anm anum (.mk atk atks) (.mk afk afks) alb aks) e0 := hre0
 have hP : Fn Tryz.prog 69 [.agg ⟨e0⟩] [] G (H5 (.bool (decide (ak = 14 ∧ afk = atk ∧ (atk = 4 ∨ atk = 5)))) G) := A2U _ G _ hre0
 have hI := A4m _ G _ hre0
 have ho0 := hre0.one
 obtain ⟨apt, act, apf, acf, ap, ac, aes, rfl, hak, hanum, halb, haty, hafr, hasl, hakl⟩ := hre0.open9
 have hfk64 : H1 fk := by obtain ⟨_, _, _, _, h, _⟩ := hfr.open; exact h
 have htk64 : H1 tk := by obtain ⟨_, _, _, _, h, _⟩ := hty.open; exact h
 obtain ⟨tes, htS, htL⟩ := haty.kids
 obtain ⟨fes, hfS, hfL⟩ := hafr.kids
 simp only [Ty.ks] at htS htL hfS hfL
 obtain ⟨i, hi⟩ : ∃ i : Nat, (k - 11).toNat = i := ⟨_, rfl⟩
 have hR : Z5 k (.mk tk tks) (.mk fk fks) lb [Tm.mk ak anm anum (.mk atk atks) (.mk afk afks) alb aks] = (if (ak = 14 ∧ afk = atk ∧ (atk = 4 ∨ atk = 5)) ∧ atk = 5 then (K7 (Y2 k [kd aks 0]) (kt afks i) (kt atks i) alb, 1, 0) else Q2) := by
  unfold Z5
  rw [if_neg (by omega), if_pos hk1, hi, show kd [Tm.mk ak anm anum (.mk atk atks) (.mk afk afks) alb aks] 0 = Tm.mk ak anm anum (.mk atk atks) (.mk afk afks) alb aks from rfl, A0N]
  simp only [decide_eq_true_eq]
  rfl
 rw [hR]
 refine C2 Tryz.func144 rfl Tryz.ntmps144 Tryz.results144 rfl ?_
 intro w0
 refine A5 ?_
 refine sE (C7 rfl rfl) rfl (fun b3 => ?_)
 refine sE (A8 rfl) rfl (fun b4 => ?_)
 refine D0 ?_
 refine sP (B6 (j := 0) rfl rfl rfl (by simp)) rfl rfl ?_
 refine sL (A3 rfl rfl (hat0 _) rfl) rfl rfl ?_
 refine sE (A8 rfl) rfl (fun b15 => ?_)
 refine B7 ?_
 refine C3 ?_
 refine B7 ?_
 refine sP (I7 rfl rfl (by omega)) rfl rfl ?_
 refine U1 ?_
 refine sB (qE rfl rfl) rfl rfl (fun h44 => ?_) (fun h44 => ?_)
 refine B5 ?_
 focus (by_cases hpx : (ak = 14 ∧ afk = atk ∧ (atk = 4 ∨ atk = 5)); rw [decide_eq_true hpx] at hP; rotate_left; rw [decide_eq_false hpx] at hP; rotate_left; all_goals (refine H9 rfl hP rfl rfl ?_))
 refine B2 ?_
 refine sB (qE rfl rfl) rfl rfl (fun h58 => ?_) (fun h58 => ?_)
 refine E1 ?_
 refine sP (P3 rfl rfl (by omega) (by omega)) rfl rfl ?_
 refine B7 ?_
 (have hq : (ak = 14 ∧ afk = atk ∧ (atk = 4 ∨ atk = 5)) ∧ atk = 5 := ⟨hpx, by omega⟩; have hq1 := h14 hq.1.1; have hq2 := htyA.1 (by omega); have hq3 := hfrA.1 (by omega); rw [show (k - 11 : Int) = ((i : Nat) : Int) from (by omega)]; obtain ⟨bq, oq, e3, rfl, hl3, hat3, hre3, hgb3⟩ := hasl.kidTm hakl (i := 0) (by omega) (by omega); have ho3 := hre3.one; obtain ⟨b5, o5, q5, d5, rfl, hat5, hre5, hgb5⟩ := htS.kidTy htL (i := i) (by omega) (by omega); obtain ⟨b7, o7, q7, d7, rfl, hat7, hre7, hgb7⟩ := hfS.kidTy hfL (i := i) (by omega) (by omega); obtain ⟨x1, x2, x3, x4, x5, x6, x7, x8, x9, rfl⟩ := nine hl3; refine D8 D9 rfl ?_)
 refine I6 (i := 0) (l' := [tt,ff,ff,ff,ff,ff,ff,ff,ff,ff,ff,ff,ff,ff,ff,ff,ff,ff,ff,ff,ff,ff,ff,ff,ff,ff]) rfl D3 (B8 rfl) rfl (by kernel_rfl) rfl rfl ?_
 refine aL 1 rfl (C4 rfl rfl) rfl ?_
 refine aP 2 rfl (B8 rfl) rfl ?_
 refine aL 3 rfl (C4 rfl rfl) rfl ?_
 refine aP 4 rfl (B6 (j := 0) rfl rfl rfl (by omega)) rfl ?_
 refine aL 5 rfl (A3 rfl rfl (hat3 _) rfl) rfl ?_
 refine aP 8 rfl (B8 rfl) rfl ?_
 refine aP 9 rfl (qF rfl) rfl ?_
 refine aL 10 rfl (C4 rfl rfl) rfl ?_
 refine aP 11 rfl (qM rfl) rfl ?_
 refine aP 12 rfl (B6 (j := i) rfl rfl rfl (by omega)) rfl ?_
 refine aL 13 rfl (A3 rfl rfl (hat7 _) rfl) rfl ?_
 refine aP 14 rfl (B8 rfl) rfl ?_
 refine aP 15 rfl (qF rfl) rfl ?_
 refine aL 16 rfl (C4 rfl rfl) rfl ?_
 refine aP 17 rfl (qM rfl) rfl ?_
 refine aP 18 rfl (B6 (j := i) rfl rfl rfl (by omega)) rfl ?_
 refine aL 19 rfl (A3 rfl rfl (hat5 _) rfl) rfl ?_
 refine aP 20 rfl (B8 rfl) rfl ?_
 refine aL 21 rfl (C4 rfl rfl) rfl ?_
 refine A4 6 ?_
 (refine E6 rfl (D2 rfl rfl rfl (by omega) (by unfold maxLen; omega) rfl) rfl rfl ?_; rintro _ ⟨b95, rfl⟩)
 refine A4 7 ?_
 (refine A1e (cs := [x1, x2, x3, x4, x5, x6, x7, x8, x9]) (by repeat (first | exact Pk.here | apply Pk.there)) (fun G2 hle2 hsl2 hno2 => ?_); have hrN := A0Z (k := k) (ks := [aks[0]]) (es := [[x1, x2, x3, x4, x5, x6, x7, x8, x9]]) hk rfl (E0.of hsl2 rfl (by simp) (by intro x hx; obtain rfl := List.mem_singleton.1 hx; exact ho3)) (by simp only [E4]; exact ⟨_, _, rfl, hre3.mono hle2, rfl⟩); replace hre5 := hre5.mono hle2; replace hre7 := hre7.mono hle2; refine N6 rfl rfl (A3z _ _ _ _ _) rfl rfl rfl ?_)
 refine A4 22 ?_
 (refine H4 rfl rfl (A1t _ afks[i] atks[i] alb G2 _ _ _ ⟨by omega, by omega⟩ hrN hre7 hre5) rfl rfl rfl (fun u G3 hle3 hh => ?_); obtain ⟨wc, rfl, hrw⟩ := hh; have hwl := hrw.len; have hwo := hrw.one)
 refine A4 23 ?_
 (refine oS rfl rfl rfl rfl hwl hwo rfl rfl ?_ (hu := by exact D4 hwl.symm))
 refine aP 24 rfl (qA rfl) rfl ?_
 refine aP 25 rfl (qA rfl) rfl ?_
 refine B2 ?_
 refine D1 (rC rfl (A3 rfl rfl (B1 (by repeat first | exact mH | apply mT)) hwl)) (rT rfl) (rT rfl) ?_
 exact B0J
 refine E1 ?_
 refine sP (W9 rfl rfl (by omega)) rfl rfl ?_
 refine H6 ?_
 refine D1 (rC rfl (A6 rfl rfl)) (rT rfl) (rT rfl) ?_
 exact A3A
 refine H6 ?_
 refine sP (W9 rfl rfl (by omega)) rfl rfl ?_
 refine H6 ?_
 refine D1 (rC rfl (A6 rfl rfl)) (rT rfl) (rT rfl) ?_
 exact A3A
 refine B9 ?_
 refine sP (W8 rfl rfl (by omega)) rfl rfl ?_
 refine B9 ?_
 focus (by_cases hpx : (ak = 14 ∧ afk = atk ∧ (atk = 4 ∨ atk = 5)); rw [decide_eq_true hpx] at hP; rotate_left; rw [decide_eq_false hpx] at hP; rotate_left; all_goals (refine H9 rfl hP rfl rfl ?_))
 refine B2 ?_
 refine sB (qE rfl rfl) rfl rfl (fun h184 => ?_) (fun h184 => ?_)
 refine E1 ?_
 refine sP (P3 rfl rfl (by omega) (by omega)) rfl rfl ?_
 refine B7 ?_
 (have hq : (ak = 14 ∧ afk = atk ∧ (atk = 4 ∨ atk = 5)) ∧ atk = 5 := ⟨hpx, by omega⟩; have hq1 := h14 hq.1.1; have hq2 := htyA.1 (by omega); have hq3 := hfrA.1 (by omega); rw [show (k - 11 : Int) = ((i : Nat) : Int) from (by omega)]; obtain ⟨bq, oq, e3, rfl, hl3, hat3, hre3, hgb3⟩ := hasl.kidTm hakl (i := 0) (by omega) (by omega); have ho3 := hre3.one; obtain ⟨b5, o5, q5, d5, rfl, hat5, hre5, hgb5⟩ := htS.kidTy htL (i := i) (by omega) (by omega); obtain ⟨b7, o7, q7, d7, rfl, hat7, hre7, hgb7⟩ := hfS.kidTy hfL (i := i) (by omega) (by omega); obtain ⟨x1, x2, x3, x4, x5, x6, x7, x8, x9, rfl⟩ := nine hl3; refine D8 D9 rfl ?_)
 refine I6 (i := 0) (l' := [tt,ff,ff,ff,ff,ff,ff,ff,ff,ff,ff,ff,ff,ff,ff,ff,ff,ff,ff,ff,ff,ff,ff,ff,ff,ff]) rfl D3 (B8 rfl) rfl (by kernel_rfl) rfl rfl ?_
 refine aL 1 rfl (C4 rfl rfl) rfl ?_
 refine aP 2 rfl (B8 rfl) rfl ?_
 refine aL 3 rfl (C4 rfl rfl) rfl ?_
 refine aP 4 rfl (B6 (j := 0) rfl rfl rfl (by omega)) rfl ?_
 refine aL 5 rfl (A3 rfl rfl (hat3 _) rfl) rfl ?_
 refine aP 8 rfl (B8 rfl) rfl ?_
 refine aP 9 rfl (qF rfl) rfl ?_
 refine aL 10 rfl (C4 rfl rfl) rfl ?_
 refine aP 11 rfl (qM rfl) rfl ?_
 refine aP 12 rfl (B6 (j := i) rfl rfl rfl (by omega)) rfl ?_
 refine aL 13 rfl (A3 rfl rfl (hat7 _) rfl) rfl ?_
 refine aP 14 rfl (B8 rfl) rfl ?_
 refine aP 15 rfl (qF rfl) rfl ?_
 refine aL 16 rfl (C4 rfl rfl) rfl ?_
 refine aP 17 rfl (qM rfl) rfl ?_
 refine aP 18 rfl (B6 (j := i) rfl rfl rfl (by omega)) rfl ?_
 refine aL 19 rfl (A3 rfl rfl (hat5 _) rfl) rfl ?_
 refine aP 20 rfl (B8 rfl) rfl ?_
 refine aL 21 rfl (C4 rfl rfl) rfl ?_
 refine A4 6 ?_
 (refine E6 rfl (D2 rfl rfl rfl (by omega) (by unfold maxLen; omega) rfl) rfl rfl ?_; rintro _ ⟨b221, rfl⟩)
 refine A4 7 ?_
 (refine A1e (cs := [x1, x2, x3, x4, x5, x6, x7, x8, x9]) (by repeat (first | exact Pk.here | apply Pk.there)) (fun G2 hle2 hsl2 hno2 => ?_); have hrN := A0Z (k := k) (ks := [aks[0]]) (es := [[x1, x2, x3, x4, x5, x6, x7, x8, x9]]) hk rfl (E0.of hsl2 rfl (by simp) (by intro x hx; obtain rfl := List.mem_singleton.1 hx; exact ho3)) (by simp only [E4]; exact ⟨_, _, rfl, hre3.mono hle2, rfl⟩); replace hre5 := hre5.mono hle2; replace hre7 := hre7.mono hle2; refine N6 rfl rfl (A3z _ _ _ _ _) rfl rfl rfl ?_)
 refine A4 22 ?_
 (refine H4 rfl rfl (A1t _ afks[i] atks[i] alb G2 _ _ _ ⟨by omega, by omega⟩ hrN hre7 hre5) rfl rfl rfl (fun u G3 hle3 hh => ?_); obtain ⟨wc, rfl, hrw⟩ := hh; have hwl := hrw.len; have hwo := hrw.one)
 refine A4 23 ?_
 (refine oS rfl rfl rfl rfl hwl hwo rfl rfl ?_ (hu := by exact D4 hwl.symm))
 refine aP 24 rfl (qA rfl) rfl ?_
 refine aP 25 rfl (qA rfl) rfl ?_
 refine B2 ?_
 refine D1 (rC rfl (A3 rfl rfl (B1 (by repeat first | exact mH | apply mT)) hwl)) (rT rfl) (rT rfl) ?_
 exact B0J
 refine E1 ?_
 refine sP (W9 rfl rfl (by omega)) rfl rfl ?_
 refine H6 ?_
 refine D1 (rC rfl (A6 rfl rfl)) (rT rfl) (rT rfl) ?_
 exact A3A
 refine H6 ?_
 refine sP (W9 rfl rfl (by omega)) rfl rfl ?_
 refine H6 ?_
 refine D1 (rC rfl (A6 rfl rfl)) (rT rfl) (rT rfl) ?_
 exact A3A
theorem A4o {t : Tm} (h : inj t = true) : t.k = 14 := by
 unfold inj at h
 simp only [Bool.and_eq_true, decide_eq_true_eq] at h
 exact h.1.1
theorem B5O {t u : Ty} (h : R7 t = true) (h' : R7 u = true) : M5 t u = decide (t.k = u.k) := by
 have e1 := B0H h
 have e2 := B0H h'
 by_cases hk : t.k = u.k
 ·rw [decide_eq_true hk, Z2, e1, e2]
  unfold T3; rw [hk]
 ·rw [decide_eq_false hk]
  cases hs : M5 t u with
  | false => rfl
  | true => exact absurd (congrArg Ty.k ((Z2 _ _).1 hs)) hk
theorem A61 {t : Tm} (h : inj t = true) : R7 t.fr = true := by
 unfold inj at h
 rw [Bool.and_eq_true] at h
 exact h.2
theorem B5P (a : Tm) (nm : ByteArray) (num : Int) (ty fr : Ty) (lb : Int) (G : IM) (cells : List Value) (hca : cv a) (hlb9 : -99 ≤ lb ∧ lb ≤ 99) (hr : B3 G (.mk 14 nm num ty fr lb [a]) cells) : Fn Tryz.prog 144 [.agg ⟨cells⟩] [] G (W1 (Z5 14 ty fr lb [a])) := by
 have hji := @A61 a
 have hjk := @A4o a
 obtain ⟨ak, anm, anum, ⟨atk, atks⟩, ⟨afk, afks⟩, alb, aks⟩ := a
 obtain ⟨hN, hkk⟩ := hca.node
 have hops := hN.ops
 have hbl := hN.lbB
 have htyA := hN.tyA
 have hfrA := hN.frA
 rw [F8] at htyA hfrA
 have h14 : ak = 14 → aks.length = 1 := fun h => by rw [h] at hops; have : D7 14 = 1 := rfl; omega
 obtain ⟨tk, tks⟩ := ty
 obtain ⟨fk, fks⟩ := fr
 obtain ⟨pt, ct, pf, cf, p, c, es, rfl, hk, hnum, hlb, hty, hfr, hsl, hkl⟩ := hr.open9
 obtain ⟨bx, ox, e0, rfl, hl0, hat0, hre0, hgb0⟩ := hsl.kidTm hkl (i := 0) (by simp) (by simp)
 replace hre0 : B3 G (Tm.mk ak anm anum (.mk atk atks) (.mk afk afks) alb aks) e0 := hre0
 have hP : Fn Tryz.prog 69 [.agg ⟨e0⟩] [] G (H5 (.bool (decide (ak = 14 ∧ afk = atk ∧ (atk = 4 ∨ atk = 5)))) G) := A2U _ G _ hre0
 have hI := A4m _ G _ hre0
 have ho0 := hre0.one
 obtain ⟨apt, act, apf, acf, ap, ac, aes, rfl, hak, hanum, halb, haty, hafr, hasl, hakl⟩ := hre0.open9
 have hfk64 : H1 fk := by obtain ⟨_, _, _, _, h, _⟩ := hfr.open; exact h
 have htk64 : H1 tk := by obtain ⟨_, _, _, _, h, _⟩ := hty.open; exact h
 obtain ⟨tes, htS, htL⟩ := haty.kids
 obtain ⟨fes, hfS, hfL⟩ := hafr.kids
 simp only [Ty.ks] at htS htL hfS hfL
 obtain ⟨J, hJ⟩ : ∃ J, inj (Tm.mk ak anm anum (.mk atk atks) (.mk afk afks) alb aks) = J := ⟨_, rfl⟩
 obtain ⟨D, hD⟩ : ∃ D, R7 (.mk tk tks) = D := ⟨_, rfl⟩
 have hGr := B0z _ G _ hty
 rw [hD] at hGr
 rw [hJ] at hI hji hjk
 have hR : Z5 14 (.mk tk tks) (.mk fk fks) lb [Tm.mk ak anm anum (.mk atk atks) (.mk afk afks) alb aks] = (if fk = tk then (Tm.mk ak anm anum (.mk atk atks) (.mk afk afks) alb aks, 1, 0)
   else if tk = 1 then (K7 (K7 (Tm.mk ak anm anum (.mk atk atks) (.mk afk afks) alb aks) (.mk fk fks) (mGk fk) lb) (mGk fk) (.mk tk tks) lb, 1, 0)
   else if D = false then (K7 (K7 (Tm.mk ak anm anum (.mk atk atks) (.mk afk afks) alb aks) (.mk fk fks) (mGk tk) lb) (mGk tk) (.mk tk tks) lb, 1, 0)
   else if J = false then Q2
   else if afk = tk then (kd aks 0, 1, 0)
   else (I3, 2, lb)) := by
  rw [← hJ, ← hD]; rfl
 rw [hR]
 have hSm : J = true → D = true → M5 (.mk afk afks) (.mk tk tks) = decide (afk = tk) := fun h1 h2 => B5O (hji h1) (hD.trans h2)
 have hTS := A6M (.mk afk afks) (.mk tk tks) G _ _ hafr hty
 refine C2 Tryz.func144 rfl Tryz.ntmps144 Tryz.results144 rfl ?_
 intro w0
 refine A5 ?_
 refine sE (C7 rfl rfl) rfl (fun b3 => ?_)
 refine sE (A8 rfl) rfl (fun b4 => ?_)
 refine D0 ?_
 refine sP (B6 (j := 0) rfl rfl rfl (by simp)) rfl rfl ?_
 refine sL (A3 rfl rfl (hat0 _) rfl) rfl rfl ?_
 refine sE (A8 rfl) rfl (fun b15 => ?_)
 refine B7 ?_
 refine C3 ?_
 refine B7 ?_
 refine sP (I7 rfl rfl (by omega)) rfl rfl ?_
 refine U1 ?_
 refine sP (I7 rfl rfl (by omega)) rfl rfl ?_
 refine B9 ?_
 refine sP (I7 rfl rfl (by omega)) rfl rfl ?_
 refine A0b ?_
 refine sP (A28 rfl rfl (by omega)) rfl rfl ?_
 refine N5 ?_
 refine sB (qE rfl rfl) rfl rfl (fun h81 => ?_) (fun h81 => ?_)
 refine H6 ?_
 refine D1 (rC rfl (A6 rfl rfl)) (rT rfl) (rT rfl) ?_
 (exact W1.mk (by rw [if_pos (by omega)]) hre0)
 refine E1 ?_
 refine sB (qE rfl rfl) rfl rfl (fun h108 => ?_) (fun h108 => ?_)
 refine E1 ?_
 (refine E5 rfl (A6X fk G hfk64) rfl rfl (fun u G1 hle1 hh => ?_); obtain ⟨gc, rfl, hrg⟩ := hh; obtain ⟨pg, cg, eg, rfl, _⟩ := hrg.open; have hgk : tk = 1 := (by omega); replace hre0 := hre0.mono hle1; replace hfr := hfr.mono hle1; replace hty := hty.mono hle1)
 refine sE (A8 rfl) rfl (fun b119 => ?_)
 refine B7 ?_
 refine D8 D9 rfl ?_
 refine L3 (i := 0) (l' := [tt,ff,ff,ff,ff,ff,ff,ff,ff,ff,ff,ff,ff,ff,ff,ff]) rfl D3 (A3 rfl rfl (B1 (by repeat first | exact mH | apply mT)) rfl) rfl (by kernel_rfl) rfl rfl ?_
 refine aL 3 rfl (A3 rfl rfl (B1 (by repeat first | exact mH | apply mT)) rfl) rfl ?_
 refine aL 7 rfl (A3 rfl rfl (B1 (by repeat first | exact mH | apply mT)) rfl) rfl ?_
 refine aP 1 rfl (B8 rfl) rfl ?_
 refine aL 2 rfl (A6 rfl rfl) rfl ?_
 refine aP 4 rfl (B8 rfl) rfl ?_
 refine aL 5 rfl (C4 rfl rfl) rfl ?_
 refine aP 8 rfl (B8 rfl) rfl ?_
 refine aL 9 rfl (A6 rfl rfl) rfl ?_
 refine aP 10 rfl (B8 rfl) rfl ?_
 refine aL 11 rfl (C4 rfl rfl) rfl ?_
 refine A4 6 ?_
 (refine H4 rfl rfl (A1t _ (.mk fk fks) _ lb G1 _ _ _ ⟨by omega, by omega⟩ hre0 hfr hrg) rfl rfl rfl (fun u G3 hle3 hh => ?_); obtain ⟨wc, rfl, hrw⟩ := hh; have hwl := hrw.len; have hwo := hrw.one; replace hrg := hrg.mono hle3; replace hty := hty.mono hle3)
 refine A4 12 ?_
 (refine H4 rfl rfl (A1t _ _ (.mk tk tks) lb G3 _ _ _ ⟨by omega, by omega⟩ hrw hrg hty) rfl rfl rfl (fun u G4 hle4 hh => ?_); obtain ⟨xc, rfl, hrx⟩ := hh; have hxl := hrx.len; have hxo := hrx.one)
 refine A4 13 ?_
 (refine oS rfl rfl rfl rfl hxl hxo rfl rfl ?_ (hu := by exact D4 hxl.symm))
 refine aP 14 rfl (qA rfl) rfl ?_
 refine aP 15 rfl (qA rfl) rfl ?_
 refine B2 ?_
 refine D1 (rC rfl (A3 rfl rfl (B1 (by repeat first | exact mH | apply mT)) hxl)) (rT rfl) (rT rfl) ?_
 (exact W1.mk (by rw [if_neg (by omega), if_pos (by omega)]) hrx)
 refine D0 ?_
 focus (cases hDD : D; all_goals (rw [hDD] at hGr; refine H9 rfl hGr rfl rfl ?_))
 refine J0 ?_
 (refine E5 rfl (A6X tk G htk64) rfl rfl (fun u G1 hle1 hh => ?_); obtain ⟨gc, rfl, hrg⟩ := hh; obtain ⟨pg, cg, eg, rfl, _⟩ := hrg.open; replace hre0 := hre0.mono hle1; replace hfr := hfr.mono hle1; replace hty := hty.mono hle1)
 refine sE (A8 rfl) rfl (fun b171 => ?_)
 refine B7 ?_
 refine D8 D9 rfl ?_
 refine L3 (i := 0) (l' := [tt,ff,ff,ff,ff,ff,ff,ff,ff,ff,ff,ff,ff,ff,ff,ff]) rfl D3 (A3 rfl rfl (B1 (by repeat first | exact mH | apply mT)) rfl) rfl (by kernel_rfl) rfl rfl ?_
 refine aL 3 rfl (A3 rfl rfl (B1 (by repeat first | exact mH | apply mT)) rfl) rfl ?_
 refine aL 7 rfl (A3 rfl rfl (B1 (by repeat first | exact mH | apply mT)) rfl) rfl ?_
 refine aP 1 rfl (B8 rfl) rfl ?_
 refine aL 2 rfl (A6 rfl rfl) rfl ?_
 refine aP 4 rfl (B8 rfl) rfl ?_
 refine aL 5 rfl (C4 rfl rfl) rfl ?_
 refine aP 8 rfl (B8 rfl) rfl ?_
 refine aL 9 rfl (A6 rfl rfl) rfl ?_
 refine aP 10 rfl (B8 rfl) rfl ?_
 refine aL 11 rfl (C4 rfl rfl) rfl ?_
 refine A4 6 ?_
 (refine H4 rfl rfl (A1t _ (.mk fk fks) _ lb G1 _ _ _ ⟨by omega, by omega⟩ hre0 hfr hrg) rfl rfl rfl (fun u G3 hle3 hh => ?_); obtain ⟨wc, rfl, hrw⟩ := hh; have hwl := hrw.len; have hwo := hrw.one; replace hrg := hrg.mono hle3; replace hty := hty.mono hle3)
 refine A4 12 ?_
 (refine H4 rfl rfl (A1t _ _ (.mk tk tks) lb G3 _ _ _ ⟨by omega, by omega⟩ hrw hrg hty) rfl rfl rfl (fun u G4 hle4 hh => ?_); obtain ⟨xc, rfl, hrx⟩ := hh; have hxl := hrx.len; have hxo := hrx.one)
 refine A4 13 ?_
 (refine oS rfl rfl rfl rfl hxl hxo rfl rfl ?_ (hu := by exact D4 hxl.symm))
 refine aP 14 rfl (qA rfl) rfl ?_
 refine aP 15 rfl (qA rfl) rfl ?_
 refine B2 ?_
 refine D1 (rC rfl (A3 rfl rfl (B1 (by repeat first | exact mH | apply mT)) hxl)) (rT rfl) (rT rfl) ?_
 (exact W1.mk (by rw [if_neg (by omega), if_neg (by omega), if_pos rfl]) hrx)
 refine D0 ?_
 focus (cases hJJ : J; all_goals (rw [hJJ] at hI; refine H9 rfl hI rfl rfl ?_))
 refine K4 ?_
 refine D1 (rC rfl (A6 rfl rfl)) (rT rfl) (rT rfl) ?_
 (exact W1.mk (by rw [if_neg (by omega), if_neg (by omega), if_neg (by decide), if_pos rfl]; rfl) (P5 _))
 refine I8 ?_
 focus (rw [hSm hJJ hDD] at hTS; by_cases hfk : afk = tk; rw [decide_eq_true hfk] at hTS; rotate_left; rw [decide_eq_false hfk] at hTS; rotate_left; all_goals (refine H9 rfl hTS rfl rfl ?_))
 refine D0 ?_
 (have hq1 := h14 (hjk (by assumption)); obtain ⟨bq, oq, e3, rfl, hl3, hat3, hre3, hgb3⟩ := hasl.kidTm hakl (i := 0) (by omega) (by omega); have ho3 := hre3.one; refine sP (B6 (j := 0) rfl rfl rfl (by omega)) rfl rfl ?_)
 refine sL (A3 rfl rfl (hat3 _) hl3) rfl rfl ?_
 refine sS rfl rfl rfl hl3 ho3 rfl ?_ (hu := by exact D4 hl3.symm)
 refine B5 ?_
 refine D1 (rC rfl (A3 rfl rfl (B1 (by repeat first | exact mH | apply mT)) hl3)) (rT rfl) (rT rfl) ?_
 (exact W1.mk (by rw [if_neg (by omega), if_neg (by omega), if_neg (by decide), if_neg (by decide), if_pos hfk, A2k (by omega)]) hre3)
 refine D0 ?_
 refine D8 D9 rfl ?_
 refine I6 (i := 0) (l' := [tt,ff,ff,ff,ff,ff]) rfl D3 (X5 rfl rfl) rfl (by kernel_rfl) rfl rfl ?_
 refine aP 1 rfl (B8 rfl) rfl ?_
 refine aL 2 rfl (C4 rfl rfl) rfl ?_
 refine A4 3 ?_
 refine H8 rfl ?_
 refine aP 4 rfl (qA rfl) rfl ?_
 refine aP 5 rfl (qA rfl) rfl ?_
 refine B9 ?_
 refine D1 (rC rfl (A6 rfl rfl)) (rT rfl) (rT rfl) ?_
 (exact W1.mk (by rw [if_neg (by omega), if_neg (by omega), if_neg (by decide), if_neg (by decide), if_neg hfk]) (P5 _))
theorem B0L (k : Int) (a b : Tm) (nm : ByteArray) (num : Int) (ty fr : Ty) (lb : Int) (G : IM) (cells : List Value) (hk1 : k = 7 ∨ k = 8) (hca : cv a) (hr : B3 G (.mk k nm num ty fr lb [a, b]) cells) : Fn Tryz.prog 144 [.agg ⟨cells⟩] [] G (W1 (Z5 k ty fr lb [a, b])) := by
 have hR : Z5 k ty fr lb [a, b] = Q2 := by unfold Z5; rw [if_neg (by omega), if_neg (by omega), if_neg (by omega)]
 rw [hR]
 obtain ⟨ak, anm, anum, ⟨atk, atks⟩, ⟨afk, afks⟩, alb, aks⟩ := a
 obtain ⟨hN, hkk⟩ := hca.node
 have hops := hN.ops
 have hbl := hN.lbB
 have htyA := hN.tyA
 have hfrA := hN.frA
 rw [F8] at htyA hfrA
 have h14 : ak = 14 → aks.length = 1 := fun h => by rw [h] at hops; have : D7 14 = 1 := rfl; omega
 obtain ⟨tk, tks⟩ := ty
 obtain ⟨fk, fks⟩ := fr
 obtain ⟨pt, ct, pf, cf, p, c, es, rfl, hk, hnum, hlb, hty, hfr, hsl, hkl⟩ := hr.open9
 obtain ⟨bx, ox, e0, rfl, hl0, hat0, hre0, hgb0⟩ := hsl.kidTm hkl (i := 0) (by simp) (by simp)
 replace hre0 : B3 G (Tm.mk ak anm anum (.mk atk atks) (.mk afk afks) alb aks) e0 := hre0
 have hP : Fn Tryz.prog 69 [.agg ⟨e0⟩] [] G (H5 (.bool (decide (ak = 14 ∧ afk = atk ∧ (atk = 4 ∨ atk = 5)))) G) := A2U _ G _ hre0
 have hI := A4m _ G _ hre0
 have ho0 := hre0.one
 obtain ⟨apt, act, apf, acf, ap, ac, aes, rfl, hak, hanum, halb, haty, hafr, hasl, hakl⟩ := hre0.open9
 have hfk64 : H1 fk := by obtain ⟨_, _, _, _, h, _⟩ := hfr.open; exact h
 have htk64 : H1 tk := by obtain ⟨_, _, _, _, h, _⟩ := hty.open; exact h
 obtain ⟨tes, htS, htL⟩ := haty.kids
 obtain ⟨fes, hfS, hfL⟩ := hafr.kids
 simp only [Ty.ks] at htS htL hfS hfL
 refine C2 Tryz.func144 rfl Tryz.ntmps144 Tryz.results144 rfl ?_
 intro w0
 refine A5 ?_
 refine sE (C7 rfl rfl) rfl (fun b3 => ?_)
 refine sE (A8 rfl) rfl (fun b4 => ?_)
 refine D0 ?_
 refine sP (B6 (j := 0) rfl rfl rfl (by simp)) rfl rfl ?_
 refine sL (A3 rfl rfl (hat0 _) rfl) rfl rfl ?_
 refine sE (A8 rfl) rfl (fun b15 => ?_)
 refine B7 ?_
 refine C3 ?_
 refine B7 ?_
 refine sP (I7 rfl rfl (by omega)) rfl rfl ?_
 refine U1 ?_
 refine sP (I7 rfl rfl (by omega)) rfl rfl ?_
 refine B9 ?_
 refine sP (I7 rfl rfl (by omega)) rfl rfl ?_
 refine A0b ?_
 refine sP (W9 rfl rfl (by omega)) rfl rfl ?_
 refine H6 ?_
 refine D1 (rC rfl (A6 rfl rfl)) (rT rfl) (rT rfl) ?_
 (exact W1.mk rfl (P5 _))
theorem B5Q (a b c0 : Tm) (nm : ByteArray) (num : Int) (ty fr : Ty) (lb : Int) (G : IM) (cells : List Value) (hca : cv a) (hr : B3 G (.mk 9 nm num ty fr lb [a, b, c0]) cells) : Fn Tryz.prog 144 [.agg ⟨cells⟩] [] G (W1 (Z5 9 ty fr lb [a, b, c0])) := by
 have hR : Z5 9 ty fr lb [a, b, c0] = Q2 := by unfold Z5; rw [if_neg (by omega), if_neg (by omega), if_neg (by omega)]
 rw [hR]
 obtain ⟨ak, anm, anum, ⟨atk, atks⟩, ⟨afk, afks⟩, alb, aks⟩ := a
 obtain ⟨hN, hkk⟩ := hca.node
 have hops := hN.ops
 have hbl := hN.lbB
 have htyA := hN.tyA
 have hfrA := hN.frA
 rw [F8] at htyA hfrA
 have h14 : ak = 14 → aks.length = 1 := fun h => by rw [h] at hops; have : D7 14 = 1 := rfl; omega
 obtain ⟨tk, tks⟩ := ty
 obtain ⟨fk, fks⟩ := fr
 obtain ⟨pt, ct, pf, cf, p, c, es, rfl, hk, hnum, hlb, hty, hfr, hsl, hkl⟩ := hr.open9
 obtain ⟨bx, ox, e0, rfl, hl0, hat0, hre0, hgb0⟩ := hsl.kidTm hkl (i := 0) (by simp) (by simp)
 replace hre0 : B3 G (Tm.mk ak anm anum (.mk atk atks) (.mk afk afks) alb aks) e0 := hre0
 have hP : Fn Tryz.prog 69 [.agg ⟨e0⟩] [] G (H5 (.bool (decide (ak = 14 ∧ afk = atk ∧ (atk = 4 ∨ atk = 5)))) G) := A2U _ G _ hre0
 have hI := A4m _ G _ hre0
 have ho0 := hre0.one
 obtain ⟨apt, act, apf, acf, ap, ac, aes, rfl, hak, hanum, halb, haty, hafr, hasl, hakl⟩ := hre0.open9
 have hfk64 : H1 fk := by obtain ⟨_, _, _, _, h, _⟩ := hfr.open; exact h
 have htk64 : H1 tk := by obtain ⟨_, _, _, _, h, _⟩ := hty.open; exact h
 obtain ⟨tes, htS, htL⟩ := haty.kids
 obtain ⟨fes, hfS, hfL⟩ := hafr.kids
 simp only [Ty.ks] at htS htL hfS hfL
 refine C2 Tryz.func144 rfl Tryz.ntmps144 Tryz.results144 rfl ?_
 intro w0
 refine A5 ?_
 refine sE (C7 rfl rfl) rfl (fun b3 => ?_)
 refine sE (A8 rfl) rfl (fun b4 => ?_)
 refine D0 ?_
 refine sP (B6 (j := 0) rfl rfl rfl (by simp)) rfl rfl ?_
 refine sL (A3 rfl rfl (hat0 _) rfl) rfl rfl ?_
 refine sE (A8 rfl) rfl (fun b15 => ?_)
 refine B7 ?_
 refine C3 ?_
 refine B7 ?_
 refine sP (I7 rfl rfl (by omega)) rfl rfl ?_
 refine U1 ?_
 refine sP (I7 rfl rfl (by omega)) rfl rfl ?_
 refine B9 ?_
 refine sP (I7 rfl rfl (by omega)) rfl rfl ?_
 refine A0b ?_
 refine sP (W9 rfl rfl (by omega)) rfl rfl ?_
 refine H6 ?_
 refine D1 (rC rfl (A6 rfl rfl)) (rT rfl) (rT rfl) ?_
 (exact W1.mk rfl (P5 _))
theorem B5R (nm : ByteArray) (num : Int) (ty fr : Ty) (lb : Int) (G : IM) (cells : List Value) (hr : B3 G (.mk 1 nm num ty fr lb []) cells) : Fn Tryz.prog 143 [.agg ⟨cells⟩] [] G (V5 (Y5 1 [])) := by
 rw [show Y5 1 [] = none from rfl]
 obtain ⟨tk, tks⟩ := ty
 obtain ⟨fk, fks⟩ := fr
 obtain ⟨pt, ct, pf, cf, p, c, es, rfl, hk, hnum, hlb, hty, hfr, hsl, hkl⟩ := hr.open9
 have hL : ([] : List Tm).length = 0 := rfl
 refine C2 Tryz.func143 rfl Tryz.ntmps143 Tryz.results143 rfl ?_
 intro w0
 refine A5 ?_
 refine sE (C7 rfl rfl) rfl (fun b3 => ?_)
 refine sE (A8 rfl) rfl (fun b4 => ?_)
 refine B0 ?_
 refine sE (A8 rfl) rfl (fun b11 => ?_)
 refine E1 ?_
 refine sP (B2J rfl rfl (by omega)) rfl rfl ?_
 refine N5 ?_
 refine C3 ?_
 refine A5 ?_
 refine sP (I7 rfl rfl (by omega)) rfl rfl ?_
 refine B5 ?_
 refine sP (I7 rfl rfl (by omega)) rfl rfl ?_
 refine B2 ?_
 refine sP (I7 rfl rfl (by omega)) rfl rfl ?_
 refine B0 ?_
 refine sP (I7 rfl rfl (by omega)) rfl rfl ?_
 refine B5 ?_
 refine sP (I7 rfl rfl (by omega)) rfl rfl ?_
 refine B2 ?_
 refine sP (I7 rfl rfl (by omega)) rfl rfl ?_
 refine H6 ?_
 refine I5 (rC rfl (A6 rfl rfl)) (rT rfl) ?_
 (exact V5.no rfl (P5 _))
theorem B5S (a : Tm) (nm : ByteArray) (num : Int) (ty fr : Ty) (lb : Int) (G : IM) (cells : List Value) (hr : B3 G (.mk 14 nm num ty fr lb [a]) cells) : Fn Tryz.prog 143 [.agg ⟨cells⟩] [] G (V5 (Y5 14 [a])) := by
 rw [show Y5 14 [a] = none from rfl]
 obtain ⟨tk, tks⟩ := ty
 obtain ⟨fk, fks⟩ := fr
 obtain ⟨pt, ct, pf, cf, p, c, es, rfl, hk, hnum, hlb, hty, hfr, hsl, hkl⟩ := hr.open9
 obtain ⟨bx, ox, e0, rfl, hl0, hat0, hre0, hgb0⟩ := hsl.kidTm hkl (i := 0) (by simp) (by simp)
 have ho0 : e0.all (·.oneCell') = true := (show B3 G a e0 from hre0).one
 refine C2 Tryz.func143 rfl Tryz.ntmps143 Tryz.results143 rfl ?_
 intro w0
 refine A5 ?_
 refine sE (C7 rfl rfl) rfl (fun b3 => ?_)
 refine sE (A8 rfl) rfl (fun b4 => ?_)
 refine B0 ?_
 refine sE (A8 rfl) rfl (fun b11 => ?_)
 refine E1 ?_
 refine sB (Y9 rfl rfl) rfl rfl (fun h21 => ?_) (fun h21 => ?_)
 refine B0 ?_
 refine sP (B6 (j := 0) rfl rfl rfl (by simp)) rfl rfl ?_
 refine sL (A3 rfl rfl (hat0 _) hl0) rfl rfl ?_
 refine sS rfl rfl rfl hl0 ho0 rfl ?_ (hu := by exact D4 hl0.symm)
 refine E1 ?_
 refine C3 ?_
 refine A5 ?_
 refine sP (I7 rfl rfl (by omega)) rfl rfl ?_
 refine B5 ?_
 refine sP (I7 rfl rfl (by omega)) rfl rfl ?_
 refine B2 ?_
 refine sP (I7 rfl rfl (by omega)) rfl rfl ?_
 refine B0 ?_
 refine sP (I7 rfl rfl (by omega)) rfl rfl ?_
 refine B5 ?_
 refine sP (I7 rfl rfl (by omega)) rfl rfl ?_
 refine B2 ?_
 refine sP (I7 rfl rfl (by omega)) rfl rfl ?_
 refine H6 ?_
 refine I5 (rC rfl (A6 rfl rfl)) (rT rfl) ?_
 (exact V5.no rfl (P5 _))
 refine N5 ?_
 refine C3 ?_
 refine A5 ?_
 refine sP (I7 rfl rfl (by omega)) rfl rfl ?_
 refine B5 ?_
 refine sP (I7 rfl rfl (by omega)) rfl rfl ?_
 refine B2 ?_
 refine sP (I7 rfl rfl (by omega)) rfl rfl ?_
 refine B0 ?_
 refine sP (I7 rfl rfl (by omega)) rfl rfl ?_
 refine B5 ?_
 refine sP (I7 rfl rfl (by omega)) rfl rfl ?_
 refine B2 ?_
 refine sP (I7 rfl rfl (by omega)) rfl rfl ?_
 refine H6 ?_
 refine I5 (rC rfl (A6 rfl rfl)) (rT rfl) ?_
 (exact V5.no rfl (P5 _))
theorem Z6 {ks : List Tm} (h : ks.length = 1) : ∃ a, ks = [a] := by
 match ks, h with
 | [a], _ => exact ⟨a, rfl⟩
theorem ks2 {ks : List Tm} (h : ks.length = 2) : ∃ a b, ks = [a, b] := by
 match ks, h with
 | [a, b], _ => exact ⟨a, b, rfl⟩
theorem ks3 {ks : List Tm} (h : ks.length = 3) : ∃ a b c, ks = [a, b, c] := by
 match ks, h with
 | [a, b, c], _ => exact ⟨a, b, c, rfl⟩
theorem B5T {k : Int} {nm : ByteArray} {num : Int} {ty fr : Ty} {lb : Int} {ks : List Tm} {G : IM} {cells : List Value} (hc : cv (.mk k nm num ty fr lb ks)) (hk : k = 1 ∨ k = 6 ∨ k = 7 ∨ k = 8 ∨ k = 9 ∨ k = 11 ∨ k = 12 ∨ k = 14) (hr : B3 G (.mk k nm num ty fr lb ks) cells) :
  Fn Tryz.prog 143 [.agg ⟨cells⟩] [] G (V5 (Y5 k ks)) := by
 obtain ⟨hN, hkk⟩ := hc.node
 have hops := hN.ops
 rcases hk with rfl | rfl | rfl | rfl | rfl | rfl | rfl | rfl
 ·obtain rfl : ks = [] := List.length_eq_zero_iff.1 (by have : D7 1 = 0 := rfl; omega)
  exact B5R _ _ _ _ _ _ _ hr
 ·obtain ⟨a, b, rfl⟩ := ks2 (ks := ks) (by have : D7 6 = 2 := rfl; omega)
  exact B5K a b _ _ _ _ _ _ _ (hkk a (by simp)) hr
 ·obtain ⟨a, b, rfl⟩ := ks2 (ks := ks) (by have : D7 7 = 2 := rfl; omega)
  exact B0F 7 a b _ _ _ _ _ _ _ (.inl rfl) (hkk a (by simp)) (hkk b (by simp)) hr
 ·obtain ⟨a, b, rfl⟩ := ks2 (ks := ks) (by have : D7 8 = 2 := rfl; omega)
  exact B0F 8 a b _ _ _ _ _ _ _ (.inr rfl) (hkk a (by simp)) (hkk b (by simp)) hr
 ·obtain ⟨a, b, c, rfl⟩ := ks3 (ks := ks) (by have : D7 9 = 3 := rfl; omega)
  exact B5L a b c _ _ _ _ _ _ _ hr
 ·obtain ⟨a, rfl⟩ := Z6 (ks := ks) (by have : D7 11 = 1 := rfl; omega)
  exact B0G 11 a _ _ _ _ _ _ _ (.inl rfl) (hkk a (by simp)) hr
 ·obtain ⟨a, rfl⟩ := Z6 (ks := ks) (by have : D7 12 = 1 := rfl; omega)
  exact B0G 12 a _ _ _ _ _ _ _ (.inr rfl) (hkk a (by simp)) hr
 ·obtain ⟨a, rfl⟩ := Z6 (ks := ks) (by have : D7 14 = 1 := rfl; omega)
  exact B5S a _ _ _ _ _ _ _ hr
theorem B5U {k : Int} {nm : ByteArray} {num : Int} {ty fr : Ty} {lb : Int} {ks : List Tm} {G : IM} {cells : List Value} (hc : cv (.mk k nm num ty fr lb ks)) (hk : k = 6 ∨ k = 7 ∨ k = 8 ∨ k = 9 ∨ k = 11 ∨ k = 12 ∨ k = 14) (hr : B3 G (.mk k nm num ty fr lb ks) cells) :
  Fn Tryz.prog 144 [.agg ⟨cells⟩] [] G (W1 (Z5 k ty fr lb ks)) := by
 obtain ⟨hN, hkk⟩ := hc.node
 have hops := hN.ops
 rcases hk with rfl | rfl | rfl | rfl | rfl | rfl | rfl
 ·obtain ⟨a, b, rfl⟩ := ks2 (ks := ks) (by have : D7 6 = 2 := rfl; omega)
  exact B5N a b _ _ _ _ _ _ _ (hkk a (by simp)) hr
 ·obtain ⟨a, b, rfl⟩ := ks2 (ks := ks) (by have : D7 7 = 2 := rfl; omega)
  exact B0L 7 a b _ _ _ _ _ _ _ (.inl rfl) (hkk a (by simp)) hr
 ·obtain ⟨a, b, rfl⟩ := ks2 (ks := ks) (by have : D7 8 = 2 := rfl; omega)
  exact B0L 8 a b _ _ _ _ _ _ _ (.inr rfl) (hkk a (by simp)) hr
 ·obtain ⟨a, b, c, rfl⟩ := ks3 (ks := ks) (by have : D7 9 = 3 := rfl; omega)
  exact B5Q a b c _ _ _ _ _ _ _ (hkk a (by simp)) hr
 ·obtain ⟨a, rfl⟩ := Z6 (ks := ks) (by have : D7 11 = 1 := rfl; omega)
  exact B0K 11 a _ _ _ _ _ _ _ (.inl rfl) (hkk a (by simp)) hr
 ·obtain ⟨a, rfl⟩ := Z6 (ks := ks) (by have : D7 12 = 1 := rfl; omega)
  exact B0K 12 a _ _ _ _ _ _ _ (.inr rfl) (hkk a (by simp)) hr
 ·obtain ⟨a, rfl⟩ := Z6 (ks := ks) (by have : D7 14 = 1 := rfl; omega)
  exact B5P a _ _ _ _ _ _ _ (hkk a (by simp)) hN.lbB hr
theorem A5u (n : Nat) (t : Tm) (ts : List Tm) : V2 (n + 1) (t :: ts) = if E3 t = true then (match V2 n ts with | some (us, c, l) => some (t :: us, c, l) | none => none) else some ((H0 t).1 :: ts, (H0 t).2.1, (H0 t).2.2) := by
 rw [V2]; rfl
theorem A5v : ∀ (n : Nat) (ks : List Tm), (∀ i, i < n → (h : i < ks.length) → E3 ks[i] = true) → V2 n ks = none
 | n, [], _ => by cases n <;> rfl
 | 0, t :: ts, _ => rfl
 | n + 1, t :: ts, h => by
  rw [A5u, if_pos (show E3 t = true from h 0 (by omega) (by simp)), A5v n ts (fun i hi hl => h (i + 1) (by omega) (by simpa using hl))]
theorem A62 : ∀ (n : Nat) (ks : List Tm) (i : Nat) (hi : i < ks.length), i < n → (∀ j, j < i → (h : j < ks.length) → E3 ks[j] = true) → E3 ks[i] = false → V2 n ks = some (ks.set i (H0 ks[i]).1, (H0 ks[i]).2.1, (H0 ks[i]).2.2)
 | n, [], i, hi, _, _, _ => by simp at hi
 | 0, t :: ts, i, _, hn, _, _ => by omega
 | n + 1, t :: ts, 0, _, _, _, hv => by
  rw [A5u, if_neg (by rw [show E3 t = false from hv]; decide)]; rfl
 | n + 1, t :: ts, i + 1, hi, hn, hj, hv => by
  rw [A5u, if_pos (show E3 t = true from hj 0 (by omega) (by simp)), A62 n ts i (by simpa using hi) (by omega) (fun j hji hl => hj (j + 1) (by omega) (by simpa using hl)) hv]
  rfl
theorem B5V {k : Int} {ty fr : Ty} {lb : Int} {ks : List Tm} (h : (N1 k ty fr lb ks).2.1 = 1) : (N1 k ty fr lb ks).2.2 = 0 := by
 revert h
 unfold N1 Q2
 repeat' split
 all_goals first | (intro _; rfl) | (intro h; exfalso; revert h; simp)
theorem B5W {k : Int} {nm : ByteArray} {num : Int} {ty fr : Ty} {lb : Int} {ks : List Tm} (h : (H0 (.mk k nm num ty fr lb ks)).2.1 = 1) : (H0 (.mk k nm num ty fr lb ks)).2.2 = 0 := by
 rw [H0] at h ⊢
 cases hL : V2 (if k = 9 then 1 else ks.length) ks with
 | none => rw [hL] at h; exact B5V h
 | some p =>
  obtain ⟨us, c, l⟩ := p
  rw [hL] at h
  simp only at h ⊢
  by_cases hc : c = 1
  ·rw [if_pos hc]
  ·rw [if_neg hc] at h; exact absurd h hc
theorem B5X {t : Tm} (h : (H0 t).2.1 = 1) : (H0 t).2.2 = 0 := by cases t; exact B5W h
theorem B0M {k : Int} {nm : ByteArray} {num : Int} {ty fr : Ty} {lb : Int} {ks : List Tm} {i : Nat} (hi : i < ks.length) (hn : i < (if k = 9 then 1 else ks.length)) (hj : ∀ j, j < i → (h : j < ks.length) → E3 ks[j] = true) (hv : E3 ks[i] = false) :
  (H0 (.mk k nm num ty fr lb ks)).2.1 = (H0 ks[i]).2.1 ∧ (H0 (.mk k nm num ty fr lb ks)).2.2 = (H0 ks[i]).2.2 ∧ ((H0 ks[i]).2.1 = 1 → (H0 (.mk k nm num ty fr lb ks)).1 = .mk k nm num ty fr lb (ks.set i (H0 ks[i]).1)) := by
 rw [H0, A62 _ ks i hi hn hj hv]
 simp only
 by_cases hc : (H0 ks[i]).2.1 = 1
 ·rw [if_pos hc]
  exact ⟨hc.symm, (B5X hc).symm, fun _ => rfl⟩
 ·rw [if_neg hc]
  exact ⟨rfl, rfl, fun h => absurd h hc⟩
theorem B5Y {k : Int} {nm : ByteArray} {num : Int} {ty fr : Ty} {lb : Int} {ks : List Tm} (h : ∀ i, i < (if k = 9 then 1 else ks.length) → (hl : i < ks.length) → E3 ks[i] = true) : H0 (.mk k nm num ty fr lb ks) = match Y5 k ks with | some u => (u, 1, 0) | none => Z5 k ty fr lb ks := by
 rw [H0, A5v _ _ h]
 exact B5M k ty fr lb ks
theorem A4p {k : Int} (h : 0 ≤ D7 k) : 1 ≤ k ∧ k ≤ 14 := by
 by_cases hk : 1 ≤ k ∧ k ≤ 14
 ·exact hk
 ·rw [A4V hk] at h; omega
theorem A63 {k : Int} {nm : ByteArray} {num : Int} {ty fr : Ty} {lb : Int} {ks : List Tm} (hc : cv (.mk k nm num ty fr lb ks)) (hv : E3 (.mk k nm num ty fr lb ks) = false) (h : ∀ i, i < (if k = 9 then 1 else ks.length) → (hl : i < ks.length) → E3 ks[i] = true) : k = 1 ∨ k = 6 ∨ k = 7 ∨ k = 8 ∨ k = 9 ∨ k = 11 ∨ k = 12 ∨ k = 14 := by
 obtain ⟨hN, _⟩ := hc.node
 have hr := A4p (by rw [hN.ops]; omega : 0 ≤ D7 k)
 have h13 := hN.ne
 have h25 : ¬(k = 2 ∨ k = 3 ∨ k = 4 ∨ k = 5) := by
  intro hk
  rw [E3, if_neg (by omega)] at hv
  rw [decide_eq_true hk] at hv
  cases hv
 have h10 : k ≠ 10 := by
  rintro rfl
  rw [A3x (.inl rfl), List.all_eq_false] at hv
  obtain ⟨t, ht, hn⟩ := hv
  obtain ⟨i, hi, rfl⟩ := List.mem_iff_getElem.1 ht
  exact hn (h i (by rw [if_neg (by decide)]; exact hi) hi)
 omega
theorem B5Z (t : Tm) (G : IM) (cells : List Value) (hr : B3 G t cells) : Fn Tryz.prog 141 [.agg ⟨cells⟩] [] G (H5 (.int .i64 ((if t.k = 9 then 1 else t.ks.length : Nat) : Int)) G) := by
 obtain ⟨k, nm, num, ⟨tk, tks⟩, ⟨fk, fks⟩, lb, ks⟩ := t
 obtain ⟨pt, ct, pf, cf, p, c, es, rfl, hk, hnum, hlb, hty, hfr, hsl, hkl⟩ := hr.open9
 rw [show (Tm.mk k nm num (.mk tk tks) (.mk fk fks) lb ks).k = k from rfl, show (Tm.mk k nm num (.mk tk tks) (.mk fk fks) lb ks).ks = ks from rfl]
 refine C2 Tryz.func141 rfl Tryz.ntmps141 Tryz.results141 rfl ?_
 intro w0
 refine A5 ?_
 refine sE (C7 rfl rfl) rfl (fun b3 => ?_)
 refine D0 ?_
 refine sB (qE rfl rfl) rfl rfl (fun h12 => ?_) (fun h12 => ?_)
 refine I8 ?_
 (exact ⟨rfl, by rw [if_pos (by omega)]; rfl, rfl⟩)
 refine H6 ?_
 (exact ⟨rfl, by rw [if_neg (by omega)], rfl⟩)
theorem B50 {k : Int} (h8 : k = 1 ∨ k = 6 ∨ k = 7 ∨ k = 8 ∨ k = 9 ∨ k = 11 ∨ k = 12 ∨ k = 14) (h : D7 k = 0) : k = 1 := by
 rcases h8 with rfl | rfl | rfl | rfl | rfl | rfl | rfl | rfl
 ·rfl
 all_goals exact absurd h (by decide)
theorem B0N {G : IM} {r r' : Stp} {u : Tm} {cells : List Value} {c l : Int} (h1 : r.2.1 = c) (h2 : r.2.2 = l) (hr : B3 G u cells) (h3 : c = 1 → u = r.1) : W1 r G (.tuple ⟨[.agg ⟨cells⟩, .int .i64 c, .int .i64 l]⟩) [] := by
 subst h1 h2; exact ⟨rfl, u, cells, rfl, hr, h3⟩
theorem A64 {Q : Prop} (h : Q := by (exact ⟨Nat.zero_le _, fun j hj => absurd hj (Nat.not_lt_zero j)⟩)) : Q := h
theorem A65 {Q : Prop} (h : Q := by (exact ⟨by omega, fun j hji hl2 => (by by_cases he : j = i; (subst he; assumption); exact hj j (by omega) hl2)⟩)) : Q := h
theorem B51 : ∀ (t : Tm) (G : IM) (cells : List Value), cv t → E3 t = false → B3 G t cells → Fn Tryz.prog 99 [.agg ⟨cells⟩] [] G (W1 (H0 t)) := by
 refine Tm.ind fun k nm num ty fr lb ks ih G cells hc hv hr => ?_
 have hr0 := hr
 have hN := hc.node.1
 have hkk := hc.node.2
 have hsm := A2L _ hc
 obtain ⟨_, _, _, _, hksm⟩ := A0t.1 hsm
 have hops := hN.ops
 have hle3 := A1m k
 have hkd := @A63 k nm num ty fr lb ks hc hv
 have hrd := @B5Y k nm num ty fr lb ks
 have hkidS := fun (i : Nat) => @B0M k nm num ty fr lb ks i
 have hRA := fun h => @B5T k nm num ty fr lb ks G cells hc h hr
 have hCA := fun h (G1 : IM) (hle : C6 G G1) => @B5U k nm num ty fr lb ks G1 cells hc h (hr.mono hle)
 have hCt := B5Z _ G _ hr
 rw [show (Tm.mk k nm num ty fr lb ks).k = k from rfl, show (Tm.mk k nm num ty fr lb ks).ks = ks from rfl] at hCt
 obtain ⟨C, hC⟩ : ∃ C : Nat, (if k = 9 then 1 else ks.length : Nat) = C := ⟨_, rfl⟩
 rw [hC] at hCt hkd hrd
 have hkidS' := fun (i : Nat) (hi : i < ks.length) (hn : i < C) => hkidS i hi (by rw [hC]; exact hn)
 have hC9 : C ≤ ks.length := by rw [← hC]; split; (have : D7 k = 3 := by (rename_i h9; rw [h9]; rfl)); omega; omega
 have hrul := hkd
 obtain ⟨tk, tks⟩ := ty
 obtain ⟨fk, fks⟩ := fr
 obtain ⟨pt, ct, pf, cf, p, c, es, rfl, hk, hnum, hlb, hty, hfr, hsl, hkl⟩ := hr.open9
 have hn := hsl.le
 have hnc := hsl.sl.2.1
 refine C2 Tryz.func99 rfl Tryz.ntmps99 Tryz.results99 rfl ?_
 intro w0
 refine A5 ?_
 refine sE (C7 rfl rfl) rfl (fun b3 => ?_)
 refine sE (A8 rfl) rfl (fun b4 => ?_)
 refine B0 ?_
 refine D8 D9 rfl ?_
 refine I6 (i := 0) (l' := [tt,ff,ff,ff,ff,ff,ff]) rfl D3 (B8 rfl) rfl (by kernel_rfl) rfl rfl ?_
 refine aL 1 rfl (C4 rfl rfl) rfl ?_
 refine aL 2 rfl (A6 rfl rfl) rfl ?_
 refine aP 6 rfl (qM rfl) rfl ?_
 refine A4 3 ?_
 refine N6 rfl rfl (hCt) rfl rfl rfl ?_
 refine aP 4 rfl (A8J (l := C) rfl rfl rfl (by omega)) rfl ?_
 refine aP 5 rfl (pLn rfl rfl) rfl ?_
 refine A5 ?_
 refine C3 ?_
 (refine K2 (fun (i : Nat) => ⟨[(19, .int .i64 (i : Int)), (18, .int .i64 (C : Int)), (17, .slice p C c), (1, .pointer (some ⟨b3, 0, none⟩)), (2, .pointer (some ⟨b4, 0, none⟩))], [.blk b4 [.int .i64 0, .string ⟨⟨[]⟩⟩, .int .i64 0, .int .i64 0, .slice none 0 0, .int .i64 0, .slice none 0 0, .int .i64 0, .slice none 0 0], .blk b3 [.int .i64 k, .string nm, .int .i64 num, .int .i64 tk, .slice pt tks.length ct, .int .i64 fk, .slice pf fks.length cf, .int .i64 lb, .slice p ks.length c]], G⟩) (fun i => i ≤ C ∧ ∀ j, j < i → (h : j < ks.length) → E3 ks[j] = true) (fun i => C - i) 0 ?_ ?_ ?_)
 exact E2
 exact A64
 (rintro i ⟨hi, hj⟩)
 refine A5 ?_
 refine sB (J8 rfl rfl) rfl rfl (fun h29 => ?_) (fun h29 => ?_)
 refine B5 ?_
 refine C3 ?_
 refine B9 ?_
 (have hiC : i < C := (by omega); obtain ⟨bx, ox, e, rfl, hl, hat, hre, hgb⟩ := hsl.kidTm hkl (i := i) (by omega) (by omega); have heo := hre.one; have hVi := B0B ks[i] G e hre; refine sP (B6 (j := i) rfl rfl rfl hiC) rfl rfl ?_)
 refine sL (A3 rfl rfl (hat _) hl) rfl rfl ?_
 refine sE (A8 rfl) rfl (fun b43 => ?_)
 refine F0 ?_
 refine sS rfl rfl rfl hl heo rfl ?_ (hu := by exact D4 hl.symm)
 refine B2 ?_
 refine sL (A3 rfl rfl (B1 (by repeat first | exact mH | apply mT)) hl) rfl rfl ?_
 refine E8 rfl (hVi) rfl rfl (fun h52 => ?_) (fun h52 => ?_)
 refine D0 ?_
 refine sP (J6 rfl rfl (by omega) (by omega)) rfl rfl ?_
 refine A5 ?_
 refine K3 (i + 1) ?_ ?_ ?_
 exact E2
 exact A65
 (show C - (i + 1) < C - i; omega)
 refine B5 ?_
 refine sL (A3 rfl rfl (B1 (by repeat first | exact mH | apply mT)) hl) rfl rfl ?_
 (have hvF : E3 ks[i] = false := (by assumption); obtain ⟨hs1, hs2, hs3⟩ := hkidS' i (by omega) hiC (fun j hji hl2 => hj j hji hl2) hvF; refine E5 rfl (ih ks[i] (List.getElem_mem (by omega)) G e (hkk _ (List.getElem_mem (by omega))) hvF hre) rfl rfl (fun v G1 hle1 hh => ?_); obtain ⟨u, uc, rfl, hru, hu1⟩ := hh; have hul := hru.len; have huo := hru.one; have hClo := B4N G1 _ ks.length c es (hsl.mono hle1) (by omega) (by omega))
 refine B7 ?_
 refine sE (A8 rfl) rfl (fun b81 => ?_)
 refine sS rfl rfl rfl hul huo rfl ?_ (hu := by exact D4 hul.symm)
 refine B5 ?_
 refine sE (A8 rfl) rfl (fun b90 => ?_)
 refine B5 ?_
 (refine A1F rfl hClo rfl rfl (fun v98 G98 outs98 hle98 h98 => ?_); obtain ⟨hG, p1, c1, rfl, rfl⟩ := h98; replace hG := hG.symm; subst hG; refine A38 (cs := es.flatten) (by repeat (first | exact Pk.here | apply Pk.there)) (by omega) (fun bc Cc hpe hnc1 hcm => ?_); subst hpe)
 replace hru := hru.mono hle98
 refine E1 ?_
 refine sL (A3 rfl rfl (B1 (by repeat first | exact mH | apply mT)) hul) rfl rfl ?_
 refine sP (B6 (j := i) rfl rfl rfl (by omega)) rfl rfl ?_
 refine W7 rfl rfl rfl hul huo rfl (by repeat first | exact Sw.here | apply Sw.there) (by exact A39 (by rw [hkl.len]; omega) (fun e he => (hsl.all e he)) hul) ?_
 refine N5 ?_
 (refine A2y (bs := [(bc, (es.set i uc).flatten ++ Cc)]) (Pk.perm (by repeat (first | exact Pk.here | apply Pk.there))) (fun hn2 hd2 hle2 => ?_))
 refine B0 ?_
 refine D1 (rC rfl (A6 rfl rfl)) (rT rfl) (rT rfl) ?_
 (have hks2 := E4.set (j := i) ((hkl.mono hle1).mono hle2) (hru.mono hle2); refine B0N (r' := Q2) hs1 hs2 (B3.put (us := ks.set i u) (es := es.set i uc) hk hnum hlb ((hty.mono hle1).mono hle2) ((hfr.mono hle1).mono hle2) (by rw [List.length_set]) (E0.of (Sl.of_blk (A := []) (by rw [A0T hks2.all, hks2.len, List.length_set]) (by omega) hcm (Wi.in hn2 List.mem_cons_self)) (by rw [hks2.len, List.length_set]) hks2.all (fun e he => by obtain ⟨q, hq⟩ := List.getElem?_of_mem he; exact (hks2.inv hq I3).2.one)) hks2) (fun h1 => by rw [hs3 h1, hu1 h1]))
 refine J4 ?_
 focus (have hall : ∀ i, i < C → (hl : i < ks.length) → E3 ks[i] = true := (fun j hjc hl2 => hj j (by omega) hl2); have hk8 := hkd hall; have hrd' := hrd hall; refine E5 rfl (hRA hk8) rfl rfl (fun v G1 hle1 hh => ?_); obtain ⟨u, uc, cc, rfl, hru, hy, hno⟩ := hh; have hul := hru.len; have huo := hru.one; rcases hm : Y5 k ks with _ | x; rotate_left; obtain ⟨rfl, rfl⟩ := hy _ hm; rotate_left; obtain rfl := hno hm; rw [hm] at hrd')
 refine B9 ?_
 refine sE (A8 rfl) rfl (fun b149 => ?_)
 refine sS rfl rfl rfl hul huo rfl ?_ (hu := by exact D4 hul.symm)
 refine B0 ?_
 refine sP (I7 rfl rfl (by omega)) rfl rfl ?_
 refine I8 ?_
 refine sB (qE rfl rfl) rfl rfl (fun h169 => ?_) (fun h169 => ?_)
 refine J4 ?_
 refine D1 (rC rfl (A6 rfl rfl)) (rT rfl) (rT rfl) ?_
 (obtain rfl : k = 1 := B50 hk8 (by omega); rw [hrd']; exact W1.mk rfl (P5 _))
 refine D0 ?_
 (have hk7 : k = 6 ∨ k = 7 ∨ k = 8 ∨ k = 9 ∨ k = 11 ∨ k = 12 ∨ k = 14 := (by rcases hk8 with h1 | hh; (rw [h1] at hops; have : D7 1 = 0 := rfl; omega); exact hh); refine E5 rfl (hCA hk7 _ hle1) rfl rfl (fun v G2 hle2 hh => ?_); obtain ⟨w, wc, rfl, hrw, hw1⟩ := hh; have hwl := hrw.len; have hwo := hrw.one)
 refine B9 ?_
 refine sS rfl rfl rfl hwl hwo rfl ?_ (hu := by exact D4 hwl.symm)
 refine B2 ?_
 refine D1 (rC rfl (A3 rfl rfl (B1 (by repeat first | exact mH | apply mT)) hwl)) (rT rfl) (rT rfl) ?_
 (rw [hrd']; exact B0N (r' := Q2) rfl rfl hrw hw1)
 refine B9 ?_
 refine sE (A8 rfl) rfl (fun b208 => ?_)
 refine sS rfl rfl rfl hul huo rfl ?_ (hu := by exact D4 hul.symm)
 refine B0 ?_
 refine sP (W8 rfl rfl (by omega)) rfl rfl ?_
 refine B2 ?_
 refine sL (A3 rfl rfl (B1 (by repeat first | exact mH | apply mT)) hul) rfl rfl ?_
 refine F0 ?_
 refine sS rfl rfl rfl hul huo rfl ?_ (hu := by exact D4 hul.symm)
 refine B0 ?_
 refine D1 (rC rfl (A3 rfl rfl (B1 (by repeat first | exact mH | apply mT)) hul)) (rT rfl) (rT rfl) ?_
 (rw [hrd', hm]; exact W1.mk rfl hru)
def L8 (r : Stp) : IM → Value → List A7 → Prop := M3 fun G' v => ∃ cells, v = .tuple ⟨[.agg ⟨cells⟩, .int .i64 r.2.1, .int .i64 r.2.2]⟩ ∧ B3 G' r.1 cells
theorem L8.mk {G : IM} {r : Stp} {u : Tm} {c l : Int} {cells : List Value} (h : r = (u, c, l)) (hr : B3 G u cells) : L8 r G (.tuple ⟨[.agg ⟨cells⟩, .int .i64 c, .int .i64 l]⟩) [] := by
 subst h; exact ⟨rfl, cells, rfl, hr⟩
theorem A5w {t : Tm} (h : M9 t = true) : t.small := A2L t (A1U h).1
theorem A5x {e : Tm} (h : M9 e = false) : F9 e = (I3, 3, 0) := by unfold F9; rw [if_pos h]; rfl
theorem A4q {e : Tm} (h : M9 e = true) (h2 : E3 e = true) : F9 e = (e, 0, 0) := by unfold F9; rw [if_neg (by rw [h]; decide), if_pos h2]
theorem A4r {e : Tm} (h : M9 e = true) (h2 : E3 e = false) (h3 : (H0 e).2.1 ≠ 1) : F9 e = (I3, (H0 e).2.1, (H0 e).2.2) := by
 unfold F9; rw [if_neg (by rw [h]; decide), if_neg (by rw [h2]; decide), if_pos h3]
theorem A4s {e : Tm} (h : M9 e = true) (h2 : E3 e = false) (h3 : (H0 e).2.1 = 1) (h4 : M9 (H0 e).1 = false) : F9 e = (I3, 4, 0) := by
 unfold F9; rw [if_neg (by rw [h]; decide), if_neg (by rw [h2]; decide), if_neg (by omega), if_pos h4]
theorem A4t {e : Tm} (h : M9 e = true) (h2 : E3 e = false) (h3 : (H0 e).2.1 = 1) (h4 : M9 (H0 e).1 = true) : F9 e = ((H0 e).1, 1, 0) := by
 unfold F9; rw [if_neg (by rw [h]; decide), if_neg (by rw [h2]; decide), if_neg (by omega), if_neg (by rw [h4]; decide)]
theorem B52 {e : Tm} (h : (F9 e).2.1 = 1) : M9 (F9 e).1 = true := by
 cases h1 : M9 e with
 | false => rw [A5x h1] at h; simp at h
 | true =>
  cases h2 : E3 e with
  | true => rw [A4q h1 h2] at h; simp at h
  | false =>
   by_cases h3 : (H0 e).2.1 = 1
   ·cases h4 : M9 (H0 e).1 with
    | false => rw [A4s h1 h2 h3 h4] at h; simp at h
    | true => rw [A4t h1 h2 h3 h4]; exact h4
   ·rw [A4r h1 h2 h3] at h; exact absurd h h3
theorem B53 (t : Tm) (G : IM) (cells : List Value) (hr : B3 G t cells) : Fn Tryz.prog 63 [.agg ⟨cells⟩] [] G (L8 (F9 t)) := by
 have hRl := hr.len
 have hRo := hr.one
 have hV := A8V t G cells hr
 have hI := B0B t G cells hr
 refine C2 Tryz.func63 rfl Tryz.ntmps63 Tryz.results63 rfl ?_
 intro w0
 refine A5 ?_
 refine sE (C7 rfl rfl) rfl (fun b3 => ?_)
 refine sE (A8 rfl) rfl (fun b4 => ?_)
 refine B2 ?_
 refine C3 ?_
 refine A5 ?_
 refine sL (A3 rfl rfl (B1 (by repeat first | exact mH | apply mT)) hRl) rfl rfl ?_
 refine E8 rfl (hV) rfl rfl (fun h14 => ?_) (fun h14 => ?_)
 refine B5 ?_
 refine sL (A3 rfl rfl (B1 (by repeat first | exact mH | apply mT)) hRl) rfl rfl ?_
 refine E8 rfl (hI) rfl rfl (fun h23 => ?_) (fun h23 => ?_)
 refine B0 ?_
 refine sL (A3 rfl rfl (B1 (by repeat first | exact mH | apply mT)) hRl) rfl rfl ?_
 (refine E5 rfl (A6t t G cells (A5w (by assumption)) hr) rfl rfl (fun v G1 hle1 hh => ?_); obtain ⟨cs1, F1, rfl, hs1, hn1⟩ := hh; have hul := hs1.R.len; have huo := hs1.R.one)
 refine sS rfl rfl rfl hul huo rfl ?_ (hu := by exact D4 hul.symm)
 refine B5 ?_
 refine D1 (rC rfl (A3 rfl rfl (B1 (by repeat first | exact mH | apply mT)) hul)) (rT rfl) (rT rfl) ?_
 (exact L8.mk (A4q (by assumption) (by assumption)) (hs1.R.mono (C9.le _ _)))
 refine E1 ?_
 refine sL (A3 rfl rfl (B1 (by repeat first | exact mH | apply mT)) hRl) rfl rfl ?_
 (refine E5 rfl (B51 t G cells (A1U (by assumption)).1 (by assumption) hr) rfl rfl (fun v G1 hle1 hh => ?_); obtain ⟨u, uc, rfl, hru, hu1⟩ := hh; have hul := hru.len; have huo := hru.one; have hVu := A8V u G1 uc hru)
 refine B7 ?_
 refine sE (A8 rfl) rfl (fun b57 => ?_)
 refine sS rfl rfl rfl hul huo rfl ?_ (hu := by exact D4 hul.symm)
 refine B2 ?_
 refine C3 ?_
 refine B9 ?_
 refine sB (M1 rfl rfl) rfl rfl (fun h68 => ?_) (fun h68 => ?_)
 refine U5 ?_
 refine D1 (rC rfl (A6 rfl rfl)) (rT rfl) (rT rfl) ?_
 (exact L8.mk (A4r (by assumption) (by assumption) (by omega)) (P5 _))
 refine B0 ?_
 refine sL (A3 rfl rfl (B1 (by repeat first | exact mH | apply mT)) hul) rfl rfl ?_
 refine E8 rfl (hVu) rfl rfl (fun h95 => ?_) (fun h95 => ?_)
 refine J0 ?_
 refine sL (A3 rfl rfl (B1 (by repeat first | exact mH | apply mT)) hul) rfl rfl ?_
 (refine E5 rfl (A6t u G1 uc (A5w (by assumption)) hru) rfl rfl (fun v G2 hle2 hh => ?_); obtain ⟨cs2, F2, rfl, hs2, hn2⟩ := hh; have hwl := hs2.R.len; have hwo := hs2.R.one)
 refine sS rfl rfl rfl hwl hwo rfl ?_ (hu := by exact D4 hwl.symm)
 refine B2 ?_
 refine D1 (rC rfl (A3 rfl rfl (B1 (by repeat first | exact mH | apply mT)) hwl)) (rT rfl) (rT rfl) ?_
 (have h9 := hu1 (by omega); subst h9; exact L8.mk (A4t (by assumption) (by assumption) (by omega) (by assumption)) (hs2.R.mono (C9.le _ _)))
 refine K4 ?_
 refine D1 (rC rfl (A6 rfl rfl)) (rT rfl) (rT rfl) ?_
 (have h9 := hu1 (by omega); subst h9; exact L8.mk (A4s (by assumption) (by assumption) (by omega) (by assumption)) (P5 _))
 refine K4 ?_
 refine D1 (rC rfl (A6 rfl rfl)) (rT rfl) (rT rfl) ?_
 (exact L8.mk (A5x (by assumption)) (P5 _))
def P0 : Nat → Tm → Tm × Int × Int × Nat
 | 0, e => ((F9 e).1, (F9 e).2.1, (F9 e).2.2, 0)
 | n + 1, e => if (F9 e).2.1 = 1 then ((P0 n (F9 e).1).1, (P0 n (F9 e).1).2.1, (P0 n (F9 e).1).2.2.1, (P0 n (F9 e).1).2.2.2 + 1)
  else ((F9 e).1, (F9 e).2.1, (F9 e).2.2, 0)
theorem A66 (e : Tm) : P0 0 e = ((F9 e).1, (F9 e).2.1, (F9 e).2.2, 0) := by rw [P0]
theorem A67 {n : Nat} {e : Tm} (h : (F9 e).2.1 = 1) : P0 (n + 1) e = ((P0 n (F9 e).1).1, (P0 n (F9 e).1).2.1, (P0 n (F9 e).1).2.2.1, (P0 n (F9 e).1).2.2.2 + 1) := by rw [P0, if_pos h]
theorem A68 {n : Nat} {e : Tm} (h : (F9 e).2.1 ≠ 1) : P0 (n + 1) e = ((F9 e).1, (F9 e).2.1, (F9 e).2.2, 0) := by rw [P0, if_neg h]
theorem B0O : ∀ (n : Nat) (e : Tm), (P0 n e).2.1 = 1 → I0 n e = (I3, 5, 0, (P0 n e).2.2.2)
 | 0, e, h => by rw [A66] at h ⊢; rw [I0, if_pos h]
 | n + 1, e, h => by
  by_cases h1 : (F9 e).2.1 = 1
  ·rw [A67 h1] at h ⊢
   rw [I0, if_pos h1, B0O n _ h]
  ·rw [A68 h1] at h; exact absurd h h1
theorem B0P : ∀ (n : Nat) (e : Tm), (P0 n e).2.1 ≠ 1 → I0 n e = P0 n e
 | 0, e, h => by rw [A66] at h ⊢; rw [I0, if_neg h]
 | n + 1, e, h => by
  by_cases h1 : (F9 e).2.1 = 1
  ·rw [A67 h1] at h ⊢
   rw [I0, if_pos h1, B0P n _ h]
  ·rw [A68 h1]; rw [I0, if_neg h1]
def EvP (r : Tm × Int × Int × Nat) : IM → Value → List A7 → Prop := M3 fun G' v => ∃ cells, v = .tuple ⟨[.agg ⟨cells⟩, .int .i64 r.2.1, .int .i64 r.2.2.1, .int .i64 (r.2.2.2 : Int)]⟩ ∧ B3 G' r.1 cells
def A0l (i : Nat) (r : Tm × Int × Int × Nat) : Tm × Int × Int × Nat := (r.1, r.2.1, r.2.2.1, r.2.2.2 + i)
theorem B54 {m i : Nat} {e : Tm} (h : (F9 e).2.1 ≠ 1 ∨ m = 0) : A0l i (P0 m e) = ((F9 e).1, (F9 e).2.1, (F9 e).2.2, i) := by
 cases m with
 | zero => simp [A0l, P0]
 | succ m =>
  rcases h with h | h
  ·simp only [A0l, P0]; rw [if_neg h]; simp
  ·cases h
theorem B55 {m i : Nat} {e : Tm} (h : (F9 e).2.1 = 1) (hm : 0 < m) : A0l i (P0 m e) = A0l (i + 1) (P0 (m - 1) (F9 e).1) := by
 obtain ⟨k, rfl⟩ : ∃ k, m = k + 1 := ⟨m - 1, by omega⟩
 simp only [A0l, P0]; rw [if_pos h]; simp only [Nat.add_sub_cancel, Nat.add_assoc, Nat.add_comm 1 i]
section fin
variable {P : Program} {Γ : M2} {env : M7} {hp : List A7} {G : IM}
theorem B56 {post : IM → Value → List A7 → Prop} {σ : Sy} (hk : post σ.G (.tuple ⟨[]⟩) []) : A0G P Γ [] post .normal σ := ⟨[], .nil, [], σ.hp, by simp, hk⟩
theorem A5y {r r2 r3 r4 : ResultVar} {post : IM → Value → List A7 → Prop} {v v2 v3 v4 : Value} (h : A0a P Γ ⟨env, hp, G⟩ r v) (h2 : A0a P Γ ⟨env, hp, G⟩ r2 v2) (h3 : A0a P Γ ⟨env, hp, G⟩ r3 v3) (h4 : A0a P Γ ⟨env, hp, G⟩ r4 v4) (hk : post G (.tuple ⟨[v, v2, v3, v4]⟩) []) :
  A0G P Γ [r, r2, r3, r4] post .ret ⟨env, hp, G⟩ := A4M (.cons h (.cons h2 (.cons h3 (.cons h4 .nil)))) hk
end fin
theorem EvP.mk {G : IM} {r : Tm × Int × Int × Nat} {u : Tm} {c l : Int} {i : Nat} {cells : List Value} (h : r = (u, c, l, i)) (hr : B3 G u cells) : EvP r G (.tuple ⟨[.agg ⟨cells⟩, .int .i64 c, .int .i64 l, .int .i64 (i : Int)]⟩) [] := by
 subst h; exact ⟨rfl, cells, rfl, hr⟩
theorem A69 {Q : Prop} (h : Q := by (exact EvP.mk (by rw [← hev]; exact hend (by omega)) hrw)) : Q := h
theorem B57 (e : Tm) (n : Nat) (hn : n ≤ 300) (fid : FuncId) [C0 Tryz.prog fid] (us cs : List Value) (hq : ∀ (G : IM) (u : Tm) (cells : List Value), B3 G u cells → Fn Tryz.prog fid (us ++ [.agg ⟨cells⟩] ++ cs) [] G (H5 (.tuple ⟨[]⟩) G))
  (G : IM) (cells : List Value) (hr : B3 G e cells) : Fn Tryz.prog 29 [.agg ⟨cells⟩, .int .i64 (n : Int), .func (.func fid) ⟨us⟩ ⟨cs⟩] [] G (EvP (P0 n e)) := by
 have hRl := hr.len
 have hRo := hr.one
 have hq0 := hq G e cells hr
 refine C2 Tryz.func29 rfl Tryz.ntmps29 Tryz.results29 rfl ?_
 intro w0
 refine A5 ?_
 refine sE (C7 rfl rfl) rfl (fun b3 => ?_)
 refine sE (A8 rfl) rfl (fun b4 => ?_)
 refine D0 ?_
 refine sL (A3 rfl rfl (B1 (by repeat first | exact mH | apply mT)) hRl) rfl rfl ?_
 (refine A4P rfl rfl hq0 rfl rfl ?_)
 refine B5 ?_
 refine C3 ?_
 (refine K2 (fun (x : Nat × Tm × List Value × IM) => ⟨[(10, .int .i64 (x.1 : Int)), (1, .int .i64 (n : Int)), (2, .func (.func fid) ⟨us⟩ ⟨cs⟩), (3, .pointer (some ⟨b3, 0, none⟩)), (6, .pointer (some ⟨b4, 0, none⟩))], [.blk b3 x.2.2.1, .blk b4 [.int .i64 0, .string ⟨⟨[]⟩⟩, .int .i64 0, .int .i64 0, .slice none 0 0, .int .i64 0, .slice none 0 0, .int .i64 0, .slice none 0 0]], x.2.2.2⟩) (fun x => x.1 ≤ n ∧ C6 G x.2.2.2 ∧ B3 x.2.2.2 x.2.1 x.2.2.1 ∧ A0l x.1 (P0 (n - x.1) x.2.1) = P0 n e) (fun x => n - x.1) (0, e, cells, G) ?_ ?_ ?_)
 (simp only [J9]; exact E2)
 (exact ⟨Nat.zero_le _, C6.refl _, hr, rfl⟩)
 (rintro ⟨i, u, uc, Gi⟩ ⟨hi, hle, hru, hev⟩; simp only [] at hi hle hru hev ⊢; have hul := hru.len; have huo := hru.one)
 refine tS ?_
 refine C3 ?_
 refine A5 ?_
 refine sL (A3 rfl rfl (B1 (by repeat first | exact mH | apply mT)) hul) rfl rfl ?_
 (refine E5 rfl (B53 u Gi uc hru) rfl rfl (fun v G1 hle1 hh => ?_); obtain ⟨wc, hv, hrw⟩ := hh; have hwl := hrw.len; have hwo := hrw.one; have hend := @B54 (n - i) i u; have hgo := @B55 (n - i) i u; generalize F9 u = r at hv hrw hend hgo; obtain ⟨w, c, l⟩ := r; simp only at hv hrw hend hgo; subst hv)
 refine B7 ?_
 refine sE (A8 rfl) rfl (fun b37 => ?_)
 refine sS rfl rfl rfl hwl hwo rfl ?_ (hu := by exact D4 hwl.symm)
 refine D0 ?_
 refine sB (M1 rfl rfl) rfl rfl (fun h47 => ?_) (fun h47 => ?_)
 refine J0 ?_
 refine sL (A3 rfl rfl (B1 (by repeat first | exact mH | apply mT)) hwl) rfl rfl ?_
 refine B9 ?_
 refine sS rfl rfl rfl hwl hwo rfl ?_ (hu := by exact D4 hwl.symm)
 refine I8 ?_
 refine A5y (rC rfl (A3 rfl rfl (B1 (by repeat first | exact mH | apply mT)) hwl)) (rT rfl) (rT rfl) (rT rfl) ?_
 exact A69
 refine B9 ?_
 refine sB (qE rfl rfl) rfl rfl (fun h79 => ?_) (fun h79 => ?_)
 refine B0 ?_
 refine sL (A3 rfl rfl (B1 (by repeat first | exact mH | apply mT)) hwl) rfl rfl ?_
 refine B9 ?_
 refine sS rfl rfl rfl hwl hwo rfl ?_ (hu := by exact D4 hwl.symm)
 refine I8 ?_
 refine A5y (rC rfl (A3 rfl rfl (B1 (by repeat first | exact mH | apply mT)) hwl)) (rT rfl) (rT rfl) (rT rfl) ?_
 exact A69
 refine D0 ?_
 refine sL (A3 rfl rfl (B1 (by repeat first | exact mH | apply mT)) hwl) rfl rfl ?_
 refine W7 rfl rfl rfl hwl hwo rfl (by repeat first | exact Sw.here | apply Sw.there) (by exact D4 (hul.trans hwl.symm)) ?_
 refine B7 ?_
 refine sL (A3 rfl rfl (B1 (by repeat first | exact mH | apply mT)) hwl) rfl rfl ?_
 (refine A4P rfl rfl (hq G1 w wc hrw) rfl rfl ?_)
 refine B2 ?_
 refine sP (J6 rfl rfl (by omega) (by omega)) rfl rfl ?_
 refine A5 ?_
 refine K3 (i + 1, w, wc, G1) ?_ ?_ ?_
 (simp only [J9]; exact E2)
 (dsimp only; exact ⟨by omega, hle.trans hle1, hrw, by rw [← hev, hgo (by omega) (by omega), show n - (i + 1) = n - i - 1 by omega]⟩)
 (show n - (i + 1) < n - i; omega)
theorem B0Q (fuel : Int) (G : IM) : Fn Tryz.prog 28 [.int .i64 fuel] [] G (H5 (.bool (N7 fuel 0 300)) G) := by
 refine C2 Tryz.func28 rfl Tryz.ntmps28 Tryz.results28 rfl ?_
 intro w0
 refine D0 ?_
 refine H9 rfl ((A1l _ _ _ _)) rfl rfl ?_
 refine B2 ?_
 (exact ⟨rfl, rfl, rfl⟩)
theorem A7a {e : Tm} {fuel : Int} (h : N7 fuel 0 300 = false) : S3 e fuel = (I3, 3, 0) := by
 unfold S3; rw [if_neg (A8j h)]; rfl
theorem B0R {e : Tm} {fuel : Int} (h : N7 fuel 0 300 = true) (h1 : (P0 fuel.toNat e).2.1 = 1) : S3 e fuel = (I3, 5, 0) := by
 unfold S3; rw [if_pos (A3U h), B0O _ _ h1]
theorem B0S {e : Tm} {fuel : Int} (h : N7 fuel 0 300 = true) (h1 : (P0 fuel.toNat e).2.1 ≠ 1) : S3 e fuel = ((P0 fuel.toNat e).1, (P0 fuel.toNat e).2.1, (P0 fuel.toNat e).2.2.1) := by
 unfold S3; rw [if_pos (A3U h), B0P _ _ h1]
theorem B58 (G : IM) (cells : List Value) (hl : cells.length = 9) (ho : cells.all (·.oneCell') = true) : Fn Tryz.prog 30 [.agg ⟨cells⟩] [] G (H5 (.tuple ⟨[]⟩) G) := by
 refine C2 Tryz.func30 rfl Tryz.ntmps30 Tryz.results30 rfl ?_
 intro w0
 refine tR ?_
 refine sE (C7 rfl rfl) rfl (fun b2 => ?_)
 refine sD ?_
 refine B56 ?_
 (exact ⟨rfl, rfl, rfl⟩)
theorem B59 (e : Tm) (fuel : Int) (G : IM) (cells : List Value) (hr : B3 G e cells) : Fn Tryz.prog 9 [.agg ⟨cells⟩, .int .i64 fuel] [] G (L8 (S3 e fuel)) := by
 have hRl := hr.len
 have hRo := hr.one
 have hno := @A7a e fuel
 have hmu := @B0R e fuel
 have hen := @B0S e fuel
 refine C2 Tryz.func9 rfl Tryz.ntmps9 Tryz.results9 rfl ?_
 intro w0
 refine A5 ?_
 refine sE (C7 rfl rfl) rfl (fun b3 => ?_)
 refine sE (A8 rfl) rfl (fun b4 => ?_)
 refine D0 ?_
 refine E8 rfl ((B0Q fuel _)) rfl rfl (fun h13 => ?_) (fun h13 => ?_)
 refine D0 ?_
 refine sL (A3 rfl rfl (B1 (by repeat first | exact mH | apply mT)) hRl) rfl rfl ?_
 refine F0 ?_
 (have hf : N7 fuel 0 300 = true := (by assumption); have hf2 := A3U hf; have hE := B57 e fuel.toNat (by omega) 30 [] [] (fun G u cells hru => B58 G cells hru.len hru.one) G cells hr; rw [Int.toNat_of_nonneg hf2.1] at hE; refine E5 rfl hE rfl rfl (fun v G1 hle1 hh => ?_); obtain ⟨wc, hv, hrw⟩ := hh; have hwl := hrw.len; have hwo := hrw.one; have hmu := hmu hf; have hen := hen hf; generalize P0 fuel.toNat e = r at hv hrw hmu hen; obtain ⟨w, c, l, i⟩ := r; simp only at hv hrw hmu hen; subst hv)
 refine B2 ?_
 refine sE (A8 rfl) rfl (fun b30 => ?_)
 refine sS rfl rfl rfl hwl hwo rfl ?_ (hu := by exact D4 hwl.symm)
 refine E1 ?_
 refine sB (qE rfl rfl) rfl rfl (fun h41 => ?_) (fun h41 => ?_)
 refine J4 ?_
 refine D1 (rC rfl (A6 rfl rfl)) (rT rfl) (rT rfl) ?_
 (exact L8.mk (hmu (by omega)) (P5 _))
 refine B5 ?_
 refine sL (A3 rfl rfl (B1 (by repeat first | exact mH | apply mT)) hwl) rfl rfl ?_
 refine A5 ?_
 refine sS rfl rfl rfl hwl hwo rfl ?_ (hu := by exact D4 hwl.symm)
 refine B2 ?_
 refine D1 (rC rfl (A3 rfl rfl (B1 (by repeat first | exact mH | apply mT)) hwl)) (rT rfl) (rT rfl) ?_
 (exact L8.mk (hen (by omega)) hrw)
 refine J1 ?_
 refine D1 (rC rfl (A6 rfl rfl)) (rT rfl) (rT rfl) ?_
 (exact L8.mk (hno (by assumption)) (P5 _))
end Gw
end Go.Proofs.YthpdjmbpbdbodaaGreatDoor
