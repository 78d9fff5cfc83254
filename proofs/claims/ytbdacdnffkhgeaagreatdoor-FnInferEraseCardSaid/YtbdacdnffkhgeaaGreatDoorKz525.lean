/-
  Casts put into terms of which one is more precise: the results are so, too.
-/
import Derived.Test.YtbdacdnffkhgeaaGreatDoorKz524
import Derived.Test.YtbdacdnffkhgeaaGreatDoorKz521
set_option linter.unusedVariables false
set_option linter.unusedSimpArgs false
set_option maxHeartbeats 0
set_option maxRecDepth 100000
set_option synthInstance.maxSize 4000
set_option synthInstance.maxHeartbeats 0
namespace Go.Proofs.YtbdacdnffkhgeaaGreatDoor
open Go Go.RowKit
namespace Gw
theorem A2Z : ∀ (t : Ty), H7 t = true → ∃ a : GT, t = a.ty
 | .mk k ks, h => by
  by_cases h4 : k = 4
  ·obtain ⟨x, y, hxy, hx, hy⟩ := A5M (.inl h4) h
   have : SizeOf.sizeOf x < SizeOf.sizeOf ks ∧ SizeOf.sizeOf y < SizeOf.sizeOf ks := by subst hxy; simp; omega
   obtain ⟨a, ha⟩ := A2Z x hx
   obtain ⟨b, hb⟩ := A2Z y hy
   exact ⟨.fn a b, by rw [h4, hxy, ha, hb]; rfl⟩
  ·by_cases h5 : k = 5
   ·obtain ⟨x, y, hxy, hx, hy⟩ := A5M (.inr h5) h
    have : SizeOf.sizeOf x < SizeOf.sizeOf ks ∧ SizeOf.sizeOf y < SizeOf.sizeOf ks := by subst hxy; simp; omega
    obtain ⟨a, ha⟩ := A2Z x hx
    obtain ⟨b, hb⟩ := A2Z y hy
    exact ⟨.pr a b, by rw [h5, hxy, ha, hb]; rfl⟩
   ·obtain ⟨h1, rfl⟩ := B44 h h4 h5
    rcases h1 with rfl | rfl | rfl
    ·exact ⟨.any, rfl⟩
    ·exact ⟨.int, rfl⟩
    ·exact ⟨.bool, rfl⟩
 termination_by t => SizeOf.sizeOf t
 decreasing_by all_goals (simp only [Ty.mk.sizeOf_spec]; omega)
theorem B0c : ∀ (a b : GT), A2g a.ty b.ty = true ↔ Le a b := by
 intro a
 induction a with
 | any => intro b; cases b <;> simp [GT.ty, A1T, A04] <;> first | exact .any | (intro h; cases h)
 | int => intro b; cases b <;> simp [GT.ty, A1T, A04] <;> first | exact .any | exact .int | (intro h; cases h)
 | bool => intro b; cases b <;> simp [GT.ty, A1T, A04] <;> first | exact .any | exact .bool | (intro h; cases h)
 | fn x y i j =>
  intro b
  cases b with
  | fn z w => simp only [GT.ty, A1T, A04, i, j, Bool.or_eq_true, Bool.and_eq_true, decide_eq_true_eq, Bool.and_true, true_and]; exact ⟨fun h => by rcases h with h | h; exact absurd h zY; exact .fn h.1 h.2, fun h => by cases h with | fn a b => exact .inr ⟨a, b⟩⟩
  | any => simp [GT.ty, A1T, A04]; exact .any
  | _ => simp [GT.ty, A1T, A04]; intro h; cases h
 | pr x y i j =>
  intro b
  cases b with
  | pr z w => simp only [GT.ty, A1T, A04, i, j, Bool.or_eq_true, Bool.and_eq_true, decide_eq_true_eq, Bool.and_true, true_and]; exact ⟨fun h => by rcases h with h | h; exact absurd h zY; exact .pr h.1 h.2, fun h => by cases h with | pr a b => exact .inr ⟨a, b⟩⟩
  | any => simp [GT.ty, A1T, A04]; exact .any
  | _ => simp [GT.ty, A1T, A04]; intro h; cases h
theorem A1A : ∀ (a b : GT), N3 a.ty b.ty = true ↔ Co a b := by
 intro a
 induction a with
 | any => intro b; cases b <;> simp [GT.ty, V9, Q4] <;> exact .l
 | int => intro b; cases b <;> simp [GT.ty, V9, Q4] <;> first | exact .r | exact .int | (intro h; cases h)
 | bool => intro b; cases b <;> simp [GT.ty, V9, Q4] <;> first | exact .r | exact .bool | (intro h; cases h)
 | fn x y i j =>
  intro b
  cases b with
  | fn z w => simp only [GT.ty, V9, Q4, i, j, Bool.or_eq_true, Bool.and_eq_true, decide_eq_true_eq, Bool.and_true, true_and]; exact ⟨fun h => by rcases h with h | h; exact absurd h zY; exact .fn h.1 h.2, fun h => by cases h with | fn a b => exact .inr ⟨a, b⟩⟩
  | any => simp [GT.ty, V9, Q4]; exact .r
  | _ => simp [GT.ty, V9, Q4]; intro h; cases h
 | pr x y i j =>
  intro b
  cases b with
  | pr z w => simp only [GT.ty, V9, Q4, i, j, Bool.or_eq_true, Bool.and_eq_true, decide_eq_true_eq, Bool.and_true, true_and]; exact ⟨fun h => by rcases h with h | h; exact absurd h zY; exact .pr h.1 h.2, fun h => by cases h with | pr a b => exact .inr ⟨a, b⟩⟩
  | any => simp [GT.ty, V9, Q4]; exact .r
  | _ => simp [GT.ty, V9, Q4]; intro h; cases h
def U4 : GT → GT → GT
 | .any, b => b
 | .fn a b, .fn c d => .fn (U4 a c) (U4 b d)
 | .pr a b, .pr c d => .pr (U4 a c) (U4 b d)
 | a, _ => a
theorem A3X (a : GT) : U4 a .any = a := by cases a <;> rfl
theorem B0d {a b : GT} (h : Co a b) : X3 a.ty b.ty = (U4 a b).ty := by
 induction h with
 | l => simp [GT.ty, X3, U4]
 | @r a => rw [A3X]; cases a <;> simp [GT.ty, A1Q]
 | int => simp [GT.ty, A1Q, V4, U4]
 | bool => simp [GT.ty, A1Q, V4, U4]
 | fn _ _ i j => simp [GT.ty, A1Q, V4, U4, i, j]
 | pr _ _ i j => simp [GT.ty, A1Q, V4, U4, i, j]
theorem A5P {a b : GT} (h : Co a b) : Le (U4 a b) a := by
 induction h with
 | l => exact .any
 | r => rw [A3X]; exact Le.refl
 | int => exact .int
 | bool => exact .bool
 | fn _ _ i j => exact .fn i j
 | pr _ _ i j => exact .pr i j
theorem A5Q {a b : GT} (h : Co a b) : Le (U4 a b) b := by
 induction h with
 | l => exact Le.refl
 | r => exact .any
 | int => exact .int
 | bool => exact .bool
 | fn _ _ i j => exact .fn i j
 | pr _ _ i j => exact .pr i j
theorem B48 {a b : GT} (h : Co a b) : ∀ {a' b' : GT}, Le a a' → Le b b' → Le (U4 a b) (U4 a' b') := by
 induction h with
 | l => intro a' b' h1 h2; cases h1; exact h2
 | r => intro a' b' h1 h2; cases h2; rw [A3X, A3X]; exact h1
 | int => intro a' b' h1 h2; cases h1 <;> cases h2 <;> first | exact .int | exact .any
 | bool => intro a' b' h1 h2; cases h1 <;> cases h2 <;> first | exact .bool | exact .any
 | fn c d i j =>
  intro a' b' h1 h2
  cases h1 with
  | any => exact (A5Q (.fn c d)).trans h2
  | fn p q => cases h2 with
   | any => rw [A3X]; exact (A5P (.fn c d)).trans (.fn p q)
   | fn r s => exact .fn (i p r) (j q s)
 | pr c d i j =>
  intro a' b' h1 h2
  cases h1 with
  | any => exact (A5Q (.pr c d)).trans h2
  | pr p q => cases h2 with
   | any => rw [A3X]; exact (A5P (.pr c d)).trans (.pr p q)
   | pr r s => exact .pr (i p r) (j q s)
theorem B49 {a b : GT} (h : Le a b) : ∀ (d : Int), M4 a.ty d = true → M4 b.ty d = true := by
 induction h with
 | @any a => intro d h; cases a <;> (simp only [GT.ty, A2W, Bool.and_eq_true, decide_eq_true_eq] at h ⊢; exact ⟨⟨h.1.1, rfl⟩, by rw [T7]⟩)
 | int => exact fun _ h => h
 | bool => exact fun _ h => h
 | fn _ _ i j =>
  intro d h
  simp only [GT.ty, A2W, T7, Bool.and_eq_true, decide_eq_true_eq] at h ⊢
  exact ⟨⟨h.1.1, rfl⟩, i _ h.2.1, j _ h.2.2.1, trivial⟩
 | pr _ _ i j =>
  intro d h
  simp only [GT.ty, A2W, T7, Bool.and_eq_true, decide_eq_true_eq] at h ⊢
  exact ⟨⟨h.1.1, rfl⟩, i _ h.2.1, j _ h.2.2.1, trivial⟩
theorem A3v {a b : GT} (h : Le a b) (hv : H7 a.ty = true) : H7 b.ty = true := B49 h 1 hv
def gmF : GT → Option (GT × GT)
 | .fn a b => some (a, b)
 | .any => some (.any, .any)
 | _ => none
def gmP : GT → Option (GT × GT)
 | .pr a b => some (a, b)
 | .any => some (.any, .any)
 | _ => none
theorem B0e (a : GT) : U8 4 a.ty = (gmF a).map fun p => (p.1.ty, p.2.ty) := by cases a <;> rfl
theorem B0f (a : GT) : U8 5 a.ty = (gmP a).map fun p => (p.1.ty, p.2.ty) := by cases a <;> rfl
theorem B5a {a b p q : GT} (h : Le a b) (hm : gmF a = some (p, q)) : Co a (.fn p q) ∧ ∃ p' q', gmF b = some (p', q') ∧ Le p p' ∧ Le q q' ∧ Co b (.fn p' q') := by
 cases h with
 | any =>
  refine ⟨?_, .any, .any, rfl, .any, .any, .l⟩
  cases a with
  | fn _ _ => cases hm; exact Co.refl
  | any => exact .l
  | _ => cases hm
 | fn h1 h2 => cases hm; exact ⟨Co.refl, _, _, rfl, h1, h2, Co.refl⟩
 | _ => cases hm
theorem B5b {a b p q : GT} (h : Le a b) (hm : gmP a = some (p, q)) : Co a (.pr p q) ∧ ∃ p' q', gmP b = some (p', q') ∧ Le p p' ∧ Le q q' ∧ Co b (.pr p' q') := by
 cases h with
 | any =>
  refine ⟨?_, .any, .any, rfl, .any, .any, .l⟩
  cases a with
  | pr _ _ => cases hm; exact Co.refl
  | any => exact .l
  | _ => cases hm
 | pr h1 h2 => cases hm; exact ⟨Co.refl, _, _, rfl, h1, h2, Co.refl⟩
 | _ => cases hm
def CxR (cx cx' : Cx) (Γ : GC) : Prop := ∀ x a, A0J cx x = some a → ∃ A A', a = A.ty ∧ A0J cx' x = some A'.ty ∧ Γ x = some (A, A') ∧ Le A A'
theorem B5c : CxR [] [] Q1 := by intro x a h; simp [A0J, A0j] at h
theorem B5d {cx cx' : Cx} {Γ : GC} (h : CxR cx cx' Γ) {A A' : GT} (hl : Le A A') (x : ByteArray) : CxR (cx ++ [(x, A.ty)]) (cx' ++ [(x, A'.ty)]) (gup Γ x A A') := by
 intro y a ha
 rw [B46] at ha ⊢
 unfold gup
 by_cases hy : x = y
 ·rw [if_pos hy] at ha ⊢
  rw [if_pos hy]
  cases ha
  exact ⟨A, A', rfl, rfl, rfl, hl⟩
 ·rw [if_neg hy] at ha ⊢
  rw [if_neg hy]
  exact h y a ha
def U9 (A B : GT) (l : Int) (e : GE) : GE := if S7 A.ty B.ty = true then e else .cast A B l e
theorem A2F {Γ : GC} {e e' : GE} {A A' B B' : GT} {l l' : Int} (h : GP Γ e e' A A') (h1 : Co A B) (h2 : Co A' B') (h3 : Le B B') : GP Γ (U9 A B l e) (U9 A' B' l' e') B B' := by
 unfold U9
 by_cases hs : S7 A.ty B.ty = true
 ·rw [if_pos hs]
  obtain rfl := GT.inj ((A19 _ _).1 hs)
  by_cases ht : S7 A'.ty B'.ty = true
  ·rw [if_pos ht]
   obtain rfl := GT.inj ((A19 _ _).1 ht)
   exact h
  ·rw [if_neg ht]; exact .castR h h2 h3
 ·rw [if_neg hs]
  by_cases ht : S7 A'.ty B'.ty = true
  ·rw [if_pos ht]
   obtain rfl := GT.inj ((A19 _ _).1 ht)
   exact .castL h h1 h3
  ·rw [if_neg ht]; exact .castB h h1 h2 h3
theorem A7n (e : GE) (us : List Tm) (A B : GT) (h w : List Ty) (l : Int) : ∃ m l1, J1 (e.tm :: us) (A.ty :: h) (B.ty :: w) l = ((U9 A B m e).tm :: (J1 us h w l1).1, (J1 us h w l1).2) := by
 rw [J1]
 unfold U9
 by_cases hs : S7 A.ty B.ty = true
 ·rw [if_pos hs]; exact ⟨0, l, by rw [if_pos hs]⟩
 ·rw [if_neg hs]; exact ⟨l + 1, l + 1, by rw [if_neg hs]; rfl⟩
theorem A4I (e : GE) (A B : GT) (l : Int) : ∃ m l1, J1 [e.tm] [A.ty] [B.ty] l = ([(U9 A B m e).tm], l1) := by
 obtain ⟨m, l1, h⟩ := A7n e [] A B [] [] l
 rw [A0l] at h
 exact ⟨m, l1, h⟩
theorem A4J (e f : GE) (A B C D : GT) (l : Int) : ∃ m n l1, J1 [e.tm, f.tm] [A.ty, C.ty] [B.ty, D.ty] l = ([(U9 A B m e).tm, (U9 C D n f).tm], l1) := by
 obtain ⟨m, l1, h⟩ := A7n e [f.tm] A B [C.ty] [D.ty] l
 obtain ⟨n, l2, h2⟩ := A4I f C D l1
 rw [h2] at h
 exact ⟨m, n, l2, h⟩
theorem B0g (e f g : GE) (A B C D E F : GT) (l : Int) : ∃ m n o l1, J1 [e.tm, f.tm, g.tm] [A.ty, C.ty, E.ty] [B.ty, D.ty, F.ty] l = ([(U9 A B m e).tm, (U9 C D n f).tm, (U9 E F o g).tm], l1) := by
 obtain ⟨m, l1, h⟩ := A7n e [f.tm, g.tm] A B [C.ty, E.ty] [D.ty, F.ty] l
 obtain ⟨n, o, l2, h2⟩ := A4J f g C D E F l1
 rw [h2] at h
 exact ⟨m, n, o, l2, h⟩
inductive GPL (Γ : GC) : List GE → List GE → List GT → List GT → Prop
 | nil : GPL Γ [] [] [] []
 | cons {e e' A A' es es' As As'} : GP Γ e e' A A' → GPL Γ es es' As As' → GPL Γ (e :: es) (e' :: es') (A :: As) (A' :: As')
theorem GPL.one {Γ : GC} {es es' : List GE} {As As' : List GT} (h : GPL Γ es es' As As') (hl : es.length = 1) : ∃ e e' A A', es = [e] ∧ es' = [e'] ∧ As = [A] ∧ As' = [A'] ∧ GP Γ e e' A A' := by
 cases h with
 | nil => simp at hl
 | cons h h2 => cases h2 with
  | nil => exact ⟨_, _, _, _, rfl, rfl, rfl, rfl, h⟩
  | cons _ _ => simp at hl
theorem GPL.two {Γ : GC} {es es' : List GE} {As As' : List GT} (h : GPL Γ es es' As As') (hl : es.length = 2) : ∃ e e' A A' f f' B B', es = [e, f] ∧ es' = [e', f'] ∧ As = [A, B] ∧ As' = [A', B'] ∧ GP Γ e e' A A' ∧ GP Γ f f' B B' := by
 cases h with
 | nil => simp at hl
 | cons h h2 =>
  obtain ⟨f, f', B, B', rfl, rfl, rfl, rfl, h3⟩ := h2.one (by simpa using hl)
  exact ⟨_, _, _, _, f, f', B, B', rfl, rfl, rfl, rfl, h, h3⟩
theorem GPL.three {Γ : GC} {es es' : List GE} {As As' : List GT} (h : GPL Γ es es' As As') (hl : es.length = 3) : ∃ e e' A A' f f' B B' g g' C C', es = [e, f, g] ∧ es' = [e', f', g'] ∧ As = [A, B, C] ∧ As' = [A', B', C'] ∧ GP Γ e e' A A' ∧ GP Γ f f' B B' ∧ GP Γ g g' C C' := by
 cases h with
 | nil => simp at hl
 | cons h h2 =>
  obtain ⟨f, f', B, B', g, g', C, C', rfl, rfl, rfl, rfl, h3, h4⟩ := h2.two (by simpa using hl)
  exact ⟨_, _, _, _, f, f', B, B', g, g', C, C', rfl, rfl, rfl, rfl, h, h3, h4⟩
theorem GPL.zero {Γ : GC} {es es' : List GE} {As As' : List GT} (h : GPL Γ es es' As As') (hl : es.length = 0) : es = [] ∧ es' = [] ∧ As = [] ∧ As' = [] := by
 cases h with
 | nil => exact ⟨rfl, rfl, rfl, rfl⟩
 | cons _ _ => simp at hl
theorem A2h {cx : Cx} {k : Int} {nm : ByteArray} {num : Int} {ty fr : Ty} {lb : Int} {us : List Tm} {h : List Ty} {l : Int} {u : Tm} {a : Ty} {l2 : Int} (he : T5 cx k nm num ty fr lb us h l = some (u, a, l2)) :
  ∃ w, P9 cx k nm ty h = some (w, a) ∧ H7 a = true ∧ u = if k = 13 then (J1 us h w l).1.getD 0 K4 else .mk k nm num ty fr lb (J1 us h w l).1 := by
 unfold T5 at he
 split at he
 ·cases he
 ·rename_i w t hn
  simp only [Option.some.injEq, Prod.mk.injEq] at he
  obtain ⟨rfl, rfl, rfl⟩ := he
  obtain ⟨h1, h2⟩ := A92 hn
  exact ⟨w, h2, h1, rfl⟩
theorem A2i {cx : Cx} {k : Int} {nm : ByteArray} {num : Int} {ty fr : Ty} {lb : Int} {us : List Tm} {h : List Ty} {l : Int} {w : List Ty} {a : Ty} (hw : P9 cx k nm ty h = some (w, a)) (hv : H7 a = true) :
  T5 cx k nm num ty fr lb us h l = some (if k = 13 then (J1 us h w l).1.getD 0 K4 else .mk k nm num ty fr lb (J1 us h w l).1, a, (J1 us h w l).2) := by
 unfold T5 A0A
 rw [hw]
 simp only [hv, if_true]
theorem B0h {k : Int} {nm : ByteArray} {num : Int} {ty fr : Ty} {lb : Int} {ks : List Tm} {d : Int} (h : P4 12 14 (.mk k nm num ty fr lb ks) d = true) :
  E7 k = ks.length ∧ k ≠ 14 ∧ (¬(k = 1 ∨ k = 5) → nm = ⟨#[]⟩) ∧ (k ≠ 2 → num = 0) ∧ (k = 5 ∨ k = 13 → H7 ty = true) ∧ (¬(k = 5 ∨ k = 13) → ty = B3) ∧ fr = B3 ∧ lb = 0 ∧ O0 12 14 ks (d + 1) = true := by
 obtain ⟨_, h2, h3, h4⟩ := A0O h
 obtain ⟨n1, n2, n3, n4, n5, n6, n7, n8, n9⟩ := X7.1 h3
 exact ⟨n1, h2, n3, fun hk => by have := A3Q.1 (n5 hk); omega, fun hk => n6 zZ, fun hk => A2A (n7 zZ), A2A (n9 h2).1, (n9 h2).2, h4⟩
abbrev ElR (Γ : GC) (u : Tm) (a : Ty) (r : Option (Tm × Ty × Int)) : Prop := ∃ e A e' A' l2, u = e.tm ∧ a = A.ty ∧ r = some (e'.tm, A'.ty, l2) ∧ GP Γ e e' A A'
section
variable {cx cx' : Cx} {Γ : GC} {es es' : List GE} {As As' : List GT} {l l' : Int} {u : Tm} {a : Ty} {l2 : Int} {nm : ByteArray} {num : Int}
theorem B5e (hc : CxR cx cx' Γ) (he : T5 cx 1 nm 0 B3 B3 0 [] [] l = some (u, a, l2)) : ElR Γ u a (T5 cx' 1 nm 0 B3 B3 0 [] [] l') := by
 obtain ⟨w, hw, hv, rfl⟩ := A2h he
 unfold P9 at hw
 rw [if_pos rfl] at hw
 split at hw
 ·rename_i t ht
  cases hw
  obtain ⟨A, A', rfl, h2, h3, h4⟩ := hc _ _ ht
  refine ⟨.var nm, A, .var nm, A', l', ?_, rfl, ?_, .var h3 h4⟩
  ·rw [A0l, if_neg zY]; rfl
  ·rw [A2i (w := []) (a := A'.ty) (by unfold P9; rw [if_pos rfl, h2]) (A3v h4 hv), A0l, if_neg zY]; rfl
 ·cases hw
theorem B5f (he : T5 cx 2 ⟨#[]⟩ num B3 B3 0 [] [] l = some (u, a, l2)) : ElR Γ u a (T5 cx' 2 ⟨#[]⟩ num B3 B3 0 [] [] l') := by
 obtain ⟨w, hw, hv, rfl⟩ := A2h he
 cases hw
 exact ⟨.num num, .int, .num num, .int, l', by rw [A0l, if_neg zY]; rfl, rfl, by rw [A2i (w := []) (a := W0) rfl hv, A0l, if_neg zY]; rfl, .num⟩
theorem B5g (b : Bool) (he : T5 cx (if b = true then 3 else 4) ⟨#[]⟩ 0 B3 B3 0 [] [] l = some (u, a, l2)) : ElR Γ u a (T5 cx' (if b = true then 3 else 4) ⟨#[]⟩ 0 B3 B3 0 [] [] l') := by
 obtain ⟨w, hw, hv, rfl⟩ := A2h he
 cases b <;> (cases hw; exact ⟨.tru _, .bool, .tru _, .bool, l', by rw [A0l, if_neg zY]; rfl, rfl, by rw [A2i (w := []) (a := A0i) rfl hv, A0l, if_neg zY]; rfl, .tru⟩)
theorem B5h {A A' B B' : GT} {e e' : GE} (hA : Le A A') (hp : GP (gup Γ nm A A') e e' B B') (he : T5 cx 5 nm 0 A.ty B3 0 [e.tm] [B.ty] l = some (u, a, l2)) : ElR Γ u a (T5 cx' 5 nm 0 A'.ty B3 0 [e'.tm] [B'.ty] l') := by
 obtain ⟨w, hw, hv, rfl⟩ := A2h he
 cases hw
 exact ⟨.lam nm A e, .fn A B, .lam nm A' e', .fn A' B', l', by rw [A0l, if_neg zY]; rfl, rfl, by rw [A2i (w := []) (a := .mk 4 [A'.ty, B'.ty]) rfl (A3v (.fn hA hp.le) hv), A0l, if_neg zY]; rfl, .lam hA hp⟩
theorem B5i {A A' B B' : GT} {e e' f f' : GE} (hp : GP Γ e e' A A') (hq : GP Γ f f' B B') (he : T5 cx 6 ⟨#[]⟩ 0 B3 B3 0 [e.tm, f.tm] [A.ty, B.ty] l = some (u, a, l2)) : ElR Γ u a (T5 cx' 6 ⟨#[]⟩ 0 B3 B3 0 [e'.tm, f'.tm] [A'.ty, B'.ty] l') := by
 obtain ⟨w, hw, hv, rfl⟩ := A2h he
 unfold P9 at hw
 rw [if_neg zY, if_neg zY, if_neg zY, if_neg zY, if_pos rfl] at hw
 simp only [List.getD_cons_zero, List.getD_cons_succ, B0e] at hw
 cases hm : gmF A with
 | none => rw [hm] at hw; cases hw
 | some pq =>
  obtain ⟨p, q⟩ := pq
  rw [hm] at hw
  simp only [Option.map_some] at hw
  split at hw
  ·rename_i hc
   cases hw
   obtain ⟨c1, p', q', hm', h1, h2, c2⟩ := B5a hp.le hm
   have hco := (A1A _ _).1 hc
   have hco' := hco.up hq.le h1
   obtain ⟨m, n, l1, h3⟩ := A4J e f A (.fn p q) B p l
   obtain ⟨m', n', l1', h3'⟩ := A4J e' f' A' (.fn p' q') B' p' l'
   refine ⟨.app (U9 A (.fn p q) m e) (U9 B p n f), q, .app (U9 A' (.fn p' q') m' e') (U9 B' p' n' f'), q', l1', ?_, rfl, ?_, .app (A2F hp c1 c2 (.fn h1 h2)) (A2F hq hco hco' h1)⟩
   ·rw [if_neg zY]
    show Tm.mk _ _ _ _ _ _ (J1 [e.tm, f.tm] [A.ty, B.ty] [(GT.fn p q).ty, p.ty] l).1 = _
    rw [h3]; rfl
   ·rw [A2i (w := [(GT.fn p' q').ty, p'.ty]) (a := q'.ty) ?_ (A3v h2 hv), if_neg zY, h3']
    ·rfl
    ·unfold P9
     rw [if_neg zY, if_neg zY, if_neg zY, if_neg zY, if_pos rfl]
     simp only [List.getD_cons_zero, List.getD_cons_succ, B0e, hm', Option.map_some]
     rw [if_pos ((A1A _ _).2 hco')]; rfl
  ·cases hw
theorem B5j (s : Bool) {A A' B B' : GT} {e e' f f' : GE} (hp : GP Γ e e' A A') (hq : GP Γ f f' B B') (he : T5 cx (if s = true then 8 else 7) ⟨#[]⟩ 0 B3 B3 0 [e.tm, f.tm] [A.ty, B.ty] l = some (u, a, l2)) : ElR Γ u a (T5 cx' (if s = true then 8 else 7) ⟨#[]⟩ 0 B3 B3 0 [e'.tm, f'.tm] [A'.ty, B'.ty] l') := by
 have hk : (if s = true then (8 : Int) else 7) = 7 ∨ (if s = true then (8 : Int) else 7) = 8 := by cases s <;> simp
 have hT : (if (if s = true then (8 : Int) else 7) = 8 then A0i else W0) = GT.ty (if s = true then .bool else .int) := by cases s <;> rfl
 obtain ⟨w, hw, hv, rfl⟩ := A2h he
 unfold P9 at hw
 rw [if_neg zZ, if_neg zZ, if_neg zZ, if_neg zZ, if_neg zZ, if_pos hk] at hw
 simp only [List.getD_cons_zero, List.getD_cons_succ] at hw
 split at hw
 ·rename_i hc
  rw [hT] at hw
  cases hw
  have c1 := (A1A A .int).1 hc.1
  have c2 := (A1A B .int).1 hc.2
  have d1 := c1.up hp.le Le.refl
  have d2 := c2.up hq.le Le.refl
  obtain ⟨m, n, l1, h3⟩ := A4J e f A .int B .int l
  obtain ⟨m', n', l1', h3'⟩ := A4J e' f' A' .int B' .int l'
  refine ⟨.ar s (U9 A .int m e) (U9 B .int n f), _, .ar s (U9 A' .int m' e') (U9 B' .int n' f'), _, l1', ?_, rfl, ?_, .ar (A2F hp c1 d1 .int) (A2F hq c2 d2 .int)⟩
  ·rw [if_neg zZ]
   show Tm.mk _ _ _ _ _ _ (J1 [e.tm, f.tm] [A.ty, B.ty] [GT.int.ty, GT.int.ty] l).1 = _
   rw [h3]; rfl
  ·rw [A2i (w := [GT.int.ty, GT.int.ty]) (a := GT.ty (if s = true then .bool else .int)) ?_ hv, if_neg zZ, h3']
   ·rfl
   ·unfold P9
    rw [if_neg zZ, if_neg zZ, if_neg zZ, if_neg zZ, if_neg zZ, if_pos hk]
    simp only [List.getD_cons_zero, List.getD_cons_succ]
    rw [if_pos ⟨(A1A A' .int).2 d1, (A1A B' .int).2 d2⟩, hT]; rfl
 ·cases hw
theorem B5k {A A' B B' C C' : GT} {e e' f f' g g' : GE} (hp : GP Γ e e' A A') (hq : GP Γ f f' B B') (hr : GP Γ g g' C C') (he : T5 cx 9 ⟨#[]⟩ 0 B3 B3 0 [e.tm, f.tm, g.tm] [A.ty, B.ty, C.ty] l = some (u, a, l2)) :
  ElR Γ u a (T5 cx' 9 ⟨#[]⟩ 0 B3 B3 0 [e'.tm, f'.tm, g'.tm] [A'.ty, B'.ty, C'.ty] l') := by
 obtain ⟨w, hw, hv, rfl⟩ := A2h he
 unfold P9 at hw
 rw [if_neg zY, if_neg zY, if_neg zY, if_neg zY, if_neg zY, if_neg zY, if_pos rfl] at hw
 simp only [List.getD_cons_zero, List.getD_cons_succ] at hw
 split at hw
 ·rename_i hc
  have c1 := (A1A A .bool).1 hc.1
  have c2 := (A1A B C).1 hc.2
  have d1 := c1.up hp.le Le.refl
  have d2 := c2.up hq.le hr.le
  rw [B0d c2] at hw
  cases hw
  have hM := B48 c2 hq.le hr.le
  obtain ⟨m, n, o, l1, h3⟩ := B0g e f g A .bool B (U4 B C) C (U4 B C) l
  obtain ⟨m', n', o', l1', h3'⟩ := B0g e' f' g' A' .bool B' (U4 B' C') C' (U4 B' C') l'
  refine ⟨.ite (U9 A .bool m e) (U9 B (U4 B C) n f) (U9 C (U4 B C) o g), U4 B C, .ite (U9 A' .bool m' e') (U9 B' (U4 B' C') n' f') (U9 C' (U4 B' C') o' g'), U4 B' C', l1', ?_, rfl, ?_,
   .ite (A2F hp c1 d1 .bool) (A2F hq (A5P c2).co.symm (A5P d2).co.symm hM) (A2F hr (A5Q c2).co.symm (A5Q d2).co.symm hM)⟩
  ·rw [if_neg zY]
   show Tm.mk _ _ _ _ _ _ (J1 [e.tm, f.tm, g.tm] [A.ty, B.ty, C.ty] [GT.bool.ty, (U4 B C).ty, (U4 B C).ty] l).1 = _
   rw [h3]; rfl
  ·rw [A2i (w := [GT.bool.ty, (U4 B' C').ty, (U4 B' C').ty]) (a := (U4 B' C').ty) ?_ (A3v hM hv), if_neg zY, h3']
   ·rfl
   ·unfold P9
    rw [if_neg zY, if_neg zY, if_neg zY, if_neg zY, if_neg zY, if_neg zY, if_pos rfl]
    simp only [List.getD_cons_zero, List.getD_cons_succ]
    rw [if_pos ⟨(A1A A' .bool).2 d1, (A1A B' C').2 d2⟩, B0d d2]; rfl
 ·cases hw
theorem B5l {A A' B B' : GT} {e e' f f' : GE} (hp : GP Γ e e' A A') (hq : GP Γ f f' B B') (he : T5 cx 10 ⟨#[]⟩ 0 B3 B3 0 [e.tm, f.tm] [A.ty, B.ty] l = some (u, a, l2)) : ElR Γ u a (T5 cx' 10 ⟨#[]⟩ 0 B3 B3 0 [e'.tm, f'.tm] [A'.ty, B'.ty] l') := by
 obtain ⟨w, hw, hv, rfl⟩ := A2h he
 cases hw
 exact ⟨.pair e f, .pr A B, .pair e' f', .pr A' B', l', by rw [A0l, if_neg zY]; rfl, rfl, by rw [A2i (w := []) (a := .mk 5 [A'.ty, B'.ty]) rfl (A3v (.pr hp.le hq.le) hv), A0l, if_neg zY]; rfl, .pair hp hq⟩
theorem B5m (s : Bool) {A A' : GT} {e e' : GE} (hp : GP Γ e e' A A') (he : T5 cx (if s = true then 12 else 11) ⟨#[]⟩ 0 B3 B3 0 [e.tm] [A.ty] l = some (u, a, l2)) : ElR Γ u a (T5 cx' (if s = true then 12 else 11) ⟨#[]⟩ 0 B3 B3 0 [e'.tm] [A'.ty] l') := by
 have hk : (if s = true then (12 : Int) else 11) = 11 ∨ (if s = true then (12 : Int) else 11) = 12 := by cases s <;> simp
 have hT : ∀ p q : GT, (if (if s = true then (12 : Int) else 11) = 12 then q.ty else p.ty) = GT.ty (if s = true then q else p) := by intro p q; cases s <;> rfl
 obtain ⟨w, hw, hv, rfl⟩ := A2h he
 unfold P9 at hw
 rw [if_neg zZ, if_neg zZ, if_neg zZ, if_neg zZ, if_neg zZ, if_neg zZ, if_neg zZ, if_neg zZ, if_neg zZ] at hw
 simp only [List.getD_cons_zero, B0f] at hw
 cases hm : gmP A with
 | none => rw [hm] at hw; cases hw
 | some pq =>
  obtain ⟨p, q⟩ := pq
  rw [hm] at hw
  simp only [Option.map_some, hT] at hw
  cases hw
  obtain ⟨c1, p', q', hm', h1, h2, c2⟩ := B5b hp.le hm
  obtain ⟨m, l1, h3⟩ := A4I e A (.pr p q) l
  obtain ⟨m', l1', h3'⟩ := A4I e' A' (.pr p' q') l'
  refine ⟨.part s (U9 A (.pr p q) m e), _, .part s (U9 A' (.pr p' q') m' e'), _, l1', ?_, rfl, ?_, .part (A2F hp c1 c2 (.pr h1 h2))⟩
  ·rw [if_neg zZ]
   show Tm.mk _ _ _ _ _ _ (J1 [e.tm] [A.ty] [(GT.pr p q).ty] l).1 = _
   rw [h3]; rfl
  ·rw [A2i (w := [(GT.pr p' q').ty]) (a := GT.ty (if s = true then q' else p')) ?_ (A3v (by cases s; exact h1; exact h2) hv), if_neg zZ, h3']
   ·rfl
   ·unfold P9
    rw [if_neg zZ, if_neg zZ, if_neg zZ, if_neg zZ, if_neg zZ, if_neg zZ, if_neg zZ, if_neg zZ, if_neg zZ]
    simp only [List.getD_cons_zero, B0f, hm', Option.map_some, hT]; rfl
theorem B5n {A A' B B' : GT} {e e' : GE} (hB : Le B B') (hp : GP Γ e e' A A') (he : T5 cx 13 ⟨#[]⟩ 0 B.ty B3 0 [e.tm] [A.ty] l = some (u, a, l2)) : ElR Γ u a (T5 cx' 13 ⟨#[]⟩ 0 B'.ty B3 0 [e'.tm] [A'.ty] l') := by
 obtain ⟨w, hw, hv, rfl⟩ := A2h he
 unfold P9 at hw
 rw [if_neg zY, if_neg zY, if_neg zY, if_neg zY, if_neg zY, if_neg zY, if_neg zY, if_neg zY, if_pos rfl] at hw
 simp only [List.getD_cons_zero] at hw
 split at hw
 ·rename_i hc
  cases hw
  have c1 := (A1A A B).1 hc
  have d1 := c1.up hp.le hB
  obtain ⟨m, l1, h3⟩ := A4I e A B l
  obtain ⟨m', l1', h3'⟩ := A4I e' A' B' l'
  refine ⟨U9 A B m e, B, U9 A' B' m' e', B', l1', ?_, rfl, ?_, A2F hp c1 d1 hB⟩
  ·rw [if_pos rfl, h3]; rfl
  ·rw [A2i (w := [B'.ty]) (a := B'.ty) ?_ (A3v hB hv), if_pos rfl, h3']
   ·rfl
   ·unfold P9
    rw [if_neg zY, if_neg zY, if_neg zY, if_neg zY, if_neg zY, if_neg zY, if_neg zY, if_neg zY, if_pos rfl]
    simp only [List.getD_cons_zero]
    rw [if_pos ((A1A A' B').2 d1)]
 ·cases hw
end
theorem B5o (ks : List Tm) (ih : ∀ t ∈ ks, ∀ (t' : Tm) (d : Int) (cx cx' : Cx) (Γ : GC) (l l' : Int) (u : Tm) (a : Ty) (l2 : Int), P4 12 14 t d = true → P4 12 14 t' d = true → A3t t t' = true → CxR cx cx' Γ → Q5 cx t l = some (u, a, l2) → ElR Γ u a (Q5 cx' t' l')) :
  ∀ (ks' : List Tm) (d : Int) (cx cx' : Cx) (Γ : GC) (l l' : Int) (us : List Tm) (h : List Ty) (l2 : Int), O0 12 14 ks d = true → O0 12 14 ks' d = true → A2Y ks ks' = true → CxR cx cx' Γ → P7 cx ks l = some (us, h, l2) →
   ∃ es As es' As' l2', us = es.map GE.tm ∧ h = As.map GT.ty ∧ P7 cx' ks' l' = some (es'.map GE.tm, As'.map GT.ty, l2') ∧ GPL Γ es es' As As' := by
 induction ks with
 | nil =>
  intro ks' d cx cx' Γ l l' us h l2 _ _ hp _ he
  cases ks' with
  | cons _ _ => cases hp
  | nil =>
   rw [P7] at he
   cases he
   exact ⟨[], [], [], [], l', rfl, rfl, by rw [P7]; rfl, .nil⟩
 | cons t ts ihl =>
  intro ks' d cx cx' Γ l l' us h l2 hs hs' hp hc he
  cases ks' with
  | nil => cases hp
  | cons t' ts' =>
   rw [O0, Bool.and_eq_true] at hs hs'
   rw [A2Y, Bool.and_eq_true] at hp
   rw [P7] at he ⊢
   split at he
   ·cases he
   ·rename_i u a l1 h1
    split at he
    ·cases he
    ·rename_i us' h' l3 h2
     cases he
     obtain ⟨e, A, e', A', m, rfl, rfl, h3, h4⟩ := ih t List.mem_cons_self t' d cx cx' Γ l l' u a l1 hs.1 hs'.1 hp.1 hc h1
     obtain ⟨es, As, es', As', m2, rfl, rfl, h5, h6⟩ := ihl (fun x hx => ih x (List.mem_cons_of_mem _ hx)) ts' d cx cx' Γ l1 m us' h' l2 hs.2 hs'.2 hp.2 hc h2
     rw [h3]
     simp only [h5]
     exact ⟨e :: es, A :: As, e' :: es', A' :: As', m2, rfl, rfl, rfl, .cons h4 h6⟩
theorem A7o {cx : Cx} : ∀ {ks : List Tm} {l : Int} {us : List Tm} {h : List Ty} {l2 : Int}, P7 cx ks l = some (us, h, l2) → us.length = ks.length
 | [], _, _, _, _, h => by rw [P7] at h; cases h; rfl
 | t :: ts, _, _, _, _, h => by
  rw [P7] at h
  split at h
  ·cases h
  ·split at h
   ·cases h
   ·rename_i h2; cases h; simp [A7o h2]
theorem B5p : ∀ (t t' : Tm) (d : Int) (cx cx' : Cx) (Γ : GC) (l l' : Int) (u : Tm) (a : Ty) (l2 : Int), P4 12 14 t d = true → P4 12 14 t' d = true → A3t t t' = true → CxR cx cx' Γ → Q5 cx t l = some (u, a, l2) → ElR Γ u a (Q5 cx' t' l') := by
 refine Tm.ind fun k nm num ty fr lb ks ih t' d cx cx' Γ l l' u a l2 hs hs' hp hc he => ?_
 obtain ⟨k', nm', num', ty', fr', lb', ks'⟩ := t'
 obtain ⟨rfl, rfl, rfl, hty, hpk⟩ := B0b.1 hp
 obtain ⟨n1, n2, n3, n4, n5, n6, n7, n8, n9⟩ := B0h hs
 obtain ⟨m1, m2, m3, m4, m5, m6, m7, m8, m9⟩ := B0h hs'
 subst n7 n8 m7 m8
 rw [Q5] at he ⊢
 split at he
 ·cases he
 ·rename_i us h l1 hL
  
  have key : ∀ Δ, CxR (S4 cx k nm ty) (S4 cx' k nm ty') Δ → ∃ es As es' As' l2', us = es.map GE.tm ∧ h = As.map GT.ty ∧ P7 (S4 cx' k nm ty') ks' l' = some (es'.map GE.tm, As'.map GT.ty, l2') ∧ GPL Δ es es' As As' :=
   fun Δ hD => B5o ks ih ks' (d + 1) _ _ Δ l l' us h l1 n9 m9 hpk hD hL
  by_cases h5 : k = 5
  ·subst h5
   obtain ⟨A, rfl⟩ := A2Z ty (n5 (.inl rfl))
   obtain ⟨A', rfl⟩ := A2Z ty' (m5 (.inl rfl))
   have hA := (B0c A A').1 (hty (.inl rfl))
   obtain rfl := n4 zY
   obtain ⟨es, As, es', As', l3, rfl, rfl, e1, e2⟩ := key (gup Γ nm A A') (by rw [S4, S4, if_pos rfl, if_pos rfl]; exact B5d hc hA nm)
   have hlen : es.length = 1 := by
    have h1 := A7o hL
    rw [List.length_map] at h1
    have : E7 5 = 1 := rfl
    omega
   obtain ⟨e, e', B, B', rfl, rfl, rfl, rfl, hq⟩ := e2.one hlen
   rw [e1]
   exact B5h hA hq he
  ·obtain ⟨es, As, es', As', l3, rfl, rfl, e1, e2⟩ := key Γ (by rw [S4, S4, if_neg h5, if_neg h5]; exact hc)
   have hlen : (es.length : Int) = E7 k := by
    have h1 := A7o hL
    rw [List.length_map] at h1
    omega
   rw [e1]
   have hk : 1 ≤ k ∧ k ≤ 14 := by
    apply Classical.byContradiction
    intro hk
    rw [A5c hk] at n1; omega
   by_cases h1 : k = 1
   ·subst h1
    obtain rfl := n4 zY
    obtain rfl := n6 zY
    obtain rfl := m6 zY
    obtain ⟨rfl, rfl, rfl, rfl⟩ := e2.zero (by have : E7 1 = 0 := rfl; omega)
    exact B5e hc he
   obtain rfl := n3 zZ
   by_cases h2 : k = 2
   ·subst h2
    obtain rfl := n6 zY
    obtain rfl := m6 zY
    obtain ⟨rfl, rfl, rfl, rfl⟩ := e2.zero (by have : E7 2 = 0 := rfl; omega)
    exact B5f he
   obtain rfl := n4 h2
   by_cases h13 : k = 13
   ·subst h13
    obtain ⟨B, rfl⟩ := A2Z ty (n5 (.inr rfl))
    obtain ⟨B', rfl⟩ := A2Z ty' (m5 (.inr rfl))
    obtain ⟨e, e', A, A', rfl, rfl, rfl, rfl, hq⟩ := e2.one (by have : E7 13 = 1 := rfl; omega)
    exact B5n ((B0c B B').1 (hty (.inr rfl))) hq he
   obtain rfl := n6 zZ
   obtain rfl := m6 zZ
   by_cases h34 : k = 3 ∨ k = 4
   ·obtain ⟨b, rfl⟩ : ∃ b : Bool, k = if b = true then 3 else 4 := by rcases h34 with h | h; exact ⟨true, h⟩; exact ⟨false, h⟩
    obtain ⟨rfl, rfl, rfl, rfl⟩ := e2.zero (by have : E7 (if b = true then 3 else 4) = 0 := (by cases b <;> rfl); omega)
    exact B5g b he
   by_cases h6 : k = 6
   ·subst h6
    obtain ⟨e, e', A, A', f, f', B, B', rfl, rfl, rfl, rfl, hp1, hp2⟩ := e2.two (by have : E7 6 = 2 := rfl; omega)
    exact B5i hp1 hp2 he
   by_cases h78 : k = 7 ∨ k = 8
   ·obtain ⟨b, rfl⟩ : ∃ b : Bool, k = if b = true then 8 else 7 := by rcases h78 with h | h; exact ⟨false, h⟩; exact ⟨true, h⟩
    obtain ⟨e, e', A, A', f, f', B, B', rfl, rfl, rfl, rfl, hp1, hp2⟩ := e2.two (by have : E7 (if b = true then 8 else 7) = 2 := (by cases b <;> rfl); omega)
    exact B5j b hp1 hp2 he
   by_cases h9 : k = 9
   ·subst h9
    obtain ⟨e, e', A, A', f, f', B, B', g, g', C, C', rfl, rfl, rfl, rfl, hp1, hp2, hp3⟩ := e2.three (by have : E7 9 = 3 := rfl; omega)
    exact B5k hp1 hp2 hp3 he
   by_cases h10 : k = 10
   ·subst h10
    obtain ⟨e, e', A, A', f, f', B, B', rfl, rfl, rfl, rfl, hp1, hp2⟩ := e2.two (by have : E7 10 = 2 := rfl; omega)
    exact B5l hp1 hp2 he
   have h11 : k = 11 ∨ k = 12 := by omega
   obtain ⟨b, rfl⟩ : ∃ b : Bool, k = if b = true then 12 else 11 := by rcases h11 with h | h; exact ⟨false, h⟩; exact ⟨true, h⟩
   obtain ⟨e, e', A, A', rfl, rfl, rfl, rfl, hp1⟩ := e2.one (by have : E7 (if b = true then 12 else 11) = 1 := (by cases b <;> rfl); omega)
   exact B5m b hp1 he
theorem B5q {a b u : Tm} {t : Ty} (ha : Z6 a = some (u, t)) (hp : A3u a b = true) : ∃ e e' A A', u = e.tm ∧ t = A.ty ∧ Z6 b = some (e'.tm, A'.ty) ∧ GP Q1 e e' A A' := by
 unfold A3u at hp
 rw [Bool.and_eq_true, Bool.and_eq_true] at hp
 unfold Z6 at ha ⊢
 rw [if_pos hp.1] at ha
 rw [if_pos hp.2.1]
 split at ha
 ·rename_i u' t' l' he
  cases ha
  obtain ⟨e, A, e', A', l2, rfl, rfl, h1, h2⟩ := B5p a b 1 [] [] Q1 0 0 u t l' ((U1 a).1 hp.1).1 ((U1 b).1 hp.2.1).1 hp.2.2 B5c he
  rw [h1]
  exact ⟨e, e', A, A', rfl, rfl, rfl, h2⟩
 ·cases ha
theorem B5r (G : IM) (p : Option Addr) (n c : Nat) (es : List (List Value)) (hsl : D6 G p n c 9 es) (fid : FuncId) [C5 Tryz.prog fid] (us cs : List Value) (ins : List A7) (q : Nat → Bool)
  (hq : ∀ i e, es[i]? = some e → Fn Tryz.prog fid (us ++ [.agg ⟨e⟩] ++ cs) ins G (X0 (.bool (q i)) ins G)) :
  Fn Tryz.prog 158 [.slice p n c, .func (.func fid) ⟨us⟩ ⟨cs⟩] ins G (X0 (.int .i64 (A1a q n)) ins G) := by
 have hn := hsl.le
 refine C0 Tryz.func158 rfl Tryz.ntmps158 Tryz.results158 rfl ?_
 intro w0
 refine O5 ?_
 refine C2 ?_
 refine L4 (fun i : Nat => ⟨[(8, .int .i64 i), (7, .int .i64 n), (1, .func (.func fid) ⟨us⟩ ⟨cs⟩), (0, .slice p n c)], ins, G⟩) (fun i => i ≤ n ∧ ∀ j, j < i → q j = false) (fun i => n - i) 0 ?_ ?_ ?_
 exact F9
 exact ⟨by omega, by omega⟩
 rintro i ⟨hi, hf⟩
 refine A4 ?_
 refine sB (N0 rfl rfl) rfl rfl (fun h21 => ?_) (fun h21 => ?_)
 refine B0 ?_
 refine C2 ?_
 refine M3 ?_
 (obtain ⟨e, b, o, he, rfl, hl, _, hat, _⟩ := hsl.get (i := i) zZ; refine sP (B6 rfl rfl rfl zZ) rfl rfl ?_)
 refine sL (A5 rfl rfl (hat _) hl) rfl rfl ?_
 refine A46 rfl rfl (hq i e he) A0V rfl rfl (fun h43 => ?_) (fun h43 => ?_)
 refine I5 ?_
 refine H6 (rT rfl) A0.refl ?_
 exact ⟨rfl, by rw [A8q zZ hf zW], rfl⟩
 refine B0 ?_
 refine sP (J9 rfl rfl zZ zZ) rfl rfl ?_
 refine A4 ?_
 refine J6 (i + 1) ?_ ?_ ?_
 exact F9
 exact ⟨by omega, fun j hj => by by_cases hji : j = i; (subst hji; assumption); exact hf j zZ⟩
 omega
 refine I5 ?_
 refine H6 (rT rfl) A0.refl ?_
 exact ⟨rfl, by rw [A6t (fun j hj => hf j zZ)], rfl⟩
theorem B5s (G : IM) (p : Option Addr) (n c : Nat) (es : List (List Value)) (hsl : D6 G p n c 9 es) (fid : FuncId) [C5 Tryz.prog fid] (us cs : List Value) (ins : List A7) (q : Nat → Bool)
  (hq : ∀ i e, es[i]? = some e → Fn Tryz.prog fid (us ++ [.agg ⟨e⟩] ++ cs) ins G (X0 (.bool (q i)) ins G)) :
  Fn Tryz.prog 146 [.slice p n c, .func (.func fid) ⟨us⟩ ⟨cs⟩] ins G (X0 (.bool (decide (0 ≤ A1a q n))) ins G) := by
 refine C0 Tryz.func146 rfl Tryz.ntmps146 Tryz.results146 rfl ?_
 intro w0
 refine E8 ?_
 refine A3e rfl (B5r G p n c es hsl fid us cs ins q hq) A0V rfl rfl ?_
 refine sQ (A1j rfl rfl) rfl ?_
 refine B4 ?_
 refine H6 (rT rfl) A0.refl ?_
 exact ⟨rfl, rfl, rfl⟩
theorem B5t (G : IM) (p : Option Addr) (n c : Nat) (es : List (List Value)) (hsl : D6 G p n c 9 es) (fid : FuncId) [C5 Tryz.prog fid] (us cs : List Value) (ins : List A7) (f : Tm → Bool) (ks : List Tm)
  (hn : ks.length = n) {A : Bool} (hA : ks.all f = A) (hq : ∀ i e, es[i]? = some e → Fn Tryz.prog fid (us ++ [.agg ⟨e⟩] ++ cs) ins G (X0 (.bool (!f (ks.getD i K4))) ins G)) :
  Fn Tryz.prog 146 [.slice p n c, .func (.func fid) ⟨us⟩ ⟨cs⟩] ins G (X0 (.bool (!A)) ins G) := by
 subst hn hA
 rw [← A8t f ks K4]
 exact B5s G p _ c es hsl fid us cs ins _ hq
theorem B0i : ∀ ks, A1R ks = ks.all J8
 | [] => rfl
 | t :: ts => by rw [A1R, B0i ts, List.all_cons]
theorem B5u (t : Tm) (G : IM) (cells : List Value) (hl : cells.length = 9) (ho : cells.all (·.oneCell') = true) (h : Fn Tryz.prog 131 [.agg ⟨cells⟩] [] G (K5 (.bool (J8 t)) G)) :
  Fn Tryz.prog 147 [.agg ⟨cells⟩] [] G (X0 (.bool (!J8 t)) [] G) := by
 refine C0 Tryz.func147 rfl Tryz.ntmps147 Tryz.results147 rfl ?_
 intro w0
 refine A4 ?_
 refine sE (B5 rfl rfl) rfl (fun b3 => ?_)
 refine A8 ?_
 refine sL (A5 rfl rfl (B7 zS) hl) rfl rfl ?_
 refine H1 rfl (h) rfl rfl ?_
 refine sQ (A3A rfl) rfl ?_
 refine A8 ?_
 (exact ⟨rfl, rfl, rfl⟩)
theorem A3Y (k : Int) (nm : ByteArray) (num : Int) (ty fr : Ty) (lb : Int) (ks : List Tm) : prx (.mk k nm num ty fr lb ks) = decide (k = 14 ∧ fr.k = ty.k ∧ (ty.k = 4 ∨ ty.k = 5)) := rfl
theorem A7p (k : Int) (nm : ByteArray) (num : Int) (ty fr : Ty) (lb : Int) (ks : List Tm) : inj (.mk k nm num ty fr lb ks) = (decide (k = 14 ∧ ty.k = 1) && A0a fr) := rfl
theorem A7q {k : Int} {nm : ByteArray} {num : Int} {ty fr : Ty} {lb : Int} {ks : List Tm} (h : k = 10 ∨ prx (.mk k nm num ty fr lb ks) = true ∨ inj (.mk k nm num ty fr lb ks) = true) : J8 (.mk k nm num ty fr lb ks) = ks.all J8 := by
 rw [J8, if_pos, B0i]
 rw [A3Y, A7p] at h
 simp only [Bool.and_eq_true, decide_eq_true_eq] at h
 rcases h with h | h | h
 ·exact .inl h
 ·exact .inr (.inl h)
 ·exact .inr (.inr ⟨h.1.1, h.1.2, h.2⟩)
theorem B0j {k : Int} {nm : ByteArray} {num : Int} {ty fr : Ty} {lb : Int} {ks : List Tm} (h : ¬k = 10) (h2 : prx (.mk k nm num ty fr lb ks) = false) (h3 : inj (.mk k nm num ty fr lb ks) = false) : J8 (.mk k nm num ty fr lb ks) = decide (k = 2 ∨ k = 3 ∨ k = 4 ∨ k = 5) := by
 rw [J8, if_neg]
 rw [A3Y] at h2
 rw [A7p] at h3
 simp only [Bool.and_eq_false_iff, decide_eq_false_iff_not] at h2 h3
 rintro (h' | h' | h')
 ·exact h h'
 ·exact h2 h'
 ·rcases h3 with h3 | h3
  ·exact h3 ⟨h'.1, h'.2.1⟩
  ·rw [h3] at h'; cases h'.2.2
theorem B0k : ∀ (t : Tm) (G : IM) (cells : List Value), B8 G t cells → Fn Tryz.prog 131 [.agg ⟨cells⟩] [] G (K5 (.bool (J8 t)) G) := by
 refine Tm.ind fun k nm num ty fr lb ks ih G cells hr => ?_
 have hr0 := hr
 have hP := A3p _ G _ hr
 have hI := A4D _ G _ hr
 have hPl := B4q _ G _ hr
 have hy := @A7q k nm num ty fr lb ks
 have hn := @B0j k nm num ty fr lb ks
 rw [show (Tm.mk k nm num ty fr lb ks).k = k from rfl] at hPl
 obtain ⟨A, hA⟩ : ∃ A, ks.all J8 = A := ⟨_, rfl⟩
 rw [hA] at hy
 generalize hpx : prx (.mk k nm num ty fr lb ks) = bp at hP hy hn
 generalize hij : inj (.mk k nm num ty fr lb ks) = bi at hI hy hn
 generalize J8 (.mk k nm num ty fr lb ks) = R at hy hn ⊢
 obtain ⟨tk, tks⟩ := ty
 obtain ⟨fk, fks⟩ := fr
 obtain ⟨pt, ct, pf, cf, p, c, es, rfl, hk, hnum, hlb, hty, hfr, hsl, hkl⟩ := hr.open9
 have hC := B5t G p ks.length c es hsl 147 [] [] [] J8 ks rfl hA (fun i e he => by
  have hx := hkl.inv he K4
  exact B5u _ G e hx.2.len hx.2.one (ih _ hx.1 G e hx.2))
 refine C0 Tryz.func131 rfl Tryz.ntmps131 Tryz.results131 rfl ?_
 intro w0
 refine A4 ?_
 refine sE (B5 rfl rfl) rfl (fun b3 => ?_)
 refine E4 ?_
 refine sB (qE rfl rfl) rfl rfl (fun h12 => ?_) (fun h12 => ?_)
 refine I5 ?_
 refine A3e rfl hC A0V rfl rfl ?_
 refine sQ (A3A rfl) rfl ?_
 refine A9 ?_
 (exact ⟨rfl, by rw [hy (by first | exact .inl zZ | exact .inr (.inl zW) | exact .inr (.inr zW))]; cases A <;> rfl, rfl⟩)
 refine A4 ?_
 refine K3 rfl (hP) rfl rfl (fun h39 => ?_) (fun h39 => ?_)
 refine O3 ?_
 refine A3e rfl hC A0V rfl rfl ?_
 refine sQ (A3A rfl) rfl ?_
 refine A9 ?_
 (exact ⟨rfl, by rw [hy (by first | exact .inl zZ | exact .inr (.inl zW) | exact .inr (.inr zW))]; cases A <;> rfl, rfl⟩)
 refine C1 ?_
 refine K3 rfl (hI) rfl rfl (fun h64 => ?_) (fun h64 => ?_)
 refine E4 ?_
 refine A3e rfl hC A0V rfl rfl ?_
 refine sQ (A3A rfl) rfl ?_
 refine A9 ?_
 (exact ⟨rfl, by rw [hy (by first | exact .inl zZ | exact .inr (.inl zW) | exact .inr (.inr zW))]; cases A <;> rfl, rfl⟩)
 refine E8 ?_
 refine H1 rfl (hPl) rfl rfl ?_
 refine A8 ?_
 (exact ⟨rfl, by rw [hn zZ zW zW], rfl⟩)
theorem B8.put {G : IM} {k : Int} {nm : ByteArray} {num tk fk lb : Int} {tks fks : List Ty} {us : List Tm} {pt pf p : Option Addr} {ct cf n c : Nat} {es : List (List Value)} (hk : H5 k) (hnum : H5 num) (hlb : H5 lb) (hty : C6 G (.mk tk tks) [.int .i64 tk, .slice pt tks.length ct]) (hfr : C6 G (.mk fk fks) [.int .i64 fk, .slice pf fks.length cf])
  (hn : n = us.length) (hs : D6 G p n c 9 es) (hr : F8 G us es) : B8 G (.mk k nm num (.mk tk tks) (.mk fk fks) lb us) [.int .i64 k, .string nm, .int .i64 num, .int .i64 tk, .slice pt tks.length ct, .int .i64 fk, .slice pf fks.length cf, .int .i64 lb, .slice p n c] := by
 subst hn
 simp only [B8]
 exact ⟨_, _, p, c, es, rfl, hk, hnum, hlb, hty, hfr, hs, hr⟩
theorem nine {uc : List Value} (h : uc.length = 9) : ∃ v1 v2 v3 v4 v5 v6 v7 v8 v9, uc = [v1, v2, v3, v4, v5, v6, v7, v8, v9] := by
 match uc, h with
 | [a, b, c, d, e, f, g, i, j], _ => exact ⟨a, b, c, d, e, f, g, i, j, rfl⟩
theorem A7r {x : ByteArray} {v : Tm} {ks : List Tm} {i : Nat} (h : i < ks.length) : (Z3 x v ks).take (i + 1) = (Z3 x v ks).take i ++ [A0b x v ks[i]] := by
 rw [A64, List.take_succ_eq_append_getElem (by rw [List.length_map]; exact h), List.getElem_map]
theorem A2G (x : ByteArray) (v : Tm) (ks : List Tm) : (Z3 x v ks).length = ks.length := by rw [A64, List.length_map]
theorem B5v (y : ByteArray) (v : Tm) (vc : List Value) : ∀ (t : Tm) (G : IM) (cells : List Value), t.small → B8 G t cells → B8 G v vc → Fn Tryz.prog 159 [.agg ⟨cells⟩, .string y, .agg ⟨vc⟩] [] G (TmP (A0b y v t)) := by
 refine Tm.ind fun k nm num ty fr lb ks ih G cells hts hr hv => ?_
 have hr0 := hr
 obtain ⟨_, _, _, hsm, hks⟩ := A4z.1 hts
 have hvl := hv.len
 have hvo := hv.one
 have hRl := hr.len
 have hRo := hr.one
 rw [A0b]
 obtain ⟨tk, tks⟩ := ty
 obtain ⟨fk, fks⟩ := fr
 obtain ⟨pt, ct, pf, cf, p, c, es, rfl, hk, hnum, hlb, hty, hfr, hsl, hkl⟩ := hr.open9
 have hn := hsl.le
 refine C0 Tryz.func159 rfl Tryz.ntmps159 Tryz.results159 rfl ?_
 intro w0
 refine A4 ?_
 refine sE (B5 rfl rfl) rfl (fun b3 => ?_)
 refine sE (B5 rfl rfl) rfl (fun b4 => ?_)
 refine sE (A6 rfl) rfl (fun b5 => ?_)
 refine C1 ?_
 refine C2 ?_
 refine B4 ?_
 refine sB (qE rfl rfl) rfl rfl (fun h14 => ?_) (fun h14 => ?_)
 refine B4 ?_
 refine sB (A2u rfl rfl) rfl rfl (fun h19 => ?_) (fun h19 => ?_)
 refine B0 ?_
 refine sL (A5 rfl rfl (B7 zS) hvl) rfl rfl ?_
 refine sS rfl rfl rfl hvl hvo rfl ?_ (hu := by exact C7 hvl.symm)
 refine A8 ?_
 refine O7 (rC rfl (A5 rfl rfl (B7 zS) hvl)) ?_
 (rw [if_pos (by refine ⟨by omega, by assumption⟩)]; exact TmP.mk hv)
 refine E8 ?_
 refine sP (D0 rfl rfl zZ) rfl rfl ?_
 refine N7 ?_
 refine sE (A6 rfl) rfl (fun b62 => ?_)
 refine Y7 ?_
 refine C2 ?_
 (refine W4 28 9 ?_; refine L4 (fun (x : Nat × Option Addr × Nat × List (List Value) × IM) => ⟨[(37, .int .i64 x.1), (36, .int .i64 ks.length), (35, .slice p ks.length c), (1, .string y), (3, .pointer (some ⟨b3, 0, none⟩)), (5, .pointer (some ⟨b4, 0, none⟩)), (6, .pointer (some ⟨b5, 0, none⟩)), (7, .pointer (some ⟨b62, 0, none⟩))], [.blk b62 [.int .i64 k, .string nm, .int .i64 num, .int .i64 tk, .slice pt tks.length ct, .int .i64 fk, .slice pf fks.length cf, .int .i64 lb, .slice x.2.1 x.1 x.2.2.1], .slc x.2.1 x.2.2.1 28 9 x.1 x.2.2.2.1.flatten, .blk b5 [.int .i64 0, .string ⟨⟨[]⟩⟩, .int .i64 0, .int .i64 0, .slice none 0 0, .int .i64 0, .slice none 0 0, .int .i64 0, .slice none 0 0], .blk b4 vc, .blk b3 [.int .i64 k, .string nm, .int .i64 num, .int .i64 tk, .slice pt tks.length ct, .int .i64 fk, .slice pf fks.length cf, .int .i64 lb, .slice p ks.length c]], x.2.2.2.2⟩) (fun x => x.1 ≤ ks.length ∧ B9 G x.2.2.2.2 ∧ F8 x.2.2.2.2 ((Z3 y v ks).take x.1) x.2.2.2.1) (fun x => ks.length - x.1) (0, none, 0, [], G) ?_ ?_ ?_)
 (simp only [I6]; exact F9)
 (exact ⟨Nat.zero_le _, B9.refl _, by simp [F8]⟩)
 (rintro ⟨i, pn, cn, es', Gi⟩ ⟨hi, hle, hst⟩; simp only [] at hi hle hst ⊢; replace hsl := hsl.mono hle; replace hkl := hkl.mono hle; replace hv := hv.mono hle; replace hty := hty.mono hle; replace hfr := hfr.mono hle; have hsl' := hst.len; rw [List.length_take, A2G] at hsl')
 refine A4 ?_
 refine sB (N0 rfl rfl) rfl rfl (fun h88 => ?_) (fun h88 => ?_)
 refine B0 ?_
 refine C2 ?_
 refine A4 ?_
 (have hil : i < ks.length := zZ; obtain ⟨bx, ox, e, rfl, hl, hat, hre, hgb⟩ := hsl.kidTm hkl (i := i) zZ zZ; have hel := hre.len; have heo := hre.one; refine sP (B6 (j := i) rfl rfl rfl zZ) rfl rfl ?_)
 refine sL (A5 rfl rfl (hat _) hl) rfl rfl ?_
 refine sE (A6 rfl) rfl (fun b101 => ?_)
 refine sS rfl rfl rfl hel heo rfl ?_ (hu := by exact C7 hel.symm)
 refine A4 ?_
 refine D3 D4 rfl ?_
 refine I7 (i := 2) (l' := [ff,ff,tt,ff,ff,ff,ff,ff,ff,ff]) rfl C8 (A5 rfl rfl (B7 zS) hel) rfl zX rfl rfl ?_
 refine aL 4 rfl (A5 rfl rfl (B7 zS) hvl) rfl ?_
 refine aP 0 rfl (C3 rfl) rfl ?_
 refine aL 1 rfl (E9 rfl rfl) rfl ?_
 refine aP 3 rfl (qM rfl) rfl ?_
 refine A2 5 ?_
 (refine H0 rfl rfl (ih ks[i] (List.getElem_mem zZ) Gi _ (Tm.smallL_mem hks _ (List.getElem_mem zZ)) hre hv) rfl rfl rfl (fun u G1 hle1 hh => ?_); obtain ⟨uc, rfl, hru⟩ := hh; have hul := hru.len; have huo := hru.one; obtain ⟨v1, v2, v3, v4, v5, v6, v7, v8, v9, rfl⟩ := nine hul)
 refine A2 6 ?_
 (refine D2 rfl (D1 rfl rfl rfl zZ zU rfl) rfl rfl ?_; rintro _ ⟨b114, rfl⟩)
 refine A2 7 ?_
 (refine O8 rfl rfl rfl rfl rfl rfl (fun _ _ => by repeat (first | exact Sw.here | apply Sw.there)) (J7 zS) rfl (fun u hu => List.all_eq_true.1 huo u hu) zU zZ rfl rfl zG (fun p7 c7 => ?_))
 refine aP 8 rfl (C3 rfl) rfl ?_
 refine A2 9 ?_
 refine T3 rfl rfl rfl rfl rfl rfl rfl rfl zV zR (by rfl) ?_
 refine B4 ?_
 refine sP (J9 rfl rfl zZ zZ) rfl rfl ?_
 refine A4 ?_
 refine J6 (i + 1, p7, c7, es' ++ [[v1, v2, v3, v4, v5, v6, v7, v8, v9]], G1) ?_ ?_ ?_
 (simp only [I6]; exact F9)
 (dsimp only; exact ⟨by omega, hle.trans hle1, by rw [A7r zZ]; exact F8.snoc (hst.mono hle1) hru⟩)
 (show ks.length - (i + 1) < ks.length - i; omega)
 refine I5 ?_
 (refine J0 (cs := es'.flatten) zP (fun G2 hle2 hsl2 hno2 => ?_); obtain rfl : i = ks.length := zZ)
 refine tT ?_
 refine O7 (rC rfl (A3 rfl rfl)) ?_
 (rw [if_neg (by rintro ⟨h1, h2⟩; first | omega | contradiction), if_neg (by rintro ⟨h1, h2⟩; first | omega | contradiction)]; rw [List.take_of_length_le (by rw [A2G]; omega)] at hst; exact TmP.mk (B8.put hk hnum hlb (hty.mono hle2) (hfr.mono hle2) (by rw [A2G]) (D6.of hsl2 zZ hst.all (fun e he => (hst.each e he).2)) (hst.mono hle2)))
 refine M8 ?_
 refine sB (qE rfl rfl) rfl rfl (fun h164 => ?_) (fun h164 => ?_)
 refine B4 ?_
 refine sB (A2u rfl rfl) rfl rfl (fun h169 => ?_) (fun h169 => ?_)
 refine M8 ?_
 refine O7 (rC rfl (A3 rfl rfl)) ?_
 (rw [if_neg (by rintro ⟨h1, h2⟩; first | omega | contradiction), if_pos (by refine ⟨by omega, by assumption⟩)]; exact TmP.mk hr0)
 refine M3 ?_
 refine sE (A6 rfl) rfl (fun b197 => ?_)
 refine Y7 ?_
 refine C2 ?_
 (refine W4 28 9 ?_; refine L4 (fun (x : Nat × Option Addr × Nat × List (List Value) × IM) => ⟨[(37, .int .i64 x.1), (36, .int .i64 ks.length), (35, .slice p ks.length c), (1, .string y), (3, .pointer (some ⟨b3, 0, none⟩)), (5, .pointer (some ⟨b4, 0, none⟩)), (6, .pointer (some ⟨b5, 0, none⟩)), (7, .pointer (some ⟨b197, 0, none⟩))], [.blk b197 [.int .i64 k, .string nm, .int .i64 num, .int .i64 tk, .slice pt tks.length ct, .int .i64 fk, .slice pf fks.length cf, .int .i64 lb, .slice x.2.1 x.1 x.2.2.1], .slc x.2.1 x.2.2.1 28 9 x.1 x.2.2.2.1.flatten, .blk b5 [.int .i64 0, .string ⟨⟨[]⟩⟩, .int .i64 0, .int .i64 0, .slice none 0 0, .int .i64 0, .slice none 0 0, .int .i64 0, .slice none 0 0], .blk b4 vc, .blk b3 [.int .i64 k, .string nm, .int .i64 num, .int .i64 tk, .slice pt tks.length ct, .int .i64 fk, .slice pf fks.length cf, .int .i64 lb, .slice p ks.length c]], x.2.2.2.2⟩) (fun x => x.1 ≤ ks.length ∧ B9 G x.2.2.2.2 ∧ F8 x.2.2.2.2 ((Z3 y v ks).take x.1) x.2.2.2.1) (fun x => ks.length - x.1) (0, none, 0, [], G) ?_ ?_ ?_)
 (simp only [I6]; exact F9)
 (exact ⟨Nat.zero_le _, B9.refl _, by simp [F8]⟩)
 (rintro ⟨i, pn, cn, es', Gi⟩ ⟨hi, hle, hst⟩; simp only [] at hi hle hst ⊢; replace hsl := hsl.mono hle; replace hkl := hkl.mono hle; replace hv := hv.mono hle; replace hty := hty.mono hle; replace hfr := hfr.mono hle; have hsl' := hst.len; rw [List.length_take, A2G] at hsl')
 refine A4 ?_
 refine sB (N0 rfl rfl) rfl rfl (fun h223 => ?_) (fun h223 => ?_)
 refine B0 ?_
 refine C2 ?_
 refine A4 ?_
 (have hil : i < ks.length := zZ; obtain ⟨bx, ox, e, rfl, hl, hat, hre, hgb⟩ := hsl.kidTm hkl (i := i) zZ zZ; have hel := hre.len; have heo := hre.one; refine sP (B6 (j := i) rfl rfl rfl zZ) rfl rfl ?_)
 refine sL (A5 rfl rfl (hat _) hl) rfl rfl ?_
 refine sE (A6 rfl) rfl (fun b236 => ?_)
 refine sS rfl rfl rfl hel heo rfl ?_ (hu := by exact C7 hel.symm)
 refine A4 ?_
 refine D3 D4 rfl ?_
 refine I7 (i := 2) (l' := [ff,ff,tt,ff,ff,ff,ff,ff,ff,ff]) rfl C8 (A5 rfl rfl (B7 zS) hel) rfl zX rfl rfl ?_
 refine aL 4 rfl (A5 rfl rfl (B7 zS) hvl) rfl ?_
 refine aP 0 rfl (C3 rfl) rfl ?_
 refine aL 1 rfl (E9 rfl rfl) rfl ?_
 refine aP 3 rfl (qM rfl) rfl ?_
 refine A2 5 ?_
 (refine H0 rfl rfl (ih ks[i] (List.getElem_mem zZ) Gi _ (Tm.smallL_mem hks _ (List.getElem_mem zZ)) hre hv) rfl rfl rfl (fun u G1 hle1 hh => ?_); obtain ⟨uc, rfl, hru⟩ := hh; have hul := hru.len; have huo := hru.one; obtain ⟨v1, v2, v3, v4, v5, v6, v7, v8, v9, rfl⟩ := nine hul)
 refine A2 6 ?_
 (refine D2 rfl (D1 rfl rfl rfl zZ zU rfl) rfl rfl ?_; rintro _ ⟨b249, rfl⟩)
 refine A2 7 ?_
 (refine O8 rfl rfl rfl rfl rfl rfl (fun _ _ => by repeat (first | exact Sw.here | apply Sw.there)) (J7 zS) rfl (fun u hu => List.all_eq_true.1 huo u hu) zU zZ rfl rfl zG (fun p7 c7 => ?_))
 refine aP 8 rfl (C3 rfl) rfl ?_
 refine A2 9 ?_
 refine T3 rfl rfl rfl rfl rfl rfl rfl rfl zV zR (by rfl) ?_
 refine B4 ?_
 refine sP (J9 rfl rfl zZ zZ) rfl rfl ?_
 refine A4 ?_
 refine J6 (i + 1, p7, c7, es' ++ [[v1, v2, v3, v4, v5, v6, v7, v8, v9]], G1) ?_ ?_ ?_
 (simp only [I6]; exact F9)
 (dsimp only; exact ⟨by omega, hle.trans hle1, by rw [A7r zZ]; exact F8.snoc (hst.mono hle1) hru⟩)
 (show ks.length - (i + 1) < ks.length - i; omega)
 refine I5 ?_
 (refine J0 (cs := es'.flatten) zP (fun G2 hle2 hsl2 hno2 => ?_); obtain rfl : i = ks.length := zZ)
 refine tT ?_
 refine O7 (rC rfl (A3 rfl rfl)) ?_
 (rw [if_neg (by rintro ⟨h1, h2⟩; first | omega | contradiction), if_neg (by rintro ⟨h1, h2⟩; first | omega | contradiction)]; rw [List.take_of_length_le (by rw [A2G]; omega)] at hst; exact TmP.mk (B8.put hk hnum hlb (hty.mono hle2) (hfr.mono hle2) (by rw [A2G]) (D6.of hsl2 zZ hst.all (fun e he => (hst.each e he).2)) (hst.mono hle2)))
 refine N7 ?_
 refine sE (A6 rfl) rfl (fun b301 => ?_)
 refine Y7 ?_
 refine C2 ?_
 (refine W4 28 9 ?_; refine L4 (fun (x : Nat × Option Addr × Nat × List (List Value) × IM) => ⟨[(37, .int .i64 x.1), (36, .int .i64 ks.length), (35, .slice p ks.length c), (1, .string y), (3, .pointer (some ⟨b3, 0, none⟩)), (5, .pointer (some ⟨b4, 0, none⟩)), (6, .pointer (some ⟨b5, 0, none⟩)), (7, .pointer (some ⟨b301, 0, none⟩))], [.blk b301 [.int .i64 k, .string nm, .int .i64 num, .int .i64 tk, .slice pt tks.length ct, .int .i64 fk, .slice pf fks.length cf, .int .i64 lb, .slice x.2.1 x.1 x.2.2.1], .slc x.2.1 x.2.2.1 28 9 x.1 x.2.2.2.1.flatten, .blk b5 [.int .i64 0, .string ⟨⟨[]⟩⟩, .int .i64 0, .int .i64 0, .slice none 0 0, .int .i64 0, .slice none 0 0, .int .i64 0, .slice none 0 0], .blk b4 vc, .blk b3 [.int .i64 k, .string nm, .int .i64 num, .int .i64 tk, .slice pt tks.length ct, .int .i64 fk, .slice pf fks.length cf, .int .i64 lb, .slice p ks.length c]], x.2.2.2.2⟩) (fun x => x.1 ≤ ks.length ∧ B9 G x.2.2.2.2 ∧ F8 x.2.2.2.2 ((Z3 y v ks).take x.1) x.2.2.2.1) (fun x => ks.length - x.1) (0, none, 0, [], G) ?_ ?_ ?_)
 (simp only [I6]; exact F9)
 (exact ⟨Nat.zero_le _, B9.refl _, by simp [F8]⟩)
 (rintro ⟨i, pn, cn, es', Gi⟩ ⟨hi, hle, hst⟩; simp only [] at hi hle hst ⊢; replace hsl := hsl.mono hle; replace hkl := hkl.mono hle; replace hv := hv.mono hle; replace hty := hty.mono hle; replace hfr := hfr.mono hle; have hsl' := hst.len; rw [List.length_take, A2G] at hsl')
 refine A4 ?_
 refine sB (N0 rfl rfl) rfl rfl (fun h327 => ?_) (fun h327 => ?_)
 refine B0 ?_
 refine C2 ?_
 refine A4 ?_
 (have hil : i < ks.length := zZ; obtain ⟨bx, ox, e, rfl, hl, hat, hre, hgb⟩ := hsl.kidTm hkl (i := i) zZ zZ; have hel := hre.len; have heo := hre.one; refine sP (B6 (j := i) rfl rfl rfl zZ) rfl rfl ?_)
 refine sL (A5 rfl rfl (hat _) hl) rfl rfl ?_
 refine sE (A6 rfl) rfl (fun b340 => ?_)
 refine sS rfl rfl rfl hel heo rfl ?_ (hu := by exact C7 hel.symm)
 refine A4 ?_
 refine D3 D4 rfl ?_
 refine I7 (i := 2) (l' := [ff,ff,tt,ff,ff,ff,ff,ff,ff,ff]) rfl C8 (A5 rfl rfl (B7 zS) hel) rfl zX rfl rfl ?_
 refine aL 4 rfl (A5 rfl rfl (B7 zS) hvl) rfl ?_
 refine aP 0 rfl (C3 rfl) rfl ?_
 refine aL 1 rfl (E9 rfl rfl) rfl ?_
 refine aP 3 rfl (qM rfl) rfl ?_
 refine A2 5 ?_
 (refine H0 rfl rfl (ih ks[i] (List.getElem_mem zZ) Gi _ (Tm.smallL_mem hks _ (List.getElem_mem zZ)) hre hv) rfl rfl rfl (fun u G1 hle1 hh => ?_); obtain ⟨uc, rfl, hru⟩ := hh; have hul := hru.len; have huo := hru.one; obtain ⟨v1, v2, v3, v4, v5, v6, v7, v8, v9, rfl⟩ := nine hul)
 refine A2 6 ?_
 (refine D2 rfl (D1 rfl rfl rfl zZ zU rfl) rfl rfl ?_; rintro _ ⟨b353, rfl⟩)
 refine A2 7 ?_
 (refine O8 rfl rfl rfl rfl rfl rfl (fun _ _ => by repeat (first | exact Sw.here | apply Sw.there)) (J7 zS) rfl (fun u hu => List.all_eq_true.1 huo u hu) zU zZ rfl rfl zG (fun p7 c7 => ?_))
 refine aP 8 rfl (C3 rfl) rfl ?_
 refine A2 9 ?_
 refine T3 rfl rfl rfl rfl rfl rfl rfl rfl zV zR (by rfl) ?_
 refine B4 ?_
 refine sP (J9 rfl rfl zZ zZ) rfl rfl ?_
 refine A4 ?_
 refine J6 (i + 1, p7, c7, es' ++ [[v1, v2, v3, v4, v5, v6, v7, v8, v9]], G1) ?_ ?_ ?_
 (simp only [I6]; exact F9)
 (dsimp only; exact ⟨by omega, hle.trans hle1, by rw [A7r zZ]; exact F8.snoc (hst.mono hle1) hru⟩)
 (show ks.length - (i + 1) < ks.length - i; omega)
 refine I5 ?_
 (refine J0 (cs := es'.flatten) zP (fun G2 hle2 hsl2 hno2 => ?_); obtain rfl : i = ks.length := zZ)
 refine tT ?_
 refine O7 (rC rfl (A3 rfl rfl)) ?_
 (rw [if_neg (by rintro ⟨h1, h2⟩; first | omega | contradiction), if_neg (by rintro ⟨h1, h2⟩; first | omega | contradiction)]; rw [List.take_of_length_le (by rw [A2G]; omega)] at hst; exact TmP.mk (B8.put hk hnum hlb (hty.mono hle2) (hfr.mono hle2) (by rw [A2G]) (D6.of hsl2 zZ hst.all (fun e he => (hst.each e he).2)) (hst.mono hle2)))
theorem A2j (e : Tm) (a b : Ty) (l : Int) (G : IM) (ce ca cb : List Value) (hl : H5 l) (he : B8 G e ce) (ha : C6 G a ca) (hb : C6 G b cb) : Fn Tryz.prog 161 [.agg ⟨ce⟩, .agg ⟨ca⟩, .agg ⟨cb⟩, .int .i64 l] [] G (TmP (S5 e a b l)) := by
 have hel := he.len
 have heo := he.one
 obtain ⟨v1, v2, v3, v4, v5, v6, v7, v8, v9, rfl⟩ := nine hel
 obtain ⟨ak, aks⟩ := a
 obtain ⟨bk, bks⟩ := b
 obtain ⟨pa, cca, ea, rfl, _⟩ := ha.open
 obtain ⟨pb, ccb, eb, rfl, _⟩ := hb.open
 refine C0 Tryz.func161 rfl Tryz.ntmps161 Tryz.results161 rfl ?_
 intro w0
 refine A4 ?_
 refine sE (B5 rfl rfl) rfl (fun b3 => ?_)
 refine sE (B5 rfl rfl) rfl (fun b4 => ?_)
 refine sE (B5 rfl rfl) rfl (fun b5 => ?_)
 refine sE (A6 rfl) rfl (fun b6 => ?_)
 refine B4 ?_
 refine sL (A5 rfl rfl (B7 zS) rfl) rfl rfl ?_
 refine sL (A5 rfl rfl (B7 zS) rfl) rfl rfl ?_
 refine E0 ?_
 refine sL (A5 rfl rfl (B7 zS) rfl) rfl rfl ?_
 (refine J2 (D1 rfl rfl rfl zZ zU rfl) rfl ?_; rintro _ ⟨b15, rfl⟩)
 refine B4 ?_
 (refine J0 (cs := [v1, v2, v3, v4, v5, v6, v7, v8, v9]) zP (fun G2 hle2 hsl2 hno2 => ?_))
 refine tT ?_
 refine O7 (rC rfl (A3 rfl rfl)) ?_
 (exact TmP.mk (B8.put (us := [e]) (es := [[v1, v2, v3, v4, v5, v6, v7, v8, v9]]) ⟨by decide, by decide⟩ ⟨by decide, by decide⟩ hl (hb.mono hle2) (ha.mono hle2) rfl (D6.of hsl2 rfl (by intro x hx; obtain rfl := List.mem_singleton.1 hx; rfl) (by intro x hx; obtain rfl := List.mem_singleton.1 hx; exact heo)) (by simp only [F8]; exact ⟨_, _, rfl, he.mono hle2, rfl⟩)))
theorem A3Z (k : Int) (p : Option Addr) (n c : Nat) (G : IM) : Fn Tryz.prog 162 [.int .i64 k, .slice p n c] [] G (K5 (.agg ⟨[.int .i64 k, .string ⟨⟨[]⟩⟩, .int .i64 0, .int .i64 0, .slice none 0 0, .int .i64 0, .slice none 0 0, .int .i64 0, .slice p n c]⟩) G) := by
 refine C0 Tryz.func162 rfl Tryz.ntmps162 Tryz.results162 rfl ?_
 intro w0
 refine A4 ?_
 refine sE (A6 rfl) rfl (fun b3 => ?_)
 refine M3 ?_
 refine O7 (rC rfl (A3 rfl rfl)) ?_
 (exact ⟨rfl, rfl, rfl⟩)
theorem B0l (G : IM) {k : Int} (hk : H5 k) : B8 G (A2b k []) [.int .i64 k, .string ⟨⟨[]⟩⟩, .int .i64 0, .int .i64 0, .slice none 0 0, .int .i64 0, .slice none 0 0, .int .i64 0, .slice none 0 0] := A4C hk rfl (D6.nil _ _) rfl
theorem B5w (G : IM) : Fn Tryz.prog 160 [.bool true] [] G (TmP (A2c (true = true))) := by
 refine C0 Tryz.func160 rfl Tryz.ntmps160 Tryz.results160 rfl ?_
 intro w0
 refine A4 ?_
 refine sE (A6 rfl) rfl (fun b3 => ?_)
 refine M3 ?_
 refine H1 rfl ((A3Z _ _ _ _ _)) rfl rfl ?_
 refine A8 ?_
 refine O7 (rC rfl (A3 rfl rfl)) ?_
 (exact TmP.mk (B0l _ ⟨by decide, by decide⟩))
theorem B5x (G : IM) : Fn Tryz.prog 160 [.bool false] [] G (TmP (A2c (false = true))) := by
 refine C0 Tryz.func160 rfl Tryz.ntmps160 Tryz.results160 rfl ?_
 intro w0
 refine A4 ?_
 refine sE (A6 rfl) rfl (fun b3 => ?_)
 refine O5 ?_
 refine H1 rfl ((A3Z _ _ _ _ _)) rfl rfl ?_
 refine B4 ?_
 refine O7 (rC rfl (A3 rfl rfl)) ?_
 (exact TmP.mk (B0l _ ⟨by decide, by decide⟩))
theorem B0m (b : Bool) (G : IM) : Fn Tryz.prog 160 [.bool b] [] G (TmP (A2c (b = true))) := by
 cases b
 ·exact B5x G
 ·exact B5w G
theorem B5y {a b : Int} (h : 0 ≤ a ∧ a ≤ 999) (h' : 0 ≤ b ∧ b ≤ 999) : (a + b).tmod 1000 = (a + b) % 1000 := by
 rw [Int.tmod_eq_emod_of_nonneg zZ]
def A0e (k : Int) (ks : List Tm) : Option Tm :=
 if k = 6 then (if (kd ks 0).k = 5 then some (A0b (kd ks 0).nm (kd ks 1) (kd (kd ks 0).ks 0)) else none)
 else if k = 7 ∨ k = 8 then (if (kd ks 0).k = 2 ∧ (kd ks 1).k = 2 then some (if k = 7 then A5B (((kd ks 0).num + (kd ks 1).num) % 1000) else A2c ((kd ks 0).num < (kd ks 1).num)) else none)
 else if k = 9 then (if (kd ks 0).k = 3 then some (kd ks 1) else if (kd ks 0).k = 4 then some (kd ks 2) else none)
 else if k = 11 ∨ k = 12 then (if (kd ks 0).k = 10 then some (kd (kd ks 0).ks (k - 11).toNat) else none)
 else none
def U5 (o : Option Tm) : IM → Value → List A7 → Prop := M5 fun G' v => ∃ u cells c, v = .tuple ⟨[.agg ⟨cells⟩, .int .i64 c]⟩ ∧ B8 G' u cells ∧ (∀ x, o = some x → c = 1 ∧ u = x) ∧ (o = none → c = 3)
theorem U5.yes {G : IM} {o : Option Tm} {u : Tm} {cells : List Value} (h : o = some u) (hr : B8 G u cells) : U5 o G (.tuple ⟨[.agg ⟨cells⟩, .int .i64 1]⟩) [] := by
 subst h; exact ⟨rfl, u, cells, 1, rfl, hr, fun x hx => (by cases hx; exact ⟨rfl, rfl⟩), fun h => (by cases h)⟩
theorem U5.no {G : IM} {o : Option Tm} {u : Tm} {cells : List Value} (h : o = none) (hr : B8 G u cells) : U5 o G (.tuple ⟨[.agg ⟨cells⟩, .int .i64 3]⟩) [] := by
 subst h; exact ⟨rfl, u, cells, 3, rfl, hr, fun x hx => (by cases hx), fun _ => rfl⟩
theorem S9 (G : IM) : B8 G K4 [.int .i64 0, .string ⟨⟨[]⟩⟩, .int .i64 0, .int .i64 0, .slice none 0 0, .int .i64 0, .slice none 0 0, .int .i64 0, .slice none 0 0] := (P3.zero G).R
theorem B5z (a b : Tm) (nm : ByteArray) (num : Int) (ty fr : Ty) (lb : Int) (G : IM) (cells : List Value) (hca : cv a) (hr : B8 G (.mk 6 nm num ty fr lb [a, b]) cells) : Fn Tryz.prog 151 [.agg ⟨cells⟩] [] G (U5 (A0e 6 [a, b])) := by
 have hsm := A5C a hca
 obtain ⟨ak, anm, anum, ⟨atk, atks⟩, ⟨afk, afks⟩, alb, aks⟩ := a
 obtain ⟨tk, tks⟩ := ty
 obtain ⟨fk, fks⟩ := fr
 obtain ⟨pt, ct, pf, cf, p, c, es, rfl, hk, hnum, hlb, hty, hfr, hsl, hkl⟩ := hr.open9
 obtain ⟨bx, ox, e0, rfl, hl0, hat0, hre0, hgb0⟩ := hsl.kidTm hkl (i := 0) zA0 zA0
 replace hre0 : B8 G (.mk ak anm anum (.mk atk atks) (.mk afk afks) alb aks) e0 := hre0
 obtain ⟨apt, act, apf, acf, ap, ac, aes, rfl, hak, hanum, halb, haty, hafr, hasl, hakl⟩ := hre0.open9
 obtain ⟨_, _, e1, hp1, hl1, hat1, hre1, hgb1⟩ := hsl.kidTm hkl (i := 1) zA0 zA0
 cases hp1
 replace hre1 : B8 G b e1 := hre1
 have ho1 := hre1.one
 obtain ⟨hN, _⟩ := hca.node
 have hops := hN.ops
 obtain ⟨_, _, _, _, hksm⟩ := A4z.1 hsm
 have h1 : ak = 5 → aks.length = 1 := fun h => by rw [h] at hops; have : E7 5 = 1 := rfl; omega
 have hL : ([Tm.mk ak anm anum (.mk atk atks) (.mk afk afks) alb aks, b] : List Tm).length = 2 := rfl
 rw [show A0e 6 [Tm.mk ak anm anum (.mk atk atks) (.mk afk afks) alb aks, b] = (if ak = 5 then some (A0b anm b (kd aks 0)) else none) from rfl]
 refine C0 Tryz.func151 rfl Tryz.ntmps151 Tryz.results151 rfl ?_
 intro w0
 refine A4 ?_
 refine sE (B5 rfl rfl) rfl (fun b3 => ?_)
 refine sE (A6 rfl) rfl (fun b4 => ?_)
 refine A9 ?_
 refine sE (A6 rfl) rfl (fun b11 => ?_)
 refine E8 ?_
 refine sP (A4f rfl rfl zZ) rfl rfl ?_
 refine A9 ?_
 refine sP (B6 (j := 0) rfl rfl rfl zA0) rfl rfl ?_
 refine sL (A5 rfl rfl (hat0 _) rfl) rfl rfl ?_
 refine J4 ?_
 refine C2 ?_
 refine A4 ?_
 refine sP (N6 rfl rfl zZ) rfl rfl ?_
 refine E4 ?_
 refine sB (qE rfl rfl) rfl rfl (fun h52 => ?_) (fun h52 => ?_)
 refine B4 ?_
 (have hq : ak = 5 := zZ; have hq1 := h1 hq; obtain ⟨bq, oq, e3, rfl, hl3, hat3, hre3, hgb3⟩ := hasl.kidTm hakl (i := 0) zZ zZ; have hS := B5v anm b e1 aks[0] G e3 (Tm.smallL_mem hksm _ (List.getElem_mem zZ)) hre3 hre1; refine D3 D4 rfl ?_)
 refine I9 (i := 0) (l' := [tt,ff,ff,ff,ff,ff,ff,ff,ff,ff,ff,ff,ff]) rfl C8 (C3 rfl) rfl zX rfl rfl ?_
 refine aL 1 rfl (E9 rfl rfl) rfl ?_
 refine aP 2 rfl (B6 (j := 0) rfl rfl rfl zZ) rfl ?_
 refine aL 3 rfl (A5 rfl rfl (hat3 _) hl3) rfl ?_
 refine aP 4 rfl (C3 rfl) rfl ?_
 refine aL 5 rfl (E9 rfl rfl) rfl ?_
 refine aP 6 rfl (C3 rfl) rfl ?_
 refine aL 7 rfl (E9 rfl rfl) rfl ?_
 refine aP 8 rfl (B6 (j := 1) rfl rfl rfl zA0) rfl ?_
 refine aL 9 rfl (A5 rfl rfl (hat1 _) hl1) rfl ?_
 refine A2 10 ?_
 (refine H0 rfl rfl hS rfl rfl rfl (fun u G1 hle1 hh => ?_); obtain ⟨uc, rfl, hru⟩ := hh; have hul := hru.len; have huo := hru.one)
 refine A2 11 ?_
 (refine oS rfl rfl rfl rfl hul huo rfl rfl ?_ (hu := by exact C7 hul.symm))
 refine aP 12 rfl (qA rfl) rfl ?_
 refine A8 ?_
 refine H2 (rC rfl (A5 rfl rfl (B7 zS) hul)) (rT rfl) ?_
 (exact U5.yes (by rw [if_pos zZ]; unfold kd; rw [List.getD_eq_getElem?_getD, List.getElem?_eq_getElem zZ, Option.getD_some]) hru)
 refine M8 ?_
 refine H2 (rC rfl (A3 rfl rfl)) (rT rfl) ?_
 (exact U5.no (by rw [if_neg zZ]) (S9 _))
theorem B0n (k : Int) (a b : Tm) (nm : ByteArray) (num : Int) (ty fr : Ty) (lb : Int) (G : IM) (cells : List Value) (hk78 : k = 7 ∨ k = 8) (hca : cv a) (hcb : cv b) (hr : B8 G (.mk k nm num ty fr lb [a, b]) cells) : Fn Tryz.prog 151 [.agg ⟨cells⟩] [] G (U5 (A0e k [a, b])) := by
 obtain ⟨ak, anm, anum, ⟨atk, atks⟩, ⟨afk, afks⟩, alb, aks⟩ := a
 obtain ⟨tk, tks⟩ := ty
 obtain ⟨fk, fks⟩ := fr
 obtain ⟨pt, ct, pf, cf, p, c, es, rfl, hk, hnum, hlb, hty, hfr, hsl, hkl⟩ := hr.open9
 obtain ⟨bx, ox, e0, rfl, hl0, hat0, hre0, hgb0⟩ := hsl.kidTm hkl (i := 0) zA0 zA0
 replace hre0 : B8 G (.mk ak anm anum (.mk atk atks) (.mk afk afks) alb aks) e0 := hre0
 obtain ⟨apt, act, apf, acf, ap, ac, aes, rfl, hak, hanum, halb, haty, hafr, hasl, hakl⟩ := hre0.open9
 obtain ⟨bk, bnm, bnum, ⟨btk, btks⟩, ⟨bfk, bfks⟩, blb, bks⟩ := b
 obtain ⟨_, _, e1, hp1, hl1, hat1, hre1, hgb1⟩ := hsl.kidTm hkl (i := 1) zA0 zA0
 cases hp1
 replace hre1 : B8 G (.mk bk bnm bnum (.mk btk btks) (.mk bfk bfks) blb bks) e1 := hre1
 obtain ⟨bpt, bct, bpf, bcf, bp, bc, bes, rfl, hbk, hbnum, hblb, hbty, hbfr, hbsl, hbkl⟩ := hre1.open9
 obtain ⟨hN, _⟩ := hca.node
 obtain ⟨hM, _⟩ := hcb.node
 obtain ⟨hn1, hn2⟩ := hN.num0
 obtain ⟨hm1, hm2⟩ := hM.num0
 have hL : ([Tm.mk ak anm anum (.mk atk atks) (.mk afk afks) alb aks, Tm.mk bk bnm bnum (.mk btk btks) (.mk bfk bfks) blb bks] : List Tm).length = 2 := rfl
 have hR : A0e k [Tm.mk ak anm anum (.mk atk atks) (.mk afk afks) alb aks, Tm.mk bk bnm bnum (.mk btk btks) (.mk bfk bfks) blb bks] = (if ak = 2 ∧ bk = 2 then some (if k = 7 then A5B ((anum + bnum) % 1000) else A2c (anum < bnum)) else none) := by
  unfold A0e; rw [if_neg zZ, if_pos hk78]; rfl
 rw [hR]
 have htm : (anum + bnum).tmod 1000 = (anum + bnum) % 1000 := B5y ⟨hn1, hn2⟩ ⟨hm1, hm2⟩
 have hb : H5 ((anum + bnum) % 1000) := ⟨by omega, by omega⟩
 refine C0 Tryz.func151 rfl Tryz.ntmps151 Tryz.results151 rfl ?_
 intro w0
 refine A4 ?_
 refine sE (B5 rfl rfl) rfl (fun b3 => ?_)
 refine sE (A6 rfl) rfl (fun b4 => ?_)
 refine A9 ?_
 refine sE (A6 rfl) rfl (fun b11 => ?_)
 refine E8 ?_
 refine sP (A4f rfl rfl zZ) rfl rfl ?_
 refine A9 ?_
 refine sP (B6 (j := 0) rfl rfl rfl zA0) rfl rfl ?_
 refine sL (A5 rfl rfl (hat0 _) rfl) rfl rfl ?_
 refine J4 ?_
 refine C2 ?_
 refine A4 ?_
 refine sP (D0 rfl rfl zZ) rfl rfl ?_
 refine B0 ?_
 refine sB (qE rfl rfl) rfl rfl (fun h51 => ?_) (fun h51 => ?_)
 refine M3 ?_
 refine sP (B6 (j := 1) rfl rfl rfl zA0) rfl rfl ?_
 refine sL (A5 rfl rfl (hat1 _) rfl) rfl rfl ?_
 refine sE (A6 rfl) rfl (fun b65 => ?_)
 refine C1 ?_
 refine C2 ?_
 refine B4 ?_
 refine sB (V0 rfl rfl) rfl rfl (fun h74 => ?_) (fun h74 => ?_)
 refine Y1 ?_
 refine H2 (rC rfl (A3 rfl rfl)) (rT rfl) ?_
 (exact U5.no (by rw [if_neg zZ]) (S9 _))
 refine C1 ?_
 refine sB (V0 rfl rfl) rfl rfl (fun h101 => ?_) (fun h101 => ?_)
 refine U7 ?_
 refine H2 (rC rfl (A3 rfl rfl)) (rT rfl) ?_
 (exact U5.no (by rw [if_neg zZ]) (S9 _))
 refine E8 ?_
 refine sP (N6 rfl rfl zZ) rfl rfl ?_
 refine J4 ?_
 refine sP (J9 rfl rfl zZ zZ) rfl rfl ?_
 refine sP (A41 rfl rfl zZ) rfl rfl ?_
 refine E0 ?_
 (rw [htm]; refine sS' ?_)
 refine B0 ?_
 refine H2 (rC rfl (A3 rfl rfl)) (rT rfl) ?_
 (exact U5.yes (u := A5B (HMod.hMod (anum + bnum) 1000)) (by rw [if_pos ⟨by omega, by omega⟩, if_pos zZ]) (B8.put (us := []) ⟨by decide, by decide⟩ hb ⟨by decide, by decide⟩ (A2Q _) (A2Q _) rfl (D6.nil _ _) rfl))
 refine A8 ?_
 refine sP (N6 rfl rfl zZ) rfl rfl ?_
 refine E4 ?_
 refine sP (B6 (j := 1) rfl rfl rfl zA0) rfl rfl ?_
 refine sL (A5 rfl rfl (hat1 _) rfl) rfl rfl ?_
 refine sE (A6 rfl) rfl (fun b170 => ?_)
 refine C1 ?_
 refine C2 ?_
 refine B4 ?_
 refine sB (V0 rfl rfl) rfl rfl (fun h179 => ?_) (fun h179 => ?_)
 refine Y1 ?_
 refine H2 (rC rfl (A3 rfl rfl)) (rT rfl) ?_
 (exact U5.no (by rw [if_neg zZ]) (S9 _))
 refine C1 ?_
 refine sB (V0 rfl rfl) rfl rfl (fun h206 => ?_) (fun h206 => ?_)
 refine U7 ?_
 refine H2 (rC rfl (A3 rfl rfl)) (rT rfl) ?_
 (exact U5.no (by rw [if_neg zZ]) (S9 _))
 refine E8 ?_
 refine sP (D0 rfl rfl zZ) rfl rfl ?_
 refine J4 ?_
 (refine sB (N0 rfl rfl) rfl rfl (fun h246 => ?_) (fun h246 => ?_))
 (refine F4 rfl (B0m _ _) rfl rfl (fun u G1 hle1 hh => ?_); obtain ⟨uc, rfl, hru⟩ := hh; have hul := hru.len; have huo := hru.one)
 refine sS rfl rfl rfl hul huo rfl ?_ (hu := by exact C7 hul.symm)
 refine B0 ?_
 refine H2 (rC rfl (A5 rfl rfl (B7 zS) hul)) (rT rfl) ?_
 (exact U5.yes (by rw [if_pos ⟨by omega, by omega⟩, if_neg zZ]; unfold A2c; rw [if_pos zZ, if_pos rfl]) hru)
 (refine F4 rfl (B0m _ _) rfl rfl (fun u G1 hle1 hh => ?_); obtain ⟨uc, rfl, hru⟩ := hh; have hul := hru.len; have huo := hru.one)
 refine sS rfl rfl rfl hul huo rfl ?_ (hu := by exact C7 hul.symm)
 refine B0 ?_
 refine H2 (rC rfl (A5 rfl rfl (B7 zS) hul)) (rT rfl) ?_
 (exact U5.yes (by rw [if_pos ⟨by omega, by omega⟩, if_neg zZ]; unfold A2c; rw [if_neg zZ, if_neg zY]) hru)
theorem B5A (a b c0 : Tm) (nm : ByteArray) (num : Int) (ty fr : Ty) (lb : Int) (G : IM) (cells : List Value) (hr : B8 G (.mk 9 nm num ty fr lb [a, b, c0]) cells) : Fn Tryz.prog 151 [.agg ⟨cells⟩] [] G (U5 (A0e 9 [a, b, c0])) := by
 obtain ⟨ak, anm, anum, ⟨atk, atks⟩, ⟨afk, afks⟩, alb, aks⟩ := a
 obtain ⟨tk, tks⟩ := ty
 obtain ⟨fk, fks⟩ := fr
 obtain ⟨pt, ct, pf, cf, p, c, es, rfl, hk, hnum, hlb, hty, hfr, hsl, hkl⟩ := hr.open9
 obtain ⟨bx, ox, e0, rfl, hl0, hat0, hre0, hgb0⟩ := hsl.kidTm hkl (i := 0) zA0 zA0
 replace hre0 : B8 G (.mk ak anm anum (.mk atk atks) (.mk afk afks) alb aks) e0 := hre0
 obtain ⟨apt, act, apf, acf, ap, ac, aes, rfl, hak, hanum, halb, haty, hafr, hasl, hakl⟩ := hre0.open9
 obtain ⟨_, _, e1, hp1, hl1, hat1, hre1, hgb1⟩ := hsl.kidTm hkl (i := 1) zA0 zA0
 cases hp1
 replace hre1 : B8 G b e1 := hre1
 have ho1 := hre1.one
 obtain ⟨_, _, e2, hp2, hl2, hat2, hre2, hgb2⟩ := hsl.kidTm hkl (i := 2) zA0 zA0
 cases hp2
 replace hre2 : B8 G c0 e2 := hre2
 have ho2 := hre2.one
 have hL : ([Tm.mk ak anm anum (.mk atk atks) (.mk afk afks) alb aks, b, c0] : List Tm).length = 3 := rfl
 rw [show A0e 9 [Tm.mk ak anm anum (.mk atk atks) (.mk afk afks) alb aks, b, c0] = (if ak = 3 then some b else if ak = 4 then some c0 else none) from rfl]
 refine C0 Tryz.func151 rfl Tryz.ntmps151 Tryz.results151 rfl ?_
 intro w0
 refine A4 ?_
 refine sE (B5 rfl rfl) rfl (fun b3 => ?_)
 refine sE (A6 rfl) rfl (fun b4 => ?_)
 refine A9 ?_
 refine sE (A6 rfl) rfl (fun b11 => ?_)
 refine E8 ?_
 refine sP (A4f rfl rfl zZ) rfl rfl ?_
 refine A9 ?_
 refine sP (B6 (j := 0) rfl rfl rfl zA0) rfl rfl ?_
 refine sL (A5 rfl rfl (hat0 _) rfl) rfl rfl ?_
 refine J4 ?_
 refine C2 ?_
 refine A4 ?_
 refine sP (D0 rfl rfl zZ) rfl rfl ?_
 refine B0 ?_
 refine sP (D0 rfl rfl zZ) rfl rfl ?_
 refine A8 ?_
 refine sP (D0 rfl rfl zZ) rfl rfl ?_
 refine A9 ?_
 refine sP (N6 rfl rfl zZ) rfl rfl ?_
 refine J4 ?_
 refine C2 (tS (tR (sB (qE rfl rfl) rfl rfl (fun h78 => ?_) (fun h78 => ?_))))
 refine E4 ?_
 refine sP (B6 (j := 1) rfl rfl rfl zA0) rfl rfl ?_
 refine sL (A5 rfl rfl (hat1 _) hl1) rfl rfl ?_
 refine sS rfl rfl rfl hl1 ho1 rfl ?_ (hu := by exact C7 hl1.symm)
 refine B0 ?_
 refine H2 (rC rfl (A5 rfl rfl (B7 zS) hl1)) (rT rfl) ?_
 (exact U5.yes (by rw [if_pos zZ]) hre1)
 refine A9 ?_
 refine sB (qE rfl rfl) rfl rfl (fun h105 => ?_) (fun h105 => ?_)
 refine E4 ?_
 refine sP (B6 (j := 2) rfl rfl rfl zA0) rfl rfl ?_
 refine sL (A5 rfl rfl (hat2 _) hl2) rfl rfl ?_
 refine sS rfl rfl rfl hl2 ho2 rfl ?_ (hu := by exact C7 hl2.symm)
 refine B0 ?_
 refine H2 (rC rfl (A5 rfl rfl (B7 zS) hl2)) (rT rfl) ?_
 (exact U5.yes (by rw [if_neg zZ, if_pos zZ]) hre2)
 refine N7 ?_
 refine H2 (rC rfl (A3 rfl rfl)) (rT rfl) ?_
 (exact U5.no (by rw [if_neg zZ, if_neg zZ]) (S9 _))
theorem B0o (k : Int) (a : Tm) (nm : ByteArray) (num : Int) (ty fr : Ty) (lb : Int) (G : IM) (cells : List Value) (hk1 : k = 11 ∨ k = 12) (hca : cv a) (hr : B8 G (.mk k nm num ty fr lb [a]) cells) : Fn Tryz.prog 151 [.agg ⟨cells⟩] [] G (U5 (A0e k [a])) := by
 obtain ⟨ak, anm, anum, ⟨atk, atks⟩, ⟨afk, afks⟩, alb, aks⟩ := a
 obtain ⟨tk, tks⟩ := ty
 obtain ⟨fk, fks⟩ := fr
 obtain ⟨pt, ct, pf, cf, p, c, es, rfl, hk, hnum, hlb, hty, hfr, hsl, hkl⟩ := hr.open9
 obtain ⟨bx, ox, e0, rfl, hl0, hat0, hre0, hgb0⟩ := hsl.kidTm hkl (i := 0) zA0 zA0
 replace hre0 : B8 G (.mk ak anm anum (.mk atk atks) (.mk afk afks) alb aks) e0 := hre0
 obtain ⟨apt, act, apf, acf, ap, ac, aes, rfl, hak, hanum, halb, haty, hafr, hasl, hakl⟩ := hre0.open9
 obtain ⟨hN, _⟩ := hca.node
 have hops := hN.ops
 have h2 : ak = 10 → aks.length = 2 := fun h => by rw [h] at hops; have : E7 10 = 2 := rfl; omega
 have hL : ([Tm.mk ak anm anum (.mk atk atks) (.mk afk afks) alb aks] : List Tm).length = 1 := rfl
 have hR : A0e k [Tm.mk ak anm anum (.mk atk atks) (.mk afk afks) alb aks] = (if ak = 10 then some (kd aks (k - 11).toNat) else none) := by
  unfold A0e; rw [if_neg zZ, if_neg zZ, if_neg zZ, if_pos hk1]; rfl
 rw [hR]
 obtain ⟨i, hi⟩ : ∃ i : Nat, (k - 11).toNat = i := ⟨_, rfl⟩
 rw [hi]
 refine C0 Tryz.func151 rfl Tryz.ntmps151 Tryz.results151 rfl ?_
 intro w0
 refine A4 ?_
 refine sE (B5 rfl rfl) rfl (fun b3 => ?_)
 refine sE (A6 rfl) rfl (fun b4 => ?_)
 refine A9 ?_
 refine sE (A6 rfl) rfl (fun b11 => ?_)
 refine E8 ?_
 refine sP (A4f rfl rfl zZ) rfl rfl ?_
 refine A9 ?_
 refine sP (B6 (j := 0) rfl rfl rfl zA0) rfl rfl ?_
 refine sL (A5 rfl rfl (hat0 _) rfl) rfl rfl ?_
 refine J4 ?_
 refine C2 ?_
 refine A4 ?_
 refine sP (D0 rfl rfl zZ) rfl rfl ?_
 refine B0 ?_
 refine sP (D0 rfl rfl zZ) rfl rfl ?_
 refine A8 ?_
 refine sP (D0 rfl rfl zZ) rfl rfl ?_
 refine A9 ?_
 refine sP (D0 rfl rfl zZ) rfl rfl ?_
 refine B0 ?_
 refine sB (qE rfl rfl) rfl rfl (fun h72 => ?_) (fun h72 => ?_)
 refine M3 ?_
 refine sB (qE rfl rfl) rfl rfl (fun h84 => ?_) (fun h84 => ?_)
 refine B4 ?_
 (have hq : ak = 10 := zZ; have hq1 := h2 hq; obtain ⟨bq, oq, e3, rfl, hl3, hat3, hre3, hgb3⟩ := hasl.kidTm hakl (i := i) zZ zZ; have ho3 := hre3.one)
 refine A8 ?_
 refine sP (Q7 rfl rfl zZ zZ) rfl rfl ?_
 (rw [show (k - 11 : Int) = ((i : Nat) : Int) from zZ]; refine sP (B6 (j := i) rfl rfl rfl zZ) rfl rfl ?_)
 refine sL (A5 rfl rfl (hat3 _) hl3) rfl rfl ?_
 refine sS rfl rfl rfl hl3 ho3 rfl ?_ (hu := by exact C7 hl3.symm)
 refine A9 ?_
 refine H2 (rC rfl (A5 rfl rfl (B7 zS) hl3)) (rT rfl) ?_
 (exact U5.yes (by rw [if_pos zZ]; unfold kd; rw [List.getD_eq_getElem?_getD, List.getElem?_eq_getElem zZ, Option.getD_some]) hre3)
 refine M8 ?_
 refine H2 (rC rfl (A3 rfl rfl)) (rT rfl) ?_
 (exact U5.no (by rw [if_neg zZ]) (S9 _))
 refine A8 ?_
 refine sP (N6 rfl rfl zZ) rfl rfl ?_
 refine E4 ?_
 refine sB (qE rfl rfl) rfl rfl (fun h137 => ?_) (fun h137 => ?_)
 refine B4 ?_
 (have hq : ak = 10 := zZ; have hq1 := h2 hq; obtain ⟨bq, oq, e3, rfl, hl3, hat3, hre3, hgb3⟩ := hasl.kidTm hakl (i := i) zZ zZ; have ho3 := hre3.one)
 refine A8 ?_
 refine sP (Q7 rfl rfl zZ zZ) rfl rfl ?_
 (rw [show (k - 11 : Int) = ((i : Nat) : Int) from zZ]; refine sP (B6 (j := i) rfl rfl rfl zZ) rfl rfl ?_)
 refine sL (A5 rfl rfl (hat3 _) hl3) rfl rfl ?_
 refine sS rfl rfl rfl hl3 ho3 rfl ?_ (hu := by exact C7 hl3.symm)
 refine A9 ?_
 refine H2 (rC rfl (A5 rfl rfl (B7 zS) hl3)) (rT rfl) ?_
 (exact U5.yes (by rw [if_pos zZ]; unfold kd; rw [List.getD_eq_getElem?_getD, List.getElem?_eq_getElem zZ, Option.getD_some]) hre3)
 refine M8 ?_
 refine H2 (rC rfl (A3 rfl rfl)) (rT rfl) ?_
 (exact U5.no (by rw [if_neg zZ]) (S9 _))
section
variable {P : Program} {Γ : M9} {K : Po} {ops : Array Oper} {env : O2} {hp : List A7} {G : IM}
theorem A5R {H : List (Nat × Nat)} {fuel j : Nat} {listed : List Bool} {hp' : List A7} {p : Option Addr} {c el sz n : Nat} {cs : List Value} (hk : Pk hp (.slc p c el sz n cs) hp')
  (h : ∀ G', B9 G G' → Sl G' p n c sz cs → (∀ b ∈ J5 p, G b = none ∧ G' b ≠ none) → V7 P Γ ops K H fuel listed j ⟨env, hp', G'⟩) : V7 P Γ ops K H fuel listed j ⟨env, hp, G⟩ :=
 ⟨fun a w hs => let ⟨G', h1, h2, h3, h4⟩ := hs.freeze hk; (h G' h2 h3 h4).run a w h1⟩
end
theorem C6.kids {G : IM} {t : Ty} {a : Value} {p : Option Addr} {n c : Nat} (h : C6 G t [a, .slice p n c]) : ∃ es, D6 G p t.ks.length c 2 es ∧ D8 G t.ks es := by
 obtain ⟨p', c', es, he, _, h1, h2⟩ := h.open
 simp only [List.cons.injEq, Value.slice.injEq, and_true] at he
 obtain ⟨_, rfl, _, rfl⟩ := he
 exact ⟨es, h1, h2⟩
def A0r (k : Int) (ty fr : Ty) (lb : Int) (ks : List Tm) : Stp :=
 if k = 6 then
  (if prx (kd ks 0) = true ∧ (kd ks 0).ty.k = 4 then (S5 (A2b 6 [kd (kd ks 0).ks 0, S5 (kd ks 1) (kt (kd ks 0).ty.ks 0) (kt (kd ks 0).fr.ks 0) (-(kd ks 0).lb)]) (kt (kd ks 0).fr.ks 1) (kt (kd ks 0).ty.ks 1) (kd ks 0).lb, 1, 0) else Z4)
 else if k = 11 ∨ k = 12 then
  (if prx (kd ks 0) = true ∧ (kd ks 0).ty.k = 5 then (S5 (A2b k [kd (kd ks 0).ks 0]) (kt (kd ks 0).fr.ks (k - 11).toNat) (kt (kd ks 0).ty.ks (k - 11).toNat) (kd ks 0).lb, 1, 0) else Z4)
 else if k = 14 then
  (if fr.k = ty.k then (kd ks 0, 1, 0)
   else if ty.k = 1 then (S5 (S5 (kd ks 0) fr (A1w fr) lb) (A1w fr) ty lb, 1, 0)
   else if A0a ty = false then (S5 (S5 (kd ks 0) fr (A1w ty) lb) (A1w ty) ty lb, 1, 0)
   else if inj (kd ks 0) = false then Z4
   else if (kd ks 0).fr.k = ty.k then (kd (kd ks 0).ks 0, 1, 0)
   else (K4, 2, lb))
 else Z4
theorem B5B (k : Int) (ty fr : Ty) (lb : Int) (ks : List Tm) : A03 k ty fr lb ks = match A0e k ks with | some u => (u, 1, 0) | none => A0r k ty fr lb ks := by
 unfold A03 A0e A0r
 by_cases h6 : k = 6
 ·rw [if_pos h6, if_pos h6, if_pos h6]
  by_cases h : (kd ks 0).k = 5
  ·rw [if_pos h, if_pos h]
  ·rw [if_neg h, if_neg h]
 rw [if_neg h6, if_neg h6, if_neg h6]
 by_cases h7 : k = 7 ∨ k = 8
 ·rw [if_pos h7, if_pos h7]
  by_cases h : (kd ks 0).k = 2 ∧ (kd ks 1).k = 2
  ·rw [if_pos h, if_pos h]
  ·rw [if_neg h, if_neg h]; simp only; rw [if_neg zZ, if_neg zZ]
 rw [if_neg h7, if_neg h7]
 by_cases h9 : k = 9
 ·rw [if_pos h9, if_pos h9]
  by_cases h : (kd ks 0).k = 3
  ·rw [if_pos h, if_pos h]
  ·rw [if_neg h, if_neg h]
   by_cases h' : (kd ks 0).k = 4
   ·rw [if_pos h', if_pos h']
   ·rw [if_neg h', if_neg h']; simp only; rw [if_neg zZ, if_neg zZ]
 rw [if_neg h9, if_neg h9]
 by_cases h11 : k = 11 ∨ k = 12
 ·rw [if_pos h11, if_pos h11, if_pos h11]
  by_cases h : (kd ks 0).k = 10
  ·rw [if_pos h, if_pos h]
  ·rw [if_neg h, if_neg h]
 rw [if_neg h11, if_neg h11, if_neg h11]
def U6 (r : Stp) : IM → Value → List A7 → Prop := M5 fun G' v => ∃ u cells, v = .tuple ⟨[.agg ⟨cells⟩, .int .i64 r.2.1, .int .i64 r.2.2]⟩ ∧ B8 G' u cells ∧ (r.2.1 = 1 → u = r.1)
theorem U6.mk {G : IM} {r : Stp} {u : Tm} {cells : List Value} {c l : Int} (h : r = (u, c, l)) (hr : B8 G u cells) : U6 r G (.tuple ⟨[.agg ⟨cells⟩, .int .i64 c, .int .i64 l]⟩) [] := by
 subst h; exact ⟨rfl, u, cells, rfl, hr, fun _ => rfl⟩
theorem A4K {ks : List Tm} {i : Nat} (h : i < ks.length) : kd ks i = ks[i] := by unfold kd; rw [List.getD_eq_getElem?_getD, List.getElem?_eq_getElem h, Option.getD_some]
theorem A1B {ks : List Ty} {i : Nat} (h : i < ks.length) : kt ks i = ks[i] := by unfold kt; rw [List.getD_eq_getElem?_getD, List.getElem?_eq_getElem h, Option.getD_some]
theorem B0p {t : Ty} (h : A0a t = true) : t = A1w t := by
 unfold A0a at h
 rw [Bool.and_eq_true] at h
 exact (A19 _ _).1 h.2
theorem B5C (a b : Tm) (nm : ByteArray) (num : Int) (ty fr : Ty) (lb : Int) (G : IM) (cells : List Value) (hca : cv a) (hr : B8 G (.mk 6 nm num ty fr lb [a, b]) cells) : Fn Tryz.prog 152 [.agg ⟨cells⟩] [] G (U6 (A0r 6 ty fr lb [a, b])) := by
 obtain ⟨ak, anm, anum, ⟨atk, atks⟩, ⟨afk, afks⟩, alb, aks⟩ := a
 obtain ⟨hN, hkk⟩ := hca.node
 have hops := hN.ops
 have hbl := hN.lbB
 have htyA := hN.tyA
 have hfrA := hN.frA
 rw [I0] at htyA hfrA
 have h14 : ak = 14 → aks.length = 1 := fun h => by rw [h] at hops; have : E7 14 = 1 := rfl; omega
 obtain ⟨tk, tks⟩ := ty
 obtain ⟨fk, fks⟩ := fr
 obtain ⟨pt, ct, pf, cf, p, c, es, rfl, hk, hnum, hlb, hty, hfr, hsl, hkl⟩ := hr.open9
 obtain ⟨bx, ox, e0, rfl, hl0, hat0, hre0, hgb0⟩ := hsl.kidTm hkl (i := 0) zA0 zA0
 replace hre0 : B8 G (Tm.mk ak anm anum (.mk atk atks) (.mk afk afks) alb aks) e0 := hre0
 have hP : Fn Tryz.prog 66 [.agg ⟨e0⟩] [] G (K5 (.bool (decide (ak = 14 ∧ afk = atk ∧ (atk = 4 ∨ atk = 5)))) G) := A3p _ G _ hre0
 obtain ⟨apt, act, apf, acf, ap, ac, aes, rfl, hak, hanum, halb, haty, hafr, hasl, hakl⟩ := hre0.open9
 obtain ⟨tes, htS, htL⟩ := haty.kids
 obtain ⟨fes, hfS, hfL⟩ := hafr.kids
 simp only [Ty.ks] at htS htL hfS hfL
 obtain ⟨_, _, e1, hp1, hl1, hat1, hre1, hgb1⟩ := hsl.kidTm hkl (i := 1) zA0 zA0
 cases hp1
 replace hre1 : B8 G b e1 := hre1
 have ho1 := hre1.one
 have hR : A0r 6 (.mk tk tks) (.mk fk fks) lb [Tm.mk ak anm anum (.mk atk atks) (.mk afk afks) alb aks, b] = (if (ak = 14 ∧ afk = atk ∧ (atk = 4 ∨ atk = 5)) ∧ atk = 4 then (S5 (A2b 6 [kd aks 0, S5 b (kt atks 0) (kt afks 0) (-alb)]) (kt afks 1) (kt atks 1) alb, 1, 0) else Z4) := by
  unfold A0r
  rw [if_pos rfl, show kd [Tm.mk ak anm anum (.mk atk atks) (.mk afk afks) alb aks, b] 0 = Tm.mk ak anm anum (.mk atk atks) (.mk afk afks) alb aks from rfl, A3Y]
  simp only [decide_eq_true_eq]
  rfl
 rw [hR]
 refine C0 Tryz.func152 rfl Tryz.ntmps152 Tryz.results152 rfl ?_
 intro w0
 refine A4 ?_
 refine sE (B5 rfl rfl) rfl (fun b3 => ?_)
 refine sE (A6 rfl) rfl (fun b4 => ?_)
 refine E4 ?_
 refine sP (B6 (j := 0) rfl rfl rfl zA0) rfl rfl ?_
 refine sL (A5 rfl rfl (hat0 _) rfl) rfl rfl ?_
 refine sE (A6 rfl) rfl (fun b15 => ?_)
 refine B4 ?_
 refine C2 ?_
 refine B4 ?_
 refine sP (N6 rfl rfl zZ) rfl rfl ?_
 refine A4 ?_
 focus (by_cases hpx : (ak = 14 ∧ afk = atk ∧ (atk = 4 ∨ atk = 5)); rw [decide_eq_true hpx] at hP; rotate_left; rw [decide_eq_false hpx] at hP; rotate_left; all_goals (refine H1 rfl hP rfl rfl ?_))
 refine A8 ?_
 refine sB (qE rfl rfl) rfl rfl (fun h34 => ?_) (fun h34 => ?_)
 refine A9 ?_
 (have hq : (ak = 14 ∧ afk = atk ∧ (atk = 4 ∨ atk = 5)) ∧ atk = 4 := ⟨hpx, by omega⟩; have hq1 := h14 hq.1.1; have hq2 := htyA.1 zZ; have hq3 := hfrA.1 zZ; obtain ⟨bq, oq, e3, rfl, hl3, hat3, hre3, hgb3⟩ := hasl.kidTm hakl (i := 0) zZ zZ; have ho3 := hre3.one; obtain ⟨b5, o5, q5, d5, rfl, hat5, hre5, hgb5⟩ := htS.kidTy htL (i := 0) zZ zZ; obtain ⟨_, _, q6, d6, hp6, hat6, hre6, hgb6⟩ := htS.kidTy htL (i := 1) zZ zZ; cases hp6; obtain ⟨b7, o7, q7, d7, rfl, hat7, hre7, hgb7⟩ := hfS.kidTy hfL (i := 0) zZ zZ; obtain ⟨_, _, q8, d8, hp8, hat8, hre8, hgb8⟩ := hfS.kidTy hfL (i := 1) zZ zZ; cases hp8; obtain ⟨x1, x2, x3, x4, x5, x6, x7, x8, x9, rfl⟩ := nine hl3; obtain ⟨y1, y2, y3, y4, y5, y6, y7, y8, y9, rfl⟩ := nine hl1; refine D3 D4 rfl ?_)
 refine I9 (i := 0) (l' := [tt,ff,ff,ff,ff,ff,ff,ff,ff,ff,ff,ff]) rfl C8 (C3 rfl) rfl zX rfl rfl ?_
 refine aL 1 rfl (E9 rfl rfl) rfl ?_
 refine aP 2 rfl (B6 (j := 0) rfl rfl rfl zZ) rfl ?_
 refine aL 3 rfl (A5 rfl rfl (hat3 _) rfl) rfl ?_
 refine aP 4 rfl (C3 rfl) rfl ?_
 refine aL 5 rfl (E9 rfl rfl) rfl ?_
 refine aP 6 rfl (B6 (j := 1) rfl rfl rfl zA0) rfl ?_
 refine aL 7 rfl (A5 rfl rfl (hat1 _) rfl) rfl ?_
 refine P2 (j := 8) (j' := 9) zX ?_ ?_
 (refine D2 rfl (A6 rfl) rfl rfl ?_; rintro _ ⟨b51, rfl⟩)
 refine A2 9 ?_
 (refine D2 rfl (A6 rfl) rfl rfl ?_; rintro _ ⟨b53, rfl⟩)
 refine A2 10 ?_
 (refine oS rfl rfl rfl rfl rfl ho3 rfl rfl ?_ (hu := by exact C7 rfl.symm))
 refine A2 11 ?_
 (refine oS rfl rfl rfl rfl rfl ho1 rfl rfl ?_ (hu := by exact C7 rfl.symm))
 refine C1 ?_
 refine D3 D4 rfl ?_
 refine I7 (i := 0) (l' := [tt,ff,ff,ff,ff,ff,ff,ff,ff,ff,ff,ff,ff,ff,ff,ff,ff,ff,ff,ff,ff,ff,ff,ff,ff,ff,ff,ff,ff,ff,ff,ff,ff,ff]) rfl C8 (A5 rfl rfl (B7 zS) rfl) rfl zX rfl rfl ?_
 refine aL 1 rfl (A5 rfl rfl (B7 zS) rfl) rfl ?_
 refine aP 2 rfl (C3 rfl) rfl ?_
 refine aP 3 rfl (qF rfl) rfl ?_
 refine aL 4 rfl (E9 rfl rfl) rfl ?_
 refine aP 5 rfl (B6 (j := 0) rfl rfl rfl zZ) rfl ?_
 refine aL 6 rfl (A5 rfl rfl (hat5 _) rfl) rfl ?_
 refine aP 7 rfl (C3 rfl) rfl ?_
 refine aP 8 rfl (qF rfl) rfl ?_
 refine aL 9 rfl (E9 rfl rfl) rfl ?_
 refine aP 10 rfl (B6 (j := 0) rfl rfl rfl zZ) rfl ?_
 refine aL 11 rfl (A5 rfl rfl (hat7 _) rfl) rfl ?_
 refine aP 12 rfl (C3 rfl) rfl ?_
 refine aL 13 rfl (E9 rfl rfl) rfl ?_
 refine aP 14 rfl (A74 rfl zZ zZ) rfl ?_
 refine aP 18 rfl (C3 rfl) rfl ?_
 refine aP 19 rfl (qF rfl) rfl ?_
 refine aL 20 rfl (E9 rfl rfl) rfl ?_
 refine aP 21 rfl (B6 (j := 1) rfl rfl rfl zZ) rfl ?_
 refine aL 22 rfl (A5 rfl rfl (hat8 _) rfl) rfl ?_
 refine aP 23 rfl (C3 rfl) rfl ?_
 refine aP 24 rfl (qF rfl) rfl ?_
 refine aL 25 rfl (E9 rfl rfl) rfl ?_
 refine aP 26 rfl (B6 (j := 1) rfl rfl rfl zZ) rfl ?_
 refine aL 27 rfl (A5 rfl rfl (hat6 _) rfl) rfl ?_
 refine aP 28 rfl (C3 rfl) rfl ?_
 refine aL 29 rfl (E9 rfl rfl) rfl ?_
 refine A2 15 ?_
 (refine H0 rfl rfl (A2j b atks[0] afks[0] (-alb) G _ _ _ ⟨by omega, by omega⟩ hre1 hre5 hre7) rfl rfl rfl (fun u G1 hle1 hh => ?_); obtain ⟨uc, rfl, hru⟩ := hh; have hul := hru.len; have huo := hru.one; obtain ⟨z1, z2, z3, z4, z5, z6, z7, z8, z9, rfl⟩ := nine hul; replace hre3 := hre3.mono hle1; replace hre6 := hre6.mono hle1; replace hre8 := hre8.mono hle1)
 refine A2 16 ?_
 (refine D2 rfl (D1 rfl rfl rfl zZ zU rfl) rfl rfl ?_; rintro _ ⟨b92, rfl⟩)
 refine A2 17 ?_
 (refine A5R (cs := [x1, x2, x3, x4, x5, x6, x7, x8, x9, z1, z2, z3, z4, z5, z6, z7, z8, z9]) zP (fun G2 hle2 hsl2 hno2 => ?_); have hrN := A4C (k := 6) (ks := [aks[0], S5 b atks[0] afks[0] (-alb)]) (es := [[x1, x2, x3, x4, x5, x6, x7, x8, x9], [z1, z2, z3, z4, z5, z6, z7, z8, z9]]) ⟨by decide, by decide⟩ rfl (D6.of hsl2 rfl zA0 (by intro x hx; rcases List.mem_cons.1 hx with rfl | hx; exact ho3; obtain rfl := List.mem_singleton.1 hx; exact huo)) (by simp only [F8]; exact ⟨_, _, rfl, hre3.mono hle2, _, _, rfl, hru.mono hle2, rfl⟩); replace hre6 := hre6.mono hle2; replace hre8 := hre8.mono hle2; refine T2 rfl rfl (A3Z _ _ _ _ _) rfl rfl rfl ?_)
 refine A2 30 ?_
 (refine H0 rfl rfl (A2j _ afks[1] atks[1] alb G2 _ _ _ ⟨by omega, by omega⟩ hrN hre8 hre6) rfl rfl rfl (fun u G3 hle3 hh => ?_); obtain ⟨wc, rfl, hrw⟩ := hh; have hwl := hrw.len; have hwo := hrw.one)
 refine A2 31 ?_
 (refine oS rfl rfl rfl rfl hwl hwo rfl rfl ?_ (hu := by exact C7 hwl.symm))
 refine aP 32 rfl (qA rfl) rfl ?_
 refine aP 33 rfl (qA rfl) rfl ?_
 refine A8 ?_
 refine F0 (rC rfl (A5 rfl rfl (B7 zS) hwl)) (rT rfl) (rT rfl) ?_
 (exact U6.mk (by rw [if_pos hq, A4K zZ, A1B zZ, A1B zZ, A1B zZ, A1B zZ]) hrw)
 (refine D2 rfl (A6 rfl) rfl rfl ?_; rintro _ ⟨b108, rfl⟩)
 refine A2 8 ?_
 (refine D2 rfl (A6 rfl) rfl rfl ?_; rintro _ ⟨b110, rfl⟩)
 refine A2 10 ?_
 (refine oS rfl rfl rfl rfl rfl ho3 rfl rfl ?_ (hu := by exact C7 rfl.symm))
 refine A2 11 ?_
 (refine oS rfl rfl rfl rfl rfl ho1 rfl rfl ?_ (hu := by exact C7 rfl.symm))
 refine C1 ?_
 refine D3 D4 rfl ?_
 refine I7 (i := 0) (l' := [tt,ff,ff,ff,ff,ff,ff,ff,ff,ff,ff,ff,ff,ff,ff,ff,ff,ff,ff,ff,ff,ff,ff,ff,ff,ff,ff,ff,ff,ff,ff,ff,ff,ff]) rfl C8 (A5 rfl rfl (B7 zS) rfl) rfl zX rfl rfl ?_
 refine aL 1 rfl (A5 rfl rfl (B7 zS) rfl) rfl ?_
 refine aP 2 rfl (C3 rfl) rfl ?_
 refine aP 3 rfl (qF rfl) rfl ?_
 refine aL 4 rfl (E9 rfl rfl) rfl ?_
 refine aP 5 rfl (B6 (j := 0) rfl rfl rfl zZ) rfl ?_
 refine aL 6 rfl (A5 rfl rfl (hat5 _) rfl) rfl ?_
 refine aP 7 rfl (C3 rfl) rfl ?_
 refine aP 8 rfl (qF rfl) rfl ?_
 refine aL 9 rfl (E9 rfl rfl) rfl ?_
 refine aP 10 rfl (B6 (j := 0) rfl rfl rfl zZ) rfl ?_
 refine aL 11 rfl (A5 rfl rfl (hat7 _) rfl) rfl ?_
 refine aP 12 rfl (C3 rfl) rfl ?_
 refine aL 13 rfl (E9 rfl rfl) rfl ?_
 refine aP 14 rfl (A74 rfl zZ zZ) rfl ?_
 refine aP 18 rfl (C3 rfl) rfl ?_
 refine aP 19 rfl (qF rfl) rfl ?_
 refine aL 20 rfl (E9 rfl rfl) rfl ?_
 refine aP 21 rfl (B6 (j := 1) rfl rfl rfl zZ) rfl ?_
 refine aL 22 rfl (A5 rfl rfl (hat8 _) rfl) rfl ?_
 refine aP 23 rfl (C3 rfl) rfl ?_
 refine aP 24 rfl (qF rfl) rfl ?_
 refine aL 25 rfl (E9 rfl rfl) rfl ?_
 refine aP 26 rfl (B6 (j := 1) rfl rfl rfl zZ) rfl ?_
 refine aL 27 rfl (A5 rfl rfl (hat6 _) rfl) rfl ?_
 refine aP 28 rfl (C3 rfl) rfl ?_
 refine aL 29 rfl (E9 rfl rfl) rfl ?_
 refine A2 15 ?_
 (refine H0 rfl rfl (A2j b atks[0] afks[0] (-alb) G _ _ _ ⟨by omega, by omega⟩ hre1 hre5 hre7) rfl rfl rfl (fun u G1 hle1 hh => ?_); obtain ⟨uc, rfl, hru⟩ := hh; have hul := hru.len; have huo := hru.one; obtain ⟨z1, z2, z3, z4, z5, z6, z7, z8, z9, rfl⟩ := nine hul; replace hre3 := hre3.mono hle1; replace hre6 := hre6.mono hle1; replace hre8 := hre8.mono hle1)
 refine A2 16 ?_
 (refine D2 rfl (D1 rfl rfl rfl zZ zU rfl) rfl rfl ?_; rintro _ ⟨b149, rfl⟩)
 refine A2 17 ?_
 (refine A5R (cs := [x1, x2, x3, x4, x5, x6, x7, x8, x9, z1, z2, z3, z4, z5, z6, z7, z8, z9]) zP (fun G2 hle2 hsl2 hno2 => ?_); have hrN := A4C (k := 6) (ks := [aks[0], S5 b atks[0] afks[0] (-alb)]) (es := [[x1, x2, x3, x4, x5, x6, x7, x8, x9], [z1, z2, z3, z4, z5, z6, z7, z8, z9]]) ⟨by decide, by decide⟩ rfl (D6.of hsl2 rfl zA0 (by intro x hx; rcases List.mem_cons.1 hx with rfl | hx; exact ho3; obtain rfl := List.mem_singleton.1 hx; exact huo)) (by simp only [F8]; exact ⟨_, _, rfl, hre3.mono hle2, _, _, rfl, hru.mono hle2, rfl⟩); replace hre6 := hre6.mono hle2; replace hre8 := hre8.mono hle2; refine T2 rfl rfl (A3Z _ _ _ _ _) rfl rfl rfl ?_)
 refine A2 30 ?_
 (refine H0 rfl rfl (A2j _ afks[1] atks[1] alb G2 _ _ _ ⟨by omega, by omega⟩ hrN hre8 hre6) rfl rfl rfl (fun u G3 hle3 hh => ?_); obtain ⟨wc, rfl, hrw⟩ := hh; have hwl := hrw.len; have hwo := hrw.one)
 refine A2 31 ?_
 (refine oS rfl rfl rfl rfl hwl hwo rfl rfl ?_ (hu := by exact C7 hwl.symm))
 refine aP 32 rfl (qA rfl) rfl ?_
 refine aP 33 rfl (qA rfl) rfl ?_
 refine A8 ?_
 refine F0 (rC rfl (A5 rfl rfl (B7 zS) hwl)) (rT rfl) (rT rfl) ?_
 (exact U6.mk (by rw [if_pos hq, A4K zZ, A1B zZ, A1B zZ, A1B zZ, A1B zZ]) hrw)
 refine E8 ?_
 refine sP (D0 rfl rfl zZ) rfl rfl ?_
 refine C1 ?_
 refine sP (D0 rfl rfl zZ) rfl rfl ?_
 refine A09 ?_
 refine sP (A0U rfl rfl zZ) rfl rfl ?_
 refine I5 ?_
 refine F0 (rC rfl (A3 rfl rfl)) (rT rfl) (rT rfl) ?_
 (exact U6.mk (by rw [if_neg zZ]; rfl) (S9 _))
 refine I5 ?_
 refine sP (D0 rfl rfl zZ) rfl rfl ?_
 refine C1 ?_
 refine sP (D0 rfl rfl zZ) rfl rfl ?_
 refine A09 ?_
 refine sP (A0U rfl rfl zZ) rfl rfl ?_
 refine I5 ?_
 refine F0 (rC rfl (A3 rfl rfl)) (rT rfl) (rT rfl) ?_
 (exact U6.mk (by rw [if_neg zZ]; rfl) (S9 _))
theorem B0q (k : Int) (a : Tm) (nm : ByteArray) (num : Int) (ty fr : Ty) (lb : Int) (G : IM) (cells : List Value) (hk1 : k = 11 ∨ k = 12) (hca : cv a) (hr : B8 G (.mk k nm num ty fr lb [a]) cells) : Fn Tryz.prog 152 [.agg ⟨cells⟩] [] G (U6 (A0r k ty fr lb [a])) := by
 obtain ⟨ak, anm, anum, ⟨atk, atks⟩, ⟨afk, afks⟩, alb, aks⟩ := a
 obtain ⟨hN, hkk⟩ := hca.node
 have hops := hN.ops
 have hbl := hN.lbB
 have htyA := hN.tyA
 have hfrA := hN.frA
 rw [I0] at htyA hfrA
 have h14 : ak = 14 → aks.length = 1 := fun h => by rw [h] at hops; have : E7 14 = 1 := rfl; omega
 obtain ⟨tk, tks⟩ := ty
 obtain ⟨fk, fks⟩ := fr
 obtain ⟨pt, ct, pf, cf, p, c, es, rfl, hk, hnum, hlb, hty, hfr, hsl, hkl⟩ := hr.open9
 obtain ⟨bx, ox, e0, rfl, hl0, hat0, hre0, hgb0⟩ := hsl.kidTm hkl (i := 0) zA0 zA0
 replace hre0 : B8 G (Tm.mk ak anm anum (.mk atk atks) (.mk afk afks) alb aks) e0 := hre0
 have hP : Fn Tryz.prog 66 [.agg ⟨e0⟩] [] G (K5 (.bool (decide (ak = 14 ∧ afk = atk ∧ (atk = 4 ∨ atk = 5)))) G) := A3p _ G _ hre0
 have hI := A4D _ G _ hre0
 have ho0 := hre0.one
 obtain ⟨apt, act, apf, acf, ap, ac, aes, rfl, hak, hanum, halb, haty, hafr, hasl, hakl⟩ := hre0.open9
 have hfk64 : H5 fk := by obtain ⟨_, _, _, _, h, _⟩ := hfr.open; exact h
 have htk64 : H5 tk := by obtain ⟨_, _, _, _, h, _⟩ := hty.open; exact h
 obtain ⟨tes, htS, htL⟩ := haty.kids
 obtain ⟨fes, hfS, hfL⟩ := hafr.kids
 simp only [Ty.ks] at htS htL hfS hfL
 obtain ⟨i, hi⟩ : ∃ i : Nat, (k - 11).toNat = i := ⟨_, rfl⟩
 have hR : A0r k (.mk tk tks) (.mk fk fks) lb [Tm.mk ak anm anum (.mk atk atks) (.mk afk afks) alb aks] = (if (ak = 14 ∧ afk = atk ∧ (atk = 4 ∨ atk = 5)) ∧ atk = 5 then (S5 (A2b k [kd aks 0]) (kt afks i) (kt atks i) alb, 1, 0) else Z4) := by
  unfold A0r
  rw [if_neg zZ, if_pos hk1, hi, show kd [Tm.mk ak anm anum (.mk atk atks) (.mk afk afks) alb aks] 0 = Tm.mk ak anm anum (.mk atk atks) (.mk afk afks) alb aks from rfl, A3Y]
  simp only [decide_eq_true_eq]
  rfl
 rw [hR]
 refine C0 Tryz.func152 rfl Tryz.ntmps152 Tryz.results152 rfl ?_
 intro w0
 refine A4 ?_
 refine sE (B5 rfl rfl) rfl (fun b3 => ?_)
 refine sE (A6 rfl) rfl (fun b4 => ?_)
 refine E4 ?_
 refine sP (B6 (j := 0) rfl rfl rfl zA0) rfl rfl ?_
 refine sL (A5 rfl rfl (hat0 _) rfl) rfl rfl ?_
 refine sE (A6 rfl) rfl (fun b15 => ?_)
 refine B4 ?_
 refine C2 ?_
 refine B4 ?_
 refine sP (D0 rfl rfl zZ) rfl rfl ?_
 refine Y7 ?_
 refine sB (qE rfl rfl) rfl rfl (fun h44 => ?_) (fun h44 => ?_)
 refine B0 ?_
 focus (by_cases hpx : (ak = 14 ∧ afk = atk ∧ (atk = 4 ∨ atk = 5)); rw [decide_eq_true hpx] at hP; rotate_left; rw [decide_eq_false hpx] at hP; rotate_left; all_goals (refine H1 rfl hP rfl rfl ?_))
 refine A8 ?_
 refine sB (qE rfl rfl) rfl rfl (fun h58 => ?_) (fun h58 => ?_)
 refine E8 ?_
 refine sP (Q7 rfl rfl zZ zZ) rfl rfl ?_
 refine B4 ?_
 (have hq : (ak = 14 ∧ afk = atk ∧ (atk = 4 ∨ atk = 5)) ∧ atk = 5 := ⟨hpx, by omega⟩; have hq1 := h14 hq.1.1; have hq2 := htyA.1 zZ; have hq3 := hfrA.1 zZ; rw [show (k - 11 : Int) = ((i : Nat) : Int) from zZ]; obtain ⟨bq, oq, e3, rfl, hl3, hat3, hre3, hgb3⟩ := hasl.kidTm hakl (i := 0) zZ zZ; have ho3 := hre3.one; obtain ⟨b5, o5, q5, d5, rfl, hat5, hre5, hgb5⟩ := htS.kidTy htL (i := i) zZ zZ; obtain ⟨b7, o7, q7, d7, rfl, hat7, hre7, hgb7⟩ := hfS.kidTy hfL (i := i) zZ zZ; obtain ⟨x1, x2, x3, x4, x5, x6, x7, x8, x9, rfl⟩ := nine hl3; refine D3 D4 rfl ?_)
 refine I9 (i := 0) (l' := [tt,ff,ff,ff,ff,ff,ff,ff,ff,ff,ff,ff,ff,ff,ff,ff,ff,ff,ff,ff,ff,ff,ff,ff,ff,ff]) rfl C8 (C3 rfl) rfl zX rfl rfl ?_
 refine aL 1 rfl (E9 rfl rfl) rfl ?_
 refine aP 2 rfl (C3 rfl) rfl ?_
 refine aL 3 rfl (E9 rfl rfl) rfl ?_
 refine aP 4 rfl (B6 (j := 0) rfl rfl rfl zZ) rfl ?_
 refine aL 5 rfl (A5 rfl rfl (hat3 _) rfl) rfl ?_
 refine aP 8 rfl (C3 rfl) rfl ?_
 refine aP 9 rfl (qF rfl) rfl ?_
 refine aL 10 rfl (E9 rfl rfl) rfl ?_
 refine aP 11 rfl (qM rfl) rfl ?_
 refine aP 12 rfl (B6 (j := i) rfl rfl rfl zZ) rfl ?_
 refine aL 13 rfl (A5 rfl rfl (hat7 _) rfl) rfl ?_
 refine aP 14 rfl (C3 rfl) rfl ?_
 refine aP 15 rfl (qF rfl) rfl ?_
 refine aL 16 rfl (E9 rfl rfl) rfl ?_
 refine aP 17 rfl (qM rfl) rfl ?_
 refine aP 18 rfl (B6 (j := i) rfl rfl rfl zZ) rfl ?_
 refine aL 19 rfl (A5 rfl rfl (hat5 _) rfl) rfl ?_
 refine aP 20 rfl (C3 rfl) rfl ?_
 refine aL 21 rfl (E9 rfl rfl) rfl ?_
 refine A2 6 ?_
 (refine D2 rfl (D1 rfl rfl rfl zZ zU rfl) rfl rfl ?_; rintro _ ⟨b95, rfl⟩)
 refine A2 7 ?_
 (refine A5R (cs := [x1, x2, x3, x4, x5, x6, x7, x8, x9]) zP (fun G2 hle2 hsl2 hno2 => ?_); have hrN := A4C (k := k) (ks := [aks[0]]) (es := [[x1, x2, x3, x4, x5, x6, x7, x8, x9]]) hk rfl (D6.of hsl2 rfl zA0 (by intro x hx; obtain rfl := List.mem_singleton.1 hx; exact ho3)) (by simp only [F8]; exact ⟨_, _, rfl, hre3.mono hle2, rfl⟩); replace hre5 := hre5.mono hle2; replace hre7 := hre7.mono hle2; refine T2 rfl rfl (A3Z _ _ _ _ _) rfl rfl rfl ?_)
 refine A2 22 ?_
 (refine H0 rfl rfl (A2j _ afks[i] atks[i] alb G2 _ _ _ ⟨by omega, by omega⟩ hrN hre7 hre5) rfl rfl rfl (fun u G3 hle3 hh => ?_); obtain ⟨wc, rfl, hrw⟩ := hh; have hwl := hrw.len; have hwo := hrw.one)
 refine A2 23 ?_
 (refine oS rfl rfl rfl rfl hwl hwo rfl rfl ?_ (hu := by exact C7 hwl.symm))
 refine aP 24 rfl (qA rfl) rfl ?_
 refine aP 25 rfl (qA rfl) rfl ?_
 refine A8 ?_
 refine F0 (rC rfl (A5 rfl rfl (B7 zS) hwl)) (rT rfl) (rT rfl) ?_
 (exact U6.mk (by rw [if_pos hq, A4K zZ, A1B zZ, A1B zZ]) hrw)
 refine E8 ?_
 refine sP (A0U rfl rfl zZ) rfl rfl ?_
 refine I5 ?_
 refine F0 (rC rfl (A3 rfl rfl)) (rT rfl) (rT rfl) ?_
 (exact U6.mk (by rw [if_neg zZ]; rfl) (S9 _))
 refine I5 ?_
 refine sP (A0U rfl rfl zZ) rfl rfl ?_
 refine I5 ?_
 refine F0 (rC rfl (A3 rfl rfl)) (rT rfl) (rT rfl) ?_
 (exact U6.mk (by rw [if_neg zZ]; rfl) (S9 _))
 refine C1 ?_
 refine sP (N6 rfl rfl zZ) rfl rfl ?_
 refine C1 ?_
 focus (by_cases hpx : (ak = 14 ∧ afk = atk ∧ (atk = 4 ∨ atk = 5)); rw [decide_eq_true hpx] at hP; rotate_left; rw [decide_eq_false hpx] at hP; rotate_left; all_goals (refine H1 rfl hP rfl rfl ?_))
 refine A8 ?_
 refine sB (qE rfl rfl) rfl rfl (fun h184 => ?_) (fun h184 => ?_)
 refine E8 ?_
 refine sP (Q7 rfl rfl zZ zZ) rfl rfl ?_
 refine B4 ?_
 (have hq : (ak = 14 ∧ afk = atk ∧ (atk = 4 ∨ atk = 5)) ∧ atk = 5 := ⟨hpx, by omega⟩; have hq1 := h14 hq.1.1; have hq2 := htyA.1 zZ; have hq3 := hfrA.1 zZ; rw [show (k - 11 : Int) = ((i : Nat) : Int) from zZ]; obtain ⟨bq, oq, e3, rfl, hl3, hat3, hre3, hgb3⟩ := hasl.kidTm hakl (i := 0) zZ zZ; have ho3 := hre3.one; obtain ⟨b5, o5, q5, d5, rfl, hat5, hre5, hgb5⟩ := htS.kidTy htL (i := i) zZ zZ; obtain ⟨b7, o7, q7, d7, rfl, hat7, hre7, hgb7⟩ := hfS.kidTy hfL (i := i) zZ zZ; obtain ⟨x1, x2, x3, x4, x5, x6, x7, x8, x9, rfl⟩ := nine hl3; refine D3 D4 rfl ?_)
 refine I9 (i := 0) (l' := [tt,ff,ff,ff,ff,ff,ff,ff,ff,ff,ff,ff,ff,ff,ff,ff,ff,ff,ff,ff,ff,ff,ff,ff,ff,ff]) rfl C8 (C3 rfl) rfl zX rfl rfl ?_
 refine aL 1 rfl (E9 rfl rfl) rfl ?_
 refine aP 2 rfl (C3 rfl) rfl ?_
 refine aL 3 rfl (E9 rfl rfl) rfl ?_
 refine aP 4 rfl (B6 (j := 0) rfl rfl rfl zZ) rfl ?_
 refine aL 5 rfl (A5 rfl rfl (hat3 _) rfl) rfl ?_
 refine aP 8 rfl (C3 rfl) rfl ?_
 refine aP 9 rfl (qF rfl) rfl ?_
 refine aL 10 rfl (E9 rfl rfl) rfl ?_
 refine aP 11 rfl (qM rfl) rfl ?_
 refine aP 12 rfl (B6 (j := i) rfl rfl rfl zZ) rfl ?_
 refine aL 13 rfl (A5 rfl rfl (hat7 _) rfl) rfl ?_
 refine aP 14 rfl (C3 rfl) rfl ?_
 refine aP 15 rfl (qF rfl) rfl ?_
 refine aL 16 rfl (E9 rfl rfl) rfl ?_
 refine aP 17 rfl (qM rfl) rfl ?_
 refine aP 18 rfl (B6 (j := i) rfl rfl rfl zZ) rfl ?_
 refine aL 19 rfl (A5 rfl rfl (hat5 _) rfl) rfl ?_
 refine aP 20 rfl (C3 rfl) rfl ?_
 refine aL 21 rfl (E9 rfl rfl) rfl ?_
 refine A2 6 ?_
 (refine D2 rfl (D1 rfl rfl rfl zZ zU rfl) rfl rfl ?_; rintro _ ⟨b221, rfl⟩)
 refine A2 7 ?_
 (refine A5R (cs := [x1, x2, x3, x4, x5, x6, x7, x8, x9]) zP (fun G2 hle2 hsl2 hno2 => ?_); have hrN := A4C (k := k) (ks := [aks[0]]) (es := [[x1, x2, x3, x4, x5, x6, x7, x8, x9]]) hk rfl (D6.of hsl2 rfl zA0 (by intro x hx; obtain rfl := List.mem_singleton.1 hx; exact ho3)) (by simp only [F8]; exact ⟨_, _, rfl, hre3.mono hle2, rfl⟩); replace hre5 := hre5.mono hle2; replace hre7 := hre7.mono hle2; refine T2 rfl rfl (A3Z _ _ _ _ _) rfl rfl rfl ?_)
 refine A2 22 ?_
 (refine H0 rfl rfl (A2j _ afks[i] atks[i] alb G2 _ _ _ ⟨by omega, by omega⟩ hrN hre7 hre5) rfl rfl rfl (fun u G3 hle3 hh => ?_); obtain ⟨wc, rfl, hrw⟩ := hh; have hwl := hrw.len; have hwo := hrw.one)
 refine A2 23 ?_
 (refine oS rfl rfl rfl rfl hwl hwo rfl rfl ?_ (hu := by exact C7 hwl.symm))
 refine aP 24 rfl (qA rfl) rfl ?_
 refine aP 25 rfl (qA rfl) rfl ?_
 refine A8 ?_
 refine F0 (rC rfl (A5 rfl rfl (B7 zS) hwl)) (rT rfl) (rT rfl) ?_
 (exact U6.mk (by rw [if_pos hq, A4K zZ, A1B zZ, A1B zZ]) hrw)
 refine E8 ?_
 refine sP (A0U rfl rfl zZ) rfl rfl ?_
 refine I5 ?_
 refine F0 (rC rfl (A3 rfl rfl)) (rT rfl) (rT rfl) ?_
 (exact U6.mk (by rw [if_neg zZ]; rfl) (S9 _))
 refine I5 ?_
 refine sP (A0U rfl rfl zZ) rfl rfl ?_
 refine I5 ?_
 refine F0 (rC rfl (A3 rfl rfl)) (rT rfl) (rT rfl) ?_
 (exact U6.mk (by rw [if_neg zZ]; rfl) (S9 _))
theorem B5D {t : Tm} (h : inj t = true) : t.k = 14 := by
 unfold inj at h
 simp only [Bool.and_eq_true, decide_eq_true_eq] at h
 exact h.1.1
theorem B5E {t u : Ty} (h : A0a t = true) (h' : A0a u = true) : S7 t u = decide (t.k = u.k) := by
 have e1 := B0p h
 have e2 := B0p h'
 by_cases hk : t.k = u.k
 ·rw [decide_eq_true hk, A19, e1, e2]
  unfold A1w; rw [hk]
 ·rw [decide_eq_false hk]
  cases hs : S7 t u with
  | false => rfl
  | true => exact absurd (congrArg Ty.k ((A19 _ _).1 hs)) hk
theorem B5F {t : Tm} (h : inj t = true) : A0a t.fr = true := by
 unfold inj at h
 rw [Bool.and_eq_true] at h
 exact h.2
theorem B5G (a : Tm) (nm : ByteArray) (num : Int) (ty fr : Ty) (lb : Int) (G : IM) (cells : List Value) (hca : cv a) (hlb9 : -99 ≤ lb ∧ lb ≤ 99) (hr : B8 G (.mk 14 nm num ty fr lb [a]) cells) : Fn Tryz.prog 152 [.agg ⟨cells⟩] [] G (U6 (A0r 14 ty fr lb [a])) := by
 have hji := @B5F a
 have hjk := @B5D a
 obtain ⟨ak, anm, anum, ⟨atk, atks⟩, ⟨afk, afks⟩, alb, aks⟩ := a
 obtain ⟨hN, hkk⟩ := hca.node
 have hops := hN.ops
 have hbl := hN.lbB
 have htyA := hN.tyA
 have hfrA := hN.frA
 rw [I0] at htyA hfrA
 have h14 : ak = 14 → aks.length = 1 := fun h => by rw [h] at hops; have : E7 14 = 1 := rfl; omega
 obtain ⟨tk, tks⟩ := ty
 obtain ⟨fk, fks⟩ := fr
 obtain ⟨pt, ct, pf, cf, p, c, es, rfl, hk, hnum, hlb, hty, hfr, hsl, hkl⟩ := hr.open9
 obtain ⟨bx, ox, e0, rfl, hl0, hat0, hre0, hgb0⟩ := hsl.kidTm hkl (i := 0) zA0 zA0
 replace hre0 : B8 G (Tm.mk ak anm anum (.mk atk atks) (.mk afk afks) alb aks) e0 := hre0
 have hP : Fn Tryz.prog 66 [.agg ⟨e0⟩] [] G (K5 (.bool (decide (ak = 14 ∧ afk = atk ∧ (atk = 4 ∨ atk = 5)))) G) := A3p _ G _ hre0
 have hI := A4D _ G _ hre0
 have ho0 := hre0.one
 obtain ⟨apt, act, apf, acf, ap, ac, aes, rfl, hak, hanum, halb, haty, hafr, hasl, hakl⟩ := hre0.open9
 have hfk64 : H5 fk := by obtain ⟨_, _, _, _, h, _⟩ := hfr.open; exact h
 have htk64 : H5 tk := by obtain ⟨_, _, _, _, h, _⟩ := hty.open; exact h
 obtain ⟨tes, htS, htL⟩ := haty.kids
 obtain ⟨fes, hfS, hfL⟩ := hafr.kids
 simp only [Ty.ks] at htS htL hfS hfL
 obtain ⟨J, hJ⟩ : ∃ J, inj (Tm.mk ak anm anum (.mk atk atks) (.mk afk afks) alb aks) = J := ⟨_, rfl⟩
 obtain ⟨D, hD⟩ : ∃ D, A0a (.mk tk tks) = D := ⟨_, rfl⟩
 have hGr := A9L _ G _ hty
 rw [hD] at hGr
 rw [hJ] at hI hji hjk
 have hR : A0r 14 (.mk tk tks) (.mk fk fks) lb [Tm.mk ak anm anum (.mk atk atks) (.mk afk afks) alb aks] = (if fk = tk then (Tm.mk ak anm anum (.mk atk atks) (.mk afk afks) alb aks, 1, 0)
   else if tk = 1 then (S5 (S5 (Tm.mk ak anm anum (.mk atk atks) (.mk afk afks) alb aks) (.mk fk fks) (mGk fk) lb) (mGk fk) (.mk tk tks) lb, 1, 0)
   else if D = false then (S5 (S5 (Tm.mk ak anm anum (.mk atk atks) (.mk afk afks) alb aks) (.mk fk fks) (mGk tk) lb) (mGk tk) (.mk tk tks) lb, 1, 0)
   else if J = false then Z4
   else if afk = tk then (kd aks 0, 1, 0)
   else (K4, 2, lb)) := by
  rw [← hJ, ← hD]; rfl
 rw [hR]
 have hSm : J = true → D = true → S7 (.mk afk afks) (.mk tk tks) = decide (afk = tk) := fun h1 h2 => B5E (hji h1) (hD.trans h2)
 have hTS := A68 (.mk afk afks) (.mk tk tks) G _ _ hafr hty
 refine C0 Tryz.func152 rfl Tryz.ntmps152 Tryz.results152 rfl ?_
 intro w0
 refine A4 ?_
 refine sE (B5 rfl rfl) rfl (fun b3 => ?_)
 refine sE (A6 rfl) rfl (fun b4 => ?_)
 refine E4 ?_
 refine sP (B6 (j := 0) rfl rfl rfl zA0) rfl rfl ?_
 refine sL (A5 rfl rfl (hat0 _) rfl) rfl rfl ?_
 refine sE (A6 rfl) rfl (fun b15 => ?_)
 refine B4 ?_
 refine C2 ?_
 refine B4 ?_
 refine sP (D0 rfl rfl zZ) rfl rfl ?_
 refine Y7 ?_
 refine sP (D0 rfl rfl zZ) rfl rfl ?_
 refine C1 ?_
 refine sP (D0 rfl rfl zZ) rfl rfl ?_
 refine A09 ?_
 refine sP (A2J rfl rfl zZ) rfl rfl ?_
 refine O3 ?_
 refine sB (qE rfl rfl) rfl rfl (fun h81 => ?_) (fun h81 => ?_)
 refine I5 ?_
 refine F0 (rC rfl (A3 rfl rfl)) (rT rfl) (rT rfl) ?_
 (exact U6.mk (by rw [if_pos zZ]) hre0)
 refine E8 ?_
 refine sB (qE rfl rfl) rfl rfl (fun h108 => ?_) (fun h108 => ?_)
 refine E8 ?_
 (refine F4 rfl (A69 fk G hfk64) rfl rfl (fun u G1 hle1 hh => ?_); obtain ⟨gc, rfl, hrg⟩ := hh; obtain ⟨pg, cg, eg, rfl, _⟩ := hrg.open; have hgk : tk = 1 := zZ; replace hre0 := hre0.mono hle1; replace hfr := hfr.mono hle1; replace hty := hty.mono hle1)
 refine sE (A6 rfl) rfl (fun b119 => ?_)
 refine B4 ?_
 refine D3 D4 rfl ?_
 refine I7 (i := 0) (l' := [tt,ff,ff,ff,ff,ff,ff,ff,ff,ff,ff,ff,ff,ff,ff,ff]) rfl C8 (A5 rfl rfl (B7 zS) rfl) rfl zX rfl rfl ?_
 refine aL 3 rfl (A5 rfl rfl (B7 zS) rfl) rfl ?_
 refine aL 7 rfl (A5 rfl rfl (B7 zS) rfl) rfl ?_
 refine aP 1 rfl (C3 rfl) rfl ?_
 refine aL 2 rfl (A3 rfl rfl) rfl ?_
 refine aP 4 rfl (C3 rfl) rfl ?_
 refine aL 5 rfl (E9 rfl rfl) rfl ?_
 refine aP 8 rfl (C3 rfl) rfl ?_
 refine aL 9 rfl (A3 rfl rfl) rfl ?_
 refine aP 10 rfl (C3 rfl) rfl ?_
 refine aL 11 rfl (E9 rfl rfl) rfl ?_
 refine A2 6 ?_
 (refine H0 rfl rfl (A2j _ (.mk fk fks) _ lb G1 _ _ _ ⟨by omega, by omega⟩ hre0 hfr hrg) rfl rfl rfl (fun u G3 hle3 hh => ?_); obtain ⟨wc, rfl, hrw⟩ := hh; have hwl := hrw.len; have hwo := hrw.one; replace hrg := hrg.mono hle3; replace hty := hty.mono hle3)
 refine A2 12 ?_
 (refine H0 rfl rfl (A2j _ _ (.mk tk tks) lb G3 _ _ _ ⟨by omega, by omega⟩ hrw hrg hty) rfl rfl rfl (fun u G4 hle4 hh => ?_); obtain ⟨xc, rfl, hrx⟩ := hh; have hxl := hrx.len; have hxo := hrx.one)
 refine A2 13 ?_
 (refine oS rfl rfl rfl rfl hxl hxo rfl rfl ?_ (hu := by exact C7 hxl.symm))
 refine aP 14 rfl (qA rfl) rfl ?_
 refine aP 15 rfl (qA rfl) rfl ?_
 refine A8 ?_
 refine F0 (rC rfl (A5 rfl rfl (B7 zS) hxl)) (rT rfl) (rT rfl) ?_
 (exact U6.mk (by rw [if_neg zZ, if_pos zZ]) hrx)
 refine E4 ?_
 focus (cases hDD : D; all_goals (rw [hDD] at hGr; refine H1 rfl hGr rfl rfl ?_))
 refine J4 ?_
 (refine F4 rfl (A69 tk G htk64) rfl rfl (fun u G1 hle1 hh => ?_); obtain ⟨gc, rfl, hrg⟩ := hh; obtain ⟨pg, cg, eg, rfl, _⟩ := hrg.open; replace hre0 := hre0.mono hle1; replace hfr := hfr.mono hle1; replace hty := hty.mono hle1)
 refine sE (A6 rfl) rfl (fun b171 => ?_)
 refine B4 ?_
 refine D3 D4 rfl ?_
 refine I7 (i := 0) (l' := [tt,ff,ff,ff,ff,ff,ff,ff,ff,ff,ff,ff,ff,ff,ff,ff]) rfl C8 (A5 rfl rfl (B7 zS) rfl) rfl zX rfl rfl ?_
 refine aL 3 rfl (A5 rfl rfl (B7 zS) rfl) rfl ?_
 refine aL 7 rfl (A5 rfl rfl (B7 zS) rfl) rfl ?_
 refine aP 1 rfl (C3 rfl) rfl ?_
 refine aL 2 rfl (A3 rfl rfl) rfl ?_
 refine aP 4 rfl (C3 rfl) rfl ?_
 refine aL 5 rfl (E9 rfl rfl) rfl ?_
 refine aP 8 rfl (C3 rfl) rfl ?_
 refine aL 9 rfl (A3 rfl rfl) rfl ?_
 refine aP 10 rfl (C3 rfl) rfl ?_
 refine aL 11 rfl (E9 rfl rfl) rfl ?_
 refine A2 6 ?_
 (refine H0 rfl rfl (A2j _ (.mk fk fks) _ lb G1 _ _ _ ⟨by omega, by omega⟩ hre0 hfr hrg) rfl rfl rfl (fun u G3 hle3 hh => ?_); obtain ⟨wc, rfl, hrw⟩ := hh; have hwl := hrw.len; have hwo := hrw.one; replace hrg := hrg.mono hle3; replace hty := hty.mono hle3)
 refine A2 12 ?_
 (refine H0 rfl rfl (A2j _ _ (.mk tk tks) lb G3 _ _ _ ⟨by omega, by omega⟩ hrw hrg hty) rfl rfl rfl (fun u G4 hle4 hh => ?_); obtain ⟨xc, rfl, hrx⟩ := hh; have hxl := hrx.len; have hxo := hrx.one)
 refine A2 13 ?_
 (refine oS rfl rfl rfl rfl hxl hxo rfl rfl ?_ (hu := by exact C7 hxl.symm))
 refine aP 14 rfl (qA rfl) rfl ?_
 refine aP 15 rfl (qA rfl) rfl ?_
 refine A8 ?_
 refine F0 (rC rfl (A5 rfl rfl (B7 zS) hxl)) (rT rfl) (rT rfl) ?_
 (exact U6.mk (by rw [if_neg zZ, if_neg zZ, if_pos rfl]) hrx)
 refine E4 ?_
 focus (cases hJJ : J; all_goals (rw [hJJ] at hI; refine H1 rfl hI rfl rfl ?_))
 refine N7 ?_
 refine F0 (rC rfl (A3 rfl rfl)) (rT rfl) (rT rfl) ?_
 (exact U6.mk (by rw [if_neg zZ, if_neg zZ, if_neg zY, if_pos rfl]; rfl) (S9 _))
 refine M3 ?_
 focus (rw [hSm hJJ hDD] at hTS; by_cases hfk : afk = tk; rw [decide_eq_true hfk] at hTS; rotate_left; rw [decide_eq_false hfk] at hTS; rotate_left; all_goals (refine H1 rfl hTS rfl rfl ?_))
 refine E4 ?_
 (have hq1 := h14 (hjk zW); obtain ⟨bq, oq, e3, rfl, hl3, hat3, hre3, hgb3⟩ := hasl.kidTm hakl (i := 0) zZ zZ; have ho3 := hre3.one; refine sP (B6 (j := 0) rfl rfl rfl zZ) rfl rfl ?_)
 refine sL (A5 rfl rfl (hat3 _) hl3) rfl rfl ?_
 refine sS rfl rfl rfl hl3 ho3 rfl ?_ (hu := by exact C7 hl3.symm)
 refine B0 ?_
 refine F0 (rC rfl (A5 rfl rfl (B7 zS) hl3)) (rT rfl) (rT rfl) ?_
 (exact U6.mk (by rw [if_neg zZ, if_neg zZ, if_neg zY, if_neg zY, if_pos hfk, A4K zZ]) hre3)
 refine E4 ?_
 refine D3 D4 rfl ?_
 refine I9 (i := 0) (l' := [tt,ff,ff,ff,ff,ff]) rfl C8 (pBd rfl rfl) rfl zX rfl rfl ?_
 refine aP 1 rfl (C3 rfl) rfl ?_
 refine aL 2 rfl (E9 rfl rfl) rfl ?_
 refine A2 3 ?_
 refine C9 rfl ?_
 refine aP 4 rfl (qA rfl) rfl ?_
 refine aP 5 rfl (qA rfl) rfl ?_
 refine C1 ?_
 refine F0 (rC rfl (A3 rfl rfl)) (rT rfl) (rT rfl) ?_
 (exact U6.mk (by rw [if_neg zZ, if_neg zZ, if_neg zY, if_neg zY, if_neg hfk]) (S9 _))
theorem B0r (k : Int) (a b : Tm) (nm : ByteArray) (num : Int) (ty fr : Ty) (lb : Int) (G : IM) (cells : List Value) (hk1 : k = 7 ∨ k = 8) (hca : cv a) (hr : B8 G (.mk k nm num ty fr lb [a, b]) cells) : Fn Tryz.prog 152 [.agg ⟨cells⟩] [] G (U6 (A0r k ty fr lb [a, b])) := by
 have hR : A0r k ty fr lb [a, b] = Z4 := by unfold A0r; rw [if_neg zZ, if_neg zZ, if_neg zZ]
 rw [hR]
 obtain ⟨ak, anm, anum, ⟨atk, atks⟩, ⟨afk, afks⟩, alb, aks⟩ := a
 obtain ⟨hN, hkk⟩ := hca.node
 have hops := hN.ops
 have hbl := hN.lbB
 have htyA := hN.tyA
 have hfrA := hN.frA
 rw [I0] at htyA hfrA
 have h14 : ak = 14 → aks.length = 1 := fun h => by rw [h] at hops; have : E7 14 = 1 := rfl; omega
 obtain ⟨tk, tks⟩ := ty
 obtain ⟨fk, fks⟩ := fr
 obtain ⟨pt, ct, pf, cf, p, c, es, rfl, hk, hnum, hlb, hty, hfr, hsl, hkl⟩ := hr.open9
 obtain ⟨bx, ox, e0, rfl, hl0, hat0, hre0, hgb0⟩ := hsl.kidTm hkl (i := 0) zA0 zA0
 replace hre0 : B8 G (Tm.mk ak anm anum (.mk atk atks) (.mk afk afks) alb aks) e0 := hre0
 have hP : Fn Tryz.prog 66 [.agg ⟨e0⟩] [] G (K5 (.bool (decide (ak = 14 ∧ afk = atk ∧ (atk = 4 ∨ atk = 5)))) G) := A3p _ G _ hre0
 have hI := A4D _ G _ hre0
 have ho0 := hre0.one
 obtain ⟨apt, act, apf, acf, ap, ac, aes, rfl, hak, hanum, halb, haty, hafr, hasl, hakl⟩ := hre0.open9
 have hfk64 : H5 fk := by obtain ⟨_, _, _, _, h, _⟩ := hfr.open; exact h
 have htk64 : H5 tk := by obtain ⟨_, _, _, _, h, _⟩ := hty.open; exact h
 obtain ⟨tes, htS, htL⟩ := haty.kids
 obtain ⟨fes, hfS, hfL⟩ := hafr.kids
 simp only [Ty.ks] at htS htL hfS hfL
 refine C0 Tryz.func152 rfl Tryz.ntmps152 Tryz.results152 rfl ?_
 intro w0
 refine A4 ?_
 refine sE (B5 rfl rfl) rfl (fun b3 => ?_)
 refine sE (A6 rfl) rfl (fun b4 => ?_)
 refine E4 ?_
 refine sP (B6 (j := 0) rfl rfl rfl zA0) rfl rfl ?_
 refine sL (A5 rfl rfl (hat0 _) rfl) rfl rfl ?_
 refine sE (A6 rfl) rfl (fun b15 => ?_)
 refine B4 ?_
 refine C2 ?_
 refine B4 ?_
 refine sP (D0 rfl rfl zZ) rfl rfl ?_
 refine Y7 ?_
 refine sP (D0 rfl rfl zZ) rfl rfl ?_
 refine C1 ?_
 refine sP (D0 rfl rfl zZ) rfl rfl ?_
 refine A09 ?_
 refine sP (A0U rfl rfl zZ) rfl rfl ?_
 refine I5 ?_
 refine F0 (rC rfl (A3 rfl rfl)) (rT rfl) (rT rfl) ?_
 (exact U6.mk rfl (S9 _))
theorem B5H (a b c0 : Tm) (nm : ByteArray) (num : Int) (ty fr : Ty) (lb : Int) (G : IM) (cells : List Value) (hca : cv a) (hr : B8 G (.mk 9 nm num ty fr lb [a, b, c0]) cells) : Fn Tryz.prog 152 [.agg ⟨cells⟩] [] G (U6 (A0r 9 ty fr lb [a, b, c0])) := by
 have hR : A0r 9 ty fr lb [a, b, c0] = Z4 := by unfold A0r; rw [if_neg zZ, if_neg zZ, if_neg zZ]
 rw [hR]
 obtain ⟨ak, anm, anum, ⟨atk, atks⟩, ⟨afk, afks⟩, alb, aks⟩ := a
 obtain ⟨hN, hkk⟩ := hca.node
 have hops := hN.ops
 have hbl := hN.lbB
 have htyA := hN.tyA
 have hfrA := hN.frA
 rw [I0] at htyA hfrA
 have h14 : ak = 14 → aks.length = 1 := fun h => by rw [h] at hops; have : E7 14 = 1 := rfl; omega
 obtain ⟨tk, tks⟩ := ty
 obtain ⟨fk, fks⟩ := fr
 obtain ⟨pt, ct, pf, cf, p, c, es, rfl, hk, hnum, hlb, hty, hfr, hsl, hkl⟩ := hr.open9
 obtain ⟨bx, ox, e0, rfl, hl0, hat0, hre0, hgb0⟩ := hsl.kidTm hkl (i := 0) zA0 zA0
 replace hre0 : B8 G (Tm.mk ak anm anum (.mk atk atks) (.mk afk afks) alb aks) e0 := hre0
 have hP : Fn Tryz.prog 66 [.agg ⟨e0⟩] [] G (K5 (.bool (decide (ak = 14 ∧ afk = atk ∧ (atk = 4 ∨ atk = 5)))) G) := A3p _ G _ hre0
 have hI := A4D _ G _ hre0
 have ho0 := hre0.one
 obtain ⟨apt, act, apf, acf, ap, ac, aes, rfl, hak, hanum, halb, haty, hafr, hasl, hakl⟩ := hre0.open9
 have hfk64 : H5 fk := by obtain ⟨_, _, _, _, h, _⟩ := hfr.open; exact h
 have htk64 : H5 tk := by obtain ⟨_, _, _, _, h, _⟩ := hty.open; exact h
 obtain ⟨tes, htS, htL⟩ := haty.kids
 obtain ⟨fes, hfS, hfL⟩ := hafr.kids
 simp only [Ty.ks] at htS htL hfS hfL
 refine C0 Tryz.func152 rfl Tryz.ntmps152 Tryz.results152 rfl ?_
 intro w0
 refine A4 ?_
 refine sE (B5 rfl rfl) rfl (fun b3 => ?_)
 refine sE (A6 rfl) rfl (fun b4 => ?_)
 refine E4 ?_
 refine sP (B6 (j := 0) rfl rfl rfl zA0) rfl rfl ?_
 refine sL (A5 rfl rfl (hat0 _) rfl) rfl rfl ?_
 refine sE (A6 rfl) rfl (fun b15 => ?_)
 refine B4 ?_
 refine C2 ?_
 refine B4 ?_
 refine sP (D0 rfl rfl zZ) rfl rfl ?_
 refine Y7 ?_
 refine sP (D0 rfl rfl zZ) rfl rfl ?_
 refine C1 ?_
 refine sP (D0 rfl rfl zZ) rfl rfl ?_
 refine A09 ?_
 refine sP (A0U rfl rfl zZ) rfl rfl ?_
 refine I5 ?_
 refine F0 (rC rfl (A3 rfl rfl)) (rT rfl) (rT rfl) ?_
 (exact U6.mk rfl (S9 _))
theorem B5I (nm : ByteArray) (num : Int) (ty fr : Ty) (lb : Int) (G : IM) (cells : List Value) (hr : B8 G (.mk 1 nm num ty fr lb []) cells) : Fn Tryz.prog 151 [.agg ⟨cells⟩] [] G (U5 (A0e 1 [])) := by
 rw [show A0e 1 [] = none from rfl]
 obtain ⟨tk, tks⟩ := ty
 obtain ⟨fk, fks⟩ := fr
 obtain ⟨pt, ct, pf, cf, p, c, es, rfl, hk, hnum, hlb, hty, hfr, hsl, hkl⟩ := hr.open9
 have hL : ([] : List Tm).length = 0 := rfl
 refine C0 Tryz.func151 rfl Tryz.ntmps151 Tryz.results151 rfl ?_
 intro w0
 refine A4 ?_
 refine sE (B5 rfl rfl) rfl (fun b3 => ?_)
 refine sE (A6 rfl) rfl (fun b4 => ?_)
 refine A9 ?_
 refine sE (A6 rfl) rfl (fun b11 => ?_)
 refine E8 ?_
 refine sP (B2t rfl rfl zZ) rfl rfl ?_
 refine O3 ?_
 refine C2 ?_
 refine A4 ?_
 refine sP (D0 rfl rfl zZ) rfl rfl ?_
 refine B0 ?_
 refine sP (D0 rfl rfl zZ) rfl rfl ?_
 refine A8 ?_
 refine sP (D0 rfl rfl zZ) rfl rfl ?_
 refine A9 ?_
 refine sP (D0 rfl rfl zZ) rfl rfl ?_
 refine B0 ?_
 refine sP (D0 rfl rfl zZ) rfl rfl ?_
 refine A8 ?_
 refine sP (D0 rfl rfl zZ) rfl rfl ?_
 refine I5 ?_
 refine H2 (rC rfl (A3 rfl rfl)) (rT rfl) ?_
 (exact U5.no rfl (S9 _))
theorem B5J (a : Tm) (nm : ByteArray) (num : Int) (ty fr : Ty) (lb : Int) (G : IM) (cells : List Value) (hr : B8 G (.mk 14 nm num ty fr lb [a]) cells) : Fn Tryz.prog 151 [.agg ⟨cells⟩] [] G (U5 (A0e 14 [a])) := by
 rw [show A0e 14 [a] = none from rfl]
 obtain ⟨tk, tks⟩ := ty
 obtain ⟨fk, fks⟩ := fr
 obtain ⟨pt, ct, pf, cf, p, c, es, rfl, hk, hnum, hlb, hty, hfr, hsl, hkl⟩ := hr.open9
 obtain ⟨bx, ox, e0, rfl, hl0, hat0, hre0, hgb0⟩ := hsl.kidTm hkl (i := 0) zA0 zA0
 have ho0 : e0.all (·.oneCell') = true := (show B8 G a e0 from hre0).one
 refine C0 Tryz.func151 rfl Tryz.ntmps151 Tryz.results151 rfl ?_
 intro w0
 refine A4 ?_
 refine sE (B5 rfl rfl) rfl (fun b3 => ?_)
 refine sE (A6 rfl) rfl (fun b4 => ?_)
 refine A9 ?_
 refine sE (A6 rfl) rfl (fun b11 => ?_)
 refine E8 ?_
 refine sB (A0w rfl rfl) rfl rfl (fun h21 => ?_) (fun h21 => ?_)
 refine A9 ?_
 refine sP (B6 (j := 0) rfl rfl rfl zA0) rfl rfl ?_
 refine sL (A5 rfl rfl (hat0 _) hl0) rfl rfl ?_
 refine sS rfl rfl rfl hl0 ho0 rfl ?_ (hu := by exact C7 hl0.symm)
 refine E8 ?_
 refine C2 ?_
 refine A4 ?_
 refine sP (D0 rfl rfl zZ) rfl rfl ?_
 refine B0 ?_
 refine sP (D0 rfl rfl zZ) rfl rfl ?_
 refine A8 ?_
 refine sP (D0 rfl rfl zZ) rfl rfl ?_
 refine A9 ?_
 refine sP (D0 rfl rfl zZ) rfl rfl ?_
 refine B0 ?_
 refine sP (D0 rfl rfl zZ) rfl rfl ?_
 refine A8 ?_
 refine sP (D0 rfl rfl zZ) rfl rfl ?_
 refine I5 ?_
 refine H2 (rC rfl (A3 rfl rfl)) (rT rfl) ?_
 (exact U5.no rfl (S9 _))
 refine O3 ?_
 refine C2 ?_
 refine A4 ?_
 refine sP (D0 rfl rfl zZ) rfl rfl ?_
 refine B0 ?_
 refine sP (D0 rfl rfl zZ) rfl rfl ?_
 refine A8 ?_
 refine sP (D0 rfl rfl zZ) rfl rfl ?_
 refine A9 ?_
 refine sP (D0 rfl rfl zZ) rfl rfl ?_
 refine B0 ?_
 refine sP (D0 rfl rfl zZ) rfl rfl ?_
 refine A8 ?_
 refine sP (D0 rfl rfl zZ) rfl rfl ?_
 refine I5 ?_
 refine H2 (rC rfl (A3 rfl rfl)) (rT rfl) ?_
 (exact U5.no rfl (S9 _))
theorem ks1 {ks : List Tm} (h : ks.length = 1) : ∃ a, ks = [a] := by
 match ks, h with
 | [a], _ => exact ⟨a, rfl⟩
theorem ks2 {ks : List Tm} (h : ks.length = 2) : ∃ a b, ks = [a, b] := by
 match ks, h with
 | [a, b], _ => exact ⟨a, b, rfl⟩
theorem ks3 {ks : List Tm} (h : ks.length = 3) : ∃ a b c, ks = [a, b, c] := by
 match ks, h with
 | [a, b, c], _ => exact ⟨a, b, c, rfl⟩
theorem B5K {k : Int} {nm : ByteArray} {num : Int} {ty fr : Ty} {lb : Int} {ks : List Tm} {G : IM} {cells : List Value} (hc : cv (.mk k nm num ty fr lb ks)) (hk : k = 1 ∨ k = 6 ∨ k = 7 ∨ k = 8 ∨ k = 9 ∨ k = 11 ∨ k = 12 ∨ k = 14) (hr : B8 G (.mk k nm num ty fr lb ks) cells) :
  Fn Tryz.prog 151 [.agg ⟨cells⟩] [] G (U5 (A0e k ks)) := by
 obtain ⟨hN, hkk⟩ := hc.node
 have hops := hN.ops
 rcases hk with rfl | rfl | rfl | rfl | rfl | rfl | rfl | rfl
 ·obtain rfl : ks = [] := List.length_eq_zero_iff.1 (by have : E7 1 = 0 := rfl; omega)
  exact B5I _ _ _ _ _ _ _ hr
 ·obtain ⟨a, b, rfl⟩ := ks2 (ks := ks) (by have : E7 6 = 2 := rfl; omega)
  exact B5z a b _ _ _ _ _ _ _ (hkk a zA0) hr
 ·obtain ⟨a, b, rfl⟩ := ks2 (ks := ks) (by have : E7 7 = 2 := rfl; omega)
  exact B0n 7 a b _ _ _ _ _ _ _ (.inl rfl) (hkk a zA0) (hkk b zA0) hr
 ·obtain ⟨a, b, rfl⟩ := ks2 (ks := ks) (by have : E7 8 = 2 := rfl; omega)
  exact B0n 8 a b _ _ _ _ _ _ _ (.inr rfl) (hkk a zA0) (hkk b zA0) hr
 ·obtain ⟨a, b, c, rfl⟩ := ks3 (ks := ks) (by have : E7 9 = 3 := rfl; omega)
  exact B5A a b c _ _ _ _ _ _ _ hr
 ·obtain ⟨a, rfl⟩ := ks1 (ks := ks) (by have : E7 11 = 1 := rfl; omega)
  exact B0o 11 a _ _ _ _ _ _ _ (.inl rfl) (hkk a zA0) hr
 ·obtain ⟨a, rfl⟩ := ks1 (ks := ks) (by have : E7 12 = 1 := rfl; omega)
  exact B0o 12 a _ _ _ _ _ _ _ (.inr rfl) (hkk a zA0) hr
 ·obtain ⟨a, rfl⟩ := ks1 (ks := ks) (by have : E7 14 = 1 := rfl; omega)
  exact B5J a _ _ _ _ _ _ _ hr
theorem B5L {k : Int} {nm : ByteArray} {num : Int} {ty fr : Ty} {lb : Int} {ks : List Tm} {G : IM} {cells : List Value} (hc : cv (.mk k nm num ty fr lb ks)) (hk : k = 6 ∨ k = 7 ∨ k = 8 ∨ k = 9 ∨ k = 11 ∨ k = 12 ∨ k = 14) (hr : B8 G (.mk k nm num ty fr lb ks) cells) :
  Fn Tryz.prog 152 [.agg ⟨cells⟩] [] G (U6 (A0r k ty fr lb ks)) := by
 obtain ⟨hN, hkk⟩ := hc.node
 have hops := hN.ops
 rcases hk with rfl | rfl | rfl | rfl | rfl | rfl | rfl
 ·obtain ⟨a, b, rfl⟩ := ks2 (ks := ks) (by have : E7 6 = 2 := rfl; omega)
  exact B5C a b _ _ _ _ _ _ _ (hkk a zA0) hr
 ·obtain ⟨a, b, rfl⟩ := ks2 (ks := ks) (by have : E7 7 = 2 := rfl; omega)
  exact B0r 7 a b _ _ _ _ _ _ _ (.inl rfl) (hkk a zA0) hr
 ·obtain ⟨a, b, rfl⟩ := ks2 (ks := ks) (by have : E7 8 = 2 := rfl; omega)
  exact B0r 8 a b _ _ _ _ _ _ _ (.inr rfl) (hkk a zA0) hr
 ·obtain ⟨a, b, c, rfl⟩ := ks3 (ks := ks) (by have : E7 9 = 3 := rfl; omega)
  exact B5H a b c _ _ _ _ _ _ _ (hkk a zA0) hr
 ·obtain ⟨a, rfl⟩ := ks1 (ks := ks) (by have : E7 11 = 1 := rfl; omega)
  exact B0q 11 a _ _ _ _ _ _ _ (.inl rfl) (hkk a zA0) hr
 ·obtain ⟨a, rfl⟩ := ks1 (ks := ks) (by have : E7 12 = 1 := rfl; omega)
  exact B0q 12 a _ _ _ _ _ _ _ (.inr rfl) (hkk a zA0) hr
 ·obtain ⟨a, rfl⟩ := ks1 (ks := ks) (by have : E7 14 = 1 := rfl; omega)
  exact B5G a _ _ _ _ _ _ _ (hkk a zA0) hN.lbB hr
theorem A5S (n : Nat) (t : Tm) (ts : List Tm) : A0c (n + 1) (t :: ts) = if J8 t = true then (match A0c n ts with | some (us, c, l) => some (t :: us, c, l) | none => none) else some ((L3 t).1 :: ts, (L3 t).2.1, (L3 t).2.2) := by
 rw [A0c]; rfl
theorem B0s : ∀ (n : Nat) (ks : List Tm), (∀ i, i < n → (h : i < ks.length) → J8 ks[i] = true) → A0c n ks = none
 | n, [], _ => by cases n <;> rfl
 | 0, t :: ts, _ => rfl
 | n + 1, t :: ts, h => by
  rw [A5S, if_pos (show J8 t = true from h 0 zZ zA0), B0s n ts (fun i hi hl => h (i + 1) zZ (by simpa using hl))]
theorem B0t : ∀ (n : Nat) (ks : List Tm) (i : Nat) (hi : i < ks.length), i < n → (∀ j, j < i → (h : j < ks.length) → J8 ks[j] = true) → J8 ks[i] = false → A0c n ks = some (ks.set i (L3 ks[i]).1, (L3 ks[i]).2.1, (L3 ks[i]).2.2)
 | n, [], i, hi, _, _, _ => by simp at hi
 | 0, t :: ts, i, _, hn, _, _ => by omega
 | n + 1, t :: ts, 0, _, _, _, hv => by
  rw [A5S, if_neg (by rw [show J8 t = false from hv]; decide)]; rfl
 | n + 1, t :: ts, i + 1, hi, hn, hj, hv => by
  rw [A5S, if_pos (show J8 t = true from hj 0 zZ zA0), B0t n ts i (by simpa using hi) zZ (fun j hji hl => hj (j + 1) zZ (by simpa using hl)) hv]
  rfl
theorem B5M {k : Int} {ty fr : Ty} {lb : Int} {ks : List Tm} (h : (A03 k ty fr lb ks).2.1 = 1) : (A03 k ty fr lb ks).2.2 = 0 := by
 revert h
 unfold A03 Z4
 repeat' split
 all_goals first | (intro _; rfl) | (intro h; exfalso; revert h; simp)
theorem B5N {k : Int} {nm : ByteArray} {num : Int} {ty fr : Ty} {lb : Int} {ks : List Tm} (h : (L3 (.mk k nm num ty fr lb ks)).2.1 = 1) : (L3 (.mk k nm num ty fr lb ks)).2.2 = 0 := by
 rw [L3] at h ⊢
 cases hL : A0c (if k = 9 then 1 else ks.length) ks with
 | none => rw [hL] at h; exact B5M h
 | some p =>
  obtain ⟨us, c, l⟩ := p
  rw [hL] at h
  simp only at h ⊢
  by_cases hc : c = 1
  ·rw [if_pos hc]
  ·rw [if_neg hc] at h; exact absurd h hc
theorem B5O {t : Tm} (h : (L3 t).2.1 = 1) : (L3 t).2.2 = 0 := by cases t; exact B5N h
theorem B5P {k : Int} {nm : ByteArray} {num : Int} {ty fr : Ty} {lb : Int} {ks : List Tm} {i : Nat} (hi : i < ks.length) (hn : i < (if k = 9 then 1 else ks.length)) (hj : ∀ j, j < i → (h : j < ks.length) → J8 ks[j] = true) (hv : J8 ks[i] = false) :
  (L3 (.mk k nm num ty fr lb ks)).2.1 = (L3 ks[i]).2.1 ∧ (L3 (.mk k nm num ty fr lb ks)).2.2 = (L3 ks[i]).2.2 ∧ ((L3 ks[i]).2.1 = 1 → (L3 (.mk k nm num ty fr lb ks)).1 = .mk k nm num ty fr lb (ks.set i (L3 ks[i]).1)) := by
 rw [L3, B0t _ ks i hi hn hj hv]
 simp only
 by_cases hc : (L3 ks[i]).2.1 = 1
 ·rw [if_pos hc]
  exact ⟨hc.symm, (B5O hc).symm, fun _ => rfl⟩
 ·rw [if_neg hc]
  exact ⟨rfl, rfl, fun h => absurd h hc⟩
theorem B5Q {k : Int} {nm : ByteArray} {num : Int} {ty fr : Ty} {lb : Int} {ks : List Tm} (h : ∀ i, i < (if k = 9 then 1 else ks.length) → (hl : i < ks.length) → J8 ks[i] = true) : L3 (.mk k nm num ty fr lb ks) = match A0e k ks with | some u => (u, 1, 0) | none => A0r k ty fr lb ks := by
 rw [L3, B0s _ _ h]
 exact B5B k ty fr lb ks
theorem A5T {k : Int} (h : 0 ≤ E7 k) : 1 ≤ k ∧ k ≤ 14 := by
 by_cases hk : 1 ≤ k ∧ k ≤ 14
 ·exact hk
 ·rw [A5c hk] at h; omega
theorem B5R {k : Int} {nm : ByteArray} {num : Int} {ty fr : Ty} {lb : Int} {ks : List Tm} (hc : cv (.mk k nm num ty fr lb ks)) (hv : J8 (.mk k nm num ty fr lb ks) = false) (h : ∀ i, i < (if k = 9 then 1 else ks.length) → (hl : i < ks.length) → J8 ks[i] = true) : k = 1 ∨ k = 6 ∨ k = 7 ∨ k = 8 ∨ k = 9 ∨ k = 11 ∨ k = 12 ∨ k = 14 := by
 obtain ⟨hN, _⟩ := hc.node
 have hr := A5T (by rw [hN.ops]; omega : 0 ≤ E7 k)
 have h13 := hN.ne
 have h25 : ¬(k = 2 ∨ k = 3 ∨ k = 4 ∨ k = 5) := by
  intro hk
  rw [J8, if_neg zZ] at hv
  rw [decide_eq_true hk] at hv
  cases hv
 have h10 : k ≠ 10 := by
  rintro rfl
  rw [A7q (.inl rfl), List.all_eq_false] at hv
  obtain ⟨t, ht, hn⟩ := hv
  obtain ⟨i, hi, rfl⟩ := List.mem_iff_getElem.1 ht
  exact hn (h i (by rw [if_neg zY]; exact hi) hi)
 omega
theorem B5S (t : Tm) (G : IM) (cells : List Value) (hr : B8 G t cells) : Fn Tryz.prog 149 [.agg ⟨cells⟩] [] G (K5 (.int .i64 ((if t.k = 9 then 1 else t.ks.length : Nat) : Int)) G) := by
 obtain ⟨k, nm, num, ⟨tk, tks⟩, ⟨fk, fks⟩, lb, ks⟩ := t
 obtain ⟨pt, ct, pf, cf, p, c, es, rfl, hk, hnum, hlb, hty, hfr, hsl, hkl⟩ := hr.open9
 rw [show (Tm.mk k nm num (.mk tk tks) (.mk fk fks) lb ks).k = k from rfl, show (Tm.mk k nm num (.mk tk tks) (.mk fk fks) lb ks).ks = ks from rfl]
 refine C0 Tryz.func149 rfl Tryz.ntmps149 Tryz.results149 rfl ?_
 intro w0
 refine A4 ?_
 refine sE (B5 rfl rfl) rfl (fun b3 => ?_)
 refine E4 ?_
 refine sB (qE rfl rfl) rfl rfl (fun h12 => ?_) (fun h12 => ?_)
 refine M3 ?_
 (exact ⟨rfl, by rw [if_pos zZ]; rfl, rfl⟩)
 refine I5 ?_
 (exact ⟨rfl, by rw [if_neg zZ], rfl⟩)
theorem B5T {k : Int} (h8 : k = 1 ∨ k = 6 ∨ k = 7 ∨ k = 8 ∨ k = 9 ∨ k = 11 ∨ k = 12 ∨ k = 14) (h : E7 k = 0) : k = 1 := by
 rcases h8 with rfl | rfl | rfl | rfl | rfl | rfl | rfl | rfl
 ·rfl
 all_goals exact absurd h zY
theorem B0u {G : IM} {r r' : Stp} {u : Tm} {cells : List Value} {c l : Int} (h1 : r.2.1 = c) (h2 : r.2.2 = l) (hr : B8 G u cells) (h3 : c = 1 → u = r.1) : U6 r G (.tuple ⟨[.agg ⟨cells⟩, .int .i64 c, .int .i64 l]⟩) [] := by
 subst h1 h2; exact ⟨rfl, u, cells, rfl, hr, h3⟩
theorem B5U : ∀ (t : Tm) (G : IM) (cells : List Value), cv t → J8 t = false → B8 G t cells → Fn Tryz.prog 132 [.agg ⟨cells⟩] [] G (U6 (L3 t)) := by
 refine Tm.ind fun k nm num ty fr lb ks ih G cells hc hv hr => ?_
 have hr0 := hr
 have hN := hc.node.1
 have hkk := hc.node.2
 have hsm := A5C _ hc
 obtain ⟨_, _, _, _, hksm⟩ := A4z.1 hsm
 have hops := hN.ops
 have hle3 := A3m k
 have hkd := @B5R k nm num ty fr lb ks hc hv
 have hrd := @B5Q k nm num ty fr lb ks
 have hkidS := fun (i : Nat) => @B5P k nm num ty fr lb ks i
 have hRA := fun h => @B5K k nm num ty fr lb ks G cells hc h hr
 have hCA := fun h (G1 : IM) (hle : B9 G G1) => @B5L k nm num ty fr lb ks G1 cells hc h (hr.mono hle)
 have hCt := B5S _ G _ hr
 rw [show (Tm.mk k nm num ty fr lb ks).k = k from rfl, show (Tm.mk k nm num ty fr lb ks).ks = ks from rfl] at hCt
 obtain ⟨C, hC⟩ : ∃ C : Nat, (if k = 9 then 1 else ks.length : Nat) = C := ⟨_, rfl⟩
 rw [hC] at hCt hkd hrd
 have hkidS' := fun (i : Nat) (hi : i < ks.length) (hn : i < C) => hkidS i hi (by rw [hC]; exact hn)
 have hC9 : C ≤ ks.length := by rw [← hC]; split; (have : E7 k = 3 := by (rename_i h9; rw [h9]; rfl)); omega; omega
 have hrul := hkd
 obtain ⟨tk, tks⟩ := ty
 obtain ⟨fk, fks⟩ := fr
 obtain ⟨pt, ct, pf, cf, p, c, es, rfl, hk, hnum, hlb, hty, hfr, hsl, hkl⟩ := hr.open9
 have hn := hsl.le
 have hnc := hsl.sl.2.1
 refine C0 Tryz.func132 rfl Tryz.ntmps132 Tryz.results132 rfl ?_
 intro w0
 refine A4 ?_
 refine sE (B5 rfl rfl) rfl (fun b3 => ?_)
 refine sE (A6 rfl) rfl (fun b4 => ?_)
 refine A9 ?_
 refine D3 D4 rfl ?_
 refine I9 (i := 0) (l' := [tt,ff,ff,ff,ff,ff,ff]) rfl C8 (C3 rfl) rfl zX rfl rfl ?_
 refine aL 1 rfl (E9 rfl rfl) rfl ?_
 refine aL 2 rfl (A3 rfl rfl) rfl ?_
 refine aP 6 rfl (qM rfl) rfl ?_
 refine A2 3 ?_
 refine T2 rfl rfl (hCt) rfl rfl rfl ?_
 refine aP 4 rfl (A8O (l := C) rfl rfl rfl zZ) rfl ?_
 refine aP 5 rfl (pLn rfl rfl) rfl ?_
 refine A4 ?_
 refine C2 ?_
 (refine L4 (fun (i : Nat) => ⟨[(19, .int .i64 (i : Int)), (18, .int .i64 (C : Int)), (17, .slice p C c), (1, .pointer (some ⟨b3, 0, none⟩)), (2, .pointer (some ⟨b4, 0, none⟩))], [.blk b4 [.int .i64 0, .string ⟨⟨[]⟩⟩, .int .i64 0, .int .i64 0, .slice none 0 0, .int .i64 0, .slice none 0 0, .int .i64 0, .slice none 0 0], .blk b3 [.int .i64 k, .string nm, .int .i64 num, .int .i64 tk, .slice pt tks.length ct, .int .i64 fk, .slice pf fks.length cf, .int .i64 lb, .slice p ks.length c]], G⟩) (fun i => i ≤ C ∧ ∀ j, j < i → (h : j < ks.length) → J8 ks[j] = true) (fun i => C - i) 0 ?_ ?_ ?_)
 exact F9
 (exact ⟨Nat.zero_le _, fun j hj => absurd hj (Nat.not_lt_zero j)⟩)
 (rintro i ⟨hi, hj⟩)
 refine A4 ?_
 refine sB (N0 rfl rfl) rfl rfl (fun h29 => ?_) (fun h29 => ?_)
 refine B0 ?_
 refine C2 ?_
 refine C1 ?_
 (have hiC : i < C := zZ; obtain ⟨bx, ox, e, rfl, hl, hat, hre, hgb⟩ := hsl.kidTm hkl (i := i) zZ zZ; have heo := hre.one; have hVi := B0k ks[i] G e hre; refine sP (B6 (j := i) rfl rfl rfl hiC) rfl rfl ?_)
 refine sL (A5 rfl rfl (hat _) hl) rfl rfl ?_
 refine sE (A6 rfl) rfl (fun b43 => ?_)
 refine E0 ?_
 refine sS rfl rfl rfl hl heo rfl ?_ (hu := by exact C7 hl.symm)
 refine A8 ?_
 refine sL (A5 rfl rfl (B7 zS) hl) rfl rfl ?_
 refine K3 rfl (hVi) rfl rfl (fun h52 => ?_) (fun h52 => ?_)
 refine E4 ?_
 refine sP (J9 rfl rfl zZ zZ) rfl rfl ?_
 refine A4 ?_
 refine J6 (i + 1) ?_ ?_ ?_
 exact F9
 (exact ⟨by omega, fun j hji hl2 => (by by_cases he : j = i; (subst he; assumption); exact hj j zZ hl2)⟩)
 (show C - (i + 1) < C - i; omega)
 refine B0 ?_
 refine sL (A5 rfl rfl (B7 zS) hl) rfl rfl ?_
 (have hvF : J8 ks[i] = false := zW; obtain ⟨hs1, hs2, hs3⟩ := hkidS' i zZ hiC (fun j hji hl2 => hj j hji hl2) hvF; refine F4 rfl (ih ks[i] (List.getElem_mem zZ) G e (hkk _ (List.getElem_mem zZ)) hvF hre) rfl rfl (fun v G1 hle1 hh => ?_); obtain ⟨u, uc, rfl, hru, hu1⟩ := hh; have hul := hru.len; have huo := hru.one; have hClo := B4R G1 _ ks.length c es (hsl.mono hle1) zZ zZ)
 refine B4 ?_
 refine sE (A6 rfl) rfl (fun b81 => ?_)
 refine sS rfl rfl rfl hul huo rfl ?_ (hu := by exact C7 hul.symm)
 refine B0 ?_
 refine sE (A6 rfl) rfl (fun b90 => ?_)
 refine B0 ?_
 (refine A1l rfl hClo rfl rfl (fun v98 G98 outs98 hle98 h98 => ?_); obtain ⟨hG, p1, c1, rfl, rfl⟩ := h98; replace hG := hG.symm; subst hG; refine A5u (cs := es.flatten) zP zZ (fun bc Cc hpe hnc1 hcm => ?_); subst hpe)
 replace hru := hru.mono hle98
 refine E8 ?_
 refine sL (A5 rfl rfl (B7 zS) hul) rfl rfl ?_
 refine sP (B6 (j := i) rfl rfl rfl zZ) rfl rfl ?_
 refine Q3 rfl rfl rfl hul huo rfl zR (by exact A5v (by rw [hkl.len]; omega) (fun e he => (hsl.all e he)) hul) ?_
 refine O3 ?_
 (refine A6s (bs := [(bc, (es.set i uc).flatten ++ Cc)]) (Pk.perm zP) (fun hn2 hd2 hle2 => ?_))
 refine A9 ?_
 refine F0 (rC rfl (A3 rfl rfl)) (rT rfl) (rT rfl) ?_
 (have hks2 := F8.set (j := i) ((hkl.mono hle1).mono hle2) (hru.mono hle2); refine B0u (r' := Z4) hs1 hs2 (B8.put (us := ks.set i u) (es := es.set i uc) hk hnum hlb ((hty.mono hle1).mono hle2) ((hfr.mono hle1).mono hle2) (by rw [List.length_set]) (D6.of (Sl.of_blk (A := []) (by rw [A1L hks2.all, hks2.len, List.length_set]) zZ hcm (Wi.in hn2 List.mem_cons_self)) (by rw [hks2.len, List.length_set]) hks2.all (fun e he => by obtain ⟨q, hq⟩ := List.getElem?_of_mem he; exact (hks2.inv hq K4).2.one)) hks2) (fun h1 => by rw [hs3 h1, hu1 h1]))
 refine O5 ?_
 focus (have hall : ∀ i, i < C → (hl : i < ks.length) → J8 ks[i] = true := (fun j hjc hl2 => hj j zZ hl2); have hk8 := hkd hall; have hrd' := hrd hall; refine F4 rfl (hRA hk8) rfl rfl (fun v G1 hle1 hh => ?_); obtain ⟨u, uc, cc, rfl, hru, hy, hno⟩ := hh; have hul := hru.len; have huo := hru.one; rcases hm : A0e k ks with _ | x; rotate_left; obtain ⟨rfl, rfl⟩ := hy _ hm; rotate_left; obtain rfl := hno hm; rw [hm] at hrd')
 refine C1 ?_
 refine sE (A6 rfl) rfl (fun b149 => ?_)
 refine sS rfl rfl rfl hul huo rfl ?_ (hu := by exact C7 hul.symm)
 refine A9 ?_
 refine sP (D0 rfl rfl zZ) rfl rfl ?_
 refine M3 ?_
 refine sB (qE rfl rfl) rfl rfl (fun h169 => ?_) (fun h169 => ?_)
 refine O5 ?_
 refine F0 (rC rfl (A3 rfl rfl)) (rT rfl) (rT rfl) ?_
 (obtain rfl : k = 1 := B5T hk8 zZ; rw [hrd']; exact U6.mk rfl (S9 _))
 refine E4 ?_
 (have hk7 : k = 6 ∨ k = 7 ∨ k = 8 ∨ k = 9 ∨ k = 11 ∨ k = 12 ∨ k = 14 := (by rcases hk8 with h1 | hh; (rw [h1] at hops; have : E7 1 = 0 := rfl; omega); exact hh); refine F4 rfl (hCA hk7 _ hle1) rfl rfl (fun v G2 hle2 hh => ?_); obtain ⟨w, wc, rfl, hrw, hw1⟩ := hh; have hwl := hrw.len; have hwo := hrw.one)
 refine C1 ?_
 refine sS rfl rfl rfl hwl hwo rfl ?_ (hu := by exact C7 hwl.symm)
 refine A8 ?_
 refine F0 (rC rfl (A5 rfl rfl (B7 zS) hwl)) (rT rfl) (rT rfl) ?_
 (rw [hrd']; exact B0u (r' := Z4) rfl rfl hrw hw1)
 refine C1 ?_
 refine sE (A6 rfl) rfl (fun b208 => ?_)
 refine sS rfl rfl rfl hul huo rfl ?_ (hu := by exact C7 hul.symm)
 refine A9 ?_
 refine sP (N6 rfl rfl zZ) rfl rfl ?_
 refine A8 ?_
 refine sL (A5 rfl rfl (B7 zS) hul) rfl rfl ?_
 refine E0 ?_
 refine sS rfl rfl rfl hul huo rfl ?_ (hu := by exact C7 hul.symm)
 refine A9 ?_
 refine F0 (rC rfl (A5 rfl rfl (B7 zS) hul)) (rT rfl) (rT rfl) ?_
 (rw [hrd', hm]; exact U6.mk rfl hru)
def A1C (r : Stp) : IM → Value → List A7 → Prop := M5 fun G' v => ∃ cells, v = .tuple ⟨[.agg ⟨cells⟩, .int .i64 r.2.1, .int .i64 r.2.2]⟩ ∧ B8 G' r.1 cells
theorem A1C.mk {G : IM} {r : Stp} {u : Tm} {c l : Int} {cells : List Value} (h : r = (u, c, l)) (hr : B8 G u cells) : A1C r G (.tuple ⟨[.agg ⟨cells⟩, .int .i64 c, .int .i64 l]⟩) [] := by
 subst h; exact ⟨rfl, cells, rfl, hr⟩
theorem A7s {t : Tm} (h : S0 t = true) : t.small := A5C t (A65 h).1
theorem B0v {e : Tm} (h : S0 e = false) : I3 e = (K4, 3, 0) := by unfold I3; rw [if_pos h]; rfl
theorem B0w {e : Tm} (h : S0 e = true) (h2 : J8 e = true) : I3 e = (e, 0, 0) := by unfold I3; rw [if_neg (by rw [h]; decide), if_pos h2]
theorem B0x {e : Tm} (h : S0 e = true) (h2 : J8 e = false) (h3 : (L3 e).2.1 ≠ 1) : I3 e = (K4, (L3 e).2.1, (L3 e).2.2) := by
 unfold I3; rw [if_neg (by rw [h]; decide), if_neg (by rw [h2]; decide), if_pos h3]
theorem B0y {e : Tm} (h : S0 e = true) (h2 : J8 e = false) (h3 : (L3 e).2.1 = 1) (h4 : S0 (L3 e).1 = false) : I3 e = (K4, 4, 0) := by
 unfold I3; rw [if_neg (by rw [h]; decide), if_neg (by rw [h2]; decide), if_neg zZ, if_pos h4]
theorem B0z {e : Tm} (h : S0 e = true) (h2 : J8 e = false) (h3 : (L3 e).2.1 = 1) (h4 : S0 (L3 e).1 = true) : I3 e = ((L3 e).1, 1, 0) := by
 unfold I3; rw [if_neg (by rw [h]; decide), if_neg (by rw [h2]; decide), if_neg zZ, if_neg (by rw [h4]; decide)]
theorem B5V (t : Tm) (G : IM) (cells : List Value) (hr : B8 G t cells) : Fn Tryz.prog 98 [.agg ⟨cells⟩] [] G (A1C (I3 t)) := by
 have hRl := hr.len
 have hRo := hr.one
 have hV := A8W t G cells hr
 have hI := B0k t G cells hr
 refine C0 Tryz.func98 rfl Tryz.ntmps98 Tryz.results98 rfl ?_
 intro w0
 refine A4 ?_
 refine sE (B5 rfl rfl) rfl (fun b3 => ?_)
 refine sE (A6 rfl) rfl (fun b4 => ?_)
 refine A8 ?_
 refine C2 ?_
 refine A4 ?_
 refine sL (A5 rfl rfl (B7 zS) hRl) rfl rfl ?_
 refine K3 rfl (hV) rfl rfl (fun h14 => ?_) (fun h14 => ?_)
 refine B0 ?_
 refine sL (A5 rfl rfl (B7 zS) hRl) rfl rfl ?_
 refine K3 rfl (hI) rfl rfl (fun h23 => ?_) (fun h23 => ?_)
 refine A9 ?_
 refine sL (A5 rfl rfl (B7 zS) hRl) rfl rfl ?_
 (refine F4 rfl (A5s t G cells (A7s zW) hr) rfl rfl (fun v G1 hle1 hh => ?_); obtain ⟨cs1, F1, rfl, hs1, hn1⟩ := hh; have hul := hs1.R.len; have huo := hs1.R.one)
 refine sS rfl rfl rfl hul huo rfl ?_ (hu := by exact C7 hul.symm)
 refine B0 ?_
 refine F0 (rC rfl (A5 rfl rfl (B7 zS) hul)) (rT rfl) (rT rfl) ?_
 (exact A1C.mk (B0w zW zW) (hs1.R.mono (D9.le _ _)))
 refine E8 ?_
 refine sL (A5 rfl rfl (B7 zS) hRl) rfl rfl ?_
 (refine F4 rfl (B5U t G cells (A65 zW).1 zW hr) rfl rfl (fun v G1 hle1 hh => ?_); obtain ⟨u, uc, rfl, hru, hu1⟩ := hh; have hul := hru.len; have huo := hru.one; have hVu := A8W u G1 uc hru)
 refine B4 ?_
 refine sE (A6 rfl) rfl (fun b57 => ?_)
 refine sS rfl rfl rfl hul huo rfl ?_ (hu := by exact C7 hul.symm)
 refine A8 ?_
 refine C2 ?_
 refine C1 ?_
 refine sB (V0 rfl rfl) rfl rfl (fun h68 => ?_) (fun h68 => ?_)
 refine U7 ?_
 refine F0 (rC rfl (A3 rfl rfl)) (rT rfl) (rT rfl) ?_
 (exact A1C.mk (B0x zW zW zZ) (S9 _))
 refine A9 ?_
 refine sL (A5 rfl rfl (B7 zS) hul) rfl rfl ?_
 refine K3 rfl (hVu) rfl rfl (fun h95 => ?_) (fun h95 => ?_)
 refine J4 ?_
 refine sL (A5 rfl rfl (B7 zS) hul) rfl rfl ?_
 (refine F4 rfl (A5s u G1 uc (A7s zW) hru) rfl rfl (fun v G2 hle2 hh => ?_); obtain ⟨cs2, F2, rfl, hs2, hn2⟩ := hh; have hwl := hs2.R.len; have hwo := hs2.R.one)
 refine sS rfl rfl rfl hwl hwo rfl ?_ (hu := by exact C7 hwl.symm)
 refine A8 ?_
 refine F0 (rC rfl (A5 rfl rfl (B7 zS) hwl)) (rT rfl) (rT rfl) ?_
 (have h9 := hu1 zZ; subst h9; exact A1C.mk (B0z zW zW zZ zW) (hs2.R.mono (D9.le _ _)))
 refine N7 ?_
 refine F0 (rC rfl (A3 rfl rfl)) (rT rfl) (rT rfl) ?_
 (have h9 := hu1 zZ; subst h9; exact A1C.mk (B0y zW zW zZ zW) (S9 _))
 refine N7 ?_
 refine F0 (rC rfl (A3 rfl rfl)) (rT rfl) (rT rfl) ?_
 (exact A1C.mk (B0v zW) (S9 _))
def R7 : Nat → Tm → Tm × Int × Int × Nat
 | 0, e => ((I3 e).1, (I3 e).2.1, (I3 e).2.2, 0)
 | n + 1, e => if (I3 e).2.1 = 1 then ((R7 n (I3 e).1).1, (R7 n (I3 e).1).2.1, (R7 n (I3 e).1).2.2.1, (R7 n (I3 e).1).2.2.2 + 1)
  else ((I3 e).1, (I3 e).2.1, (I3 e).2.2, 0)
theorem A7t (e : Tm) : R7 0 e = ((I3 e).1, (I3 e).2.1, (I3 e).2.2, 0) := by rw [R7]
theorem A7u {n : Nat} {e : Tm} (h : (I3 e).2.1 = 1) : R7 (n + 1) e = ((R7 n (I3 e).1).1, (R7 n (I3 e).1).2.1, (R7 n (I3 e).1).2.2.1, (R7 n (I3 e).1).2.2.2 + 1) := by rw [R7, if_pos h]
theorem A7v {n : Nat} {e : Tm} (h : (I3 e).2.1 ≠ 1) : R7 (n + 1) e = ((I3 e).1, (I3 e).2.1, (I3 e).2.2, 0) := by rw [R7, if_neg h]
theorem B0A : ∀ (n : Nat) (e : Tm), (R7 n e).2.1 = 1 → L9 n e = (K4, 5, 0, (R7 n e).2.2.2)
 | 0, e, h => by rw [A7t] at h ⊢; rw [L9, if_pos h]
 | n + 1, e, h => by
  by_cases h1 : (I3 e).2.1 = 1
  ·rw [A7u h1] at h ⊢
   rw [L9, if_pos h1, B0A n _ h]
  ·rw [A7v h1] at h; exact absurd h h1
theorem B0B : ∀ (n : Nat) (e : Tm), (R7 n e).2.1 ≠ 1 → L9 n e = R7 n e
 | 0, e, h => by rw [A7t] at h ⊢; rw [L9, if_neg h]
 | n + 1, e, h => by
  by_cases h1 : (I3 e).2.1 = 1
  ·rw [A7u h1] at h ⊢
   rw [L9, if_pos h1, B0B n _ h]
  ·rw [A7v h1]; rw [L9, if_neg h1]
def EvP (r : Tm × Int × Int × Nat) : IM → Value → List A7 → Prop := M5 fun G' v => ∃ cells, v = .tuple ⟨[.agg ⟨cells⟩, .int .i64 r.2.1, .int .i64 r.2.2.1, .int .i64 (r.2.2.2 : Int)]⟩ ∧ B8 G' r.1 cells
def A3w (i : Nat) (r : Tm × Int × Int × Nat) : Tm × Int × Int × Nat := (r.1, r.2.1, r.2.2.1, r.2.2.2 + i)
theorem B5W {m i : Nat} {e : Tm} (h : (I3 e).2.1 ≠ 1 ∨ m = 0) : A3w i (R7 m e) = ((I3 e).1, (I3 e).2.1, (I3 e).2.2, i) := by
 cases m with
 | zero => simp [A3w, R7]
 | succ m =>
  rcases h with h | h
  ·simp only [A3w, R7]; rw [if_neg h]; simp
  ·cases h
theorem B5X {m i : Nat} {e : Tm} (h : (I3 e).2.1 = 1) (hm : 0 < m) : A3w i (R7 m e) = A3w (i + 1) (R7 (m - 1) (I3 e).1) := by
 obtain ⟨k, rfl⟩ : ∃ k, m = k + 1 := ⟨m - 1, by omega⟩
 simp only [A3w, R7]; rw [if_pos h]; simp only [Nat.add_sub_cancel, Nat.add_assoc, Nat.add_comm 1 i]
section fin
variable {P : Program} {Γ : M9} {env : O2} {hp : List A7} {G : IM}
theorem B5Y {post : IM → Value → List A7 → Prop} {σ : Sy} (hk : post σ.G (.tuple ⟨[]⟩) []) : A0T P Γ [] post .normal σ := ⟨[], .nil, [], σ.hp, by simp, hk⟩
theorem B0C {r r2 r3 r4 : ResultVar} {post : IM → Value → List A7 → Prop} {v v2 v3 v4 : Value} (h : A0f P Γ ⟨env, hp, G⟩ r v) (h2 : A0f P Γ ⟨env, hp, G⟩ r2 v2) (h3 : A0f P Γ ⟨env, hp, G⟩ r3 v3) (h4 : A0f P Γ ⟨env, hp, G⟩ r4 v4) (hk : post G (.tuple ⟨[v, v2, v3, v4]⟩) []) :
  A0T P Γ [r, r2, r3, r4] post .ret ⟨env, hp, G⟩ := A44 (.cons h (.cons h2 (.cons h3 (.cons h4 .nil)))) hk
end fin
theorem EvP.mk {G : IM} {r : Tm × Int × Int × Nat} {u : Tm} {c l : Int} {i : Nat} {cells : List Value} (h : r = (u, c, l, i)) (hr : B8 G u cells) : EvP r G (.tuple ⟨[.agg ⟨cells⟩, .int .i64 c, .int .i64 l, .int .i64 (i : Int)]⟩) [] := by
 subst h; exact ⟨rfl, cells, rfl, hr⟩
theorem B5Z (e : Tm) (n : Nat) (hn : n ≤ 300) (fid : FuncId) [C5 Tryz.prog fid] (us cs : List Value) (hq : ∀ (G : IM) (u : Tm) (cells : List Value), B8 G u cells → Fn Tryz.prog fid (us ++ [.agg ⟨cells⟩] ++ cs) [] G (K5 (.tuple ⟨[]⟩) G))
  (G : IM) (cells : List Value) (hr : B8 G e cells) : Fn Tryz.prog 64 [.agg ⟨cells⟩, .int .i64 (n : Int), .func (.func fid) ⟨us⟩ ⟨cs⟩] [] G (EvP (R7 n e)) := by
 have hRl := hr.len
 have hRo := hr.one
 have hq0 := hq G e cells hr
 refine C0 Tryz.func64 rfl Tryz.ntmps64 Tryz.results64 rfl ?_
 intro w0
 refine A4 ?_
 refine sE (B5 rfl rfl) rfl (fun b3 => ?_)
 refine sE (A6 rfl) rfl (fun b4 => ?_)
 refine E4 ?_
 refine sL (A5 rfl rfl (B7 zS) hRl) rfl rfl ?_
 (refine A8i rfl rfl hq0 rfl rfl ?_)
 refine B0 ?_
 refine C2 ?_
 (refine L4 (fun (x : Nat × Tm × List Value × IM) => ⟨[(10, .int .i64 (x.1 : Int)), (1, .int .i64 (n : Int)), (2, .func (.func fid) ⟨us⟩ ⟨cs⟩), (3, .pointer (some ⟨b3, 0, none⟩)), (6, .pointer (some ⟨b4, 0, none⟩))], [.blk b3 x.2.2.1, .blk b4 [.int .i64 0, .string ⟨⟨[]⟩⟩, .int .i64 0, .int .i64 0, .slice none 0 0, .int .i64 0, .slice none 0 0, .int .i64 0, .slice none 0 0]], x.2.2.2⟩) (fun x => x.1 ≤ n ∧ B9 G x.2.2.2 ∧ B8 x.2.2.2 x.2.1 x.2.2.1 ∧ A3w x.1 (R7 (n - x.1) x.2.1) = R7 n e) (fun x => n - x.1) (0, e, cells, G) ?_ ?_ ?_)
 (simp only [I6]; exact F9)
 (exact ⟨Nat.zero_le _, B9.refl _, hr, rfl⟩)
 (rintro ⟨i, u, uc, Gi⟩ ⟨hi, hle, hru, hev⟩; simp only [] at hi hle hru hev ⊢; have hul := hru.len; have huo := hru.one)
 refine tS ?_
 refine C2 ?_
 refine A4 ?_
 refine sL (A5 rfl rfl (B7 zS) hul) rfl rfl ?_
 (refine F4 rfl (B5V u Gi uc hru) rfl rfl (fun v G1 hle1 hh => ?_); obtain ⟨wc, hv, hrw⟩ := hh; have hwl := hrw.len; have hwo := hrw.one; have hend := @B5W (n - i) i u; have hgo := @B5X (n - i) i u; generalize I3 u = r at hv hrw hend hgo; obtain ⟨w, c, l⟩ := r; simp only at hv hrw hend hgo; subst hv)
 refine B4 ?_
 refine sE (A6 rfl) rfl (fun b37 => ?_)
 refine sS rfl rfl rfl hwl hwo rfl ?_ (hu := by exact C7 hwl.symm)
 refine E4 ?_
 refine sB (V0 rfl rfl) rfl rfl (fun h47 => ?_) (fun h47 => ?_)
 refine J4 ?_
 refine sL (A5 rfl rfl (B7 zS) hwl) rfl rfl ?_
 refine C1 ?_
 refine sS rfl rfl rfl hwl hwo rfl ?_ (hu := by exact C7 hwl.symm)
 refine M3 ?_
 refine B0C (rC rfl (A5 rfl rfl (B7 zS) hwl)) (rT rfl) (rT rfl) (rT rfl) ?_
 (exact EvP.mk (by rw [← hev]; exact hend zZ) hrw)
 refine C1 ?_
 refine sB (qE rfl rfl) rfl rfl (fun h79 => ?_) (fun h79 => ?_)
 refine A9 ?_
 refine sL (A5 rfl rfl (B7 zS) hwl) rfl rfl ?_
 refine C1 ?_
 refine sS rfl rfl rfl hwl hwo rfl ?_ (hu := by exact C7 hwl.symm)
 refine M3 ?_
 refine B0C (rC rfl (A5 rfl rfl (B7 zS) hwl)) (rT rfl) (rT rfl) (rT rfl) ?_
 (exact EvP.mk (by rw [← hev]; exact hend zZ) hrw)
 refine E4 ?_
 refine sL (A5 rfl rfl (B7 zS) hwl) rfl rfl ?_
 refine Q3 rfl rfl rfl hwl hwo rfl zR (by exact C7 (hul.trans hwl.symm)) ?_
 refine B4 ?_
 refine sL (A5 rfl rfl (B7 zS) hwl) rfl rfl ?_
 (refine A8i rfl rfl (hq G1 w wc hrw) rfl rfl ?_)
 refine A8 ?_
 refine sP (J9 rfl rfl zZ zZ) rfl rfl ?_
 refine A4 ?_
 refine J6 (i + 1, w, wc, G1) ?_ ?_ ?_
 (simp only [I6]; exact F9)
 (dsimp only; exact ⟨by omega, hle.trans hle1, hrw, by rw [← hev, hgo zZ zZ, show n - (i + 1) = n - i - 1 by omega]⟩)
 (show n - (i + 1) < n - i; omega)
theorem B50 (fuel : Int) (G : IM) : Fn Tryz.prog 63 [.int .i64 fuel] [] G (K5 (.bool (W7 fuel 0 300)) G) := by
 refine C0 Tryz.func63 rfl Tryz.ntmps63 Tryz.results63 rfl ?_
 intro w0
 refine E4 ?_
 refine H1 rfl ((A16 _ _ _ _)) rfl rfl ?_
 refine A8 ?_
 (exact ⟨rfl, rfl, rfl⟩)
theorem B0D {e : Tm} {fuel : Int} (h : W7 fuel 0 300 = false) : U3 e fuel = (K4, 3, 0) := by
 unfold U3; rw [if_neg (A8r h)]; rfl
theorem B0E {e : Tm} {fuel : Int} (h : W7 fuel 0 300 = true) (h1 : (R7 fuel.toNat e).2.1 = 1) : U3 e fuel = (K4, 5, 0) := by
 unfold U3; rw [if_pos (A49 h), B0A _ _ h1]
theorem B0F {e : Tm} {fuel : Int} (h : W7 fuel 0 300 = true) (h1 : (R7 fuel.toNat e).2.1 ≠ 1) : U3 e fuel = ((R7 fuel.toNat e).1, (R7 fuel.toNat e).2.1, (R7 fuel.toNat e).2.2.1) := by
 unfold U3; rw [if_pos (A49 h), B0B _ _ h1]
theorem B51 (G : IM) (cells : List Value) (hl : cells.length = 9) (ho : cells.all (·.oneCell') = true) : Fn Tryz.prog 65 [.agg ⟨cells⟩] [] G (K5 (.tuple ⟨[]⟩) G) := by
 refine C0 Tryz.func65 rfl Tryz.ntmps65 Tryz.results65 rfl ?_
 intro w0
 refine tR ?_
 refine sE (B5 rfl rfl) rfl (fun b2 => ?_)
 refine sD ?_
 refine B5Y ?_
 (exact ⟨rfl, rfl, rfl⟩)
theorem B52 (e : Tm) (fuel : Int) (G : IM) (cells : List Value) (hr : B8 G e cells) : Fn Tryz.prog 33 [.agg ⟨cells⟩, .int .i64 fuel] [] G (A1C (U3 e fuel)) := by
 have hRl := hr.len
 have hRo := hr.one
 have hno := @B0D e fuel
 have hmu := @B0E e fuel
 have hen := @B0F e fuel
 refine C0 Tryz.func33 rfl Tryz.ntmps33 Tryz.results33 rfl ?_
 intro w0
 refine A4 ?_
 refine sE (B5 rfl rfl) rfl (fun b3 => ?_)
 refine sE (A6 rfl) rfl (fun b4 => ?_)
 refine E4 ?_
 refine K3 rfl ((B50 fuel _)) rfl rfl (fun h13 => ?_) (fun h13 => ?_)
 refine E4 ?_
 refine sL (A5 rfl rfl (B7 zS) hRl) rfl rfl ?_
 refine E0 ?_
 (have hf : W7 fuel 0 300 = true := zW; have hf2 := A49 hf; have hE := B5Z e fuel.toNat zZ 65 [] [] (fun G u cells hru => B51 G cells hru.len hru.one) G cells hr; rw [Int.toNat_of_nonneg hf2.1] at hE; refine F4 rfl hE rfl rfl (fun v G1 hle1 hh => ?_); obtain ⟨wc, hv, hrw⟩ := hh; have hwl := hrw.len; have hwo := hrw.one; have hmu := hmu hf; have hen := hen hf; generalize R7 fuel.toNat e = r at hv hrw hmu hen; obtain ⟨w, c, l, i⟩ := r; simp only at hv hrw hmu hen; subst hv)
 refine A8 ?_
 refine sE (A6 rfl) rfl (fun b30 => ?_)
 refine sS rfl rfl rfl hwl hwo rfl ?_ (hu := by exact C7 hwl.symm)
 refine E8 ?_
 refine sB (qE rfl rfl) rfl rfl (fun h41 => ?_) (fun h41 => ?_)
 refine O5 ?_
 refine F0 (rC rfl (A3 rfl rfl)) (rT rfl) (rT rfl) ?_
 (exact A1C.mk (hmu zZ) (S9 _))
 refine B0 ?_
 refine sL (A5 rfl rfl (B7 zS) hwl) rfl rfl ?_
 refine A4 ?_
 refine sS rfl rfl rfl hwl hwo rfl ?_ (hu := by exact C7 hwl.symm)
 refine A8 ?_
 refine F0 (rC rfl (A5 rfl rfl (B7 zS) hwl)) (rT rfl) (rT rfl) ?_
 (exact A1C.mk (hen zZ) hrw)
 refine M8 ?_
 refine F0 (rC rfl (A3 rfl rfl)) (rT rfl) (rT rfl) ?_
 (exact A1C.mk (hno zW) (S9 _))
mutual
def A7w (L : Int → Prop) : Tm → Prop
 | .mk k nm num ty fr lb ks => (k = 14 → L lb) ∧ B0G L ks
def B0G (L : Int → Prop) : List Tm → Prop
 | [] => True
 | t :: ts => A7w L t ∧ B0G L ts
end
def B8r (L : Int → Prop) (T : Ty) (r : Stp) : Prop := (r.2.1 = 1 ∧ A1u [] r.1 = some T ∧ A7w L r.1) ∨ (r.2.1 = 2 ∧ L r.2.2)
end Gw
end Go.Proofs.YtbdacdnffkhgeaaGreatDoor
