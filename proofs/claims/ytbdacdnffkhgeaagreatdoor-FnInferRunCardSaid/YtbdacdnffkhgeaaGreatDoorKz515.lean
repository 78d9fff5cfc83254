/-
  Casts put into terms of which one is more precise: the results are so, too.
-/
import Derived.Test.YtbdacdnffkhgeaaGreatDoorKz514
import Derived.Test.YtbdacdnffkhgeaaGreatDoorKz511
set_option linter.unusedVariables false
set_option linter.unusedSimpArgs false
set_option maxHeartbeats 0
set_option maxRecDepth 100000
set_option synthInstance.maxSize 4000
set_option synthInstance.maxHeartbeats 0
namespace Go.Proofs.YtbdacdnffkhgeaaGreatDoor
open Go Go.RowKit
namespace Gw
theorem y107 {p : Prop} (h : p := by
  refine A2 17 ?_
  (refine A6h (cs := [x1, x2, x3, x4, x5, x6, x7, x8, x9, z1, z2, z3, z4, z5, z6, z7, z8, z9]) zD0 (fun G2 hle2 hsl2 hno2 => ?_); have hrN := A42 (k := 6) (ks := [aks[0], S5 b atks[0] afks[0] (-alb)]) (es := [[x1, x2, x3, x4, x5, x6, x7, x8, x9], [z1, z2, z3, z4, z5, z6, z7, z8, z9]]) ⟨by decide, by decide⟩ rfl (D7.of hsl2 rfl zS0 (by intro x hx; rcases List.mem_cons.1 hx with rfl | hx; exact ho3; obtain rfl := List.mem_singleton.1 hx; exact huo)) (by simp only [F9]; exact ⟨_, _, rfl, hre3.mono hle2, _, _, rfl, hru.mono hle2, rfl⟩); replace hre6 := hre6.mono hle2; replace hre8 := hre8.mono hle2; refine T2 rfl rfl (A4h _ _ _ _ _) rfl rfl rfl ?_)
  refine A2 30 ?_
  (refine H1 rfl rfl (A2t _ afks[1] atks[1] alb G2 _ _ _ ⟨by omega, by omega⟩ hrN hre8 hre6) rfl rfl rfl (fun u G3 hle3 hh => ?_); obtain ⟨wc, rfl, hrw⟩ := hh; have hwl := hrw.len; have hwo := hrw.one)
  refine A2 31 ?_
  (refine oS rfl rfl rfl rfl hwl hwo rfl rfl ?_ (hu := by exact C6 hwl.symm))
  refine aP 32 rfl (qA rfl) rfl ?_
  refine aP 33 rfl (qA rfl) rfl ?_
  refine A8 ?_
  refine E9 (rC rfl (A5 rfl rfl (B3 zI0) hwl)) (rT rfl) (rT rfl) ?_
  (exact U1.mk (by rw [if_pos hq, A5b zR0, A1N zR0, A1N zR0, A1N zR0, A1N zR0]) hrw)
) : p := h
theorem y108 {p : Prop} (h : p := by
  refine J0 ?_
  (refine J6 (cs := es'.flatten) zD0 (fun G2 hle2 hsl2 hno2 => ?_); obtain rfl : i = ks.length := zR0)
  refine tT ?_
  refine P5 (rC rfl (A3 rfl rfl)) ?_
  (rw [if_neg (by rintro ⟨h1, h2⟩; first | omega | contradiction), if_neg (by rintro ⟨h1, h2⟩; first | omega | contradiction)]; rw [List.take_of_length_le (by rw [A2W]; omega)] at hst; exact TmP.mk (B7.put hk hnum hlb (hty.mono hle2) (hfr.mono hle2) (by rw [A2W]) (D7.of hsl2 zR0 hst.all (fun e he => (hst.each e he).2)) (hst.mono hle2)))
) : p := h
theorem y109 {p : Prop} (h : p := by
  refine A2 7 ?_
  (refine A6h (cs := [x1, x2, x3, x4, x5, x6, x7, x8, x9]) zD0 (fun G2 hle2 hsl2 hno2 => ?_); have hrN := A42 (k := k) (ks := [aks[0]]) (es := [[x1, x2, x3, x4, x5, x6, x7, x8, x9]]) hk rfl (D7.of hsl2 rfl zS0 (by intro x hx; obtain rfl := List.mem_singleton.1 hx; exact ho3)) (by simp only [F9]; exact ⟨_, _, rfl, hre3.mono hle2, rfl⟩); replace hre5 := hre5.mono hle2; replace hre7 := hre7.mono hle2; refine T2 rfl rfl (A4h _ _ _ _ _) rfl rfl rfl ?_)
  refine A2 22 ?_
  (refine H1 rfl rfl (A2t _ afks[i] atks[i] alb G2 _ _ _ ⟨by omega, by omega⟩ hrN hre7 hre5) rfl rfl rfl (fun u G3 hle3 hh => ?_); obtain ⟨wc, rfl, hrw⟩ := hh; have hwl := hrw.len; have hwo := hrw.one)
  refine A2 23 ?_
  (refine oS rfl rfl rfl rfl hwl hwo rfl rfl ?_ (hu := by exact C6 hwl.symm))
  refine aP 24 rfl (qA rfl) rfl ?_
  refine aP 25 rfl (qA rfl) rfl ?_
  refine A8 ?_
  refine E9 (rC rfl (A5 rfl rfl (B3 zI0) hwl)) (rT rfl) (rT rfl) ?_
  (exact U1.mk (by rw [if_pos hq, A5b zR0, A1N zR0, A1N zR0]) hrw)
) : p := h
theorem y110 {p : Prop} (h : p := by
  refine C2 ?_
  refine A4 ?_
  refine sP (D0 rfl rfl zR0) rfl rfl ?_
  refine B0 ?_
  refine sP (D0 rfl rfl zR0) rfl rfl ?_
  refine A8 ?_
  refine sP (D0 rfl rfl zR0) rfl rfl ?_
  refine A9 ?_
  refine sP (D0 rfl rfl zR0) rfl rfl ?_
  refine B0 ?_
  refine sP (D0 rfl rfl zR0) rfl rfl ?_
  refine A8 ?_
  refine sP (D0 rfl rfl zR0) rfl rfl ?_
  refine J0 ?_
  refine H3 (rC rfl (A3 rfl rfl)) (rT rfl) ?_
  (exact V5.no rfl (R7 _))
) : p := h
theorem y111 {p : Prop} (h : p := by
  refine sP (A0R rfl rfl zR0) rfl rfl ?_
  refine J0 ?_
  refine E9 (rC rfl (A3 rfl rfl)) (rT rfl) (rT rfl) ?_
  (exact U1.mk (by rw [if_neg zR0]; rfl) (R7 _))
) : p := h
theorem y112 {p : Prop} (h : p := by
  refine A4 ?_
  refine sE (B6 rfl rfl) rfl (fun b3 => ?_)
  refine sE (A6 rfl) rfl (fun b4 => ?_)
  refine E1 ?_
  refine sP (B8 (j := 0) rfl rfl rfl zS0) rfl rfl ?_
  refine sL (A5 rfl rfl (hat0 _) rfl) rfl rfl ?_
  refine sE (A6 rfl) rfl (fun b15 => ?_)
  refine B5 ?_
  refine C2 ?_
  refine B5 ?_
  refine sP (D0 rfl rfl zR0) rfl rfl ?_
  refine Z8 ?_
  refine sP (D0 rfl rfl zR0) rfl rfl ?_
  refine C1 ?_
  refine sP (D0 rfl rfl zR0) rfl rfl ?_
  refine A1m ?_
  refine sP (A0R rfl rfl zR0) rfl rfl ?_
  refine J0 ?_
  refine E9 (rC rfl (A3 rfl rfl)) (rT rfl) (rT rfl) ?_
  (exact U1.mk rfl (R7 _))
) : p := h
theorem y113 {p : Prop} (h : p := by
  refine H3 (rC rfl (A3 rfl rfl)) (rT rfl) ?_
  (exact V5.no (by rw [if_neg zR0]) (R7 _))
) : p := h
theorem y114 {p : Prop} (h : p := by
  refine sL (A5 rfl rfl (B3 zI0) hwl) rfl rfl ?_
  refine C1 ?_
  refine sS rfl rfl rfl hwl hwo rfl ?_ (hu := by exact C6 hwl.symm)
  refine M7 ?_
  refine A6n (rC rfl (A5 rfl rfl (B3 zI0) hwl)) (rT rfl) (rT rfl) (rT rfl) ?_
  (exact EvP.mk (by rw [← hev]; exact hend zR0) hrw)
) : p := h
theorem A3d : ∀ (t : Ty), H9 t = true → ∃ a : GT, t = a.ty
 | .mk k ks, h => by
  by_cases h4 : k = 4
  ·obtain ⟨x, y, hxy, hx, hy⟩ := A6a (.inl h4) h
   have : SizeOf.sizeOf x < SizeOf.sizeOf ks ∧ SizeOf.sizeOf y < SizeOf.sizeOf ks := by subst hxy; simp; omega
   obtain ⟨a, ha⟩ := A3d x hx
   obtain ⟨b, hb⟩ := A3d y hy
   exact ⟨.fn a b, by rw [h4, hxy, ha, hb]; rfl⟩
  ·by_cases h5 : k = 5
   ·obtain ⟨x, y, hxy, hx, hy⟩ := A6a (.inr h5) h
    have : SizeOf.sizeOf x < SizeOf.sizeOf ks ∧ SizeOf.sizeOf y < SizeOf.sizeOf ks := by subst hxy; simp; omega
    obtain ⟨a, ha⟩ := A3d x hx
    obtain ⟨b, hb⟩ := A3d y hy
    exact ⟨.pr a b, by rw [h5, hxy, ha, hb]; rfl⟩
   ·obtain ⟨h1, rfl⟩ := B5H h h4 h5
    rcases h1 with rfl | rfl | rfl
    ·exact ⟨.any, rfl⟩
    ·exact ⟨.int, rfl⟩
    ·exact ⟨.bool, rfl⟩
 termination_by t => SizeOf.sizeOf t
 decreasing_by all_goals (simp only [Ty.mk.sizeOf_spec]; omega)
theorem B0G : ∀ (a b : GT), A2U a.ty b.ty = true ↔ Le a b := by
 intro a
 induction a with
 | any => intro b; cases b <;> simp [GT.ty, A2r, A1f] <;> first | exact .any | (intro h; cases h)
 | int => intro b; cases b <;> simp [GT.ty, A2r, A1f] <;> first | exact .any | exact .int | (intro h; cases h)
 | bool => intro b; cases b <;> simp [GT.ty, A2r, A1f] <;> first | exact .any | exact .bool | (intro h; cases h)
 | fn x y i j =>
  intro b
  cases b with
  | fn z w => simp only [GT.ty, A2r, A1f, i, j, Bool.or_eq_true, Bool.and_eq_true, decide_eq_true_eq, Bool.and_true, true_and]; exact ⟨fun h => by rcases h with h | h; exact absurd h zQ0; exact .fn h.1 h.2, fun h => by cases h with | fn a b => exact .inr ⟨a, b⟩⟩
  | any => simp [GT.ty, A2r, A1f]; exact .any
  | _ => simp [GT.ty, A2r, A1f]; intro h; cases h
 | pr x y i j =>
  intro b
  cases b with
  | pr z w => simp only [GT.ty, A2r, A1f, i, j, Bool.or_eq_true, Bool.and_eq_true, decide_eq_true_eq, Bool.and_true, true_and]; exact ⟨fun h => by rcases h with h | h; exact absurd h zQ0; exact .pr h.1 h.2, fun h => by cases h with | pr a b => exact .inr ⟨a, b⟩⟩
  | any => simp [GT.ty, A2r, A1f]; exact .any
  | _ => simp [GT.ty, A2r, A1f]; intro h; cases h
theorem A1s : ∀ (a b : GT), N6 a.ty b.ty = true ↔ Co a b := by
 intro a
 induction a with
 | any => intro b; cases b <;> simp [GT.ty, V9, P7] <;> exact .l
 | int => intro b; cases b <;> simp [GT.ty, V9, P7] <;> first | exact .r | exact .int | (intro h; cases h)
 | bool => intro b; cases b <;> simp [GT.ty, V9, P7] <;> first | exact .r | exact .bool | (intro h; cases h)
 | fn x y i j =>
  intro b
  cases b with
  | fn z w => simp only [GT.ty, V9, P7, i, j, Bool.or_eq_true, Bool.and_eq_true, decide_eq_true_eq, Bool.and_true, true_and]; exact ⟨fun h => by rcases h with h | h; exact absurd h zQ0; exact .fn h.1 h.2, fun h => by cases h with | fn a b => exact .inr ⟨a, b⟩⟩
  | any => simp [GT.ty, V9, P7]; exact .r
  | _ => simp [GT.ty, V9, P7]; intro h; cases h
 | pr x y i j =>
  intro b
  cases b with
  | pr z w => simp only [GT.ty, V9, P7, i, j, Bool.or_eq_true, Bool.and_eq_true, decide_eq_true_eq, Bool.and_true, true_and]; exact ⟨fun h => by rcases h with h | h; exact absurd h zQ0; exact .pr h.1 h.2, fun h => by cases h with | pr a b => exact .inr ⟨a, b⟩⟩
  | any => simp [GT.ty, V9, P7]; exact .r
  | _ => simp [GT.ty, V9, P7]; intro h; cases h
def V4 : GT → GT → GT
 | .any, b => b
 | .fn a b, .fn c d => .fn (V4 a c) (V4 b d)
 | .pr a b, .pr c d => .pr (V4 a c) (V4 b d)
 | a, _ => a
theorem A4f (a : GT) : V4 a .any = a := by cases a <;> rfl
theorem B0H {a b : GT} (h : Co a b) : Y2 a.ty b.ty = (V4 a b).ty := by
 induction h with
 | l => simp [GT.ty, Y2, V4]
 | @r a => rw [A4f]; cases a <;> simp [GT.ty, A10]
 | int => simp [GT.ty, A10, W2, V4]
 | bool => simp [GT.ty, A10, W2, V4]
 | fn _ _ i j => simp [GT.ty, A10, W2, V4, i, j]
 | pr _ _ i j => simp [GT.ty, A10, W2, V4, i, j]
theorem A6e {a b : GT} (h : Co a b) : Le (V4 a b) a := by
 induction h with
 | l => exact .any
 | r => rw [A4f]; exact Le.refl
 | int => exact .int
 | bool => exact .bool
 | fn _ _ i j => exact .fn i j
 | pr _ _ i j => exact .pr i j
theorem A6f {a b : GT} (h : Co a b) : Le (V4 a b) b := by
 induction h with
 | l => exact Le.refl
 | r => exact .any
 | int => exact .int
 | bool => exact .bool
 | fn _ _ i j => exact .fn i j
 | pr _ _ i j => exact .pr i j
theorem B5K {a b : GT} (h : Co a b) : ∀ {a' b' : GT}, Le a a' → Le b b' → Le (V4 a b) (V4 a' b') := by
 induction h with
 | l => intro a' b' h1 h2; cases h1; exact h2
 | r => intro a' b' h1 h2; cases h2; rw [A4f, A4f]; exact h1
 | int => intro a' b' h1 h2; cases h1 <;> cases h2 <;> first | exact .int | exact .any
 | bool => intro a' b' h1 h2; cases h1 <;> cases h2 <;> first | exact .bool | exact .any
 | fn c d i j =>
  intro a' b' h1 h2
  cases h1 with
  | any => exact (A6f (.fn c d)).trans h2
  | fn p q => cases h2 with
   | any => rw [A4f]; exact (A6e (.fn c d)).trans (.fn p q)
   | fn r s => exact .fn (i p r) (j q s)
 | pr c d i j =>
  intro a' b' h1 h2
  cases h1 with
  | any => exact (A6f (.pr c d)).trans h2
  | pr p q => cases h2 with
   | any => rw [A4f]; exact (A6e (.pr c d)).trans (.pr p q)
   | pr r s => exact .pr (i p r) (j q s)
theorem B5L {a b : GT} (h : Le a b) : ∀ (d : Int), M9 a.ty d = true → M9 b.ty d = true := by
 induction h with
 | @any a => intro d h; cases a <;> (simp only [GT.ty, A3a, Bool.and_eq_true, decide_eq_true_eq] at h ⊢; exact ⟨⟨h.1.1, rfl⟩, by rw [U4]⟩)
 | int => exact fun _ h => h
 | bool => exact fun _ h => h
 | fn _ _ i j =>
  intro d h
  simp only [GT.ty, A3a, U4, Bool.and_eq_true, decide_eq_true_eq] at h ⊢
  exact ⟨⟨h.1.1, rfl⟩, i _ h.2.1, j _ h.2.2.1, trivial⟩
 | pr _ _ i j =>
  intro d h
  simp only [GT.ty, A3a, U4, Bool.and_eq_true, decide_eq_true_eq] at h ⊢
  exact ⟨⟨h.1.1, rfl⟩, i _ h.2.1, j _ h.2.2.1, trivial⟩
theorem A3L {a b : GT} (h : Le a b) (hv : H9 a.ty = true) : H9 b.ty = true := B5L h 1 hv
def gmF : GT → Option (GT × GT)
 | .fn a b => some (a, b)
 | .any => some (.any, .any)
 | _ => none
def gmP : GT → Option (GT × GT)
 | .pr a b => some (a, b)
 | .any => some (.any, .any)
 | _ => none
theorem B0I (a : GT) : U5 4 a.ty = (gmF a).map fun p => (p.1.ty, p.2.ty) := by cases a <;> rfl
theorem B0J (a : GT) : U5 5 a.ty = (gmP a).map fun p => (p.1.ty, p.2.ty) := by cases a <;> rfl
theorem B5M {a b p q : GT} (h : Le a b) (hm : gmF a = some (p, q)) : Co a (.fn p q) ∧ ∃ p' q', gmF b = some (p', q') ∧ Le p p' ∧ Le q q' ∧ Co b (.fn p' q') := by
 cases h with
 | any =>
  refine ⟨?_, .any, .any, rfl, .any, .any, .l⟩
  cases a with
  | fn _ _ => cases hm; exact Co.refl
  | any => exact .l
  | _ => cases hm
 | fn h1 h2 => cases hm; exact ⟨Co.refl, _, _, rfl, h1, h2, Co.refl⟩
 | _ => cases hm
theorem B5N {a b p q : GT} (h : Le a b) (hm : gmP a = some (p, q)) : Co a (.pr p q) ∧ ∃ p' q', gmP b = some (p', q') ∧ Le p p' ∧ Le q q' ∧ Co b (.pr p' q') := by
 cases h with
 | any =>
  refine ⟨?_, .any, .any, rfl, .any, .any, .l⟩
  cases a with
  | pr _ _ => cases hm; exact Co.refl
  | any => exact .l
  | _ => cases hm
 | pr h1 h2 => cases hm; exact ⟨Co.refl, _, _, rfl, h1, h2, Co.refl⟩
 | _ => cases hm
def CxR (cx cx' : Cx) (Γ : GC) : Prop := ∀ x a, Z5 cx x = some a → ∃ A A', a = A.ty ∧ Z5 cx' x = some A'.ty ∧ Γ x = some (A, A') ∧ Le A A'
theorem B5O : CxR [] [] S7 := by intro x a h; simp [Z5, A0n] at h
theorem B5P {cx cx' : Cx} {Γ : GC} (h : CxR cx cx' Γ) {A A' : GT} (hl : Le A A') (x : ByteArray) : CxR (cx ++ [(x, A.ty)]) (cx' ++ [(x, A'.ty)]) (gup Γ x A A') := by
 intro y a ha
 rw [B0D] at ha ⊢
 unfold gup
 by_cases hy : x = y
 ·rw [if_pos hy] at ha ⊢
  rw [if_pos hy]
  cases ha
  exact ⟨A, A', rfl, rfl, rfl, hl⟩
 ·rw [if_neg hy] at ha ⊢
  rw [if_neg hy]
  exact h y a ha
def V7 (A B : GT) (l : Int) (e : GE) : GE := if T3 A.ty B.ty = true then e else .cast A B l e
theorem A2V {Γ : GC} {e e' : GE} {A A' B B' : GT} {l l' : Int} (h : GP Γ e e' A A') (h1 : Co A B) (h2 : Co A' B') (h3 : Le B B') : GP Γ (V7 A B l e) (V7 A' B' l' e') B B' := by
 unfold V7
 by_cases hs : T3 A.ty B.ty = true
 ·rw [if_pos hs]
  obtain rfl := GT.inj ((A2l _ _).1 hs)
  by_cases ht : T3 A'.ty B'.ty = true
  ·rw [if_pos ht]
   obtain rfl := GT.inj ((A2l _ _).1 ht)
   exact h
  ·rw [if_neg ht]; exact .castR h h2 h3
 ·rw [if_neg hs]
  by_cases ht : T3 A'.ty B'.ty = true
  ·rw [if_pos ht]
   obtain rfl := GT.inj ((A2l _ _).1 ht)
   exact .castL h h1 h3
  ·rw [if_neg ht]; exact .castB h h1 h2 h3
theorem A7P (e : GE) (us : List Tm) (A B : GT) (h w : List Ty) (l : Int) : ∃ m l1, I5 (e.tm :: us) (A.ty :: h) (B.ty :: w) l = ((V7 A B m e).tm :: (I5 us h w l1).1, (I5 us h w l1).2) := by
 rw [I5]
 unfold V7
 by_cases hs : T3 A.ty B.ty = true
 ·rw [if_pos hs]; exact ⟨0, l, by rw [if_pos hs]⟩
 ·rw [if_neg hs]; exact ⟨l + 1, l + 1, by rw [if_neg hs]; rfl⟩
theorem A49 (e : GE) (A B : GT) (l : Int) : ∃ m l1, I5 [e.tm] [A.ty] [B.ty] l = ([(V7 A B m e).tm], l1) := by
 obtain ⟨m, l1, h⟩ := A7P e [] A B [] [] l
 rw [A0y] at h
 exact ⟨m, l1, h⟩
theorem A5a (e f : GE) (A B C D : GT) (l : Int) : ∃ m n l1, I5 [e.tm, f.tm] [A.ty, C.ty] [B.ty, D.ty] l = ([(V7 A B m e).tm, (V7 C D n f).tm], l1) := by
 obtain ⟨m, l1, h⟩ := A7P e [f.tm] A B [C.ty] [D.ty] l
 obtain ⟨n, l2, h2⟩ := A49 f C D l1
 rw [h2] at h
 exact ⟨m, n, l2, h⟩
theorem B0K (e f g : GE) (A B C D E F : GT) (l : Int) : ∃ m n o l1, I5 [e.tm, f.tm, g.tm] [A.ty, C.ty, E.ty] [B.ty, D.ty, F.ty] l = ([(V7 A B m e).tm, (V7 C D n f).tm, (V7 E F o g).tm], l1) := by
 obtain ⟨m, l1, h⟩ := A7P e [f.tm, g.tm] A B [C.ty, E.ty] [D.ty, F.ty] l
 obtain ⟨n, o, l2, h2⟩ := A5a f g C D E F l1
 rw [h2] at h
 exact ⟨m, n, o, l2, h⟩
inductive GPL (Γ : GC) : List GE → List GE → List GT → List GT → Prop
 | nil : GPL Γ [] [] [] []
 | cons {e e' A A' es es' As As'} : GP Γ e e' A A' → GPL Γ es es' As As' → GPL Γ (e :: es) (e' :: es') (A :: As) (A' :: As')
theorem GPL.one {Γ : GC} {es es' : List GE} {As As' : List GT} (h : GPL Γ es es' As As') (hl : es.length = 1) : ∃ e e' A A', es = [e] ∧ es' = [e'] ∧ As = [A] ∧ As' = [A'] ∧ GP Γ e e' A A' := by
 cases h with
 | nil => simp at hl
 | cons h h2 => cases h2 with
  | nil => exact ⟨_, _, _, _, rfl, rfl, rfl, rfl, h⟩
  | cons _ _ => simp at hl
theorem GPL.two {Γ : GC} {es es' : List GE} {As As' : List GT} (h : GPL Γ es es' As As') (hl : es.length = 2) : ∃ e e' A A' f f' B B', es = [e, f] ∧ es' = [e', f'] ∧ As = [A, B] ∧ As' = [A', B'] ∧ GP Γ e e' A A' ∧ GP Γ f f' B B' := by
 cases h with
 | nil => simp at hl
 | cons h h2 =>
  obtain ⟨f, f', B, B', rfl, rfl, rfl, rfl, h3⟩ := h2.one (by simpa using hl)
  exact ⟨_, _, _, _, f, f', B, B', rfl, rfl, rfl, rfl, h, h3⟩
theorem GPL.three {Γ : GC} {es es' : List GE} {As As' : List GT} (h : GPL Γ es es' As As') (hl : es.length = 3) : ∃ e e' A A' f f' B B' g g' C C', es = [e, f, g] ∧ es' = [e', f', g'] ∧ As = [A, B, C] ∧ As' = [A', B', C'] ∧ GP Γ e e' A A' ∧ GP Γ f f' B B' ∧ GP Γ g g' C C' := by
 cases h with
 | nil => simp at hl
 | cons h h2 =>
  obtain ⟨f, f', B, B', g, g', C, C', rfl, rfl, rfl, rfl, h3, h4⟩ := h2.two (by simpa using hl)
  exact ⟨_, _, _, _, f, f', B, B', g, g', C, C', rfl, rfl, rfl, rfl, h, h3, h4⟩
theorem GPL.zero {Γ : GC} {es es' : List GE} {As As' : List GT} (h : GPL Γ es es' As As') (hl : es.length = 0) : es = [] ∧ es' = [] ∧ As = [] ∧ As' = [] := by
 cases h with
 | nil => exact ⟨rfl, rfl, rfl, rfl⟩
 | cons _ _ => simp at hl
theorem A13 {cx : Cx} {k : Int} {nm : ByteArray} {num : Int} {ty fr : Ty} {lb : Int} {us : List Tm} {h : List Ty} {l : Int} {u : Tm} {a : Ty} {l2 : Int} (he : T9 cx k nm num ty fr lb us h l = some (u, a, l2)) :
  ∃ w, P8 cx k nm ty h = some (w, a) ∧ H9 a = true ∧ u = if k = 13 then (I5 us h w l).1.getD 0 I8 else .mk k nm num ty fr lb (I5 us h w l).1 := by
 unfold T9 at he
 split at he
 ·cases he
 ·rename_i w t hn
  simp only [Option.some.injEq, Prod.mk.injEq] at he
  obtain ⟨rfl, rfl, rfl⟩ := he
  obtain ⟨h1, h2⟩ := B0v hn
  exact ⟨w, h2, h1, rfl⟩
theorem A2s {cx : Cx} {k : Int} {nm : ByteArray} {num : Int} {ty fr : Ty} {lb : Int} {us : List Tm} {h : List Ty} {l : Int} {w : List Ty} {a : Ty} (hw : P8 cx k nm ty h = some (w, a)) (hv : H9 a = true) :
  T9 cx k nm num ty fr lb us h l = some (if k = 13 then (I5 us h w l).1.getD 0 I8 else .mk k nm num ty fr lb (I5 us h w l).1, a, (I5 us h w l).2) := by
 unfold T9 A0N
 rw [hw]
 simp only [hv, if_true]
theorem A7Q {k : Int} {nm : ByteArray} {num : Int} {ty fr : Ty} {lb : Int} {ks : List Tm} {d : Int} (h : L6 12 14 (.mk k nm num ty fr lb ks) d = true) :
  E8 k = ks.length ∧ k ≠ 14 ∧ (¬(k = 1 ∨ k = 5) → nm = ⟨#[]⟩) ∧ (k ≠ 2 → num = 0) ∧ (k = 5 ∨ k = 13 → H9 ty = true) ∧ (¬(k = 5 ∨ k = 13) → ty = B4) ∧ fr = B4 ∧ lb = 0 ∧ I2 12 14 ks (d + 1) = true := by
 obtain ⟨_, h2, h3, h4⟩ := A0b h
 obtain ⟨n1, n2, n3, n4, n5, n6, n7, n8, n9⟩ := X5.1 h3
 exact ⟨n1, h2, n3, fun hk => by have := A4Y.1 (n5 hk); omega, fun hk => n6 zR0, fun hk => A2O (n7 zR0), A2O (n9 h2).1, (n9 h2).2, h4⟩
abbrev ElR (Γ : GC) (u : Tm) (a : Ty) (r : Option (Tm × Ty × Int)) : Prop := ∃ e A e' A' l2, u = e.tm ∧ a = A.ty ∧ r = some (e'.tm, A'.ty, l2) ∧ GP Γ e e' A A'
section
variable {cx cx' : Cx} {Γ : GC} {es es' : List GE} {As As' : List GT} {l l' : Int} {u : Tm} {a : Ty} {l2 : Int} {nm : ByteArray} {num : Int}
theorem B5Q (hc : CxR cx cx' Γ) (he : T9 cx 1 nm 0 B4 B4 0 [] [] l = some (u, a, l2)) : ElR Γ u a (T9 cx' 1 nm 0 B4 B4 0 [] [] l') := by
 obtain ⟨w, hw, hv, rfl⟩ := A13 he
 unfold P8 at hw
 rw [if_pos rfl] at hw
 split at hw
 ·rename_i t ht
  cases hw
  obtain ⟨A, A', rfl, h2, h3, h4⟩ := hc _ _ ht
  refine ⟨.var nm, A, .var nm, A', l', ?_, rfl, ?_, .var h3 h4⟩
  ·rw [A0y, if_neg zQ0]; rfl
  ·rw [A2s (w := []) (a := A'.ty) (by unfold P8; rw [if_pos rfl, h2]) (A3L h4 hv), A0y, if_neg zQ0]; rfl
 ·cases hw
theorem B5R (he : T9 cx 2 ⟨#[]⟩ num B4 B4 0 [] [] l = some (u, a, l2)) : ElR Γ u a (T9 cx' 2 ⟨#[]⟩ num B4 B4 0 [] [] l') := by
 obtain ⟨w, hw, hv, rfl⟩ := A13 he
 cases hw
 exact ⟨.num num, .int, .num num, .int, l', by rw [A0y, if_neg zQ0]; rfl, rfl, by rw [A2s (w := []) (a := W7) rfl hv, A0y, if_neg zQ0]; rfl, .num⟩
theorem B5S (b : Bool) (he : T9 cx (if b = true then 3 else 4) ⟨#[]⟩ 0 B4 B4 0 [] [] l = some (u, a, l2)) : ElR Γ u a (T9 cx' (if b = true then 3 else 4) ⟨#[]⟩ 0 B4 B4 0 [] [] l') := by
 obtain ⟨w, hw, hv, rfl⟩ := A13 he
 cases b <;> (cases hw; exact ⟨.tru _, .bool, .tru _, .bool, l', by rw [A0y, if_neg zQ0]; rfl, rfl, by rw [A2s (w := []) (a := A0v) rfl hv, A0y, if_neg zQ0]; rfl, .tru⟩)
theorem B5T {A A' B B' : GT} {e e' : GE} (hA : Le A A') (hp : GP (gup Γ nm A A') e e' B B') (he : T9 cx 5 nm 0 A.ty B4 0 [e.tm] [B.ty] l = some (u, a, l2)) : ElR Γ u a (T9 cx' 5 nm 0 A'.ty B4 0 [e'.tm] [B'.ty] l') := by
 obtain ⟨w, hw, hv, rfl⟩ := A13 he
 cases hw
 exact ⟨.lam nm A e, .fn A B, .lam nm A' e', .fn A' B', l', by rw [A0y, if_neg zQ0]; rfl, rfl, by rw [A2s (w := []) (a := .mk 4 [A'.ty, B'.ty]) rfl (A3L (.fn hA hp.le) hv), A0y, if_neg zQ0]; rfl, .lam hA hp⟩
theorem B5U {A A' B B' : GT} {e e' f f' : GE} (hp : GP Γ e e' A A') (hq : GP Γ f f' B B') (he : T9 cx 6 ⟨#[]⟩ 0 B4 B4 0 [e.tm, f.tm] [A.ty, B.ty] l = some (u, a, l2)) : ElR Γ u a (T9 cx' 6 ⟨#[]⟩ 0 B4 B4 0 [e'.tm, f'.tm] [A'.ty, B'.ty] l') := by
 obtain ⟨w, hw, hv, rfl⟩ := A13 he
 unfold P8 at hw
 rw [if_neg zQ0, if_neg zQ0, if_neg zQ0, if_neg zQ0, if_pos rfl] at hw
 simp only [List.getD_cons_zero, List.getD_cons_succ, B0I] at hw
 cases hm : gmF A with
 | none => rw [hm] at hw; cases hw
 | some pq =>
  obtain ⟨p, q⟩ := pq
  rw [hm] at hw
  simp only [Option.map_some] at hw
  split at hw
  ·rename_i hc
   cases hw
   obtain ⟨c1, p', q', hm', h1, h2, c2⟩ := B5M hp.le hm
   have hco := (A1s _ _).1 hc
   have hco' := hco.up hq.le h1
   obtain ⟨m, n, l1, h3⟩ := A5a e f A (.fn p q) B p l
   obtain ⟨m', n', l1', h3'⟩ := A5a e' f' A' (.fn p' q') B' p' l'
   refine ⟨.app (V7 A (.fn p q) m e) (V7 B p n f), q, .app (V7 A' (.fn p' q') m' e') (V7 B' p' n' f'), q', l1', ?_, rfl, ?_, .app (A2V hp c1 c2 (.fn h1 h2)) (A2V hq hco hco' h1)⟩
   ·rw [if_neg zQ0]
    show Tm.mk _ _ _ _ _ _ (I5 [e.tm, f.tm] [A.ty, B.ty] [(GT.fn p q).ty, p.ty] l).1 = _
    rw [h3]; rfl
   ·rw [A2s (w := [(GT.fn p' q').ty, p'.ty]) (a := q'.ty) ?_ (A3L h2 hv), if_neg zQ0, h3']
    ·rfl
    ·unfold P8
     rw [if_neg zQ0, if_neg zQ0, if_neg zQ0, if_neg zQ0, if_pos rfl]
     simp only [List.getD_cons_zero, List.getD_cons_succ, B0I, hm', Option.map_some]
     rw [if_pos ((A1s _ _).2 hco')]; rfl
  ·cases hw
theorem B5V (s : Bool) {A A' B B' : GT} {e e' f f' : GE} (hp : GP Γ e e' A A') (hq : GP Γ f f' B B') (he : T9 cx (if s = true then 8 else 7) ⟨#[]⟩ 0 B4 B4 0 [e.tm, f.tm] [A.ty, B.ty] l = some (u, a, l2)) : ElR Γ u a (T9 cx' (if s = true then 8 else 7) ⟨#[]⟩ 0 B4 B4 0 [e'.tm, f'.tm] [A'.ty, B'.ty] l') := by
 have hk : (if s = true then (8 : Int) else 7) = 7 ∨ (if s = true then (8 : Int) else 7) = 8 := by cases s <;> simp
 have hT : (if (if s = true then (8 : Int) else 7) = 8 then A0v else W7) = GT.ty (if s = true then .bool else .int) := by cases s <;> rfl
 obtain ⟨w, hw, hv, rfl⟩ := A13 he
 unfold P8 at hw
 rw [if_neg zR0, if_neg zR0, if_neg zR0, if_neg zR0, if_neg zR0, if_pos hk] at hw
 simp only [List.getD_cons_zero, List.getD_cons_succ] at hw
 split at hw
 ·rename_i hc
  rw [hT] at hw
  cases hw
  have c1 := (A1s A .int).1 hc.1
  have c2 := (A1s B .int).1 hc.2
  have d1 := c1.up hp.le Le.refl
  have d2 := c2.up hq.le Le.refl
  obtain ⟨m, n, l1, h3⟩ := A5a e f A .int B .int l
  obtain ⟨m', n', l1', h3'⟩ := A5a e' f' A' .int B' .int l'
  refine ⟨.ar s (V7 A .int m e) (V7 B .int n f), _, .ar s (V7 A' .int m' e') (V7 B' .int n' f'), _, l1', ?_, rfl, ?_, .ar (A2V hp c1 d1 .int) (A2V hq c2 d2 .int)⟩
  ·rw [if_neg zR0]
   show Tm.mk _ _ _ _ _ _ (I5 [e.tm, f.tm] [A.ty, B.ty] [GT.int.ty, GT.int.ty] l).1 = _
   rw [h3]; rfl
  ·rw [A2s (w := [GT.int.ty, GT.int.ty]) (a := GT.ty (if s = true then .bool else .int)) ?_ hv, if_neg zR0, h3']
   ·rfl
   ·unfold P8
    rw [if_neg zR0, if_neg zR0, if_neg zR0, if_neg zR0, if_neg zR0, if_pos hk]
    simp only [List.getD_cons_zero, List.getD_cons_succ]
    rw [if_pos ⟨(A1s A' .int).2 d1, (A1s B' .int).2 d2⟩, hT]; rfl
 ·cases hw
theorem B5W {A A' B B' C C' : GT} {e e' f f' g g' : GE} (hp : GP Γ e e' A A') (hq : GP Γ f f' B B') (hr : GP Γ g g' C C') (he : T9 cx 9 ⟨#[]⟩ 0 B4 B4 0 [e.tm, f.tm, g.tm] [A.ty, B.ty, C.ty] l = some (u, a, l2)) :
  ElR Γ u a (T9 cx' 9 ⟨#[]⟩ 0 B4 B4 0 [e'.tm, f'.tm, g'.tm] [A'.ty, B'.ty, C'.ty] l') := by
 obtain ⟨w, hw, hv, rfl⟩ := A13 he
 unfold P8 at hw
 rw [if_neg zQ0, if_neg zQ0, if_neg zQ0, if_neg zQ0, if_neg zQ0, if_neg zQ0, if_pos rfl] at hw
 simp only [List.getD_cons_zero, List.getD_cons_succ] at hw
 split at hw
 ·rename_i hc
  have c1 := (A1s A .bool).1 hc.1
  have c2 := (A1s B C).1 hc.2
  have d1 := c1.up hp.le Le.refl
  have d2 := c2.up hq.le hr.le
  rw [B0H c2] at hw
  cases hw
  have hM := B5K c2 hq.le hr.le
  obtain ⟨m, n, o, l1, h3⟩ := B0K e f g A .bool B (V4 B C) C (V4 B C) l
  obtain ⟨m', n', o', l1', h3'⟩ := B0K e' f' g' A' .bool B' (V4 B' C') C' (V4 B' C') l'
  refine ⟨.ite (V7 A .bool m e) (V7 B (V4 B C) n f) (V7 C (V4 B C) o g), V4 B C, .ite (V7 A' .bool m' e') (V7 B' (V4 B' C') n' f') (V7 C' (V4 B' C') o' g'), V4 B' C', l1', ?_, rfl, ?_,
   .ite (A2V hp c1 d1 .bool) (A2V hq (A6e c2).co.symm (A6e d2).co.symm hM) (A2V hr (A6f c2).co.symm (A6f d2).co.symm hM)⟩
  ·rw [if_neg zQ0]
   show Tm.mk _ _ _ _ _ _ (I5 [e.tm, f.tm, g.tm] [A.ty, B.ty, C.ty] [GT.bool.ty, (V4 B C).ty, (V4 B C).ty] l).1 = _
   rw [h3]; rfl
  ·rw [A2s (w := [GT.bool.ty, (V4 B' C').ty, (V4 B' C').ty]) (a := (V4 B' C').ty) ?_ (A3L hM hv), if_neg zQ0, h3']
   ·rfl
   ·unfold P8
    rw [if_neg zQ0, if_neg zQ0, if_neg zQ0, if_neg zQ0, if_neg zQ0, if_neg zQ0, if_pos rfl]
    simp only [List.getD_cons_zero, List.getD_cons_succ]
    rw [if_pos ⟨(A1s A' .bool).2 d1, (A1s B' C').2 d2⟩, B0H d2]; rfl
 ·cases hw
theorem B5X {A A' B B' : GT} {e e' f f' : GE} (hp : GP Γ e e' A A') (hq : GP Γ f f' B B') (he : T9 cx 10 ⟨#[]⟩ 0 B4 B4 0 [e.tm, f.tm] [A.ty, B.ty] l = some (u, a, l2)) : ElR Γ u a (T9 cx' 10 ⟨#[]⟩ 0 B4 B4 0 [e'.tm, f'.tm] [A'.ty, B'.ty] l') := by
 obtain ⟨w, hw, hv, rfl⟩ := A13 he
 cases hw
 exact ⟨.pair e f, .pr A B, .pair e' f', .pr A' B', l', by rw [A0y, if_neg zQ0]; rfl, rfl, by rw [A2s (w := []) (a := .mk 5 [A'.ty, B'.ty]) rfl (A3L (.pr hp.le hq.le) hv), A0y, if_neg zQ0]; rfl, .pair hp hq⟩
theorem B5Y (s : Bool) {A A' : GT} {e e' : GE} (hp : GP Γ e e' A A') (he : T9 cx (if s = true then 12 else 11) ⟨#[]⟩ 0 B4 B4 0 [e.tm] [A.ty] l = some (u, a, l2)) : ElR Γ u a (T9 cx' (if s = true then 12 else 11) ⟨#[]⟩ 0 B4 B4 0 [e'.tm] [A'.ty] l') := by
 have hk : (if s = true then (12 : Int) else 11) = 11 ∨ (if s = true then (12 : Int) else 11) = 12 := by cases s <;> simp
 have hT : ∀ p q : GT, (if (if s = true then (12 : Int) else 11) = 12 then q.ty else p.ty) = GT.ty (if s = true then q else p) := by intro p q; cases s <;> rfl
 obtain ⟨w, hw, hv, rfl⟩ := A13 he
 unfold P8 at hw
 rw [if_neg zR0, if_neg zR0, if_neg zR0, if_neg zR0, if_neg zR0, if_neg zR0, if_neg zR0, if_neg zR0, if_neg zR0] at hw
 simp only [List.getD_cons_zero, B0J] at hw
 cases hm : gmP A with
 | none => rw [hm] at hw; cases hw
 | some pq =>
  obtain ⟨p, q⟩ := pq
  rw [hm] at hw
  simp only [Option.map_some, hT] at hw
  cases hw
  obtain ⟨c1, p', q', hm', h1, h2, c2⟩ := B5N hp.le hm
  obtain ⟨m, l1, h3⟩ := A49 e A (.pr p q) l
  obtain ⟨m', l1', h3'⟩ := A49 e' A' (.pr p' q') l'
  refine ⟨.part s (V7 A (.pr p q) m e), _, .part s (V7 A' (.pr p' q') m' e'), _, l1', ?_, rfl, ?_, .part (A2V hp c1 c2 (.pr h1 h2))⟩
  ·rw [if_neg zR0]
   show Tm.mk _ _ _ _ _ _ (I5 [e.tm] [A.ty] [(GT.pr p q).ty] l).1 = _
   rw [h3]; rfl
  ·rw [A2s (w := [(GT.pr p' q').ty]) (a := GT.ty (if s = true then q' else p')) ?_ (A3L (by cases s; exact h1; exact h2) hv), if_neg zR0, h3']
   ·rfl
   ·unfold P8
    rw [if_neg zR0, if_neg zR0, if_neg zR0, if_neg zR0, if_neg zR0, if_neg zR0, if_neg zR0, if_neg zR0, if_neg zR0]
    simp only [List.getD_cons_zero, B0J, hm', Option.map_some, hT]; rfl
theorem B5Z {A A' B B' : GT} {e e' : GE} (hB : Le B B') (hp : GP Γ e e' A A') (he : T9 cx 13 ⟨#[]⟩ 0 B.ty B4 0 [e.tm] [A.ty] l = some (u, a, l2)) : ElR Γ u a (T9 cx' 13 ⟨#[]⟩ 0 B'.ty B4 0 [e'.tm] [A'.ty] l') := by
 obtain ⟨w, hw, hv, rfl⟩ := A13 he
 unfold P8 at hw
 rw [if_neg zQ0, if_neg zQ0, if_neg zQ0, if_neg zQ0, if_neg zQ0, if_neg zQ0, if_neg zQ0, if_neg zQ0, if_pos rfl] at hw
 simp only [List.getD_cons_zero] at hw
 split at hw
 ·rename_i hc
  cases hw
  have c1 := (A1s A B).1 hc
  have d1 := c1.up hp.le hB
  obtain ⟨m, l1, h3⟩ := A49 e A B l
  obtain ⟨m', l1', h3'⟩ := A49 e' A' B' l'
  refine ⟨V7 A B m e, B, V7 A' B' m' e', B', l1', ?_, rfl, ?_, A2V hp c1 d1 hB⟩
  ·rw [if_pos rfl, h3]; rfl
  ·rw [A2s (w := [B'.ty]) (a := B'.ty) ?_ (A3L hB hv), if_pos rfl, h3']
   ·rfl
   ·unfold P8
    rw [if_neg zQ0, if_neg zQ0, if_neg zQ0, if_neg zQ0, if_neg zQ0, if_neg zQ0, if_neg zQ0, if_neg zQ0, if_pos rfl]
    simp only [List.getD_cons_zero]
    rw [if_pos ((A1s A' B').2 d1)]
 ·cases hw
end
theorem B50 (ks : List Tm) (ih : ∀ t ∈ ks, ∀ (t' : Tm) (d : Int) (cx cx' : Cx) (Γ : GC) (l l' : Int) (u : Tm) (a : Ty) (l2 : Int), L6 12 14 t d = true → L6 12 14 t' d = true → A3K t t' = true → CxR cx cx' Γ → P4 cx t l = some (u, a, l2) → ElR Γ u a (P4 cx' t' l')) :
  ∀ (ks' : List Tm) (d : Int) (cx cx' : Cx) (Γ : GC) (l l' : Int) (us : List Tm) (h : List Ty) (l2 : Int), I2 12 14 ks d = true → I2 12 14 ks' d = true → A3c ks ks' = true → CxR cx cx' Γ → O8 cx ks l = some (us, h, l2) →
   ∃ es As es' As' l2', us = es.map GE.tm ∧ h = As.map GT.ty ∧ O8 cx' ks' l' = some (es'.map GE.tm, As'.map GT.ty, l2') ∧ GPL Γ es es' As As' := by
 induction ks with
 | nil =>
  intro ks' d cx cx' Γ l l' us h l2 _ _ hp _ he
  cases ks' with
  | cons _ _ => cases hp
  | nil =>
   rw [O8] at he
   cases he
   exact ⟨[], [], [], [], l', rfl, rfl, by rw [O8]; rfl, .nil⟩
 | cons t ts ihl =>
  intro ks' d cx cx' Γ l l' us h l2 hs hs' hp hc he
  cases ks' with
  | nil => cases hp
  | cons t' ts' =>
   rw [I2, Bool.and_eq_true] at hs hs'
   rw [A3c, Bool.and_eq_true] at hp
   rw [O8] at he ⊢
   split at he
   ·cases he
   ·rename_i u a l1 h1
    split at he
    ·cases he
    ·rename_i us' h' l3 h2
     cases he
     obtain ⟨e, A, e', A', m, rfl, rfl, h3, h4⟩ := ih t List.mem_cons_self t' d cx cx' Γ l l' u a l1 hs.1 hs'.1 hp.1 hc h1
     obtain ⟨es, As, es', As', m2, rfl, rfl, h5, h6⟩ := ihl (fun x hx => ih x (List.mem_cons_of_mem _ hx)) ts' d cx cx' Γ l1 m us' h' l2 hs.2 hs'.2 hp.2 hc h2
     rw [h3]
     simp only [h5]
     exact ⟨e :: es, A :: As, e' :: es', A' :: As', m2, rfl, rfl, rfl, .cons h4 h6⟩
theorem A7R {cx : Cx} : ∀ {ks : List Tm} {l : Int} {us : List Tm} {h : List Ty} {l2 : Int}, O8 cx ks l = some (us, h, l2) → us.length = ks.length
 | [], _, _, _, _, h => by rw [O8] at h; cases h; rfl
 | t :: ts, _, _, _, _, h => by
  rw [O8] at h
  split at h
  ·cases h
  ·split at h
   ·cases h
   ·rename_i h2; cases h; simp [A7R h2]
theorem B51 : ∀ (t t' : Tm) (d : Int) (cx cx' : Cx) (Γ : GC) (l l' : Int) (u : Tm) (a : Ty) (l2 : Int), L6 12 14 t d = true → L6 12 14 t' d = true → A3K t t' = true → CxR cx cx' Γ → P4 cx t l = some (u, a, l2) → ElR Γ u a (P4 cx' t' l') := by
 refine Tm.ind fun k nm num ty fr lb ks ih t' d cx cx' Γ l l' u a l2 hs hs' hp hc he => ?_
 obtain ⟨k', nm', num', ty', fr', lb', ks'⟩ := t'
 obtain ⟨rfl, rfl, rfl, hty, hpk⟩ := B0F.1 hp
 obtain ⟨n1, n2, n3, n4, n5, n6, n7, n8, n9⟩ := A7Q hs
 obtain ⟨m1, m2, m3, m4, m5, m6, m7, m8, m9⟩ := A7Q hs'
 subst n7 n8 m7 m8
 rw [P4] at he ⊢
 split at he
 ·cases he
 ·rename_i us h l1 hL
  
  have key : ∀ Δ, CxR (R5 cx k nm ty) (R5 cx' k nm ty') Δ → ∃ es As es' As' l2', us = es.map GE.tm ∧ h = As.map GT.ty ∧ O8 (R5 cx' k nm ty') ks' l' = some (es'.map GE.tm, As'.map GT.ty, l2') ∧ GPL Δ es es' As As' :=
   fun Δ hD => B50 ks ih ks' (d + 1) _ _ Δ l l' us h l1 n9 m9 hpk hD hL
  by_cases h5 : k = 5
  ·subst h5
   obtain ⟨A, rfl⟩ := A3d ty (n5 (.inl rfl))
   obtain ⟨A', rfl⟩ := A3d ty' (m5 (.inl rfl))
   have hA := (B0G A A').1 (hty (.inl rfl))
   obtain rfl := n4 zQ0
   obtain ⟨es, As, es', As', l3, rfl, rfl, e1, e2⟩ := key (gup Γ nm A A') (by rw [R5, R5, if_pos rfl, if_pos rfl]; exact B5P hc hA nm)
   have hlen : es.length = 1 := by
    have h1 := A7R hL
    rw [List.length_map] at h1
    have : E8 5 = 1 := rfl
    omega
   obtain ⟨e, e', B, B', rfl, rfl, rfl, rfl, hq⟩ := e2.one hlen
   rw [e1]
   exact B5T hA hq he
  ·obtain ⟨es, As, es', As', l3, rfl, rfl, e1, e2⟩ := key Γ (by rw [R5, R5, if_neg h5, if_neg h5]; exact hc)
   have hlen : (es.length : Int) = E8 k := by
    have h1 := A7R hL
    rw [List.length_map] at h1
    omega
   rw [e1]
   have hk : 1 ≤ k ∧ k ≤ 14 := by
    apply Classical.byContradiction
    intro hk
    rw [A5G hk] at n1; omega
   by_cases h1 : k = 1
   ·subst h1
    obtain rfl := n4 zQ0
    obtain rfl := n6 zQ0
    obtain rfl := m6 zQ0
    obtain ⟨rfl, rfl, rfl, rfl⟩ := e2.zero (by have : E8 1 = 0 := rfl; omega)
    exact B5Q hc he
   obtain rfl := n3 zR0
   by_cases h2 : k = 2
   ·subst h2
    obtain rfl := n6 zQ0
    obtain rfl := m6 zQ0
    obtain ⟨rfl, rfl, rfl, rfl⟩ := e2.zero (by have : E8 2 = 0 := rfl; omega)
    exact B5R he
   obtain rfl := n4 h2
   by_cases h13 : k = 13
   ·subst h13
    obtain ⟨B, rfl⟩ := A3d ty (n5 (.inr rfl))
    obtain ⟨B', rfl⟩ := A3d ty' (m5 (.inr rfl))
    obtain ⟨e, e', A, A', rfl, rfl, rfl, rfl, hq⟩ := e2.one (by have : E8 13 = 1 := rfl; omega)
    exact B5Z ((B0G B B').1 (hty (.inr rfl))) hq he
   obtain rfl := n6 zR0
   obtain rfl := m6 zR0
   by_cases h34 : k = 3 ∨ k = 4
   ·obtain ⟨b, rfl⟩ : ∃ b : Bool, k = if b = true then 3 else 4 := by rcases h34 with h | h; exact ⟨true, h⟩; exact ⟨false, h⟩
    obtain ⟨rfl, rfl, rfl, rfl⟩ := e2.zero (by have : E8 (if b = true then 3 else 4) = 0 := (by cases b <;> rfl); omega)
    exact B5S b he
   by_cases h6 : k = 6
   ·subst h6
    obtain ⟨e, e', A, A', f, f', B, B', rfl, rfl, rfl, rfl, hp1, hp2⟩ := e2.two (by have : E8 6 = 2 := rfl; omega)
    exact B5U hp1 hp2 he
   by_cases h78 : k = 7 ∨ k = 8
   ·obtain ⟨b, rfl⟩ : ∃ b : Bool, k = if b = true then 8 else 7 := by rcases h78 with h | h; exact ⟨false, h⟩; exact ⟨true, h⟩
    obtain ⟨e, e', A, A', f, f', B, B', rfl, rfl, rfl, rfl, hp1, hp2⟩ := e2.two (by have : E8 (if b = true then 8 else 7) = 2 := (by cases b <;> rfl); omega)
    exact B5V b hp1 hp2 he
   by_cases h9 : k = 9
   ·subst h9
    obtain ⟨e, e', A, A', f, f', B, B', g, g', C, C', rfl, rfl, rfl, rfl, hp1, hp2, hp3⟩ := e2.three (by have : E8 9 = 3 := rfl; omega)
    exact B5W hp1 hp2 hp3 he
   by_cases h10 : k = 10
   ·subst h10
    obtain ⟨e, e', A, A', f, f', B, B', rfl, rfl, rfl, rfl, hp1, hp2⟩ := e2.two (by have : E8 10 = 2 := rfl; omega)
    exact B5X hp1 hp2 he
   have h11 : k = 11 ∨ k = 12 := by omega
   obtain ⟨b, rfl⟩ : ∃ b : Bool, k = if b = true then 12 else 11 := by rcases h11 with h | h; exact ⟨false, h⟩; exact ⟨true, h⟩
   obtain ⟨e, e', A, A', rfl, rfl, rfl, rfl, hp1⟩ := e2.one (by have : E8 (if b = true then 12 else 11) = 1 := (by cases b <;> rfl); omega)
   exact B5Y b hp1 he
theorem B52 {a b u : Tm} {t : Ty} (ha : X7 a = some (u, t)) (hp : A6d a b = true) : ∃ e e' A A', u = e.tm ∧ t = A.ty ∧ X7 b = some (e'.tm, A'.ty) ∧ GP S7 e e' A A' := by
 unfold A6d at hp
 rw [Bool.and_eq_true, Bool.and_eq_true] at hp
 unfold X7 at ha ⊢
 rw [if_pos hp.1] at ha
 rw [if_pos hp.2.1]
 split at ha
 ·rename_i u' t' l' he
  cases ha
  obtain ⟨e, A, e', A', l2, rfl, rfl, h1, h2⟩ := B51 a b 1 [] [] S7 0 0 u t l' ((V2 a).1 hp.1).1 ((V2 b).1 hp.2.1).1 hp.2.2 B5O he
  rw [h1]
  exact ⟨e, e', A, A', rfl, rfl, rfl, h2⟩
 ·cases ha
theorem B53 (G : IM) (p : Option Addr) (n c : Nat) (es : List (List Value)) (hsl : D7 G p n c 9 es) (fid : FuncId) [C4 Tryz.prog fid] (us cs : List Value) (ins : List A7) (q : Nat → Bool)
  (hq : ∀ i e, es[i]? = some e → Fn Tryz.prog fid (us ++ [.agg ⟨e⟩] ++ cs) ins G (X2 (.bool (q i)) ins G)) :
  Fn Tryz.prog 158 [.slice p n c, .func (.func fid) ⟨us⟩ ⟨cs⟩] ins G (X2 (.int .i64 (A1n q n)) ins G) := by
 have hn := hsl.le
 refine C0 Tryz.func158 rfl Tryz.ntmps158 Tryz.results158 rfl ?_
 intro w0
 refine N0 ?_
 refine C2 ?_
 refine L8 (fun i : Nat => ⟨[(8, .int .i64 i), (7, .int .i64 n), (1, .func (.func fid) ⟨us⟩ ⟨cs⟩), (0, .slice p n c)], ins, G⟩) (fun i => i ≤ n ∧ ∀ j, j < i → q j = false) (fun i => n - i) 0 ?_ ?_ ?_
 exact F8
 exact ⟨by omega, by omega⟩
 rintro i ⟨hi, hf⟩
 refine A4 ?_
 refine sB (N5 rfl rfl) rfl rfl (fun h21 => ?_) (fun h21 => ?_)
 refine B0 ?_
 refine C2 ?_
 refine M7 ?_
 (obtain ⟨e, b, o, he, rfl, hl, _, hat, _⟩ := hsl.get (i := i) zR0; refine sP (B8 rfl rfl rfl zR0) rfl rfl ?_)
 refine sL (A5 rfl rfl (hat _) hl) rfl rfl ?_
 refine A5z rfl rfl (hq i e he) A0S rfl rfl (fun h43 => ?_) (fun h43 => ?_)
 refine J0 ?_
 refine H8 (rT rfl) A0.refl ?_
 exact ⟨rfl, by rw [A8Z zR0 hf zO0], rfl⟩
 refine B0 ?_
 refine sP (K0 rfl rfl zR0 zR0) rfl rfl ?_
 refine A4 ?_
 refine J7 (i + 1) ?_ ?_ ?_
 exact F8
 exact ⟨by omega, fun j hj => by by_cases hji : j = i; (subst hji; assumption); exact hf j zR0⟩
 omega
 refine J0 ?_
 refine H8 (rT rfl) A0.refl ?_
 exact ⟨rfl, by rw [A6X (fun j hj => hf j zR0)], rfl⟩
theorem B54 (G : IM) (p : Option Addr) (n c : Nat) (es : List (List Value)) (hsl : D7 G p n c 9 es) (fid : FuncId) [C4 Tryz.prog fid] (us cs : List Value) (ins : List A7) (q : Nat → Bool)
  (hq : ∀ i e, es[i]? = some e → Fn Tryz.prog fid (us ++ [.agg ⟨e⟩] ++ cs) ins G (X2 (.bool (q i)) ins G)) :
  Fn Tryz.prog 146 [.slice p n c, .func (.func fid) ⟨us⟩ ⟨cs⟩] ins G (X2 (.bool (decide (0 ≤ A1n q n))) ins G) := by
 refine C0 Tryz.func146 rfl Tryz.ntmps146 Tryz.results146 rfl ?_
 intro w0
 refine E7 ?_
 refine A2J rfl (B53 G p n c es hsl fid us cs ins q hq) A0S rfl rfl ?_
 refine sQ (A1w rfl rfl) rfl ?_
 refine B5 ?_
 refine H8 (rT rfl) A0.refl ?_
 exact ⟨rfl, rfl, rfl⟩
theorem B0L (G : IM) (p : Option Addr) (n c : Nat) (es : List (List Value)) (hsl : D7 G p n c 9 es) (fid : FuncId) [C4 Tryz.prog fid] (us cs : List Value) (ins : List A7) (f : Tm → Bool) (ks : List Tm)
  (hn : ks.length = n) {A : Bool} (hA : ks.all f = A) (hq : ∀ i e, es[i]? = some e → Fn Tryz.prog fid (us ++ [.agg ⟨e⟩] ++ cs) ins G (X2 (.bool (!f (ks.getD i I8))) ins G)) :
  Fn Tryz.prog 146 [.slice p n c, .func (.func fid) ⟨us⟩ ⟨cs⟩] ins G (X2 (.bool (!A)) ins G) := by
 subst hn hA
 rw [← A81 f ks I8]
 exact B54 G p _ c es hsl fid us cs ins _ hq
theorem B0M : ∀ ks, A11 ks = ks.all H7
 | [] => rfl
 | t :: ts => by rw [A11, B0M ts, List.all_cons]
theorem B55 (t : Tm) (G : IM) (cells : List Value) (hl : cells.length = 9) (ho : cells.all (·.oneCell') = true) (h : Fn Tryz.prog 131 [.agg ⟨cells⟩] [] G (K7 (.bool (H7 t)) G)) :
  Fn Tryz.prog 147 [.agg ⟨cells⟩] [] G (X2 (.bool (!H7 t)) [] G) := by
 refine C0 Tryz.func147 rfl Tryz.ntmps147 Tryz.results147 rfl ?_
 intro w0
 refine A4 ?_
 refine sE (B6 rfl rfl) rfl (fun b3 => ?_)
 refine A8 ?_
 refine sL (A5 rfl rfl (B3 zI0) hl) rfl rfl ?_
 refine H4 rfl (h) rfl rfl ?_
 refine sQ (A2D rfl) rfl ?_
 refine A8 ?_
 (exact ⟨rfl, rfl, rfl⟩)
theorem A4g (k : Int) (nm : ByteArray) (num : Int) (ty fr : Ty) (lb : Int) (ks : List Tm) : prx (.mk k nm num ty fr lb ks) = decide (k = 14 ∧ fr.k = ty.k ∧ (ty.k = 4 ∨ ty.k = 5)) := rfl
theorem A7S (k : Int) (nm : ByteArray) (num : Int) (ty fr : Ty) (lb : Int) (ks : List Tm) : inj (.mk k nm num ty fr lb ks) = (decide (k = 14 ∧ ty.k = 1) && A0h fr) := rfl
theorem A7T {k : Int} {nm : ByteArray} {num : Int} {ty fr : Ty} {lb : Int} {ks : List Tm} (h : k = 10 ∨ prx (.mk k nm num ty fr lb ks) = true ∨ inj (.mk k nm num ty fr lb ks) = true) : H7 (.mk k nm num ty fr lb ks) = ks.all H7 := by
 rw [H7, if_pos, B0M]
 rw [A4g, A7S] at h
 simp only [Bool.and_eq_true, decide_eq_true_eq] at h
 rcases h with h | h | h
 ·exact .inl h
 ·exact .inr (.inl h)
 ·exact .inr (.inr ⟨h.1.1, h.1.2, h.2⟩)
theorem B0N {k : Int} {nm : ByteArray} {num : Int} {ty fr : Ty} {lb : Int} {ks : List Tm} (h : ¬k = 10) (h2 : prx (.mk k nm num ty fr lb ks) = false) (h3 : inj (.mk k nm num ty fr lb ks) = false) : H7 (.mk k nm num ty fr lb ks) = decide (k = 2 ∨ k = 3 ∨ k = 4 ∨ k = 5) := by
 rw [H7, if_neg]
 rw [A4g] at h2
 rw [A7S] at h3
 simp only [Bool.and_eq_false_iff, decide_eq_false_iff_not] at h2 h3
 rintro (h' | h' | h')
 ·exact h h'
 ·exact h2 h'
 ·rcases h3 with h3 | h3
  ·exact h3 ⟨h'.1, h'.2.1⟩
  ·rw [h3] at h'; cases h'.2.2
theorem A6g : ∀ (t : Tm) (G : IM) (cells : List Value), B7 G t cells → Fn Tryz.prog 131 [.agg ⟨cells⟩] [] G (K7 (.bool (H7 t)) G) := by
 refine Tm.ind fun k nm num ty fr lb ks ih G cells hr => ?_
 have hr0 := hr
 have hP := A3G _ G _ hr
 have hI := A43 _ G _ hr
 have hPl := B5b _ G _ hr
 have hy := @A7T k nm num ty fr lb ks
 have hn := @B0N k nm num ty fr lb ks
 rw [show (Tm.mk k nm num ty fr lb ks).k = k from rfl] at hPl
 obtain ⟨A, hA⟩ : ∃ A, ks.all H7 = A := ⟨_, rfl⟩
 rw [hA] at hy
 generalize hpx : prx (.mk k nm num ty fr lb ks) = bp at hP hy hn
 generalize hij : inj (.mk k nm num ty fr lb ks) = bi at hI hy hn
 generalize H7 (.mk k nm num ty fr lb ks) = R at hy hn ⊢
 obtain ⟨tk, tks⟩ := ty
 obtain ⟨fk, fks⟩ := fr
 obtain ⟨pt, ct, pf, cf, p, c, es, rfl, hk, hnum, hlb, hty, hfr, hsl, hkl⟩ := hr.open9
 have hC := B0L G p ks.length c es hsl 147 [] [] [] H7 ks rfl hA (fun i e he => by
  have hx := hkl.inv he I8
  exact B55 _ G e hx.2.len hx.2.one (ih _ hx.1 G e hx.2))
 refine C0 Tryz.func131 rfl Tryz.ntmps131 Tryz.results131 rfl ?_
 intro w0
 refine A4 ?_
 refine sE (B6 rfl rfl) rfl (fun b3 => ?_)
 refine E1 ?_
 refine sB (qE rfl rfl) rfl rfl (fun h12 => ?_) (fun h12 => ?_)
 refine J0 ?_
 refine A2J rfl hC A0S rfl rfl ?_
 refine sQ (A2D rfl) rfl ?_
 refine A9 ?_
 (exact ⟨rfl, by rw [hy (by first | exact .inl zR0 | exact .inr (.inl zO0) | exact .inr (.inr zO0))]; cases A <;> rfl, rfl⟩)
 refine A4 ?_
 refine J5 rfl (hP) rfl rfl (fun h39 => ?_) (fun h39 => ?_)
 refine O3 ?_
 refine A2J rfl hC A0S rfl rfl ?_
 refine sQ (A2D rfl) rfl ?_
 refine A9 ?_
 (exact ⟨rfl, by rw [hy (by first | exact .inl zR0 | exact .inr (.inl zO0) | exact .inr (.inr zO0))]; cases A <;> rfl, rfl⟩)
 refine C1 ?_
 refine J5 rfl (hI) rfl rfl (fun h64 => ?_) (fun h64 => ?_)
 refine E1 ?_
 refine A2J rfl hC A0S rfl rfl ?_
 refine sQ (A2D rfl) rfl ?_
 refine A9 ?_
 (exact ⟨rfl, by rw [hy (by first | exact .inl zR0 | exact .inr (.inl zO0) | exact .inr (.inr zO0))]; cases A <;> rfl, rfl⟩)
 refine E7 ?_
 refine H4 rfl (hPl) rfl rfl ?_
 refine A8 ?_
 (exact ⟨rfl, by rw [hn zR0 zO0 zO0], rfl⟩)
theorem B7.put {G : IM} {k : Int} {nm : ByteArray} {num tk fk lb : Int} {tks fks : List Ty} {us : List Tm} {pt pf p : Option Addr} {ct cf n c : Nat} {es : List (List Value)} (hk : H6 k) (hnum : H6 num) (hlb : H6 lb) (hty : C7 G (.mk tk tks) [.int .i64 tk, .slice pt tks.length ct]) (hfr : C7 G (.mk fk fks) [.int .i64 fk, .slice pf fks.length cf])
  (hn : n = us.length) (hs : D7 G p n c 9 es) (hr : F9 G us es) : B7 G (.mk k nm num (.mk tk tks) (.mk fk fks) lb us) [.int .i64 k, .string nm, .int .i64 num, .int .i64 tk, .slice pt tks.length ct, .int .i64 fk, .slice pf fks.length cf, .int .i64 lb, .slice p n c] := by
 subst hn
 simp only [B7]
 exact ⟨_, _, p, c, es, rfl, hk, hnum, hlb, hty, hfr, hs, hr⟩
theorem nine {uc : List Value} (h : uc.length = 9) : ∃ v1 v2 v3 v4 v5 v6 v7 v8 v9, uc = [v1, v2, v3, v4, v5, v6, v7, v8, v9] := by
 match uc, h with
 | [a, b, c, d, e, f, g, i, j], _ => exact ⟨a, b, c, d, e, f, g, i, j, rfl⟩
theorem A7U {x : ByteArray} {v : Tm} {ks : List Tm} {i : Nat} (h : i < ks.length) : (A0i x v ks).take (i + 1) = (A0i x v ks).take i ++ [A0o x v ks[i]] := by
 rw [A7A, List.take_succ_eq_append_getElem (by rw [List.length_map]; exact h), List.getElem_map]
theorem A2W (x : ByteArray) (v : Tm) (ks : List Tm) : (A0i x v ks).length = ks.length := by rw [A7A, List.length_map]
theorem B56 (y : ByteArray) (v : Tm) (vc : List Value) : ∀ (t : Tm) (G : IM) (cells : List Value), t.small → B7 G t cells → B7 G v vc → Fn Tryz.prog 159 [.agg ⟨cells⟩, .string y, .agg ⟨vc⟩] [] G (TmP (A0o y v t)) := by
 refine Tm.ind fun k nm num ty fr lb ks ih G cells hts hr hv => ?_
 have hr0 := hr
 obtain ⟨_, _, _, hsm, hks⟩ := A37.1 hts
 have hvl := hv.len
 have hvo := hv.one
 have hRl := hr.len
 have hRo := hr.one
 rw [A0o]
 obtain ⟨tk, tks⟩ := ty
 obtain ⟨fk, fks⟩ := fr
 obtain ⟨pt, ct, pf, cf, p, c, es, rfl, hk, hnum, hlb, hty, hfr, hsl, hkl⟩ := hr.open9
 have hn := hsl.le
 refine C0 Tryz.func159 rfl Tryz.ntmps159 Tryz.results159 rfl ?_
 intro w0
 refine A4 ?_
 refine sE (B6 rfl rfl) rfl (fun b3 => ?_)
 refine sE (B6 rfl rfl) rfl (fun b4 => ?_)
 refine sE (A6 rfl) rfl (fun b5 => ?_)
 refine C1 ?_
 refine C2 ?_
 refine B5 ?_
 refine sB (qE rfl rfl) rfl rfl (fun h14 => ?_) (fun h14 => ?_)
 refine B5 ?_
 refine sB (A2F rfl rfl) rfl rfl (fun h19 => ?_) (fun h19 => ?_)
 refine B0 ?_
 refine sL (A5 rfl rfl (B3 zI0) hvl) rfl rfl ?_
 refine sS rfl rfl rfl hvl hvo rfl ?_ (hu := by exact C6 hvl.symm)
 refine A8 ?_
 refine P5 (rC rfl (A5 rfl rfl (B3 zI0) hvl)) ?_
 (rw [if_pos (by refine ⟨by omega, by assumption⟩)]; exact TmP.mk hv)
 refine E7 ?_
 refine sP (D0 rfl rfl zR0) rfl rfl ?_
 refine N3 ?_
 refine sE (A6 rfl) rfl (fun b62 => ?_)
 refine Z8 ?_
 refine C2 ?_
 (refine X1 28 9 ?_; refine L8 (fun (x : Nat × Option Addr × Nat × List (List Value) × IM) => ⟨[(37, .int .i64 x.1), (36, .int .i64 ks.length), (35, .slice p ks.length c), (1, .string y), (3, .pointer (some ⟨b3, 0, none⟩)), (5, .pointer (some ⟨b4, 0, none⟩)), (6, .pointer (some ⟨b5, 0, none⟩)), (7, .pointer (some ⟨b62, 0, none⟩))], [.blk b62 [.int .i64 k, .string nm, .int .i64 num, .int .i64 tk, .slice pt tks.length ct, .int .i64 fk, .slice pf fks.length cf, .int .i64 lb, .slice x.2.1 x.1 x.2.2.1], .slc x.2.1 x.2.2.1 28 9 x.1 x.2.2.2.1.flatten, .blk b5 [.int .i64 0, .string ⟨⟨[]⟩⟩, .int .i64 0, .int .i64 0, .slice none 0 0, .int .i64 0, .slice none 0 0, .int .i64 0, .slice none 0 0], .blk b4 vc, .blk b3 [.int .i64 k, .string nm, .int .i64 num, .int .i64 tk, .slice pt tks.length ct, .int .i64 fk, .slice pf fks.length cf, .int .i64 lb, .slice p ks.length c]], x.2.2.2.2⟩) (fun x => x.1 ≤ ks.length ∧ B9 G x.2.2.2.2 ∧ F9 x.2.2.2.2 ((A0i y v ks).take x.1) x.2.2.2.1) (fun x => ks.length - x.1) (0, none, 0, [], G) ?_ ?_ ?_)
 (simp only [I9]; exact F8)
 (exact ⟨Nat.zero_le _, B9.refl _, by simp [F9]⟩)
 (rintro ⟨i, pn, cn, es', Gi⟩ ⟨hi, hle, hst⟩; simp only [] at hi hle hst ⊢; replace hsl := hsl.mono hle; replace hkl := hkl.mono hle; replace hv := hv.mono hle; replace hty := hty.mono hle; replace hfr := hfr.mono hle; have hsl' := hst.len; rw [List.length_take, A2W] at hsl')
 refine A4 ?_
 refine sB (N5 rfl rfl) rfl rfl (fun h88 => ?_) (fun h88 => ?_)
 refine B0 ?_
 refine C2 ?_
 refine A4 ?_
 (have hil : i < ks.length := zR0; obtain ⟨bx, ox, e, rfl, hl, hat, hre, hgb⟩ := hsl.kidTm hkl (i := i) zR0 zR0; have hel := hre.len; have heo := hre.one; refine sP (B8 (j := i) rfl rfl rfl zR0) rfl rfl ?_)
 refine sL (A5 rfl rfl (hat _) hl) rfl rfl ?_
 refine sE (A6 rfl) rfl (fun b101 => ?_)
 refine sS rfl rfl rfl hel heo rfl ?_ (hu := by exact C6 hel.symm)
 refine A4 ?_
 refine D3 D4 rfl ?_
 refine J3 (i := 2) (l' := [ff,ff,tt,ff,ff,ff,ff,ff,ff,ff]) rfl C8 (A5 rfl rfl (B3 zI0) hel) rfl zP0 rfl rfl ?_
 refine aL 4 rfl (A5 rfl rfl (B3 zI0) hvl) rfl ?_
 refine aP 0 rfl (C3 rfl) rfl ?_
 refine aL 1 rfl (F0 rfl rfl) rfl ?_
 refine aP 3 rfl (qM rfl) rfl ?_
 refine A2 5 ?_
 (refine H1 rfl rfl (ih ks[i] (List.getElem_mem zR0) Gi _ (Tm.smallL_mem hks _ (List.getElem_mem zR0)) hre hv) rfl rfl rfl (fun u G1 hle1 hh => ?_); obtain ⟨uc, rfl, hru⟩ := hh; have hul := hru.len; have huo := hru.one; obtain ⟨v1, v2, v3, v4, v5, v6, v7, v8, v9, rfl⟩ := nine hul)
 refine A2 6 ?_
 (refine D2 rfl (D1 rfl rfl rfl zR0 zL0 rfl) rfl rfl ?_; rintro _ ⟨b114, rfl⟩)
 refine A2 7 ?_
 (refine P0 rfl rfl rfl rfl rfl rfl (fun _ _ => by repeat (first | exact Sw.here | apply Sw.there)) (K4 zI0) rfl (fun u hu => List.all_eq_true.1 huo u hu) zL0 zR0 rfl rfl zK (fun p7 c7 => ?_))
 refine aP 8 rfl (C3 rfl) rfl ?_
 refine A2 9 ?_
 refine T7 rfl rfl rfl rfl rfl rfl rfl rfl zM0 zF0 (by rfl) ?_
 refine B5 ?_
 refine sP (K0 rfl rfl zR0 zR0) rfl rfl ?_
 refine A4 ?_
 refine J7 (i + 1, p7, c7, es' ++ [[v1, v2, v3, v4, v5, v6, v7, v8, v9]], G1) ?_ ?_ ?_
 (simp only [I9]; exact F8)
 (dsimp only; exact ⟨by omega, hle.trans hle1, by rw [A7U zR0]; exact F9.snoc (hst.mono hle1) hru⟩)
 (show ks.length - (i + 1) < ks.length - i; omega)
 exact y108
 refine M8 ?_
 refine sB (qE rfl rfl) rfl rfl (fun h164 => ?_) (fun h164 => ?_)
 refine B5 ?_
 refine sB (A2F rfl rfl) rfl rfl (fun h169 => ?_) (fun h169 => ?_)
 refine M8 ?_
 refine P5 (rC rfl (A3 rfl rfl)) ?_
 (rw [if_neg (by rintro ⟨h1, h2⟩; first | omega | contradiction), if_pos (by refine ⟨by omega, by assumption⟩)]; exact TmP.mk hr0)
 refine M7 ?_
 refine sE (A6 rfl) rfl (fun b197 => ?_)
 refine Z8 ?_
 refine C2 ?_
 (refine X1 28 9 ?_; refine L8 (fun (x : Nat × Option Addr × Nat × List (List Value) × IM) => ⟨[(37, .int .i64 x.1), (36, .int .i64 ks.length), (35, .slice p ks.length c), (1, .string y), (3, .pointer (some ⟨b3, 0, none⟩)), (5, .pointer (some ⟨b4, 0, none⟩)), (6, .pointer (some ⟨b5, 0, none⟩)), (7, .pointer (some ⟨b197, 0, none⟩))], [.blk b197 [.int .i64 k, .string nm, .int .i64 num, .int .i64 tk, .slice pt tks.length ct, .int .i64 fk, .slice pf fks.length cf, .int .i64 lb, .slice x.2.1 x.1 x.2.2.1], .slc x.2.1 x.2.2.1 28 9 x.1 x.2.2.2.1.flatten, .blk b5 [.int .i64 0, .string ⟨⟨[]⟩⟩, .int .i64 0, .int .i64 0, .slice none 0 0, .int .i64 0, .slice none 0 0, .int .i64 0, .slice none 0 0], .blk b4 vc, .blk b3 [.int .i64 k, .string nm, .int .i64 num, .int .i64 tk, .slice pt tks.length ct, .int .i64 fk, .slice pf fks.length cf, .int .i64 lb, .slice p ks.length c]], x.2.2.2.2⟩) (fun x => x.1 ≤ ks.length ∧ B9 G x.2.2.2.2 ∧ F9 x.2.2.2.2 ((A0i y v ks).take x.1) x.2.2.2.1) (fun x => ks.length - x.1) (0, none, 0, [], G) ?_ ?_ ?_)
 (simp only [I9]; exact F8)
 (exact ⟨Nat.zero_le _, B9.refl _, by simp [F9]⟩)
 (rintro ⟨i, pn, cn, es', Gi⟩ ⟨hi, hle, hst⟩; simp only [] at hi hle hst ⊢; replace hsl := hsl.mono hle; replace hkl := hkl.mono hle; replace hv := hv.mono hle; replace hty := hty.mono hle; replace hfr := hfr.mono hle; have hsl' := hst.len; rw [List.length_take, A2W] at hsl')
 refine A4 ?_
 refine sB (N5 rfl rfl) rfl rfl (fun h223 => ?_) (fun h223 => ?_)
 refine B0 ?_
 refine C2 ?_
 refine A4 ?_
 (have hil : i < ks.length := zR0; obtain ⟨bx, ox, e, rfl, hl, hat, hre, hgb⟩ := hsl.kidTm hkl (i := i) zR0 zR0; have hel := hre.len; have heo := hre.one; refine sP (B8 (j := i) rfl rfl rfl zR0) rfl rfl ?_)
 refine sL (A5 rfl rfl (hat _) hl) rfl rfl ?_
 refine sE (A6 rfl) rfl (fun b236 => ?_)
 refine sS rfl rfl rfl hel heo rfl ?_ (hu := by exact C6 hel.symm)
 refine A4 ?_
 refine D3 D4 rfl ?_
 refine J3 (i := 2) (l' := [ff,ff,tt,ff,ff,ff,ff,ff,ff,ff]) rfl C8 (A5 rfl rfl (B3 zI0) hel) rfl zP0 rfl rfl ?_
 refine aL 4 rfl (A5 rfl rfl (B3 zI0) hvl) rfl ?_
 refine aP 0 rfl (C3 rfl) rfl ?_
 refine aL 1 rfl (F0 rfl rfl) rfl ?_
 refine aP 3 rfl (qM rfl) rfl ?_
 refine A2 5 ?_
 (refine H1 rfl rfl (ih ks[i] (List.getElem_mem zR0) Gi _ (Tm.smallL_mem hks _ (List.getElem_mem zR0)) hre hv) rfl rfl rfl (fun u G1 hle1 hh => ?_); obtain ⟨uc, rfl, hru⟩ := hh; have hul := hru.len; have huo := hru.one; obtain ⟨v1, v2, v3, v4, v5, v6, v7, v8, v9, rfl⟩ := nine hul)
 refine A2 6 ?_
 (refine D2 rfl (D1 rfl rfl rfl zR0 zL0 rfl) rfl rfl ?_; rintro _ ⟨b249, rfl⟩)
 refine A2 7 ?_
 (refine P0 rfl rfl rfl rfl rfl rfl (fun _ _ => by repeat (first | exact Sw.here | apply Sw.there)) (K4 zI0) rfl (fun u hu => List.all_eq_true.1 huo u hu) zL0 zR0 rfl rfl zK (fun p7 c7 => ?_))
 refine aP 8 rfl (C3 rfl) rfl ?_
 refine A2 9 ?_
 refine T7 rfl rfl rfl rfl rfl rfl rfl rfl zM0 zF0 (by rfl) ?_
 refine B5 ?_
 refine sP (K0 rfl rfl zR0 zR0) rfl rfl ?_
 refine A4 ?_
 refine J7 (i + 1, p7, c7, es' ++ [[v1, v2, v3, v4, v5, v6, v7, v8, v9]], G1) ?_ ?_ ?_
 (simp only [I9]; exact F8)
 (dsimp only; exact ⟨by omega, hle.trans hle1, by rw [A7U zR0]; exact F9.snoc (hst.mono hle1) hru⟩)
 (show ks.length - (i + 1) < ks.length - i; omega)
 exact y108
 refine N3 ?_
 refine sE (A6 rfl) rfl (fun b301 => ?_)
 refine Z8 ?_
 refine C2 ?_
 (refine X1 28 9 ?_; refine L8 (fun (x : Nat × Option Addr × Nat × List (List Value) × IM) => ⟨[(37, .int .i64 x.1), (36, .int .i64 ks.length), (35, .slice p ks.length c), (1, .string y), (3, .pointer (some ⟨b3, 0, none⟩)), (5, .pointer (some ⟨b4, 0, none⟩)), (6, .pointer (some ⟨b5, 0, none⟩)), (7, .pointer (some ⟨b301, 0, none⟩))], [.blk b301 [.int .i64 k, .string nm, .int .i64 num, .int .i64 tk, .slice pt tks.length ct, .int .i64 fk, .slice pf fks.length cf, .int .i64 lb, .slice x.2.1 x.1 x.2.2.1], .slc x.2.1 x.2.2.1 28 9 x.1 x.2.2.2.1.flatten, .blk b5 [.int .i64 0, .string ⟨⟨[]⟩⟩, .int .i64 0, .int .i64 0, .slice none 0 0, .int .i64 0, .slice none 0 0, .int .i64 0, .slice none 0 0], .blk b4 vc, .blk b3 [.int .i64 k, .string nm, .int .i64 num, .int .i64 tk, .slice pt tks.length ct, .int .i64 fk, .slice pf fks.length cf, .int .i64 lb, .slice p ks.length c]], x.2.2.2.2⟩) (fun x => x.1 ≤ ks.length ∧ B9 G x.2.2.2.2 ∧ F9 x.2.2.2.2 ((A0i y v ks).take x.1) x.2.2.2.1) (fun x => ks.length - x.1) (0, none, 0, [], G) ?_ ?_ ?_)
 (simp only [I9]; exact F8)
 (exact ⟨Nat.zero_le _, B9.refl _, by simp [F9]⟩)
 (rintro ⟨i, pn, cn, es', Gi⟩ ⟨hi, hle, hst⟩; simp only [] at hi hle hst ⊢; replace hsl := hsl.mono hle; replace hkl := hkl.mono hle; replace hv := hv.mono hle; replace hty := hty.mono hle; replace hfr := hfr.mono hle; have hsl' := hst.len; rw [List.length_take, A2W] at hsl')
 refine A4 ?_
 refine sB (N5 rfl rfl) rfl rfl (fun h327 => ?_) (fun h327 => ?_)
 refine B0 ?_
 refine C2 ?_
 refine A4 ?_
 (have hil : i < ks.length := zR0; obtain ⟨bx, ox, e, rfl, hl, hat, hre, hgb⟩ := hsl.kidTm hkl (i := i) zR0 zR0; have hel := hre.len; have heo := hre.one; refine sP (B8 (j := i) rfl rfl rfl zR0) rfl rfl ?_)
 refine sL (A5 rfl rfl (hat _) hl) rfl rfl ?_
 refine sE (A6 rfl) rfl (fun b340 => ?_)
 refine sS rfl rfl rfl hel heo rfl ?_ (hu := by exact C6 hel.symm)
 refine A4 ?_
 refine D3 D4 rfl ?_
 refine J3 (i := 2) (l' := [ff,ff,tt,ff,ff,ff,ff,ff,ff,ff]) rfl C8 (A5 rfl rfl (B3 zI0) hel) rfl zP0 rfl rfl ?_
 refine aL 4 rfl (A5 rfl rfl (B3 zI0) hvl) rfl ?_
 refine aP 0 rfl (C3 rfl) rfl ?_
 refine aL 1 rfl (F0 rfl rfl) rfl ?_
 refine aP 3 rfl (qM rfl) rfl ?_
 refine A2 5 ?_
 (refine H1 rfl rfl (ih ks[i] (List.getElem_mem zR0) Gi _ (Tm.smallL_mem hks _ (List.getElem_mem zR0)) hre hv) rfl rfl rfl (fun u G1 hle1 hh => ?_); obtain ⟨uc, rfl, hru⟩ := hh; have hul := hru.len; have huo := hru.one; obtain ⟨v1, v2, v3, v4, v5, v6, v7, v8, v9, rfl⟩ := nine hul)
 refine A2 6 ?_
 (refine D2 rfl (D1 rfl rfl rfl zR0 zL0 rfl) rfl rfl ?_; rintro _ ⟨b353, rfl⟩)
 refine A2 7 ?_
 (refine P0 rfl rfl rfl rfl rfl rfl (fun _ _ => by repeat (first | exact Sw.here | apply Sw.there)) (K4 zI0) rfl (fun u hu => List.all_eq_true.1 huo u hu) zL0 zR0 rfl rfl zK (fun p7 c7 => ?_))
 refine aP 8 rfl (C3 rfl) rfl ?_
 refine A2 9 ?_
 refine T7 rfl rfl rfl rfl rfl rfl rfl rfl zM0 zF0 (by rfl) ?_
 refine B5 ?_
 refine sP (K0 rfl rfl zR0 zR0) rfl rfl ?_
 refine A4 ?_
 refine J7 (i + 1, p7, c7, es' ++ [[v1, v2, v3, v4, v5, v6, v7, v8, v9]], G1) ?_ ?_ ?_
 (simp only [I9]; exact F8)
 (dsimp only; exact ⟨by omega, hle.trans hle1, by rw [A7U zR0]; exact F9.snoc (hst.mono hle1) hru⟩)
 (show ks.length - (i + 1) < ks.length - i; omega)
 exact y108
theorem A2t (e : Tm) (a b : Ty) (l : Int) (G : IM) (ce ca cb : List Value) (hl : H6 l) (he : B7 G e ce) (ha : C7 G a ca) (hb : C7 G b cb) : Fn Tryz.prog 161 [.agg ⟨ce⟩, .agg ⟨ca⟩, .agg ⟨cb⟩, .int .i64 l] [] G (TmP (S5 e a b l)) := by
 have hel := he.len
 have heo := he.one
 obtain ⟨v1, v2, v3, v4, v5, v6, v7, v8, v9, rfl⟩ := nine hel
 obtain ⟨ak, aks⟩ := a
 obtain ⟨bk, bks⟩ := b
 obtain ⟨pa, cca, ea, rfl, _⟩ := ha.open
 obtain ⟨pb, ccb, eb, rfl, _⟩ := hb.open
 refine C0 Tryz.func161 rfl Tryz.ntmps161 Tryz.results161 rfl ?_
 intro w0
 refine A4 ?_
 refine sE (B6 rfl rfl) rfl (fun b3 => ?_)
 refine sE (B6 rfl rfl) rfl (fun b4 => ?_)
 refine sE (B6 rfl rfl) rfl (fun b5 => ?_)
 refine sE (A6 rfl) rfl (fun b6 => ?_)
 refine B5 ?_
 refine sL (A5 rfl rfl (B3 zI0) rfl) rfl rfl ?_
 refine sL (A5 rfl rfl (B3 zI0) rfl) rfl rfl ?_
 refine D8 ?_
 refine sL (A5 rfl rfl (B3 zI0) rfl) rfl rfl ?_
 (refine J8 (D1 rfl rfl rfl zR0 zL0 rfl) rfl ?_; rintro _ ⟨b15, rfl⟩)
 refine B5 ?_
 (refine J6 (cs := [v1, v2, v3, v4, v5, v6, v7, v8, v9]) zD0 (fun G2 hle2 hsl2 hno2 => ?_))
 refine tT ?_
 refine P5 (rC rfl (A3 rfl rfl)) ?_
 (exact TmP.mk (B7.put (us := [e]) (es := [[v1, v2, v3, v4, v5, v6, v7, v8, v9]]) ⟨by decide, by decide⟩ ⟨by decide, by decide⟩ hl (hb.mono hle2) (ha.mono hle2) rfl (D7.of hsl2 rfl (by intro x hx; obtain rfl := List.mem_singleton.1 hx; rfl) (by intro x hx; obtain rfl := List.mem_singleton.1 hx; exact heo)) (by simp only [F9]; exact ⟨_, _, rfl, he.mono hle2, rfl⟩)))
theorem A4h (k : Int) (p : Option Addr) (n c : Nat) (G : IM) : Fn Tryz.prog 162 [.int .i64 k, .slice p n c] [] G (K7 (.agg ⟨[.int .i64 k, .string ⟨⟨[]⟩⟩, .int .i64 0, .int .i64 0, .slice none 0 0, .int .i64 0, .slice none 0 0, .int .i64 0, .slice p n c]⟩) G) := by
 refine C0 Tryz.func162 rfl Tryz.ntmps162 Tryz.results162 rfl ?_
 intro w0
 refine A4 ?_
 refine sE (A6 rfl) rfl (fun b3 => ?_)
 refine M7 ?_
 refine P5 (rC rfl (A3 rfl rfl)) ?_
 (exact ⟨rfl, rfl, rfl⟩)
theorem B0O (G : IM) {k : Int} (hk : H6 k) : B7 G (A1K k []) [.int .i64 k, .string ⟨⟨[]⟩⟩, .int .i64 0, .int .i64 0, .slice none 0 0, .int .i64 0, .slice none 0 0, .int .i64 0, .slice none 0 0] := A42 hk rfl (D7.nil _ _) rfl
theorem B57 (G : IM) : Fn Tryz.prog 160 [.bool true] [] G (TmP (A1L (true = true))) := by
 refine C0 Tryz.func160 rfl Tryz.ntmps160 Tryz.results160 rfl ?_
 intro w0
 refine A4 ?_
 refine sE (A6 rfl) rfl (fun b3 => ?_)
 refine M7 ?_
 refine H4 rfl ((A4h _ _ _ _ _)) rfl rfl ?_
 refine A8 ?_
 refine P5 (rC rfl (A3 rfl rfl)) ?_
 (exact TmP.mk (B0O _ ⟨by decide, by decide⟩))
theorem B58 (G : IM) : Fn Tryz.prog 160 [.bool false] [] G (TmP (A1L (false = true))) := by
 refine C0 Tryz.func160 rfl Tryz.ntmps160 Tryz.results160 rfl ?_
 intro w0
 refine A4 ?_
 refine sE (A6 rfl) rfl (fun b3 => ?_)
 refine N0 ?_
 refine H4 rfl ((A4h _ _ _ _ _)) rfl rfl ?_
 refine B5 ?_
 refine P5 (rC rfl (A3 rfl rfl)) ?_
 (exact TmP.mk (B0O _ ⟨by decide, by decide⟩))
theorem B0P (b : Bool) (G : IM) : Fn Tryz.prog 160 [.bool b] [] G (TmP (A1L (b = true))) := by
 cases b
 ·exact B58 G
 ·exact B57 G
theorem B59 {a b : Int} (h : 0 ≤ a ∧ a ≤ 999) (h' : 0 ≤ b ∧ b ≤ 999) : (a + b).tmod 1000 = (a + b) % 1000 := by
 rw [Int.tmod_eq_emod_of_nonneg zR0]
def W9 (k : Int) (ks : List Tm) : Option Tm :=
 if k = 6 then (if (kd ks 0).k = 5 then some (A0o (kd ks 0).nm (kd ks 1) (kd (kd ks 0).ks 0)) else none)
 else if k = 7 ∨ k = 8 then (if (kd ks 0).k = 2 ∧ (kd ks 1).k = 2 then some (if k = 7 then A52 (((kd ks 0).num + (kd ks 1).num) % 1000) else A1L ((kd ks 0).num < (kd ks 1).num)) else none)
 else if k = 9 then (if (kd ks 0).k = 3 then some (kd ks 1) else if (kd ks 0).k = 4 then some (kd ks 2) else none)
 else if k = 11 ∨ k = 12 then (if (kd ks 0).k = 10 then some (kd (kd ks 0).ks (k - 11).toNat) else none)
 else none
def V5 (o : Option Tm) : IM → Value → List A7 → Prop := N8 fun G' v => ∃ u cells c, v = .tuple ⟨[.agg ⟨cells⟩, .int .i64 c]⟩ ∧ B7 G' u cells ∧ (∀ x, o = some x → c = 1 ∧ u = x) ∧ (o = none → c = 3)
theorem V5.yes {G : IM} {o : Option Tm} {u : Tm} {cells : List Value} (h : o = some u) (hr : B7 G u cells) : V5 o G (.tuple ⟨[.agg ⟨cells⟩, .int .i64 1]⟩) [] := by
 subst h; exact ⟨rfl, u, cells, 1, rfl, hr, fun x hx => (by cases hx; exact ⟨rfl, rfl⟩), fun h => (by cases h)⟩
theorem V5.no {G : IM} {o : Option Tm} {u : Tm} {cells : List Value} (h : o = none) (hr : B7 G u cells) : V5 o G (.tuple ⟨[.agg ⟨cells⟩, .int .i64 3]⟩) [] := by
 subst h; exact ⟨rfl, u, cells, 3, rfl, hr, fun x hx => (by cases hx), fun _ => rfl⟩
theorem R7 (G : IM) : B7 G I8 [.int .i64 0, .string ⟨⟨[]⟩⟩, .int .i64 0, .int .i64 0, .slice none 0 0, .int .i64 0, .slice none 0 0, .int .i64 0, .slice none 0 0] := (Q3.zero G).R
theorem B6a (a b : Tm) (nm : ByteArray) (num : Int) (ty fr : Ty) (lb : Int) (G : IM) (cells : List Value) (hca : cv a) (hr : B7 G (.mk 6 nm num ty fr lb [a, b]) cells) : Fn Tryz.prog 151 [.agg ⟨cells⟩] [] G (V5 (W9 6 [a, b])) := by
 have hsm := A4Z a hca
 obtain ⟨ak, anm, anum, ⟨atk, atks⟩, ⟨afk, afks⟩, alb, aks⟩ := a
 obtain ⟨tk, tks⟩ := ty
 obtain ⟨fk, fks⟩ := fr
 obtain ⟨pt, ct, pf, cf, p, c, es, rfl, hk, hnum, hlb, hty, hfr, hsl, hkl⟩ := hr.open9
 obtain ⟨bx, ox, e0, rfl, hl0, hat0, hre0, hgb0⟩ := hsl.kidTm hkl (i := 0) zS0 zS0
 replace hre0 : B7 G (.mk ak anm anum (.mk atk atks) (.mk afk afks) alb aks) e0 := hre0
 obtain ⟨apt, act, apf, acf, ap, ac, aes, rfl, hak, hanum, halb, haty, hafr, hasl, hakl⟩ := hre0.open9
 obtain ⟨_, _, e1, hp1, hl1, hat1, hre1, hgb1⟩ := hsl.kidTm hkl (i := 1) zS0 zS0
 cases hp1
 replace hre1 : B7 G b e1 := hre1
 have ho1 := hre1.one
 obtain ⟨hN, _⟩ := hca.node
 have hops := hN.ops
 obtain ⟨_, _, _, _, hksm⟩ := A37.1 hsm
 have h1 : ak = 5 → aks.length = 1 := fun h => by rw [h] at hops; have : E8 5 = 1 := rfl; omega
 have hL : ([Tm.mk ak anm anum (.mk atk atks) (.mk afk afks) alb aks, b] : List Tm).length = 2 := rfl
 rw [show W9 6 [Tm.mk ak anm anum (.mk atk atks) (.mk afk afks) alb aks, b] = (if ak = 5 then some (A0o anm b (kd aks 0)) else none) from rfl]
 refine C0 Tryz.func151 rfl Tryz.ntmps151 Tryz.results151 rfl ?_
 intro w0
 refine A4 ?_
 refine sE (B6 rfl rfl) rfl (fun b3 => ?_)
 refine sE (A6 rfl) rfl (fun b4 => ?_)
 refine A9 ?_
 refine sE (A6 rfl) rfl (fun b11 => ?_)
 refine E7 ?_
 refine sP (A4C rfl rfl zR0) rfl rfl ?_
 refine A9 ?_
 refine sP (B8 (j := 0) rfl rfl rfl zS0) rfl rfl ?_
 refine sL (A5 rfl rfl (hat0 _) rfl) rfl rfl ?_
 refine J2 ?_
 refine C2 ?_
 refine A4 ?_
 refine sP (O1 rfl rfl zR0) rfl rfl ?_
 refine E1 ?_
 refine sB (qE rfl rfl) rfl rfl (fun h52 => ?_) (fun h52 => ?_)
 refine B5 ?_
 (have hq : ak = 5 := zR0; have hq1 := h1 hq; obtain ⟨bq, oq, e3, rfl, hl3, hat3, hre3, hgb3⟩ := hasl.kidTm hakl (i := 0) zR0 zR0; have hS := B56 anm b e1 aks[0] G e3 (Tm.smallL_mem hksm _ (List.getElem_mem zR0)) hre3 hre1; refine D3 D4 rfl ?_)
 refine J4 (i := 0) (l' := [tt,ff,ff,ff,ff,ff,ff,ff,ff,ff,ff,ff,ff]) rfl C8 (C3 rfl) rfl zP0 rfl rfl ?_
 refine aL 1 rfl (F0 rfl rfl) rfl ?_
 refine aP 2 rfl (B8 (j := 0) rfl rfl rfl zR0) rfl ?_
 refine aL 3 rfl (A5 rfl rfl (hat3 _) hl3) rfl ?_
 refine aP 4 rfl (C3 rfl) rfl ?_
 refine aL 5 rfl (F0 rfl rfl) rfl ?_
 refine aP 6 rfl (C3 rfl) rfl ?_
 refine aL 7 rfl (F0 rfl rfl) rfl ?_
 refine aP 8 rfl (B8 (j := 1) rfl rfl rfl zS0) rfl ?_
 refine aL 9 rfl (A5 rfl rfl (hat1 _) hl1) rfl ?_
 refine A2 10 ?_
 (refine H1 rfl rfl hS rfl rfl rfl (fun u G1 hle1 hh => ?_); obtain ⟨uc, rfl, hru⟩ := hh; have hul := hru.len; have huo := hru.one)
 refine A2 11 ?_
 (refine oS rfl rfl rfl rfl hul huo rfl rfl ?_ (hu := by exact C6 hul.symm))
 refine aP 12 rfl (qA rfl) rfl ?_
 refine A8 ?_
 refine H3 (rC rfl (A5 rfl rfl (B3 zI0) hul)) (rT rfl) ?_
 (exact V5.yes (by rw [if_pos zR0]; unfold kd; rw [List.getD_eq_getElem?_getD, List.getElem?_eq_getElem zR0, Option.getD_some]) hru)
 refine M8 ?_
 exact y113
theorem B0Q (k : Int) (a b : Tm) (nm : ByteArray) (num : Int) (ty fr : Ty) (lb : Int) (G : IM) (cells : List Value) (hk78 : k = 7 ∨ k = 8) (hca : cv a) (hcb : cv b) (hr : B7 G (.mk k nm num ty fr lb [a, b]) cells) : Fn Tryz.prog 151 [.agg ⟨cells⟩] [] G (V5 (W9 k [a, b])) := by
 obtain ⟨ak, anm, anum, ⟨atk, atks⟩, ⟨afk, afks⟩, alb, aks⟩ := a
 obtain ⟨tk, tks⟩ := ty
 obtain ⟨fk, fks⟩ := fr
 obtain ⟨pt, ct, pf, cf, p, c, es, rfl, hk, hnum, hlb, hty, hfr, hsl, hkl⟩ := hr.open9
 obtain ⟨bx, ox, e0, rfl, hl0, hat0, hre0, hgb0⟩ := hsl.kidTm hkl (i := 0) zS0 zS0
 replace hre0 : B7 G (.mk ak anm anum (.mk atk atks) (.mk afk afks) alb aks) e0 := hre0
 obtain ⟨apt, act, apf, acf, ap, ac, aes, rfl, hak, hanum, halb, haty, hafr, hasl, hakl⟩ := hre0.open9
 obtain ⟨bk, bnm, bnum, ⟨btk, btks⟩, ⟨bfk, bfks⟩, blb, bks⟩ := b
 obtain ⟨_, _, e1, hp1, hl1, hat1, hre1, hgb1⟩ := hsl.kidTm hkl (i := 1) zS0 zS0
 cases hp1
 replace hre1 : B7 G (.mk bk bnm bnum (.mk btk btks) (.mk bfk bfks) blb bks) e1 := hre1
 obtain ⟨bpt, bct, bpf, bcf, bp, bc, bes, rfl, hbk, hbnum, hblb, hbty, hbfr, hbsl, hbkl⟩ := hre1.open9
 obtain ⟨hN, _⟩ := hca.node
 obtain ⟨hM, _⟩ := hcb.node
 obtain ⟨hn1, hn2⟩ := hN.num0
 obtain ⟨hm1, hm2⟩ := hM.num0
 have hL : ([Tm.mk ak anm anum (.mk atk atks) (.mk afk afks) alb aks, Tm.mk bk bnm bnum (.mk btk btks) (.mk bfk bfks) blb bks] : List Tm).length = 2 := rfl
 have hR : W9 k [Tm.mk ak anm anum (.mk atk atks) (.mk afk afks) alb aks, Tm.mk bk bnm bnum (.mk btk btks) (.mk bfk bfks) blb bks] = (if ak = 2 ∧ bk = 2 then some (if k = 7 then A52 ((anum + bnum) % 1000) else A1L (anum < bnum)) else none) := by
  unfold W9; rw [if_neg zR0, if_pos hk78]; rfl
 rw [hR]
 have htm : (anum + bnum).tmod 1000 = (anum + bnum) % 1000 := B59 ⟨hn1, hn2⟩ ⟨hm1, hm2⟩
 have hb : H6 ((anum + bnum) % 1000) := ⟨by omega, by omega⟩
 refine C0 Tryz.func151 rfl Tryz.ntmps151 Tryz.results151 rfl ?_
 intro w0
 refine A4 ?_
 refine sE (B6 rfl rfl) rfl (fun b3 => ?_)
 refine sE (A6 rfl) rfl (fun b4 => ?_)
 refine A9 ?_
 refine sE (A6 rfl) rfl (fun b11 => ?_)
 refine E7 ?_
 refine sP (A4C rfl rfl zR0) rfl rfl ?_
 refine A9 ?_
 refine sP (B8 (j := 0) rfl rfl rfl zS0) rfl rfl ?_
 refine sL (A5 rfl rfl (hat0 _) rfl) rfl rfl ?_
 refine J2 ?_
 refine C2 ?_
 refine A4 ?_
 refine sP (D0 rfl rfl zR0) rfl rfl ?_
 refine B0 ?_
 refine sB (qE rfl rfl) rfl rfl (fun h51 => ?_) (fun h51 => ?_)
 refine M7 ?_
 refine sP (B8 (j := 1) rfl rfl rfl zS0) rfl rfl ?_
 refine sL (A5 rfl rfl (hat1 _) rfl) rfl rfl ?_
 refine sE (A6 rfl) rfl (fun b65 => ?_)
 refine C1 ?_
 refine C2 ?_
 refine B5 ?_
 refine sB (U3 rfl rfl) rfl rfl (fun h74 => ?_) (fun h74 => ?_)
 refine Z0 ?_
 exact y113
 refine C1 ?_
 refine sB (U3 rfl rfl) rfl rfl (fun h101 => ?_) (fun h101 => ?_)
 refine V0 ?_
 exact y113
 refine E7 ?_
 refine sP (O1 rfl rfl zR0) rfl rfl ?_
 refine J2 ?_
 refine sP (K0 rfl rfl zR0 zR0) rfl rfl ?_
 refine sP (A5u rfl rfl zR0) rfl rfl ?_
 refine D8 ?_
 (rw [htm]; refine sS' ?_)
 refine B0 ?_
 refine H3 (rC rfl (A3 rfl rfl)) (rT rfl) ?_
 (exact V5.yes (u := A52 (HMod.hMod (anum + bnum) 1000)) (by rw [if_pos ⟨by omega, by omega⟩, if_pos zR0]) (B7.put (us := []) ⟨by decide, by decide⟩ hb ⟨by decide, by decide⟩ (A25 _) (A25 _) rfl (D7.nil _ _) rfl))
 refine A8 ?_
 refine sP (O1 rfl rfl zR0) rfl rfl ?_
 refine E1 ?_
 refine sP (B8 (j := 1) rfl rfl rfl zS0) rfl rfl ?_
 refine sL (A5 rfl rfl (hat1 _) rfl) rfl rfl ?_
 refine sE (A6 rfl) rfl (fun b170 => ?_)
 refine C1 ?_
 refine C2 ?_
 refine B5 ?_
 refine sB (U3 rfl rfl) rfl rfl (fun h179 => ?_) (fun h179 => ?_)
 refine Z0 ?_
 exact y113
 refine C1 ?_
 refine sB (U3 rfl rfl) rfl rfl (fun h206 => ?_) (fun h206 => ?_)
 refine V0 ?_
 exact y113
 refine E7 ?_
 refine sP (D0 rfl rfl zR0) rfl rfl ?_
 refine J2 ?_
 (refine sB (N5 rfl rfl) rfl rfl (fun h246 => ?_) (fun h246 => ?_))
 (refine F4 rfl (B0P _ _) rfl rfl (fun u G1 hle1 hh => ?_); obtain ⟨uc, rfl, hru⟩ := hh; have hul := hru.len; have huo := hru.one)
 refine sS rfl rfl rfl hul huo rfl ?_ (hu := by exact C6 hul.symm)
 refine B0 ?_
 refine H3 (rC rfl (A5 rfl rfl (B3 zI0) hul)) (rT rfl) ?_
 (exact V5.yes (by rw [if_pos ⟨by omega, by omega⟩, if_neg zR0]; unfold A1L; rw [if_pos zR0, if_pos rfl]) hru)
 (refine F4 rfl (B0P _ _) rfl rfl (fun u G1 hle1 hh => ?_); obtain ⟨uc, rfl, hru⟩ := hh; have hul := hru.len; have huo := hru.one)
 refine sS rfl rfl rfl hul huo rfl ?_ (hu := by exact C6 hul.symm)
 refine B0 ?_
 refine H3 (rC rfl (A5 rfl rfl (B3 zI0) hul)) (rT rfl) ?_
 (exact V5.yes (by rw [if_pos ⟨by omega, by omega⟩, if_neg zR0]; unfold A1L; rw [if_neg zR0, if_neg zQ0]) hru)
theorem B6b (a b c0 : Tm) (nm : ByteArray) (num : Int) (ty fr : Ty) (lb : Int) (G : IM) (cells : List Value) (hr : B7 G (.mk 9 nm num ty fr lb [a, b, c0]) cells) : Fn Tryz.prog 151 [.agg ⟨cells⟩] [] G (V5 (W9 9 [a, b, c0])) := by
 obtain ⟨ak, anm, anum, ⟨atk, atks⟩, ⟨afk, afks⟩, alb, aks⟩ := a
 obtain ⟨tk, tks⟩ := ty
 obtain ⟨fk, fks⟩ := fr
 obtain ⟨pt, ct, pf, cf, p, c, es, rfl, hk, hnum, hlb, hty, hfr, hsl, hkl⟩ := hr.open9
 obtain ⟨bx, ox, e0, rfl, hl0, hat0, hre0, hgb0⟩ := hsl.kidTm hkl (i := 0) zS0 zS0
 replace hre0 : B7 G (.mk ak anm anum (.mk atk atks) (.mk afk afks) alb aks) e0 := hre0
 obtain ⟨apt, act, apf, acf, ap, ac, aes, rfl, hak, hanum, halb, haty, hafr, hasl, hakl⟩ := hre0.open9
 obtain ⟨_, _, e1, hp1, hl1, hat1, hre1, hgb1⟩ := hsl.kidTm hkl (i := 1) zS0 zS0
 cases hp1
 replace hre1 : B7 G b e1 := hre1
 have ho1 := hre1.one
 obtain ⟨_, _, e2, hp2, hl2, hat2, hre2, hgb2⟩ := hsl.kidTm hkl (i := 2) zS0 zS0
 cases hp2
 replace hre2 : B7 G c0 e2 := hre2
 have ho2 := hre2.one
 have hL : ([Tm.mk ak anm anum (.mk atk atks) (.mk afk afks) alb aks, b, c0] : List Tm).length = 3 := rfl
 rw [show W9 9 [Tm.mk ak anm anum (.mk atk atks) (.mk afk afks) alb aks, b, c0] = (if ak = 3 then some b else if ak = 4 then some c0 else none) from rfl]
 refine C0 Tryz.func151 rfl Tryz.ntmps151 Tryz.results151 rfl ?_
 intro w0
 refine A4 ?_
 refine sE (B6 rfl rfl) rfl (fun b3 => ?_)
 refine sE (A6 rfl) rfl (fun b4 => ?_)
 refine A9 ?_
 refine sE (A6 rfl) rfl (fun b11 => ?_)
 refine E7 ?_
 refine sP (A4C rfl rfl zR0) rfl rfl ?_
 refine A9 ?_
 refine sP (B8 (j := 0) rfl rfl rfl zS0) rfl rfl ?_
 refine sL (A5 rfl rfl (hat0 _) rfl) rfl rfl ?_
 refine J2 ?_
 refine C2 ?_
 refine A4 ?_
 refine sP (D0 rfl rfl zR0) rfl rfl ?_
 refine B0 ?_
 refine sP (D0 rfl rfl zR0) rfl rfl ?_
 refine A8 ?_
 refine sP (D0 rfl rfl zR0) rfl rfl ?_
 refine A9 ?_
 refine sP (O1 rfl rfl zR0) rfl rfl ?_
 refine J2 ?_
 refine C2 (tS (tR (sB (qE rfl rfl) rfl rfl (fun h78 => ?_) (fun h78 => ?_))))
 refine E1 ?_
 refine sP (B8 (j := 1) rfl rfl rfl zS0) rfl rfl ?_
 refine sL (A5 rfl rfl (hat1 _) hl1) rfl rfl ?_
 refine sS rfl rfl rfl hl1 ho1 rfl ?_ (hu := by exact C6 hl1.symm)
 refine B0 ?_
 refine H3 (rC rfl (A5 rfl rfl (B3 zI0) hl1)) (rT rfl) ?_
 (exact V5.yes (by rw [if_pos zR0]) hre1)
 refine A9 ?_
 refine sB (qE rfl rfl) rfl rfl (fun h105 => ?_) (fun h105 => ?_)
 refine E1 ?_
 refine sP (B8 (j := 2) rfl rfl rfl zS0) rfl rfl ?_
 refine sL (A5 rfl rfl (hat2 _) hl2) rfl rfl ?_
 refine sS rfl rfl rfl hl2 ho2 rfl ?_ (hu := by exact C6 hl2.symm)
 refine B0 ?_
 refine H3 (rC rfl (A5 rfl rfl (B3 zI0) hl2)) (rT rfl) ?_
 (exact V5.yes (by rw [if_neg zR0, if_pos zR0]) hre2)
 refine N3 ?_
 refine H3 (rC rfl (A3 rfl rfl)) (rT rfl) ?_
 (exact V5.no (by rw [if_neg zR0, if_neg zR0]) (R7 _))
theorem B0R (k : Int) (a : Tm) (nm : ByteArray) (num : Int) (ty fr : Ty) (lb : Int) (G : IM) (cells : List Value) (hk1 : k = 11 ∨ k = 12) (hca : cv a) (hr : B7 G (.mk k nm num ty fr lb [a]) cells) : Fn Tryz.prog 151 [.agg ⟨cells⟩] [] G (V5 (W9 k [a])) := by
 obtain ⟨ak, anm, anum, ⟨atk, atks⟩, ⟨afk, afks⟩, alb, aks⟩ := a
 obtain ⟨tk, tks⟩ := ty
 obtain ⟨fk, fks⟩ := fr
 obtain ⟨pt, ct, pf, cf, p, c, es, rfl, hk, hnum, hlb, hty, hfr, hsl, hkl⟩ := hr.open9
 obtain ⟨bx, ox, e0, rfl, hl0, hat0, hre0, hgb0⟩ := hsl.kidTm hkl (i := 0) zS0 zS0
 replace hre0 : B7 G (.mk ak anm anum (.mk atk atks) (.mk afk afks) alb aks) e0 := hre0
 obtain ⟨apt, act, apf, acf, ap, ac, aes, rfl, hak, hanum, halb, haty, hafr, hasl, hakl⟩ := hre0.open9
 obtain ⟨hN, _⟩ := hca.node
 have hops := hN.ops
 have h2 : ak = 10 → aks.length = 2 := fun h => by rw [h] at hops; have : E8 10 = 2 := rfl; omega
 have hL : ([Tm.mk ak anm anum (.mk atk atks) (.mk afk afks) alb aks] : List Tm).length = 1 := rfl
 have hR : W9 k [Tm.mk ak anm anum (.mk atk atks) (.mk afk afks) alb aks] = (if ak = 10 then some (kd aks (k - 11).toNat) else none) := by
  unfold W9; rw [if_neg zR0, if_neg zR0, if_neg zR0, if_pos hk1]; rfl
 rw [hR]
 obtain ⟨i, hi⟩ : ∃ i : Nat, (k - 11).toNat = i := ⟨_, rfl⟩
 rw [hi]
 refine C0 Tryz.func151 rfl Tryz.ntmps151 Tryz.results151 rfl ?_
 intro w0
 refine A4 ?_
 refine sE (B6 rfl rfl) rfl (fun b3 => ?_)
 refine sE (A6 rfl) rfl (fun b4 => ?_)
 refine A9 ?_
 refine sE (A6 rfl) rfl (fun b11 => ?_)
 refine E7 ?_
 refine sP (A4C rfl rfl zR0) rfl rfl ?_
 refine A9 ?_
 refine sP (B8 (j := 0) rfl rfl rfl zS0) rfl rfl ?_
 refine sL (A5 rfl rfl (hat0 _) rfl) rfl rfl ?_
 refine J2 ?_
 refine C2 ?_
 refine A4 ?_
 refine sP (D0 rfl rfl zR0) rfl rfl ?_
 refine B0 ?_
 refine sP (D0 rfl rfl zR0) rfl rfl ?_
 refine A8 ?_
 refine sP (D0 rfl rfl zR0) rfl rfl ?_
 refine A9 ?_
 refine sP (D0 rfl rfl zR0) rfl rfl ?_
 refine B0 ?_
 refine sB (qE rfl rfl) rfl rfl (fun h72 => ?_) (fun h72 => ?_)
 refine M7 ?_
 refine sB (qE rfl rfl) rfl rfl (fun h84 => ?_) (fun h84 => ?_)
 refine B5 ?_
 (have hq : ak = 10 := zR0; have hq1 := h2 hq; obtain ⟨bq, oq, e3, rfl, hl3, hat3, hre3, hgb3⟩ := hasl.kidTm hakl (i := i) zR0 zR0; have ho3 := hre3.one)
 refine A8 ?_
 refine sP (Q7 rfl rfl zR0 zR0) rfl rfl ?_
 (rw [show (k - 11 : Int) = ((i : Nat) : Int) from zR0]; refine sP (B8 (j := i) rfl rfl rfl zR0) rfl rfl ?_)
 refine sL (A5 rfl rfl (hat3 _) hl3) rfl rfl ?_
 refine sS rfl rfl rfl hl3 ho3 rfl ?_ (hu := by exact C6 hl3.symm)
 refine A9 ?_
 refine H3 (rC rfl (A5 rfl rfl (B3 zI0) hl3)) (rT rfl) ?_
 (exact V5.yes (by rw [if_pos zR0]; unfold kd; rw [List.getD_eq_getElem?_getD, List.getElem?_eq_getElem zR0, Option.getD_some]) hre3)
 refine M8 ?_
 exact y113
 refine A8 ?_
 refine sP (O1 rfl rfl zR0) rfl rfl ?_
 refine E1 ?_
 refine sB (qE rfl rfl) rfl rfl (fun h137 => ?_) (fun h137 => ?_)
 refine B5 ?_
 (have hq : ak = 10 := zR0; have hq1 := h2 hq; obtain ⟨bq, oq, e3, rfl, hl3, hat3, hre3, hgb3⟩ := hasl.kidTm hakl (i := i) zR0 zR0; have ho3 := hre3.one)
 refine A8 ?_
 refine sP (Q7 rfl rfl zR0 zR0) rfl rfl ?_
 (rw [show (k - 11 : Int) = ((i : Nat) : Int) from zR0]; refine sP (B8 (j := i) rfl rfl rfl zR0) rfl rfl ?_)
 refine sL (A5 rfl rfl (hat3 _) hl3) rfl rfl ?_
 refine sS rfl rfl rfl hl3 ho3 rfl ?_ (hu := by exact C6 hl3.symm)
 refine A9 ?_
 refine H3 (rC rfl (A5 rfl rfl (B3 zI0) hl3)) (rT rfl) ?_
 (exact V5.yes (by rw [if_pos zR0]; unfold kd; rw [List.getD_eq_getElem?_getD, List.getElem?_eq_getElem zR0, Option.getD_some]) hre3)
 refine M8 ?_
 exact y113
section
variable {P : Program} {Γ : N7} {K : Po} {ops : Array Oper} {env : O6} {hp : List A7} {G : IM}
theorem A6h {H : List (Nat × Nat)} {fuel j : Nat} {listed : List Bool} {hp' : List A7} {p : Option Addr} {c el sz n : Nat} {cs : List Value} (hk : Pk hp (.slc p c el sz n cs) hp')
  (h : ∀ G', B9 G G' → Sl G' p n c sz cs → (∀ b ∈ K5 p, G b = none ∧ G' b ≠ none) → W5 P Γ ops K H fuel listed j ⟨env, hp', G'⟩) : W5 P Γ ops K H fuel listed j ⟨env, hp, G⟩ :=
 ⟨fun a w hs => let ⟨G', h1, h2, h3, h4⟩ := hs.freeze hk; (h G' h2 h3 h4).run a w h1⟩
end
theorem C7.kids {G : IM} {t : Ty} {a : Value} {p : Option Addr} {n c : Nat} (h : C7 G t [a, .slice p n c]) : ∃ es, D7 G p t.ks.length c 2 es ∧ D9 G t.ks es := by
 obtain ⟨p', c', es, he, _, h1, h2⟩ := h.open
 simp only [List.cons.injEq, Value.slice.injEq, and_true] at he
 obtain ⟨_, rfl, _, rfl⟩ := he
 exact ⟨es, h1, h2⟩
def A0E (k : Int) (ty fr : Ty) (lb : Int) (ks : List Tm) : Stp :=
 if k = 6 then
  (if prx (kd ks 0) = true ∧ (kd ks 0).ty.k = 4 then (S5 (A1K 6 [kd (kd ks 0).ks 0, S5 (kd ks 1) (kt (kd ks 0).ty.ks 0) (kt (kd ks 0).fr.ks 0) (-(kd ks 0).lb)]) (kt (kd ks 0).fr.ks 1) (kt (kd ks 0).ty.ks 1) (kd ks 0).lb, 1, 0) else Z6)
 else if k = 11 ∨ k = 12 then
  (if prx (kd ks 0) = true ∧ (kd ks 0).ty.k = 5 then (S5 (A1K k [kd (kd ks 0).ks 0]) (kt (kd ks 0).fr.ks (k - 11).toNat) (kt (kd ks 0).ty.ks (k - 11).toNat) (kd ks 0).lb, 1, 0) else Z6)
 else if k = 14 then
  (if fr.k = ty.k then (kd ks 0, 1, 0)
   else if ty.k = 1 then (S5 (S5 (kd ks 0) fr (A1J fr) lb) (A1J fr) ty lb, 1, 0)
   else if A0h ty = false then (S5 (S5 (kd ks 0) fr (A1J ty) lb) (A1J ty) ty lb, 1, 0)
   else if inj (kd ks 0) = false then Z6
   else if (kd ks 0).fr.k = ty.k then (kd (kd ks 0).ks 0, 1, 0)
   else (I8, 2, lb))
 else Z6
theorem B6c (k : Int) (ty fr : Ty) (lb : Int) (ks : List Tm) : A0w k ty fr lb ks = match W9 k ks with | some u => (u, 1, 0) | none => A0E k ty fr lb ks := by
 unfold A0w W9 A0E
 by_cases h6 : k = 6
 ·rw [if_pos h6, if_pos h6, if_pos h6]
  by_cases h : (kd ks 0).k = 5
  ·rw [if_pos h, if_pos h]
  ·rw [if_neg h, if_neg h]
 rw [if_neg h6, if_neg h6, if_neg h6]
 by_cases h7 : k = 7 ∨ k = 8
 ·rw [if_pos h7, if_pos h7]
  by_cases h : (kd ks 0).k = 2 ∧ (kd ks 1).k = 2
  ·rw [if_pos h, if_pos h]
  ·rw [if_neg h, if_neg h]; simp only; rw [if_neg zR0, if_neg zR0]
 rw [if_neg h7, if_neg h7]
 by_cases h9 : k = 9
 ·rw [if_pos h9, if_pos h9]
  by_cases h : (kd ks 0).k = 3
  ·rw [if_pos h, if_pos h]
  ·rw [if_neg h, if_neg h]
   by_cases h' : (kd ks 0).k = 4
   ·rw [if_pos h', if_pos h']
   ·rw [if_neg h', if_neg h']; simp only; rw [if_neg zR0, if_neg zR0]
 rw [if_neg h9, if_neg h9]
 by_cases h11 : k = 11 ∨ k = 12
 ·rw [if_pos h11, if_pos h11, if_pos h11]
  by_cases h : (kd ks 0).k = 10
  ·rw [if_pos h, if_pos h]
  ·rw [if_neg h, if_neg h]
 rw [if_neg h11, if_neg h11, if_neg h11]
def U1 (r : Stp) : IM → Value → List A7 → Prop := N8 fun G' v => ∃ u cells, v = .tuple ⟨[.agg ⟨cells⟩, .int .i64 r.2.1, .int .i64 r.2.2]⟩ ∧ B7 G' u cells ∧ (r.2.1 = 1 → u = r.1)
theorem U1.mk {G : IM} {r : Stp} {u : Tm} {cells : List Value} {c l : Int} (h : r = (u, c, l)) (hr : B7 G u cells) : U1 r G (.tuple ⟨[.agg ⟨cells⟩, .int .i64 c, .int .i64 l]⟩) [] := by
 subst h; exact ⟨rfl, u, cells, rfl, hr, fun _ => rfl⟩
theorem A5b {ks : List Tm} {i : Nat} (h : i < ks.length) : kd ks i = ks[i] := by unfold kd; rw [List.getD_eq_getElem?_getD, List.getElem?_eq_getElem h, Option.getD_some]
theorem A1N {ks : List Ty} {i : Nat} (h : i < ks.length) : kt ks i = ks[i] := by unfold kt; rw [List.getD_eq_getElem?_getD, List.getElem?_eq_getElem h, Option.getD_some]
theorem B0S {t : Ty} (h : A0h t = true) : t = A1J t := by
 unfold A0h at h
 rw [Bool.and_eq_true] at h
 exact (A2l _ _).1 h.2
theorem B6d (a b : Tm) (nm : ByteArray) (num : Int) (ty fr : Ty) (lb : Int) (G : IM) (cells : List Value) (hca : cv a) (hr : B7 G (.mk 6 nm num ty fr lb [a, b]) cells) : Fn Tryz.prog 152 [.agg ⟨cells⟩] [] G (U1 (A0E 6 ty fr lb [a, b])) := by
 obtain ⟨ak, anm, anum, ⟨atk, atks⟩, ⟨afk, afks⟩, alb, aks⟩ := a
 obtain ⟨hN, hkk⟩ := hca.node
 have hops := hN.ops
 have hbl := hN.lbB
 have htyA := hN.tyA
 have hfrA := hN.frA
 rw [I4] at htyA hfrA
 have h14 : ak = 14 → aks.length = 1 := fun h => by rw [h] at hops; have : E8 14 = 1 := rfl; omega
 obtain ⟨tk, tks⟩ := ty
 obtain ⟨fk, fks⟩ := fr
 obtain ⟨pt, ct, pf, cf, p, c, es, rfl, hk, hnum, hlb, hty, hfr, hsl, hkl⟩ := hr.open9
 obtain ⟨bx, ox, e0, rfl, hl0, hat0, hre0, hgb0⟩ := hsl.kidTm hkl (i := 0) zS0 zS0
 replace hre0 : B7 G (Tm.mk ak anm anum (.mk atk atks) (.mk afk afks) alb aks) e0 := hre0
 have hP : Fn Tryz.prog 66 [.agg ⟨e0⟩] [] G (K7 (.bool (decide (ak = 14 ∧ afk = atk ∧ (atk = 4 ∨ atk = 5)))) G) := A3G _ G _ hre0
 obtain ⟨apt, act, apf, acf, ap, ac, aes, rfl, hak, hanum, halb, haty, hafr, hasl, hakl⟩ := hre0.open9
 obtain ⟨tes, htS, htL⟩ := haty.kids
 obtain ⟨fes, hfS, hfL⟩ := hafr.kids
 simp only [Ty.ks] at htS htL hfS hfL
 obtain ⟨_, _, e1, hp1, hl1, hat1, hre1, hgb1⟩ := hsl.kidTm hkl (i := 1) zS0 zS0
 cases hp1
 replace hre1 : B7 G b e1 := hre1
 have ho1 := hre1.one
 have hR : A0E 6 (.mk tk tks) (.mk fk fks) lb [Tm.mk ak anm anum (.mk atk atks) (.mk afk afks) alb aks, b] = (if (ak = 14 ∧ afk = atk ∧ (atk = 4 ∨ atk = 5)) ∧ atk = 4 then (S5 (A1K 6 [kd aks 0, S5 b (kt atks 0) (kt afks 0) (-alb)]) (kt afks 1) (kt atks 1) alb, 1, 0) else Z6) := by
  unfold A0E
  rw [if_pos rfl, show kd [Tm.mk ak anm anum (.mk atk atks) (.mk afk afks) alb aks, b] 0 = Tm.mk ak anm anum (.mk atk atks) (.mk afk afks) alb aks from rfl, A4g]
  simp only [decide_eq_true_eq]
  rfl
 rw [hR]
 refine C0 Tryz.func152 rfl Tryz.ntmps152 Tryz.results152 rfl ?_
 intro w0
 refine A4 ?_
 refine sE (B6 rfl rfl) rfl (fun b3 => ?_)
 refine sE (A6 rfl) rfl (fun b4 => ?_)
 refine E1 ?_
 refine sP (B8 (j := 0) rfl rfl rfl zS0) rfl rfl ?_
 refine sL (A5 rfl rfl (hat0 _) rfl) rfl rfl ?_
 refine sE (A6 rfl) rfl (fun b15 => ?_)
 refine B5 ?_
 refine C2 ?_
 refine B5 ?_
 refine sP (O1 rfl rfl zR0) rfl rfl ?_
 refine A4 ?_
 focus (by_cases hpx : (ak = 14 ∧ afk = atk ∧ (atk = 4 ∨ atk = 5)); rw [decide_eq_true hpx] at hP; rotate_left; rw [decide_eq_false hpx] at hP; rotate_left; all_goals (refine H4 rfl hP rfl rfl ?_))
 refine A8 ?_
 refine sB (qE rfl rfl) rfl rfl (fun h34 => ?_) (fun h34 => ?_)
 refine A9 ?_
 (have hq : (ak = 14 ∧ afk = atk ∧ (atk = 4 ∨ atk = 5)) ∧ atk = 4 := ⟨hpx, by omega⟩; have hq1 := h14 hq.1.1; have hq2 := htyA.1 zR0; have hq3 := hfrA.1 zR0; obtain ⟨bq, oq, e3, rfl, hl3, hat3, hre3, hgb3⟩ := hasl.kidTm hakl (i := 0) zR0 zR0; have ho3 := hre3.one; obtain ⟨b5, o5, q5, d5, rfl, hat5, hre5, hgb5⟩ := htS.kidTy htL (i := 0) zR0 zR0; obtain ⟨_, _, q6, d6, hp6, hat6, hre6, hgb6⟩ := htS.kidTy htL (i := 1) zR0 zR0; cases hp6; obtain ⟨b7, o7, q7, d7, rfl, hat7, hre7, hgb7⟩ := hfS.kidTy hfL (i := 0) zR0 zR0; obtain ⟨_, _, q8, d8, hp8, hat8, hre8, hgb8⟩ := hfS.kidTy hfL (i := 1) zR0 zR0; cases hp8; obtain ⟨x1, x2, x3, x4, x5, x6, x7, x8, x9, rfl⟩ := nine hl3; obtain ⟨y1, y2, y3, y4, y5, y6, y7, y8, y9, rfl⟩ := nine hl1; refine D3 D4 rfl ?_)
 refine J4 (i := 0) (l' := [tt,ff,ff,ff,ff,ff,ff,ff,ff,ff,ff,ff]) rfl C8 (C3 rfl) rfl zP0 rfl rfl ?_
 refine aL 1 rfl (F0 rfl rfl) rfl ?_
 refine aP 2 rfl (B8 (j := 0) rfl rfl rfl zR0) rfl ?_
 refine aL 3 rfl (A5 rfl rfl (hat3 _) rfl) rfl ?_
 refine aP 4 rfl (C3 rfl) rfl ?_
 refine aL 5 rfl (F0 rfl rfl) rfl ?_
 refine aP 6 rfl (B8 (j := 1) rfl rfl rfl zS0) rfl ?_
 refine aL 7 rfl (A5 rfl rfl (hat1 _) rfl) rfl ?_
 refine P6 (j := 8) (j' := 9) zP0 ?_ ?_
 (refine D2 rfl (A6 rfl) rfl rfl ?_; rintro _ ⟨b51, rfl⟩)
 refine A2 9 ?_
 (refine D2 rfl (A6 rfl) rfl rfl ?_; rintro _ ⟨b53, rfl⟩)
 refine A2 10 ?_
 (refine oS rfl rfl rfl rfl rfl ho3 rfl rfl ?_ (hu := by exact C6 rfl.symm))
 refine A2 11 ?_
 (refine oS rfl rfl rfl rfl rfl ho1 rfl rfl ?_ (hu := by exact C6 rfl.symm))
 refine C1 ?_
 refine D3 D4 rfl ?_
 refine J3 (i := 0) (l' := [tt,ff,ff,ff,ff,ff,ff,ff,ff,ff,ff,ff,ff,ff,ff,ff,ff,ff,ff,ff,ff,ff,ff,ff,ff,ff,ff,ff,ff,ff,ff,ff,ff,ff]) rfl C8 (A5 rfl rfl (B3 zI0) rfl) rfl zP0 rfl rfl ?_
 refine aL 1 rfl (A5 rfl rfl (B3 zI0) rfl) rfl ?_
 refine aP 2 rfl (C3 rfl) rfl ?_
 refine aP 3 rfl (qF rfl) rfl ?_
 refine aL 4 rfl (F0 rfl rfl) rfl ?_
 refine aP 5 rfl (B8 (j := 0) rfl rfl rfl zR0) rfl ?_
 refine aL 6 rfl (A5 rfl rfl (hat5 _) rfl) rfl ?_
 refine aP 7 rfl (C3 rfl) rfl ?_
 refine aP 8 rfl (qF rfl) rfl ?_
 refine aL 9 rfl (F0 rfl rfl) rfl ?_
 refine aP 10 rfl (B8 (j := 0) rfl rfl rfl zR0) rfl ?_
 refine aL 11 rfl (A5 rfl rfl (hat7 _) rfl) rfl ?_
 refine aP 12 rfl (C3 rfl) rfl ?_
 refine aL 13 rfl (F0 rfl rfl) rfl ?_
 refine aP 14 rfl (A8D rfl zR0 zR0) rfl ?_
 refine aP 18 rfl (C3 rfl) rfl ?_
 refine aP 19 rfl (qF rfl) rfl ?_
 refine aL 20 rfl (F0 rfl rfl) rfl ?_
 refine aP 21 rfl (B8 (j := 1) rfl rfl rfl zR0) rfl ?_
 refine aL 22 rfl (A5 rfl rfl (hat8 _) rfl) rfl ?_
 refine aP 23 rfl (C3 rfl) rfl ?_
 refine aP 24 rfl (qF rfl) rfl ?_
 refine aL 25 rfl (F0 rfl rfl) rfl ?_
 refine aP 26 rfl (B8 (j := 1) rfl rfl rfl zR0) rfl ?_
 refine aL 27 rfl (A5 rfl rfl (hat6 _) rfl) rfl ?_
 refine aP 28 rfl (C3 rfl) rfl ?_
 refine aL 29 rfl (F0 rfl rfl) rfl ?_
 refine A2 15 ?_
 (refine H1 rfl rfl (A2t b atks[0] afks[0] (-alb) G _ _ _ ⟨by omega, by omega⟩ hre1 hre5 hre7) rfl rfl rfl (fun u G1 hle1 hh => ?_); obtain ⟨uc, rfl, hru⟩ := hh; have hul := hru.len; have huo := hru.one; obtain ⟨z1, z2, z3, z4, z5, z6, z7, z8, z9, rfl⟩ := nine hul; replace hre3 := hre3.mono hle1; replace hre6 := hre6.mono hle1; replace hre8 := hre8.mono hle1)
 refine A2 16 ?_
 (refine D2 rfl (D1 rfl rfl rfl zR0 zL0 rfl) rfl rfl ?_; rintro _ ⟨b92, rfl⟩)
 exact y107
 (refine D2 rfl (A6 rfl) rfl rfl ?_; rintro _ ⟨b108, rfl⟩)
 refine A2 8 ?_
 (refine D2 rfl (A6 rfl) rfl rfl ?_; rintro _ ⟨b110, rfl⟩)
 refine A2 10 ?_
 (refine oS rfl rfl rfl rfl rfl ho3 rfl rfl ?_ (hu := by exact C6 rfl.symm))
 refine A2 11 ?_
 (refine oS rfl rfl rfl rfl rfl ho1 rfl rfl ?_ (hu := by exact C6 rfl.symm))
 refine C1 ?_
 refine D3 D4 rfl ?_
 refine J3 (i := 0) (l' := [tt,ff,ff,ff,ff,ff,ff,ff,ff,ff,ff,ff,ff,ff,ff,ff,ff,ff,ff,ff,ff,ff,ff,ff,ff,ff,ff,ff,ff,ff,ff,ff,ff,ff]) rfl C8 (A5 rfl rfl (B3 zI0) rfl) rfl zP0 rfl rfl ?_
 refine aL 1 rfl (A5 rfl rfl (B3 zI0) rfl) rfl ?_
 refine aP 2 rfl (C3 rfl) rfl ?_
 refine aP 3 rfl (qF rfl) rfl ?_
 refine aL 4 rfl (F0 rfl rfl) rfl ?_
 refine aP 5 rfl (B8 (j := 0) rfl rfl rfl zR0) rfl ?_
 refine aL 6 rfl (A5 rfl rfl (hat5 _) rfl) rfl ?_
 refine aP 7 rfl (C3 rfl) rfl ?_
 refine aP 8 rfl (qF rfl) rfl ?_
 refine aL 9 rfl (F0 rfl rfl) rfl ?_
 refine aP 10 rfl (B8 (j := 0) rfl rfl rfl zR0) rfl ?_
 refine aL 11 rfl (A5 rfl rfl (hat7 _) rfl) rfl ?_
 refine aP 12 rfl (C3 rfl) rfl ?_
 refine aL 13 rfl (F0 rfl rfl) rfl ?_
 refine aP 14 rfl (A8D rfl zR0 zR0) rfl ?_
 refine aP 18 rfl (C3 rfl) rfl ?_
 refine aP 19 rfl (qF rfl) rfl ?_
 refine aL 20 rfl (F0 rfl rfl) rfl ?_
 refine aP 21 rfl (B8 (j := 1) rfl rfl rfl zR0) rfl ?_
 refine aL 22 rfl (A5 rfl rfl (hat8 _) rfl) rfl ?_
 refine aP 23 rfl (C3 rfl) rfl ?_
 refine aP 24 rfl (qF rfl) rfl ?_
 refine aL 25 rfl (F0 rfl rfl) rfl ?_
 refine aP 26 rfl (B8 (j := 1) rfl rfl rfl zR0) rfl ?_
 refine aL 27 rfl (A5 rfl rfl (hat6 _) rfl) rfl ?_
 refine aP 28 rfl (C3 rfl) rfl ?_
 refine aL 29 rfl (F0 rfl rfl) rfl ?_
 refine A2 15 ?_
 (refine H1 rfl rfl (A2t b atks[0] afks[0] (-alb) G _ _ _ ⟨by omega, by omega⟩ hre1 hre5 hre7) rfl rfl rfl (fun u G1 hle1 hh => ?_); obtain ⟨uc, rfl, hru⟩ := hh; have hul := hru.len; have huo := hru.one; obtain ⟨z1, z2, z3, z4, z5, z6, z7, z8, z9, rfl⟩ := nine hul; replace hre3 := hre3.mono hle1; replace hre6 := hre6.mono hle1; replace hre8 := hre8.mono hle1)
 refine A2 16 ?_
 (refine D2 rfl (D1 rfl rfl rfl zR0 zL0 rfl) rfl rfl ?_; rintro _ ⟨b149, rfl⟩)
 exact y107
 refine E7 ?_
 refine sP (D0 rfl rfl zR0) rfl rfl ?_
 refine C1 ?_
 refine sP (D0 rfl rfl zR0) rfl rfl ?_
 refine A1m ?_
 exact y111
 refine J0 ?_
 refine sP (D0 rfl rfl zR0) rfl rfl ?_
 refine C1 ?_
 refine sP (D0 rfl rfl zR0) rfl rfl ?_
 refine A1m ?_
 exact y111
theorem B0T (k : Int) (a : Tm) (nm : ByteArray) (num : Int) (ty fr : Ty) (lb : Int) (G : IM) (cells : List Value) (hk1 : k = 11 ∨ k = 12) (hca : cv a) (hr : B7 G (.mk k nm num ty fr lb [a]) cells) : Fn Tryz.prog 152 [.agg ⟨cells⟩] [] G (U1 (A0E k ty fr lb [a])) := by
 obtain ⟨ak, anm, anum, ⟨atk, atks⟩, ⟨afk, afks⟩, alb, aks⟩ := a
 obtain ⟨hN, hkk⟩ := hca.node
 have hops := hN.ops
 have hbl := hN.lbB
 have htyA := hN.tyA
 have hfrA := hN.frA
 rw [I4] at htyA hfrA
 have h14 : ak = 14 → aks.length = 1 := fun h => by rw [h] at hops; have : E8 14 = 1 := rfl; omega
 obtain ⟨tk, tks⟩ := ty
 obtain ⟨fk, fks⟩ := fr
 obtain ⟨pt, ct, pf, cf, p, c, es, rfl, hk, hnum, hlb, hty, hfr, hsl, hkl⟩ := hr.open9
 obtain ⟨bx, ox, e0, rfl, hl0, hat0, hre0, hgb0⟩ := hsl.kidTm hkl (i := 0) zS0 zS0
 replace hre0 : B7 G (Tm.mk ak anm anum (.mk atk atks) (.mk afk afks) alb aks) e0 := hre0
 have hP : Fn Tryz.prog 66 [.agg ⟨e0⟩] [] G (K7 (.bool (decide (ak = 14 ∧ afk = atk ∧ (atk = 4 ∨ atk = 5)))) G) := A3G _ G _ hre0
 have hI := A43 _ G _ hre0
 have ho0 := hre0.one
 obtain ⟨apt, act, apf, acf, ap, ac, aes, rfl, hak, hanum, halb, haty, hafr, hasl, hakl⟩ := hre0.open9
 have hfk64 : H6 fk := by obtain ⟨_, _, _, _, h, _⟩ := hfr.open; exact h
 have htk64 : H6 tk := by obtain ⟨_, _, _, _, h, _⟩ := hty.open; exact h
 obtain ⟨tes, htS, htL⟩ := haty.kids
 obtain ⟨fes, hfS, hfL⟩ := hafr.kids
 simp only [Ty.ks] at htS htL hfS hfL
 obtain ⟨i, hi⟩ : ∃ i : Nat, (k - 11).toNat = i := ⟨_, rfl⟩
 have hR : A0E k (.mk tk tks) (.mk fk fks) lb [Tm.mk ak anm anum (.mk atk atks) (.mk afk afks) alb aks] = (if (ak = 14 ∧ afk = atk ∧ (atk = 4 ∨ atk = 5)) ∧ atk = 5 then (S5 (A1K k [kd aks 0]) (kt afks i) (kt atks i) alb, 1, 0) else Z6) := by
  unfold A0E
  rw [if_neg zR0, if_pos hk1, hi, show kd [Tm.mk ak anm anum (.mk atk atks) (.mk afk afks) alb aks] 0 = Tm.mk ak anm anum (.mk atk atks) (.mk afk afks) alb aks from rfl, A4g]
  simp only [decide_eq_true_eq]
  rfl
 rw [hR]
 refine C0 Tryz.func152 rfl Tryz.ntmps152 Tryz.results152 rfl ?_
 intro w0
 refine A4 ?_
 refine sE (B6 rfl rfl) rfl (fun b3 => ?_)
 refine sE (A6 rfl) rfl (fun b4 => ?_)
 refine E1 ?_
 refine sP (B8 (j := 0) rfl rfl rfl zS0) rfl rfl ?_
 refine sL (A5 rfl rfl (hat0 _) rfl) rfl rfl ?_
 refine sE (A6 rfl) rfl (fun b15 => ?_)
 refine B5 ?_
 refine C2 ?_
 refine B5 ?_
 refine sP (D0 rfl rfl zR0) rfl rfl ?_
 refine Z8 ?_
 refine sB (qE rfl rfl) rfl rfl (fun h44 => ?_) (fun h44 => ?_)
 refine B0 ?_
 focus (by_cases hpx : (ak = 14 ∧ afk = atk ∧ (atk = 4 ∨ atk = 5)); rw [decide_eq_true hpx] at hP; rotate_left; rw [decide_eq_false hpx] at hP; rotate_left; all_goals (refine H4 rfl hP rfl rfl ?_))
 refine A8 ?_
 refine sB (qE rfl rfl) rfl rfl (fun h58 => ?_) (fun h58 => ?_)
 refine E7 ?_
 refine sP (Q7 rfl rfl zR0 zR0) rfl rfl ?_
 refine B5 ?_
 (have hq : (ak = 14 ∧ afk = atk ∧ (atk = 4 ∨ atk = 5)) ∧ atk = 5 := ⟨hpx, by omega⟩; have hq1 := h14 hq.1.1; have hq2 := htyA.1 zR0; have hq3 := hfrA.1 zR0; rw [show (k - 11 : Int) = ((i : Nat) : Int) from zR0]; obtain ⟨bq, oq, e3, rfl, hl3, hat3, hre3, hgb3⟩ := hasl.kidTm hakl (i := 0) zR0 zR0; have ho3 := hre3.one; obtain ⟨b5, o5, q5, d5, rfl, hat5, hre5, hgb5⟩ := htS.kidTy htL (i := i) zR0 zR0; obtain ⟨b7, o7, q7, d7, rfl, hat7, hre7, hgb7⟩ := hfS.kidTy hfL (i := i) zR0 zR0; obtain ⟨x1, x2, x3, x4, x5, x6, x7, x8, x9, rfl⟩ := nine hl3; refine D3 D4 rfl ?_)
 refine J4 (i := 0) (l' := [tt,ff,ff,ff,ff,ff,ff,ff,ff,ff,ff,ff,ff,ff,ff,ff,ff,ff,ff,ff,ff,ff,ff,ff,ff,ff]) rfl C8 (C3 rfl) rfl zP0 rfl rfl ?_
 refine aL 1 rfl (F0 rfl rfl) rfl ?_
 refine aP 2 rfl (C3 rfl) rfl ?_
 refine aL 3 rfl (F0 rfl rfl) rfl ?_
 refine aP 4 rfl (B8 (j := 0) rfl rfl rfl zR0) rfl ?_
 refine aL 5 rfl (A5 rfl rfl (hat3 _) rfl) rfl ?_
 refine aP 8 rfl (C3 rfl) rfl ?_
 refine aP 9 rfl (qF rfl) rfl ?_
 refine aL 10 rfl (F0 rfl rfl) rfl ?_
 refine aP 11 rfl (qM rfl) rfl ?_
 refine aP 12 rfl (B8 (j := i) rfl rfl rfl zR0) rfl ?_
 refine aL 13 rfl (A5 rfl rfl (hat7 _) rfl) rfl ?_
 refine aP 14 rfl (C3 rfl) rfl ?_
 refine aP 15 rfl (qF rfl) rfl ?_
 refine aL 16 rfl (F0 rfl rfl) rfl ?_
 refine aP 17 rfl (qM rfl) rfl ?_
 refine aP 18 rfl (B8 (j := i) rfl rfl rfl zR0) rfl ?_
 refine aL 19 rfl (A5 rfl rfl (hat5 _) rfl) rfl ?_
 refine aP 20 rfl (C3 rfl) rfl ?_
 refine aL 21 rfl (F0 rfl rfl) rfl ?_
 refine A2 6 ?_
 (refine D2 rfl (D1 rfl rfl rfl zR0 zL0 rfl) rfl rfl ?_; rintro _ ⟨b95, rfl⟩)
 exact y109
 refine E7 ?_
 exact y111
 refine J0 ?_
 exact y111
 refine C1 ?_
 refine sP (O1 rfl rfl zR0) rfl rfl ?_
 refine C1 ?_
 focus (by_cases hpx : (ak = 14 ∧ afk = atk ∧ (atk = 4 ∨ atk = 5)); rw [decide_eq_true hpx] at hP; rotate_left; rw [decide_eq_false hpx] at hP; rotate_left; all_goals (refine H4 rfl hP rfl rfl ?_))
 refine A8 ?_
 refine sB (qE rfl rfl) rfl rfl (fun h184 => ?_) (fun h184 => ?_)
 refine E7 ?_
 refine sP (Q7 rfl rfl zR0 zR0) rfl rfl ?_
 refine B5 ?_
 (have hq : (ak = 14 ∧ afk = atk ∧ (atk = 4 ∨ atk = 5)) ∧ atk = 5 := ⟨hpx, by omega⟩; have hq1 := h14 hq.1.1; have hq2 := htyA.1 zR0; have hq3 := hfrA.1 zR0; rw [show (k - 11 : Int) = ((i : Nat) : Int) from zR0]; obtain ⟨bq, oq, e3, rfl, hl3, hat3, hre3, hgb3⟩ := hasl.kidTm hakl (i := 0) zR0 zR0; have ho3 := hre3.one; obtain ⟨b5, o5, q5, d5, rfl, hat5, hre5, hgb5⟩ := htS.kidTy htL (i := i) zR0 zR0; obtain ⟨b7, o7, q7, d7, rfl, hat7, hre7, hgb7⟩ := hfS.kidTy hfL (i := i) zR0 zR0; obtain ⟨x1, x2, x3, x4, x5, x6, x7, x8, x9, rfl⟩ := nine hl3; refine D3 D4 rfl ?_)
 refine J4 (i := 0) (l' := [tt,ff,ff,ff,ff,ff,ff,ff,ff,ff,ff,ff,ff,ff,ff,ff,ff,ff,ff,ff,ff,ff,ff,ff,ff,ff]) rfl C8 (C3 rfl) rfl zP0 rfl rfl ?_
 refine aL 1 rfl (F0 rfl rfl) rfl ?_
 refine aP 2 rfl (C3 rfl) rfl ?_
 refine aL 3 rfl (F0 rfl rfl) rfl ?_
 refine aP 4 rfl (B8 (j := 0) rfl rfl rfl zR0) rfl ?_
 refine aL 5 rfl (A5 rfl rfl (hat3 _) rfl) rfl ?_
 refine aP 8 rfl (C3 rfl) rfl ?_
 refine aP 9 rfl (qF rfl) rfl ?_
 refine aL 10 rfl (F0 rfl rfl) rfl ?_
 refine aP 11 rfl (qM rfl) rfl ?_
 refine aP 12 rfl (B8 (j := i) rfl rfl rfl zR0) rfl ?_
 refine aL 13 rfl (A5 rfl rfl (hat7 _) rfl) rfl ?_
 refine aP 14 rfl (C3 rfl) rfl ?_
 refine aP 15 rfl (qF rfl) rfl ?_
 refine aL 16 rfl (F0 rfl rfl) rfl ?_
 refine aP 17 rfl (qM rfl) rfl ?_
 refine aP 18 rfl (B8 (j := i) rfl rfl rfl zR0) rfl ?_
 refine aL 19 rfl (A5 rfl rfl (hat5 _) rfl) rfl ?_
 refine aP 20 rfl (C3 rfl) rfl ?_
 refine aL 21 rfl (F0 rfl rfl) rfl ?_
 refine A2 6 ?_
 (refine D2 rfl (D1 rfl rfl rfl zR0 zL0 rfl) rfl rfl ?_; rintro _ ⟨b221, rfl⟩)
 exact y109
 refine E7 ?_
 exact y111
 refine J0 ?_
 exact y111
theorem B6e {t : Tm} (h : inj t = true) : t.k = 14 := by
 unfold inj at h
 simp only [Bool.and_eq_true, decide_eq_true_eq] at h
 exact h.1.1
theorem B6f {t u : Ty} (h : A0h t = true) (h' : A0h u = true) : T3 t u = decide (t.k = u.k) := by
 have e1 := B0S h
 have e2 := B0S h'
 by_cases hk : t.k = u.k
 ·rw [decide_eq_true hk, A2l, e1, e2]
  unfold A1J; rw [hk]
 ·rw [decide_eq_false hk]
  cases hs : T3 t u with
  | false => rfl
  | true => exact absurd (congrArg Ty.k ((A2l _ _).1 hs)) hk
theorem B6g {t : Tm} (h : inj t = true) : A0h t.fr = true := by
 unfold inj at h
 rw [Bool.and_eq_true] at h
 exact h.2
theorem B6h (a : Tm) (nm : ByteArray) (num : Int) (ty fr : Ty) (lb : Int) (G : IM) (cells : List Value) (hca : cv a) (hlb9 : -99 ≤ lb ∧ lb ≤ 99) (hr : B7 G (.mk 14 nm num ty fr lb [a]) cells) : Fn Tryz.prog 152 [.agg ⟨cells⟩] [] G (U1 (A0E 14 ty fr lb [a])) := by
 have hji := @B6g a
 have hjk := @B6e a
 obtain ⟨ak, anm, anum, ⟨atk, atks⟩, ⟨afk, afks⟩, alb, aks⟩ := a
 obtain ⟨hN, hkk⟩ := hca.node
 have hops := hN.ops
 have hbl := hN.lbB
 have htyA := hN.tyA
 have hfrA := hN.frA
 rw [I4] at htyA hfrA
 have h14 : ak = 14 → aks.length = 1 := fun h => by rw [h] at hops; have : E8 14 = 1 := rfl; omega
 obtain ⟨tk, tks⟩ := ty
 obtain ⟨fk, fks⟩ := fr
 obtain ⟨pt, ct, pf, cf, p, c, es, rfl, hk, hnum, hlb, hty, hfr, hsl, hkl⟩ := hr.open9
 obtain ⟨bx, ox, e0, rfl, hl0, hat0, hre0, hgb0⟩ := hsl.kidTm hkl (i := 0) zS0 zS0
 replace hre0 : B7 G (Tm.mk ak anm anum (.mk atk atks) (.mk afk afks) alb aks) e0 := hre0
 have hP : Fn Tryz.prog 66 [.agg ⟨e0⟩] [] G (K7 (.bool (decide (ak = 14 ∧ afk = atk ∧ (atk = 4 ∨ atk = 5)))) G) := A3G _ G _ hre0
 have hI := A43 _ G _ hre0
 have ho0 := hre0.one
 obtain ⟨apt, act, apf, acf, ap, ac, aes, rfl, hak, hanum, halb, haty, hafr, hasl, hakl⟩ := hre0.open9
 have hfk64 : H6 fk := by obtain ⟨_, _, _, _, h, _⟩ := hfr.open; exact h
 have htk64 : H6 tk := by obtain ⟨_, _, _, _, h, _⟩ := hty.open; exact h
 obtain ⟨tes, htS, htL⟩ := haty.kids
 obtain ⟨fes, hfS, hfL⟩ := hafr.kids
 simp only [Ty.ks] at htS htL hfS hfL
 obtain ⟨J, hJ⟩ : ∃ J, inj (Tm.mk ak anm anum (.mk atk atks) (.mk afk afks) alb aks) = J := ⟨_, rfl⟩
 obtain ⟨D, hD⟩ : ∃ D, A0h (.mk tk tks) = D := ⟨_, rfl⟩
 have hGr := B0f _ G _ hty
 rw [hD] at hGr
 rw [hJ] at hI hji hjk
 have hR : A0E 14 (.mk tk tks) (.mk fk fks) lb [Tm.mk ak anm anum (.mk atk atks) (.mk afk afks) alb aks] = (if fk = tk then (Tm.mk ak anm anum (.mk atk atks) (.mk afk afks) alb aks, 1, 0)
   else if tk = 1 then (S5 (S5 (Tm.mk ak anm anum (.mk atk atks) (.mk afk afks) alb aks) (.mk fk fks) (mGk fk) lb) (mGk fk) (.mk tk tks) lb, 1, 0)
   else if D = false then (S5 (S5 (Tm.mk ak anm anum (.mk atk atks) (.mk afk afks) alb aks) (.mk fk fks) (mGk tk) lb) (mGk tk) (.mk tk tks) lb, 1, 0)
   else if J = false then Z6
   else if afk = tk then (kd aks 0, 1, 0)
   else (I8, 2, lb)) := by
  rw [← hJ, ← hD]; rfl
 rw [hR]
 have hSm : J = true → D = true → T3 (.mk afk afks) (.mk tk tks) = decide (afk = tk) := fun h1 h2 => B6f (hji h1) (hD.trans h2)
 have hTS := A7D (.mk afk afks) (.mk tk tks) G _ _ hafr hty
 refine C0 Tryz.func152 rfl Tryz.ntmps152 Tryz.results152 rfl ?_
 intro w0
 refine A4 ?_
 refine sE (B6 rfl rfl) rfl (fun b3 => ?_)
 refine sE (A6 rfl) rfl (fun b4 => ?_)
 refine E1 ?_
 refine sP (B8 (j := 0) rfl rfl rfl zS0) rfl rfl ?_
 refine sL (A5 rfl rfl (hat0 _) rfl) rfl rfl ?_
 refine sE (A6 rfl) rfl (fun b15 => ?_)
 refine B5 ?_
 refine C2 ?_
 refine B5 ?_
 refine sP (D0 rfl rfl zR0) rfl rfl ?_
 refine Z8 ?_
 refine sP (D0 rfl rfl zR0) rfl rfl ?_
 refine C1 ?_
 refine sP (D0 rfl rfl zR0) rfl rfl ?_
 refine A1m ?_
 refine sP (A2H rfl rfl zR0) rfl rfl ?_
 refine O3 ?_
 refine sB (qE rfl rfl) rfl rfl (fun h81 => ?_) (fun h81 => ?_)
 refine J0 ?_
 refine E9 (rC rfl (A3 rfl rfl)) (rT rfl) (rT rfl) ?_
 (exact U1.mk (by rw [if_pos zR0]) hre0)
 refine E7 ?_
 refine sB (qE rfl rfl) rfl rfl (fun h108 => ?_) (fun h108 => ?_)
 refine E7 ?_
 (refine F4 rfl (A7E fk G hfk64) rfl rfl (fun u G1 hle1 hh => ?_); obtain ⟨gc, rfl, hrg⟩ := hh; obtain ⟨pg, cg, eg, rfl, _⟩ := hrg.open; have hgk : tk = 1 := zR0; replace hre0 := hre0.mono hle1; replace hfr := hfr.mono hle1; replace hty := hty.mono hle1)
 refine sE (A6 rfl) rfl (fun b119 => ?_)
 refine B5 ?_
 refine D3 D4 rfl ?_
 refine J3 (i := 0) (l' := [tt,ff,ff,ff,ff,ff,ff,ff,ff,ff,ff,ff,ff,ff,ff,ff]) rfl C8 (A5 rfl rfl (B3 zI0) rfl) rfl zP0 rfl rfl ?_
 refine aL 3 rfl (A5 rfl rfl (B3 zI0) rfl) rfl ?_
 refine aL 7 rfl (A5 rfl rfl (B3 zI0) rfl) rfl ?_
 refine aP 1 rfl (C3 rfl) rfl ?_
 refine aL 2 rfl (A3 rfl rfl) rfl ?_
 refine aP 4 rfl (C3 rfl) rfl ?_
 refine aL 5 rfl (F0 rfl rfl) rfl ?_
 refine aP 8 rfl (C3 rfl) rfl ?_
 refine aL 9 rfl (A3 rfl rfl) rfl ?_
 refine aP 10 rfl (C3 rfl) rfl ?_
 refine aL 11 rfl (F0 rfl rfl) rfl ?_
 refine A2 6 ?_
 (refine H1 rfl rfl (A2t _ (.mk fk fks) _ lb G1 _ _ _ ⟨by omega, by omega⟩ hre0 hfr hrg) rfl rfl rfl (fun u G3 hle3 hh => ?_); obtain ⟨wc, rfl, hrw⟩ := hh; have hwl := hrw.len; have hwo := hrw.one; replace hrg := hrg.mono hle3; replace hty := hty.mono hle3)
 refine A2 12 ?_
 (refine H1 rfl rfl (A2t _ _ (.mk tk tks) lb G3 _ _ _ ⟨by omega, by omega⟩ hrw hrg hty) rfl rfl rfl (fun u G4 hle4 hh => ?_); obtain ⟨xc, rfl, hrx⟩ := hh; have hxl := hrx.len; have hxo := hrx.one)
 refine A2 13 ?_
 (refine oS rfl rfl rfl rfl hxl hxo rfl rfl ?_ (hu := by exact C6 hxl.symm))
 refine aP 14 rfl (qA rfl) rfl ?_
 refine aP 15 rfl (qA rfl) rfl ?_
 refine A8 ?_
 refine E9 (rC rfl (A5 rfl rfl (B3 zI0) hxl)) (rT rfl) (rT rfl) ?_
 (exact U1.mk (by rw [if_neg zR0, if_pos zR0]) hrx)
 refine E1 ?_
 focus (cases hDD : D; all_goals (rw [hDD] at hGr; refine H4 rfl hGr rfl rfl ?_))
 refine J2 ?_
 (refine F4 rfl (A7E tk G htk64) rfl rfl (fun u G1 hle1 hh => ?_); obtain ⟨gc, rfl, hrg⟩ := hh; obtain ⟨pg, cg, eg, rfl, _⟩ := hrg.open; replace hre0 := hre0.mono hle1; replace hfr := hfr.mono hle1; replace hty := hty.mono hle1)
 refine sE (A6 rfl) rfl (fun b171 => ?_)
 refine B5 ?_
 refine D3 D4 rfl ?_
 refine J3 (i := 0) (l' := [tt,ff,ff,ff,ff,ff,ff,ff,ff,ff,ff,ff,ff,ff,ff,ff]) rfl C8 (A5 rfl rfl (B3 zI0) rfl) rfl zP0 rfl rfl ?_
 refine aL 3 rfl (A5 rfl rfl (B3 zI0) rfl) rfl ?_
 refine aL 7 rfl (A5 rfl rfl (B3 zI0) rfl) rfl ?_
 refine aP 1 rfl (C3 rfl) rfl ?_
 refine aL 2 rfl (A3 rfl rfl) rfl ?_
 refine aP 4 rfl (C3 rfl) rfl ?_
 refine aL 5 rfl (F0 rfl rfl) rfl ?_
 refine aP 8 rfl (C3 rfl) rfl ?_
 refine aL 9 rfl (A3 rfl rfl) rfl ?_
 refine aP 10 rfl (C3 rfl) rfl ?_
 refine aL 11 rfl (F0 rfl rfl) rfl ?_
 refine A2 6 ?_
 (refine H1 rfl rfl (A2t _ (.mk fk fks) _ lb G1 _ _ _ ⟨by omega, by omega⟩ hre0 hfr hrg) rfl rfl rfl (fun u G3 hle3 hh => ?_); obtain ⟨wc, rfl, hrw⟩ := hh; have hwl := hrw.len; have hwo := hrw.one; replace hrg := hrg.mono hle3; replace hty := hty.mono hle3)
 refine A2 12 ?_
 (refine H1 rfl rfl (A2t _ _ (.mk tk tks) lb G3 _ _ _ ⟨by omega, by omega⟩ hrw hrg hty) rfl rfl rfl (fun u G4 hle4 hh => ?_); obtain ⟨xc, rfl, hrx⟩ := hh; have hxl := hrx.len; have hxo := hrx.one)
 refine A2 13 ?_
 (refine oS rfl rfl rfl rfl hxl hxo rfl rfl ?_ (hu := by exact C6 hxl.symm))
 refine aP 14 rfl (qA rfl) rfl ?_
 refine aP 15 rfl (qA rfl) rfl ?_
 refine A8 ?_
 refine E9 (rC rfl (A5 rfl rfl (B3 zI0) hxl)) (rT rfl) (rT rfl) ?_
 (exact U1.mk (by rw [if_neg zR0, if_neg zR0, if_pos rfl]) hrx)
 refine E1 ?_
 focus (cases hJJ : J; all_goals (rw [hJJ] at hI; refine H4 rfl hI rfl rfl ?_))
 refine N3 ?_
 refine E9 (rC rfl (A3 rfl rfl)) (rT rfl) (rT rfl) ?_
 (exact U1.mk (by rw [if_neg zR0, if_neg zR0, if_neg zQ0, if_pos rfl]; rfl) (R7 _))
 refine M7 ?_
 focus (rw [hSm hJJ hDD] at hTS; by_cases hfk : afk = tk; rw [decide_eq_true hfk] at hTS; rotate_left; rw [decide_eq_false hfk] at hTS; rotate_left; all_goals (refine H4 rfl hTS rfl rfl ?_))
 refine E1 ?_
 (have hq1 := h14 (hjk zO0); obtain ⟨bq, oq, e3, rfl, hl3, hat3, hre3, hgb3⟩ := hasl.kidTm hakl (i := 0) zR0 zR0; have ho3 := hre3.one; refine sP (B8 (j := 0) rfl rfl rfl zR0) rfl rfl ?_)
 refine sL (A5 rfl rfl (hat3 _) hl3) rfl rfl ?_
 refine sS rfl rfl rfl hl3 ho3 rfl ?_ (hu := by exact C6 hl3.symm)
 refine B0 ?_
 refine E9 (rC rfl (A5 rfl rfl (B3 zI0) hl3)) (rT rfl) (rT rfl) ?_
 (exact U1.mk (by rw [if_neg zR0, if_neg zR0, if_neg zQ0, if_neg zQ0, if_pos hfk, A5b zR0]) hre3)
 refine E1 ?_
 refine D3 D4 rfl ?_
 refine J4 (i := 0) (l' := [tt,ff,ff,ff,ff,ff]) rfl C8 (pBd rfl rfl) rfl zP0 rfl rfl ?_
 refine aP 1 rfl (C3 rfl) rfl ?_
 refine aL 2 rfl (F0 rfl rfl) rfl ?_
 refine A2 3 ?_
 refine C9 rfl ?_
 refine aP 4 rfl (qA rfl) rfl ?_
 refine aP 5 rfl (qA rfl) rfl ?_
 refine C1 ?_
 refine E9 (rC rfl (A3 rfl rfl)) (rT rfl) (rT rfl) ?_
 (exact U1.mk (by rw [if_neg zR0, if_neg zR0, if_neg zQ0, if_neg zQ0, if_neg hfk]) (R7 _))
theorem B0U (k : Int) (a b : Tm) (nm : ByteArray) (num : Int) (ty fr : Ty) (lb : Int) (G : IM) (cells : List Value) (hk1 : k = 7 ∨ k = 8) (hca : cv a) (hr : B7 G (.mk k nm num ty fr lb [a, b]) cells) : Fn Tryz.prog 152 [.agg ⟨cells⟩] [] G (U1 (A0E k ty fr lb [a, b])) := by
 have hR : A0E k ty fr lb [a, b] = Z6 := by unfold A0E; rw [if_neg zR0, if_neg zR0, if_neg zR0]
 rw [hR]
 obtain ⟨ak, anm, anum, ⟨atk, atks⟩, ⟨afk, afks⟩, alb, aks⟩ := a
 obtain ⟨hN, hkk⟩ := hca.node
 have hops := hN.ops
 have hbl := hN.lbB
 have htyA := hN.tyA
 have hfrA := hN.frA
 rw [I4] at htyA hfrA
 have h14 : ak = 14 → aks.length = 1 := fun h => by rw [h] at hops; have : E8 14 = 1 := rfl; omega
 obtain ⟨tk, tks⟩ := ty
 obtain ⟨fk, fks⟩ := fr
 obtain ⟨pt, ct, pf, cf, p, c, es, rfl, hk, hnum, hlb, hty, hfr, hsl, hkl⟩ := hr.open9
 obtain ⟨bx, ox, e0, rfl, hl0, hat0, hre0, hgb0⟩ := hsl.kidTm hkl (i := 0) zS0 zS0
 replace hre0 : B7 G (Tm.mk ak anm anum (.mk atk atks) (.mk afk afks) alb aks) e0 := hre0
 have hP : Fn Tryz.prog 66 [.agg ⟨e0⟩] [] G (K7 (.bool (decide (ak = 14 ∧ afk = atk ∧ (atk = 4 ∨ atk = 5)))) G) := A3G _ G _ hre0
 have hI := A43 _ G _ hre0
 have ho0 := hre0.one
 obtain ⟨apt, act, apf, acf, ap, ac, aes, rfl, hak, hanum, halb, haty, hafr, hasl, hakl⟩ := hre0.open9
 have hfk64 : H6 fk := by obtain ⟨_, _, _, _, h, _⟩ := hfr.open; exact h
 have htk64 : H6 tk := by obtain ⟨_, _, _, _, h, _⟩ := hty.open; exact h
 obtain ⟨tes, htS, htL⟩ := haty.kids
 obtain ⟨fes, hfS, hfL⟩ := hafr.kids
 simp only [Ty.ks] at htS htL hfS hfL
 refine C0 Tryz.func152 rfl Tryz.ntmps152 Tryz.results152 rfl ?_
 intro w0
 exact y112
theorem B6i (a b c0 : Tm) (nm : ByteArray) (num : Int) (ty fr : Ty) (lb : Int) (G : IM) (cells : List Value) (hca : cv a) (hr : B7 G (.mk 9 nm num ty fr lb [a, b, c0]) cells) : Fn Tryz.prog 152 [.agg ⟨cells⟩] [] G (U1 (A0E 9 ty fr lb [a, b, c0])) := by
 have hR : A0E 9 ty fr lb [a, b, c0] = Z6 := by unfold A0E; rw [if_neg zR0, if_neg zR0, if_neg zR0]
 rw [hR]
 obtain ⟨ak, anm, anum, ⟨atk, atks⟩, ⟨afk, afks⟩, alb, aks⟩ := a
 obtain ⟨hN, hkk⟩ := hca.node
 have hops := hN.ops
 have hbl := hN.lbB
 have htyA := hN.tyA
 have hfrA := hN.frA
 rw [I4] at htyA hfrA
 have h14 : ak = 14 → aks.length = 1 := fun h => by rw [h] at hops; have : E8 14 = 1 := rfl; omega
 obtain ⟨tk, tks⟩ := ty
 obtain ⟨fk, fks⟩ := fr
 obtain ⟨pt, ct, pf, cf, p, c, es, rfl, hk, hnum, hlb, hty, hfr, hsl, hkl⟩ := hr.open9
 obtain ⟨bx, ox, e0, rfl, hl0, hat0, hre0, hgb0⟩ := hsl.kidTm hkl (i := 0) zS0 zS0
 replace hre0 : B7 G (Tm.mk ak anm anum (.mk atk atks) (.mk afk afks) alb aks) e0 := hre0
 have hP : Fn Tryz.prog 66 [.agg ⟨e0⟩] [] G (K7 (.bool (decide (ak = 14 ∧ afk = atk ∧ (atk = 4 ∨ atk = 5)))) G) := A3G _ G _ hre0
 have hI := A43 _ G _ hre0
 have ho0 := hre0.one
 obtain ⟨apt, act, apf, acf, ap, ac, aes, rfl, hak, hanum, halb, haty, hafr, hasl, hakl⟩ := hre0.open9
 have hfk64 : H6 fk := by obtain ⟨_, _, _, _, h, _⟩ := hfr.open; exact h
 have htk64 : H6 tk := by obtain ⟨_, _, _, _, h, _⟩ := hty.open; exact h
 obtain ⟨tes, htS, htL⟩ := haty.kids
 obtain ⟨fes, hfS, hfL⟩ := hafr.kids
 simp only [Ty.ks] at htS htL hfS hfL
 refine C0 Tryz.func152 rfl Tryz.ntmps152 Tryz.results152 rfl ?_
 intro w0
 exact y112
theorem B6j (nm : ByteArray) (num : Int) (ty fr : Ty) (lb : Int) (G : IM) (cells : List Value) (hr : B7 G (.mk 1 nm num ty fr lb []) cells) : Fn Tryz.prog 151 [.agg ⟨cells⟩] [] G (V5 (W9 1 [])) := by
 rw [show W9 1 [] = none from rfl]
 obtain ⟨tk, tks⟩ := ty
 obtain ⟨fk, fks⟩ := fr
 obtain ⟨pt, ct, pf, cf, p, c, es, rfl, hk, hnum, hlb, hty, hfr, hsl, hkl⟩ := hr.open9
 have hL : ([] : List Tm).length = 0 := rfl
 refine C0 Tryz.func151 rfl Tryz.ntmps151 Tryz.results151 rfl ?_
 intro w0
 refine A4 ?_
 refine sE (B6 rfl rfl) rfl (fun b3 => ?_)
 refine sE (A6 rfl) rfl (fun b4 => ?_)
 refine A9 ?_
 refine sE (A6 rfl) rfl (fun b11 => ?_)
 refine E7 ?_
 refine sP (B3c rfl rfl zR0) rfl rfl ?_
 refine O3 ?_
 exact y110
theorem B6k (a : Tm) (nm : ByteArray) (num : Int) (ty fr : Ty) (lb : Int) (G : IM) (cells : List Value) (hr : B7 G (.mk 14 nm num ty fr lb [a]) cells) : Fn Tryz.prog 151 [.agg ⟨cells⟩] [] G (V5 (W9 14 [a])) := by
 rw [show W9 14 [a] = none from rfl]
 obtain ⟨tk, tks⟩ := ty
 obtain ⟨fk, fks⟩ := fr
 obtain ⟨pt, ct, pf, cf, p, c, es, rfl, hk, hnum, hlb, hty, hfr, hsl, hkl⟩ := hr.open9
 obtain ⟨bx, ox, e0, rfl, hl0, hat0, hre0, hgb0⟩ := hsl.kidTm hkl (i := 0) zS0 zS0
 have ho0 : e0.all (·.oneCell') = true := (show B7 G a e0 from hre0).one
 refine C0 Tryz.func151 rfl Tryz.ntmps151 Tryz.results151 rfl ?_
 intro w0
 refine A4 ?_
 refine sE (B6 rfl rfl) rfl (fun b3 => ?_)
 refine sE (A6 rfl) rfl (fun b4 => ?_)
 refine A9 ?_
 refine sE (A6 rfl) rfl (fun b11 => ?_)
 refine E7 ?_
 refine sB (A0K rfl rfl) rfl rfl (fun h21 => ?_) (fun h21 => ?_)
 refine A9 ?_
 refine sP (B8 (j := 0) rfl rfl rfl zS0) rfl rfl ?_
 refine sL (A5 rfl rfl (hat0 _) hl0) rfl rfl ?_
 refine sS rfl rfl rfl hl0 ho0 rfl ?_ (hu := by exact C6 hl0.symm)
 refine E7 ?_
 exact y110
 refine O3 ?_
 exact y110
theorem ks1 {ks : List Tm} (h : ks.length = 1) : ∃ a, ks = [a] := by
 match ks, h with
 | [a], _ => exact ⟨a, rfl⟩
theorem ks2 {ks : List Tm} (h : ks.length = 2) : ∃ a b, ks = [a, b] := by
 match ks, h with
 | [a, b], _ => exact ⟨a, b, rfl⟩
theorem ks3 {ks : List Tm} (h : ks.length = 3) : ∃ a b c, ks = [a, b, c] := by
 match ks, h with
 | [a, b, c], _ => exact ⟨a, b, c, rfl⟩
theorem B0V {k : Int} {nm : ByteArray} {num : Int} {ty fr : Ty} {lb : Int} {ks : List Tm} {G : IM} {cells : List Value} (hc : cv (.mk k nm num ty fr lb ks)) (hk : k = 1 ∨ k = 6 ∨ k = 7 ∨ k = 8 ∨ k = 9 ∨ k = 11 ∨ k = 12 ∨ k = 14) (hr : B7 G (.mk k nm num ty fr lb ks) cells) :
  Fn Tryz.prog 151 [.agg ⟨cells⟩] [] G (V5 (W9 k ks)) := by
 obtain ⟨hN, hkk⟩ := hc.node
 have hops := hN.ops
 rcases hk with rfl | rfl | rfl | rfl | rfl | rfl | rfl | rfl
 ·obtain rfl : ks = [] := List.length_eq_zero_iff.1 (by have : E8 1 = 0 := rfl; omega)
  exact B6j _ _ _ _ _ _ _ hr
 ·obtain ⟨a, b, rfl⟩ := ks2 (ks := ks) (by have : E8 6 = 2 := rfl; omega)
  exact B6a a b _ _ _ _ _ _ _ (hkk a zS0) hr
 ·obtain ⟨a, b, rfl⟩ := ks2 (ks := ks) (by have : E8 7 = 2 := rfl; omega)
  exact B0Q 7 a b _ _ _ _ _ _ _ (.inl rfl) (hkk a zS0) (hkk b zS0) hr
 ·obtain ⟨a, b, rfl⟩ := ks2 (ks := ks) (by have : E8 8 = 2 := rfl; omega)
  exact B0Q 8 a b _ _ _ _ _ _ _ (.inr rfl) (hkk a zS0) (hkk b zS0) hr
 ·obtain ⟨a, b, c, rfl⟩ := ks3 (ks := ks) (by have : E8 9 = 3 := rfl; omega)
  exact B6b a b c _ _ _ _ _ _ _ hr
 ·obtain ⟨a, rfl⟩ := ks1 (ks := ks) (by have : E8 11 = 1 := rfl; omega)
  exact B0R 11 a _ _ _ _ _ _ _ (.inl rfl) (hkk a zS0) hr
 ·obtain ⟨a, rfl⟩ := ks1 (ks := ks) (by have : E8 12 = 1 := rfl; omega)
  exact B0R 12 a _ _ _ _ _ _ _ (.inr rfl) (hkk a zS0) hr
 ·obtain ⟨a, rfl⟩ := ks1 (ks := ks) (by have : E8 14 = 1 := rfl; omega)
  exact B6k a _ _ _ _ _ _ _ hr
theorem B6l {k : Int} {nm : ByteArray} {num : Int} {ty fr : Ty} {lb : Int} {ks : List Tm} {G : IM} {cells : List Value} (hc : cv (.mk k nm num ty fr lb ks)) (hk : k = 6 ∨ k = 7 ∨ k = 8 ∨ k = 9 ∨ k = 11 ∨ k = 12 ∨ k = 14) (hr : B7 G (.mk k nm num ty fr lb ks) cells) :
  Fn Tryz.prog 152 [.agg ⟨cells⟩] [] G (U1 (A0E k ty fr lb ks)) := by
 obtain ⟨hN, hkk⟩ := hc.node
 have hops := hN.ops
 rcases hk with rfl | rfl | rfl | rfl | rfl | rfl | rfl
 ·obtain ⟨a, b, rfl⟩ := ks2 (ks := ks) (by have : E8 6 = 2 := rfl; omega)
  exact B6d a b _ _ _ _ _ _ _ (hkk a zS0) hr
 ·obtain ⟨a, b, rfl⟩ := ks2 (ks := ks) (by have : E8 7 = 2 := rfl; omega)
  exact B0U 7 a b _ _ _ _ _ _ _ (.inl rfl) (hkk a zS0) hr
 ·obtain ⟨a, b, rfl⟩ := ks2 (ks := ks) (by have : E8 8 = 2 := rfl; omega)
  exact B0U 8 a b _ _ _ _ _ _ _ (.inr rfl) (hkk a zS0) hr
 ·obtain ⟨a, b, c, rfl⟩ := ks3 (ks := ks) (by have : E8 9 = 3 := rfl; omega)
  exact B6i a b c _ _ _ _ _ _ _ (hkk a zS0) hr
 ·obtain ⟨a, rfl⟩ := ks1 (ks := ks) (by have : E8 11 = 1 := rfl; omega)
  exact B0T 11 a _ _ _ _ _ _ _ (.inl rfl) (hkk a zS0) hr
 ·obtain ⟨a, rfl⟩ := ks1 (ks := ks) (by have : E8 12 = 1 := rfl; omega)
  exact B0T 12 a _ _ _ _ _ _ _ (.inr rfl) (hkk a zS0) hr
 ·obtain ⟨a, rfl⟩ := ks1 (ks := ks) (by have : E8 14 = 1 := rfl; omega)
  exact B6h a _ _ _ _ _ _ _ (hkk a zS0) hN.lbB hr
theorem A6i (n : Nat) (t : Tm) (ts : List Tm) : Y8 (n + 1) (t :: ts) = if H7 t = true then (match Y8 n ts with | some (us, c, l) => some (t :: us, c, l) | none => none) else some ((K3 t).1 :: ts, (K3 t).2.1, (K3 t).2.2) := by
 rw [Y8]; rfl
theorem B0W : ∀ (n : Nat) (ks : List Tm), (∀ i, i < n → (h : i < ks.length) → H7 ks[i] = true) → Y8 n ks = none
 | n, [], _ => by cases n <;> rfl
 | 0, t :: ts, _ => rfl
 | n + 1, t :: ts, h => by
  rw [A6i, if_pos (show H7 t = true from h 0 zR0 zS0), B0W n ts (fun i hi hl => h (i + 1) zR0 (by simpa using hl))]
theorem B0X : ∀ (n : Nat) (ks : List Tm) (i : Nat) (hi : i < ks.length), i < n → (∀ j, j < i → (h : j < ks.length) → H7 ks[j] = true) → H7 ks[i] = false → Y8 n ks = some (ks.set i (K3 ks[i]).1, (K3 ks[i]).2.1, (K3 ks[i]).2.2)
 | n, [], i, hi, _, _, _ => by simp at hi
 | 0, t :: ts, i, _, hn, _, _ => by omega
 | n + 1, t :: ts, 0, _, _, _, hv => by
  rw [A6i, if_neg (by rw [show H7 t = false from hv]; decide)]; rfl
 | n + 1, t :: ts, i + 1, hi, hn, hj, hv => by
  rw [A6i, if_pos (show H7 t = true from hj 0 zR0 zS0), B0X n ts i (by simpa using hi) zR0 (fun j hji hl => hj (j + 1) zR0 (by simpa using hl)) hv]
  rfl
theorem B6m {k : Int} {ty fr : Ty} {lb : Int} {ks : List Tm} (h : (A0w k ty fr lb ks).2.1 = 1) : (A0w k ty fr lb ks).2.2 = 0 := by
 revert h
 unfold A0w Z6
 repeat' split
 all_goals first | (intro _; rfl) | (intro h; exfalso; revert h; simp)
theorem B6n {k : Int} {nm : ByteArray} {num : Int} {ty fr : Ty} {lb : Int} {ks : List Tm} (h : (K3 (.mk k nm num ty fr lb ks)).2.1 = 1) : (K3 (.mk k nm num ty fr lb ks)).2.2 = 0 := by
 rw [K3] at h ⊢
 cases hL : Y8 (if k = 9 then 1 else ks.length) ks with
 | none => rw [hL] at h; exact B6m h
 | some p =>
  obtain ⟨us, c, l⟩ := p
  rw [hL] at h
  simp only at h ⊢
  by_cases hc : c = 1
  ·rw [if_pos hc]
  ·rw [if_neg hc] at h; exact absurd h hc
theorem B6o {t : Tm} (h : (K3 t).2.1 = 1) : (K3 t).2.2 = 0 := by cases t; exact B6n h
theorem B6p {k : Int} {nm : ByteArray} {num : Int} {ty fr : Ty} {lb : Int} {ks : List Tm} {i : Nat} (hi : i < ks.length) (hn : i < (if k = 9 then 1 else ks.length)) (hj : ∀ j, j < i → (h : j < ks.length) → H7 ks[j] = true) (hv : H7 ks[i] = false) :
  (K3 (.mk k nm num ty fr lb ks)).2.1 = (K3 ks[i]).2.1 ∧ (K3 (.mk k nm num ty fr lb ks)).2.2 = (K3 ks[i]).2.2 ∧ ((K3 ks[i]).2.1 = 1 → (K3 (.mk k nm num ty fr lb ks)).1 = .mk k nm num ty fr lb (ks.set i (K3 ks[i]).1)) := by
 rw [K3, B0X _ ks i hi hn hj hv]
 simp only
 by_cases hc : (K3 ks[i]).2.1 = 1
 ·rw [if_pos hc]
  exact ⟨hc.symm, (B6o hc).symm, fun _ => rfl⟩
 ·rw [if_neg hc]
  exact ⟨rfl, rfl, fun h => absurd h hc⟩
theorem B6q {k : Int} {nm : ByteArray} {num : Int} {ty fr : Ty} {lb : Int} {ks : List Tm} (h : ∀ i, i < (if k = 9 then 1 else ks.length) → (hl : i < ks.length) → H7 ks[i] = true) : K3 (.mk k nm num ty fr lb ks) = match W9 k ks with | some u => (u, 1, 0) | none => A0E k ty fr lb ks := by
 rw [K3, B0W _ _ h]
 exact B6c k ty fr lb ks
theorem A6j {k : Int} (h : 0 ≤ E8 k) : 1 ≤ k ∧ k ≤ 14 := by
 by_cases hk : 1 ≤ k ∧ k ≤ 14
 ·exact hk
 ·rw [A5G hk] at h; omega
theorem B0Y {k : Int} {nm : ByteArray} {num : Int} {ty fr : Ty} {lb : Int} {ks : List Tm} (hc : cv (.mk k nm num ty fr lb ks)) (hv : H7 (.mk k nm num ty fr lb ks) = false) (h : ∀ i, i < (if k = 9 then 1 else ks.length) → (hl : i < ks.length) → H7 ks[i] = true) : k = 1 ∨ k = 6 ∨ k = 7 ∨ k = 8 ∨ k = 9 ∨ k = 11 ∨ k = 12 ∨ k = 14 := by
 obtain ⟨hN, _⟩ := hc.node
 have hr := A6j (by rw [hN.ops]; omega : 0 ≤ E8 k)
 have h13 := hN.ne
 have h25 : ¬(k = 2 ∨ k = 3 ∨ k = 4 ∨ k = 5) := by
  intro hk
  rw [H7, if_neg zR0] at hv
  rw [decide_eq_true hk] at hv
  cases hv
 have h10 : k ≠ 10 := by
  rintro rfl
  rw [A7T (.inl rfl), List.all_eq_false] at hv
  obtain ⟨t, ht, hn⟩ := hv
  obtain ⟨i, hi, rfl⟩ := List.mem_iff_getElem.1 ht
  exact hn (h i (by rw [if_neg zQ0]; exact hi) hi)
 omega
theorem B0Z (t : Tm) (G : IM) (cells : List Value) (hr : B7 G t cells) : Fn Tryz.prog 149 [.agg ⟨cells⟩] [] G (K7 (.int .i64 ((if t.k = 9 then 1 else t.ks.length : Nat) : Int)) G) := by
 obtain ⟨k, nm, num, ⟨tk, tks⟩, ⟨fk, fks⟩, lb, ks⟩ := t
 obtain ⟨pt, ct, pf, cf, p, c, es, rfl, hk, hnum, hlb, hty, hfr, hsl, hkl⟩ := hr.open9
 rw [show (Tm.mk k nm num (.mk tk tks) (.mk fk fks) lb ks).k = k from rfl, show (Tm.mk k nm num (.mk tk tks) (.mk fk fks) lb ks).ks = ks from rfl]
 refine C0 Tryz.func149 rfl Tryz.ntmps149 Tryz.results149 rfl ?_
 intro w0
 refine A4 ?_
 refine sE (B6 rfl rfl) rfl (fun b3 => ?_)
 refine E1 ?_
 refine sB (qE rfl rfl) rfl rfl (fun h12 => ?_) (fun h12 => ?_)
 refine M7 ?_
 (exact ⟨rfl, by rw [if_pos zR0]; rfl, rfl⟩)
 refine J0 ?_
 (exact ⟨rfl, by rw [if_neg zR0], rfl⟩)
theorem B6r {k : Int} (h8 : k = 1 ∨ k = 6 ∨ k = 7 ∨ k = 8 ∨ k = 9 ∨ k = 11 ∨ k = 12 ∨ k = 14) (h : E8 k = 0) : k = 1 := by
 rcases h8 with rfl | rfl | rfl | rfl | rfl | rfl | rfl | rfl
 ·rfl
 all_goals exact absurd h zQ0
theorem A7V {G : IM} {r r' : Stp} {u : Tm} {cells : List Value} {c l : Int} (h1 : r.2.1 = c) (h2 : r.2.2 = l) (hr : B7 G u cells) (h3 : c = 1 → u = r.1) : U1 r G (.tuple ⟨[.agg ⟨cells⟩, .int .i64 c, .int .i64 l]⟩) [] := by
 subst h1 h2; exact ⟨rfl, u, cells, rfl, hr, h3⟩
theorem B6s : ∀ (t : Tm) (G : IM) (cells : List Value), cv t → H7 t = false → B7 G t cells → Fn Tryz.prog 132 [.agg ⟨cells⟩] [] G (U1 (K3 t)) := by
 refine Tm.ind fun k nm num ty fr lb ks ih G cells hc hv hr => ?_
 have hr0 := hr
 have hN := hc.node.1
 have hkk := hc.node.2
 have hsm := A4Z _ hc
 obtain ⟨_, _, _, _, hksm⟩ := A37.1 hsm
 have hops := hN.ops
 have hle3 := A27 k
 have hkd := @B0Y k nm num ty fr lb ks hc hv
 have hrd := @B6q k nm num ty fr lb ks
 have hkidS := fun (i : Nat) => @B6p k nm num ty fr lb ks i
 have hRA := fun h => @B0V k nm num ty fr lb ks G cells hc h hr
 have hCA := fun h (G1 : IM) (hle : B9 G G1) => @B6l k nm num ty fr lb ks G1 cells hc h (hr.mono hle)
 have hCt := B0Z _ G _ hr
 rw [show (Tm.mk k nm num ty fr lb ks).k = k from rfl, show (Tm.mk k nm num ty fr lb ks).ks = ks from rfl] at hCt
 obtain ⟨C, hC⟩ : ∃ C : Nat, (if k = 9 then 1 else ks.length : Nat) = C := ⟨_, rfl⟩
 rw [hC] at hCt hkd hrd
 have hkidS' := fun (i : Nat) (hi : i < ks.length) (hn : i < C) => hkidS i hi (by rw [hC]; exact hn)
 have hC9 : C ≤ ks.length := by rw [← hC]; split; (have : E8 k = 3 := by (rename_i h9; rw [h9]; rfl)); omega; omega
 have hrul := hkd
 obtain ⟨tk, tks⟩ := ty
 obtain ⟨fk, fks⟩ := fr
 obtain ⟨pt, ct, pf, cf, p, c, es, rfl, hk, hnum, hlb, hty, hfr, hsl, hkl⟩ := hr.open9
 have hn := hsl.le
 have hnc := hsl.sl.2.1
 refine C0 Tryz.func132 rfl Tryz.ntmps132 Tryz.results132 rfl ?_
 intro w0
 refine A4 ?_
 refine sE (B6 rfl rfl) rfl (fun b3 => ?_)
 refine sE (A6 rfl) rfl (fun b4 => ?_)
 refine A9 ?_
 refine D3 D4 rfl ?_
 refine J4 (i := 0) (l' := [tt,ff,ff,ff,ff,ff,ff]) rfl C8 (C3 rfl) rfl zP0 rfl rfl ?_
 refine aL 1 rfl (F0 rfl rfl) rfl ?_
 refine aL 2 rfl (A3 rfl rfl) rfl ?_
 refine aP 6 rfl (qM rfl) rfl ?_
 refine A2 3 ?_
 refine T2 rfl rfl (hCt) rfl rfl rfl ?_
 refine aP 4 rfl (A68 (l := C) rfl rfl rfl zR0) rfl ?_
 refine aP 5 rfl (pLn rfl rfl) rfl ?_
 refine A4 ?_
 refine C2 ?_
 (refine L8 (fun (i : Nat) => ⟨[(19, .int .i64 (i : Int)), (18, .int .i64 (C : Int)), (17, .slice p C c), (1, .pointer (some ⟨b3, 0, none⟩)), (2, .pointer (some ⟨b4, 0, none⟩))], [.blk b4 [.int .i64 0, .string ⟨⟨[]⟩⟩, .int .i64 0, .int .i64 0, .slice none 0 0, .int .i64 0, .slice none 0 0, .int .i64 0, .slice none 0 0], .blk b3 [.int .i64 k, .string nm, .int .i64 num, .int .i64 tk, .slice pt tks.length ct, .int .i64 fk, .slice pf fks.length cf, .int .i64 lb, .slice p ks.length c]], G⟩) (fun i => i ≤ C ∧ ∀ j, j < i → (h : j < ks.length) → H7 ks[j] = true) (fun i => C - i) 0 ?_ ?_ ?_)
 exact F8
 (exact ⟨Nat.zero_le _, fun j hj => absurd hj (Nat.not_lt_zero j)⟩)
 (rintro i ⟨hi, hj⟩)
 refine A4 ?_
 refine sB (N5 rfl rfl) rfl rfl (fun h29 => ?_) (fun h29 => ?_)
 refine B0 ?_
 refine C2 ?_
 refine C1 ?_
 (have hiC : i < C := zR0; obtain ⟨bx, ox, e, rfl, hl, hat, hre, hgb⟩ := hsl.kidTm hkl (i := i) zR0 zR0; have heo := hre.one; have hVi := A6g ks[i] G e hre; refine sP (B8 (j := i) rfl rfl rfl hiC) rfl rfl ?_)
 refine sL (A5 rfl rfl (hat _) hl) rfl rfl ?_
 refine sE (A6 rfl) rfl (fun b43 => ?_)
 refine D8 ?_
 refine sS rfl rfl rfl hl heo rfl ?_ (hu := by exact C6 hl.symm)
 refine A8 ?_
 refine sL (A5 rfl rfl (B3 zI0) hl) rfl rfl ?_
 refine J5 rfl (hVi) rfl rfl (fun h52 => ?_) (fun h52 => ?_)
 refine E1 ?_
 refine sP (K0 rfl rfl zR0 zR0) rfl rfl ?_
 refine A4 ?_
 refine J7 (i + 1) ?_ ?_ ?_
 exact F8
 (exact ⟨by omega, fun j hji hl2 => (by by_cases he : j = i; (subst he; assumption); exact hj j zR0 hl2)⟩)
 (show C - (i + 1) < C - i; omega)
 refine B0 ?_
 refine sL (A5 rfl rfl (B3 zI0) hl) rfl rfl ?_
 (have hvF : H7 ks[i] = false := zO0; obtain ⟨hs1, hs2, hs3⟩ := hkidS' i zR0 hiC (fun j hji hl2 => hj j hji hl2) hvF; refine F4 rfl (ih ks[i] (List.getElem_mem zR0) G e (hkk _ (List.getElem_mem zR0)) hvF hre) rfl rfl (fun v G1 hle1 hh => ?_); obtain ⟨u, uc, rfl, hru, hu1⟩ := hh; have hul := hru.len; have huo := hru.one; have hClo := B0u G1 _ ks.length c es (hsl.mono hle1) zR0 zR0)
 refine B5 ?_
 refine sE (A6 rfl) rfl (fun b81 => ?_)
 refine sS rfl rfl rfl hul huo rfl ?_ (hu := by exact C6 hul.symm)
 refine B0 ?_
 refine sE (A6 rfl) rfl (fun b90 => ?_)
 refine B0 ?_
 (refine A1l rfl hClo rfl rfl (fun v98 G98 outs98 hle98 h98 => ?_); obtain ⟨hG, p1, c1, rfl, rfl⟩ := h98; replace hG := hG.symm; subst hG; refine A4T (cs := es.flatten) zD0 zR0 (fun bc Cc hpe hnc1 hcm => ?_); subst hpe)
 replace hru := hru.mono hle98
 refine E7 ?_
 refine sL (A5 rfl rfl (B3 zI0) hul) rfl rfl ?_
 refine sP (B8 (j := i) rfl rfl rfl zR0) rfl rfl ?_
 refine Q1 rfl rfl rfl hul huo rfl zF0 (by exact A4U (by rw [hkl.len]; omega) (fun e he => (hsl.all e he)) hul) ?_
 refine O3 ?_
 (refine A5D (bs := [(bc, (es.set i uc).flatten ++ Cc)]) (Pk.perm zD0) (fun hn2 hd2 hle2 => ?_))
 refine A9 ?_
 refine E9 (rC rfl (A3 rfl rfl)) (rT rfl) (rT rfl) ?_
 (have hks2 := F9.set (j := i) ((hkl.mono hle1).mono hle2) (hru.mono hle2); refine A7V (r' := Z6) hs1 hs2 (B7.put (us := ks.set i u) (es := es.set i uc) hk hnum hlb ((hty.mono hle1).mono hle2) ((hfr.mono hle1).mono hle2) (by rw [List.length_set]) (D7.of (Sl.of_blk (A := []) (by rw [A1y hks2.all, hks2.len, List.length_set]) zR0 hcm (Wi.in hn2 List.mem_cons_self)) (by rw [hks2.len, List.length_set]) hks2.all (fun e he => by obtain ⟨q, hq⟩ := List.getElem?_of_mem he; exact (hks2.inv hq I8).2.one)) hks2) (fun h1 => by rw [hs3 h1, hu1 h1]))
 refine N0 ?_
 focus (have hall : ∀ i, i < C → (hl : i < ks.length) → H7 ks[i] = true := (fun j hjc hl2 => hj j zR0 hl2); have hk8 := hkd hall; have hrd' := hrd hall; refine F4 rfl (hRA hk8) rfl rfl (fun v G1 hle1 hh => ?_); obtain ⟨u, uc, cc, rfl, hru, hy, hno⟩ := hh; have hul := hru.len; have huo := hru.one; rcases hm : W9 k ks with _ | x; rotate_left; obtain ⟨rfl, rfl⟩ := hy _ hm; rotate_left; obtain rfl := hno hm; rw [hm] at hrd')
 refine C1 ?_
 refine sE (A6 rfl) rfl (fun b149 => ?_)
 refine sS rfl rfl rfl hul huo rfl ?_ (hu := by exact C6 hul.symm)
 refine A9 ?_
 refine sP (D0 rfl rfl zR0) rfl rfl ?_
 refine M7 ?_
 refine sB (qE rfl rfl) rfl rfl (fun h169 => ?_) (fun h169 => ?_)
 refine N0 ?_
 refine E9 (rC rfl (A3 rfl rfl)) (rT rfl) (rT rfl) ?_
 (obtain rfl : k = 1 := B6r hk8 zR0; rw [hrd']; exact U1.mk rfl (R7 _))
 refine E1 ?_
 (have hk7 : k = 6 ∨ k = 7 ∨ k = 8 ∨ k = 9 ∨ k = 11 ∨ k = 12 ∨ k = 14 := (by rcases hk8 with h1 | hh; (rw [h1] at hops; have : E8 1 = 0 := rfl; omega); exact hh); refine F4 rfl (hCA hk7 _ hle1) rfl rfl (fun v G2 hle2 hh => ?_); obtain ⟨w, wc, rfl, hrw, hw1⟩ := hh; have hwl := hrw.len; have hwo := hrw.one)
 refine C1 ?_
 refine sS rfl rfl rfl hwl hwo rfl ?_ (hu := by exact C6 hwl.symm)
 refine A8 ?_
 refine E9 (rC rfl (A5 rfl rfl (B3 zI0) hwl)) (rT rfl) (rT rfl) ?_
 (rw [hrd']; exact A7V (r' := Z6) rfl rfl hrw hw1)
 refine C1 ?_
 refine sE (A6 rfl) rfl (fun b208 => ?_)
 refine sS rfl rfl rfl hul huo rfl ?_ (hu := by exact C6 hul.symm)
 refine A9 ?_
 refine sP (O1 rfl rfl zR0) rfl rfl ?_
 refine A8 ?_
 refine sL (A5 rfl rfl (B3 zI0) hul) rfl rfl ?_
 refine D8 ?_
 refine sS rfl rfl rfl hul huo rfl ?_ (hu := by exact C6 hul.symm)
 refine A9 ?_
 refine E9 (rC rfl (A5 rfl rfl (B3 zI0) hul)) (rT rfl) (rT rfl) ?_
 (rw [hrd', hm]; exact U1.mk rfl hru)
def A0d (r : Stp) : IM → Value → List A7 → Prop := N8 fun G' v => ∃ cells, v = .tuple ⟨[.agg ⟨cells⟩, .int .i64 r.2.1, .int .i64 r.2.2]⟩ ∧ B7 G' r.1 cells
theorem A0d.mk {G : IM} {r : Stp} {u : Tm} {c l : Int} {cells : List Value} (h : r = (u, c, l)) (hr : B7 G u cells) : A0d r G (.tuple ⟨[.agg ⟨cells⟩, .int .i64 c, .int .i64 l]⟩) [] := by
 subst h; exact ⟨rfl, cells, rfl, hr⟩
theorem A5c {t : Tm} (h : O9 t = true) : t.small := A4Z t (A3E h).1
theorem B00 {e : Tm} (h : O9 e = false) : L7 e = (I8, 3, 0) := by unfold L7; rw [if_pos h]; rfl
theorem A6k {e : Tm} (h : O9 e = true) (h2 : H7 e = true) : L7 e = (e, 0, 0) := by unfold L7; rw [if_neg (by rw [h]; decide), if_pos h2]
theorem B01 {e : Tm} (h : O9 e = true) (h2 : H7 e = false) (h3 : (K3 e).2.1 ≠ 1) : L7 e = (I8, (K3 e).2.1, (K3 e).2.2) := by
 unfold L7; rw [if_neg (by rw [h]; decide), if_neg (by rw [h2]; decide), if_pos h3]
theorem A6l {e : Tm} (h : O9 e = true) (h2 : H7 e = false) (h3 : (K3 e).2.1 = 1) (h4 : O9 (K3 e).1 = false) : L7 e = (I8, 4, 0) := by
 unfold L7; rw [if_neg (by rw [h]; decide), if_neg (by rw [h2]; decide), if_neg zR0, if_pos h4]
theorem A6m {e : Tm} (h : O9 e = true) (h2 : H7 e = false) (h3 : (K3 e).2.1 = 1) (h4 : O9 (K3 e).1 = true) : L7 e = ((K3 e).1, 1, 0) := by
 unfold L7; rw [if_neg (by rw [h]; decide), if_neg (by rw [h2]; decide), if_neg zR0, if_neg (by rw [h4]; decide)]
theorem B6t (t : Tm) (G : IM) (cells : List Value) (hr : B7 G t cells) : Fn Tryz.prog 98 [.agg ⟨cells⟩] [] G (A0d (L7 t)) := by
 have hRl := hr.len
 have hRo := hr.one
 have hV := A5Q t G cells hr
 have hI := A6g t G cells hr
 refine C0 Tryz.func98 rfl Tryz.ntmps98 Tryz.results98 rfl ?_
 intro w0
 refine A4 ?_
 refine sE (B6 rfl rfl) rfl (fun b3 => ?_)
 refine sE (A6 rfl) rfl (fun b4 => ?_)
 refine A8 ?_
 refine C2 ?_
 refine A4 ?_
 refine sL (A5 rfl rfl (B3 zI0) hRl) rfl rfl ?_
 refine J5 rfl (hV) rfl rfl (fun h14 => ?_) (fun h14 => ?_)
 refine B0 ?_
 refine sL (A5 rfl rfl (B3 zI0) hRl) rfl rfl ?_
 refine J5 rfl (hI) rfl rfl (fun h23 => ?_) (fun h23 => ?_)
 refine A9 ?_
 refine sL (A5 rfl rfl (B3 zI0) hRl) rfl rfl ?_
 (refine F4 rfl (A32 t G cells (A5c zO0) hr) rfl rfl (fun v G1 hle1 hh => ?_); obtain ⟨cs1, F1, rfl, hs1, hn1⟩ := hh; have hul := hs1.R.len; have huo := hs1.R.one)
 refine sS rfl rfl rfl hul huo rfl ?_ (hu := by exact C6 hul.symm)
 refine B0 ?_
 refine E9 (rC rfl (A5 rfl rfl (B3 zI0) hul)) (rT rfl) (rT rfl) ?_
 (exact A0d.mk (A6k zO0 zO0) (hs1.R.mono (E0.le _ _)))
 refine E7 ?_
 refine sL (A5 rfl rfl (B3 zI0) hRl) rfl rfl ?_
 (refine F4 rfl (B6s t G cells (A3E zO0).1 zO0 hr) rfl rfl (fun v G1 hle1 hh => ?_); obtain ⟨u, uc, rfl, hru, hu1⟩ := hh; have hul := hru.len; have huo := hru.one; have hVu := A5Q u G1 uc hru)
 refine B5 ?_
 refine sE (A6 rfl) rfl (fun b57 => ?_)
 refine sS rfl rfl rfl hul huo rfl ?_ (hu := by exact C6 hul.symm)
 refine A8 ?_
 refine C2 ?_
 refine C1 ?_
 refine sB (U3 rfl rfl) rfl rfl (fun h68 => ?_) (fun h68 => ?_)
 refine V0 ?_
 refine E9 (rC rfl (A3 rfl rfl)) (rT rfl) (rT rfl) ?_
 (exact A0d.mk (B01 zO0 zO0 zR0) (R7 _))
 refine A9 ?_
 refine sL (A5 rfl rfl (B3 zI0) hul) rfl rfl ?_
 refine J5 rfl (hVu) rfl rfl (fun h95 => ?_) (fun h95 => ?_)
 refine J2 ?_
 refine sL (A5 rfl rfl (B3 zI0) hul) rfl rfl ?_
 (refine F4 rfl (A32 u G1 uc (A5c zO0) hru) rfl rfl (fun v G2 hle2 hh => ?_); obtain ⟨cs2, F2, rfl, hs2, hn2⟩ := hh; have hwl := hs2.R.len; have hwo := hs2.R.one)
 refine sS rfl rfl rfl hwl hwo rfl ?_ (hu := by exact C6 hwl.symm)
 refine A8 ?_
 refine E9 (rC rfl (A5 rfl rfl (B3 zI0) hwl)) (rT rfl) (rT rfl) ?_
 (have h9 := hu1 zR0; subst h9; exact A0d.mk (A6m zO0 zO0 zR0 zO0) (hs2.R.mono (E0.le _ _)))
 refine N3 ?_
 refine E9 (rC rfl (A3 rfl rfl)) (rT rfl) (rT rfl) ?_
 (have h9 := hu1 zR0; subst h9; exact A0d.mk (A6l zO0 zO0 zR0 zO0) (R7 _))
 refine N3 ?_
 refine E9 (rC rfl (A3 rfl rfl)) (rT rfl) (rT rfl) ?_
 (exact A0d.mk (B00 zO0) (R7 _))
def S3 : Nat → Tm → Tm × Int × Int × Nat
 | 0, e => ((L7 e).1, (L7 e).2.1, (L7 e).2.2, 0)
 | n + 1, e => if (L7 e).2.1 = 1 then ((S3 n (L7 e).1).1, (S3 n (L7 e).1).2.1, (S3 n (L7 e).1).2.2.1, (S3 n (L7 e).1).2.2.2 + 1)
  else ((L7 e).1, (L7 e).2.1, (L7 e).2.2, 0)
theorem A7W (e : Tm) : S3 0 e = ((L7 e).1, (L7 e).2.1, (L7 e).2.2, 0) := by rw [S3]
theorem A7X {n : Nat} {e : Tm} (h : (L7 e).2.1 = 1) : S3 (n + 1) e = ((S3 n (L7 e).1).1, (S3 n (L7 e).1).2.1, (S3 n (L7 e).1).2.2.1, (S3 n (L7 e).1).2.2.2 + 1) := by rw [S3, if_pos h]
theorem A7Y {n : Nat} {e : Tm} (h : (L7 e).2.1 ≠ 1) : S3 (n + 1) e = ((L7 e).1, (L7 e).2.1, (L7 e).2.2, 0) := by rw [S3, if_neg h]
theorem B02 : ∀ (n : Nat) (e : Tm), (S3 n e).2.1 = 1 → T4 n e = (I8, 5, 0, (S3 n e).2.2.2)
 | 0, e, h => by rw [A7W] at h ⊢; rw [T4, if_pos h]
 | n + 1, e, h => by
  by_cases h1 : (L7 e).2.1 = 1
  ·rw [A7X h1] at h ⊢
   rw [T4, if_pos h1, B02 n _ h]
  ·rw [A7Y h1] at h; exact absurd h h1
theorem B03 : ∀ (n : Nat) (e : Tm), (S3 n e).2.1 ≠ 1 → T4 n e = S3 n e
 | 0, e, h => by rw [A7W] at h ⊢; rw [T4, if_neg h]
 | n + 1, e, h => by
  by_cases h1 : (L7 e).2.1 = 1
  ·rw [A7X h1] at h ⊢
   rw [T4, if_pos h1, B03 n _ h]
  ·rw [A7Y h1]; rw [T4, if_neg h1]
def EvP (r : Tm × Int × Int × Nat) : IM → Value → List A7 → Prop := N8 fun G' v => ∃ cells, v = .tuple ⟨[.agg ⟨cells⟩, .int .i64 r.2.1, .int .i64 r.2.2.1, .int .i64 (r.2.2.2 : Int)]⟩ ∧ B7 G' r.1 cells
def A1g (i : Nat) (r : Tm × Int × Int × Nat) : Tm × Int × Int × Nat := (r.1, r.2.1, r.2.2.1, r.2.2.2 + i)
theorem B6u {m i : Nat} {e : Tm} (h : (L7 e).2.1 ≠ 1 ∨ m = 0) : A1g i (S3 m e) = ((L7 e).1, (L7 e).2.1, (L7 e).2.2, i) := by
 cases m with
 | zero => simp [A1g, S3]
 | succ m =>
  rcases h with h | h
  ·simp only [A1g, S3]; rw [if_neg h]; simp
  ·cases h
theorem B6v {m i : Nat} {e : Tm} (h : (L7 e).2.1 = 1) (hm : 0 < m) : A1g i (S3 m e) = A1g (i + 1) (S3 (m - 1) (L7 e).1) := by
 obtain ⟨k, rfl⟩ : ∃ k, m = k + 1 := ⟨m - 1, by omega⟩
 simp only [A1g, S3]; rw [if_pos h]; simp only [Nat.add_sub_cancel, Nat.add_assoc, Nat.add_comm 1 i]
section fin
variable {P : Program} {Γ : N7} {env : O6} {hp : List A7} {G : IM}
theorem B6w {post : IM → Value → List A7 → Prop} {σ : Sy} (hk : post σ.G (.tuple ⟨[]⟩) []) : A06 P Γ [] post .normal σ := ⟨[], .nil, [], σ.hp, by simp, hk⟩
theorem A6n {r r2 r3 r4 : ResultVar} {post : IM → Value → List A7 → Prop} {v v2 v3 v4 : Value} (h : A0s P Γ ⟨env, hp, G⟩ r v) (h2 : A0s P Γ ⟨env, hp, G⟩ r2 v2) (h3 : A0s P Γ ⟨env, hp, G⟩ r3 v3) (h4 : A0s P Γ ⟨env, hp, G⟩ r4 v4) (hk : post G (.tuple ⟨[v, v2, v3, v4]⟩) []) :
  A06 P Γ [r, r2, r3, r4] post .ret ⟨env, hp, G⟩ := A5x (.cons h (.cons h2 (.cons h3 (.cons h4 .nil)))) hk
end fin
theorem EvP.mk {G : IM} {r : Tm × Int × Int × Nat} {u : Tm} {c l : Int} {i : Nat} {cells : List Value} (h : r = (u, c, l, i)) (hr : B7 G u cells) : EvP r G (.tuple ⟨[.agg ⟨cells⟩, .int .i64 c, .int .i64 l, .int .i64 (i : Int)]⟩) [] := by
 subst h; exact ⟨rfl, cells, rfl, hr⟩
theorem B6x (e : Tm) (n : Nat) (hn : n ≤ 300) (fid : FuncId) [C4 Tryz.prog fid] (us cs : List Value) (hq : ∀ (G : IM) (u : Tm) (cells : List Value), B7 G u cells → Fn Tryz.prog fid (us ++ [.agg ⟨cells⟩] ++ cs) [] G (K7 (.tuple ⟨[]⟩) G))
  (G : IM) (cells : List Value) (hr : B7 G e cells) : Fn Tryz.prog 64 [.agg ⟨cells⟩, .int .i64 (n : Int), .func (.func fid) ⟨us⟩ ⟨cs⟩] [] G (EvP (S3 n e)) := by
 have hRl := hr.len
 have hRo := hr.one
 have hq0 := hq G e cells hr
 refine C0 Tryz.func64 rfl Tryz.ntmps64 Tryz.results64 rfl ?_
 intro w0
 refine A4 ?_
 refine sE (B6 rfl rfl) rfl (fun b3 => ?_)
 refine sE (A6 rfl) rfl (fun b4 => ?_)
 refine E1 ?_
 refine sL (A5 rfl rfl (B3 zI0) hRl) rfl rfl ?_
 (refine A8R rfl rfl hq0 rfl rfl ?_)
 refine B0 ?_
 refine C2 ?_
 (refine L8 (fun (x : Nat × Tm × List Value × IM) => ⟨[(10, .int .i64 (x.1 : Int)), (1, .int .i64 (n : Int)), (2, .func (.func fid) ⟨us⟩ ⟨cs⟩), (3, .pointer (some ⟨b3, 0, none⟩)), (6, .pointer (some ⟨b4, 0, none⟩))], [.blk b3 x.2.2.1, .blk b4 [.int .i64 0, .string ⟨⟨[]⟩⟩, .int .i64 0, .int .i64 0, .slice none 0 0, .int .i64 0, .slice none 0 0, .int .i64 0, .slice none 0 0]], x.2.2.2⟩) (fun x => x.1 ≤ n ∧ B9 G x.2.2.2 ∧ B7 x.2.2.2 x.2.1 x.2.2.1 ∧ A1g x.1 (S3 (n - x.1) x.2.1) = S3 n e) (fun x => n - x.1) (0, e, cells, G) ?_ ?_ ?_)
 (simp only [I9]; exact F8)
 (exact ⟨Nat.zero_le _, B9.refl _, hr, rfl⟩)
 (rintro ⟨i, u, uc, Gi⟩ ⟨hi, hle, hru, hev⟩; simp only [] at hi hle hru hev ⊢; have hul := hru.len; have huo := hru.one)
 refine tS ?_
 refine C2 ?_
 refine A4 ?_
 refine sL (A5 rfl rfl (B3 zI0) hul) rfl rfl ?_
 (refine F4 rfl (B6t u Gi uc hru) rfl rfl (fun v G1 hle1 hh => ?_); obtain ⟨wc, hv, hrw⟩ := hh; have hwl := hrw.len; have hwo := hrw.one; have hend := @B6u (n - i) i u; have hgo := @B6v (n - i) i u; generalize L7 u = r at hv hrw hend hgo; obtain ⟨w, c, l⟩ := r; simp only at hv hrw hend hgo; subst hv)
 refine B5 ?_
 refine sE (A6 rfl) rfl (fun b37 => ?_)
 refine sS rfl rfl rfl hwl hwo rfl ?_ (hu := by exact C6 hwl.symm)
 refine E1 ?_
 refine sB (U3 rfl rfl) rfl rfl (fun h47 => ?_) (fun h47 => ?_)
 refine J2 ?_
 exact y114
 refine C1 ?_
 refine sB (qE rfl rfl) rfl rfl (fun h79 => ?_) (fun h79 => ?_)
 refine A9 ?_
 exact y114
 refine E1 ?_
 refine sL (A5 rfl rfl (B3 zI0) hwl) rfl rfl ?_
 refine Q1 rfl rfl rfl hwl hwo rfl zF0 (by exact C6 (hul.trans hwl.symm)) ?_
 refine B5 ?_
 refine sL (A5 rfl rfl (B3 zI0) hwl) rfl rfl ?_
 (refine A8R rfl rfl (hq G1 w wc hrw) rfl rfl ?_)
 refine A8 ?_
 refine sP (K0 rfl rfl zR0 zR0) rfl rfl ?_
 refine A4 ?_
 refine J7 (i + 1, w, wc, G1) ?_ ?_ ?_
 (simp only [I9]; exact F8)
 (dsimp only; exact ⟨by omega, hle.trans hle1, hrw, by rw [← hev, hgo zR0 zR0, show n - (i + 1) = n - i - 1 by omega]⟩)
 (show n - (i + 1) < n - i; omega)
theorem B04 (fuel : Int) (G : IM) : Fn Tryz.prog 63 [.int .i64 fuel] [] G (K7 (.bool (V1 fuel 0 300)) G) := by
 refine C0 Tryz.func63 rfl Tryz.ntmps63 Tryz.results63 rfl ?_
 intro w0
 refine E1 ?_
 refine H4 rfl ((A2h _ _ _ _)) rfl rfl ?_
 refine A8 ?_
 (exact ⟨rfl, rfl, rfl⟩)
theorem B05 {e : Tm} {fuel : Int} (h : V1 fuel 0 300 = false) : Y3 e fuel = (I8, 3, 0) := by
 unfold Y3; rw [if_neg (A6Y h)]; rfl
theorem B06 {e : Tm} {fuel : Int} (h : V1 fuel 0 300 = true) (h1 : (S3 fuel.toNat e).2.1 = 1) : Y3 e fuel = (I8, 5, 0) := by
 unfold Y3; rw [if_pos (A3Y h), B02 _ _ h1]
theorem B07 {e : Tm} {fuel : Int} (h : V1 fuel 0 300 = true) (h1 : (S3 fuel.toNat e).2.1 ≠ 1) : Y3 e fuel = ((S3 fuel.toNat e).1, (S3 fuel.toNat e).2.1, (S3 fuel.toNat e).2.2.1) := by
 unfold Y3; rw [if_pos (A3Y h), B03 _ _ h1]
theorem B6y (G : IM) (cells : List Value) (hl : cells.length = 9) (ho : cells.all (·.oneCell') = true) : Fn Tryz.prog 65 [.agg ⟨cells⟩] [] G (K7 (.tuple ⟨[]⟩) G) := by
 refine C0 Tryz.func65 rfl Tryz.ntmps65 Tryz.results65 rfl ?_
 intro w0
 refine tR ?_
 refine sE (B6 rfl rfl) rfl (fun b2 => ?_)
 refine sD ?_
 refine B6w ?_
 (exact ⟨rfl, rfl, rfl⟩)
theorem B6z (e : Tm) (fuel : Int) (G : IM) (cells : List Value) (hr : B7 G e cells) : Fn Tryz.prog 33 [.agg ⟨cells⟩, .int .i64 fuel] [] G (A0d (Y3 e fuel)) := by
 have hRl := hr.len
 have hRo := hr.one
 have hno := @B05 e fuel
 have hmu := @B06 e fuel
 have hen := @B07 e fuel
 refine C0 Tryz.func33 rfl Tryz.ntmps33 Tryz.results33 rfl ?_
 intro w0
 refine A4 ?_
 refine sE (B6 rfl rfl) rfl (fun b3 => ?_)
 refine sE (A6 rfl) rfl (fun b4 => ?_)
 refine E1 ?_
 refine J5 rfl ((B04 fuel _)) rfl rfl (fun h13 => ?_) (fun h13 => ?_)
 refine E1 ?_
 refine sL (A5 rfl rfl (B3 zI0) hRl) rfl rfl ?_
 refine D8 ?_
 (have hf : V1 fuel 0 300 = true := zO0; have hf2 := A3Y hf; have hE := B6x e fuel.toNat zR0 65 [] [] (fun G u cells hru => B6y G cells hru.len hru.one) G cells hr; rw [Int.toNat_of_nonneg hf2.1] at hE; refine F4 rfl hE rfl rfl (fun v G1 hle1 hh => ?_); obtain ⟨wc, hv, hrw⟩ := hh; have hwl := hrw.len; have hwo := hrw.one; have hmu := hmu hf; have hen := hen hf; generalize S3 fuel.toNat e = r at hv hrw hmu hen; obtain ⟨w, c, l, i⟩ := r; simp only at hv hrw hmu hen; subst hv)
 refine A8 ?_
 refine sE (A6 rfl) rfl (fun b30 => ?_)
 refine sS rfl rfl rfl hwl hwo rfl ?_ (hu := by exact C6 hwl.symm)
 refine E7 ?_
 refine sB (qE rfl rfl) rfl rfl (fun h41 => ?_) (fun h41 => ?_)
 refine N0 ?_
 refine E9 (rC rfl (A3 rfl rfl)) (rT rfl) (rT rfl) ?_
 (exact A0d.mk (hmu zR0) (R7 _))
 refine B0 ?_
 refine sL (A5 rfl rfl (B3 zI0) hwl) rfl rfl ?_
 refine A4 ?_
 refine sS rfl rfl rfl hwl hwo rfl ?_ (hu := by exact C6 hwl.symm)
 refine A8 ?_
 refine E9 (rC rfl (A5 rfl rfl (B3 zI0) hwl)) (rT rfl) (rT rfl) ?_
 (exact A0d.mk (hen zR0) hrw)
 refine M8 ?_
 refine E9 (rC rfl (A3 rfl rfl)) (rT rfl) (rT rfl) ?_
 (exact A0d.mk (hno zO0) (R7 _))
mutual
def A4i (L : Int → Prop) : Tm → Prop
 | .mk k nm num ty fr lb ks => (k = 14 → L lb) ∧ A4j L ks
def A4j (L : Int → Prop) : List Tm → Prop
 | [] => True
 | t :: ts => A4i L t ∧ A4j L ts
end
theorem A2X {L : Int → Prop} {k : Int} {nm : ByteArray} {num : Int} {ty fr : Ty} {lb : Int} {ks : List Tm} : A4i L (.mk k nm num ty fr lb ks) ↔ (k = 14 → L lb) ∧ A4j L ks := by rw [A4i]
theorem A3e {L : Int → Prop} : ∀ {ts : List Tm}, A4j L ts ↔ ∀ t ∈ ts, A4i L t
 | [] => by simp [A4j]
 | t :: ts => by rw [A4j, A3e (ts := ts)]; simp
def B9D (L : Int → Prop) (T : Ty) (r : Stp) : Prop := (r.2.1 = 1 ∧ A1H [] r.1 = some T ∧ A4i L r.1) ∨ (r.2.1 = 2 ∧ L r.2.2)
end Gw
end Go.Proofs.YtbdacdnffkhgeaaGreatDoor
