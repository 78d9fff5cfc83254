/-
  The reference's types are those of the insertion.
-/
import Derived.Test.YtfpgncjeejickaaGreatKf3
import Derived.Test.YtfpgncjeejickaaGreatKf2
import Derived.Test.YtfpgncjeejickaaGreatKf0
import Derived.Test.YtfpgncjeejickaaGreatKf1
set_option linter.unusedVariables false
set_option linter.unusedSimpArgs false
set_option maxHeartbeats 0
set_option maxRecDepth 100000
set_option synthInstance.maxSize 4000
set_option synthInstance.maxHeartbeats 0
namespace Go.Proofs.YtfpgncjeejickaaGreat
open Go Go.RowKit
namespace Gw
def Z3 (cx : Cx) : Prop := ∀ b ∈ cx, F4 b.2 = true
theorem A2M : Z3 [] := by intro b hb; simp at hb
theorem A3o {cx : Cx} {k : Int} {nm : ByteArray} {ty : Ty} (h : Z3 cx) (ht : k = 5 → F4 ty = true) : Z3 (O6 cx k nm ty) := by
 unfold O6
 split
 ·intro b hb
  rcases List.mem_append.1 hb with hb | hb
  ·exact h b hb
  ·obtain rfl := List.mem_singleton.1 hb; exact ht (by assumption)
 ·exact h
theorem B2h {cx : Cx} {k : Int} {nm : ByteArray} {ty : Ty} {h : List Ty} (hcx : Z3 cx) (hh : ∀ a ∈ h, F4 a = true) (hty : k = 13 → F4 ty = true) (hn : D9 k = (h.length : Int)) :
  (∀ w t, Y9 cx k nm ty h = some (w, t) → V5 cx k nm ty h = some t ∧ F4 t = true) ∧ (Y9 cx k nm ty h = none → V5 cx k nm ty h = none) := by
 unfold Y9 V5
 have hv := fun w t (e : O0 cx k nm ty h = some (w, t)) (h5 : k ≠ 5 ∧ k ≠ 10) => B2g hcx hh (by cases h with | nil => exact .inr rfl | cons x xs => exact .inl (hh _ (by simp))) hty hn e h5
 cases hw : O0 cx k nm ty h with
 | none => simp
 | some p =>
  obtain ⟨w, t⟩ := p
  have hv := hv w t hw
  simp only
  by_cases h5 : k = 5 ∨ k = 10
  ·cases ht : F4 t with
   | true => simp [ht]
   | false => simp [h5]
  ·have := hv (by omega)
   simp [this]
theorem A7Z (ks : List Tm) (ih : ∀ t ∈ ks, ∀ d cx l, N5 12 14 t d = true → Z3 cx → (∀ u a l', M7 cx t l = some (u, a, l') → P3 cx t = some a ∧ F4 a = true) ∧ (M7 cx t l = none → P3 cx t = none)) :
  ∀ d cx l, N6 12 14 ks d = true → Z3 cx → (∀ us h l', M5 cx ks l = some (us, h, l') → U5 cx ks = some h ∧ (∀ a ∈ h, F4 a = true) ∧ h.length = ks.length ∧ us.length = ks.length) ∧ (M5 cx ks l = none → U5 cx ks = none) := by
 induction ks with
 | nil =>
  intro d cx l _ _
  refine ⟨fun us h l' he => ?_, fun he => by simp [M5] at he⟩
  simp only [M5, Option.some.injEq, Prod.mk.injEq] at he
  obtain ⟨rfl, rfl, _⟩ := he
  exact ⟨by rw [U5], by simp, rfl, rfl⟩
 | cons t ts ihl =>
  intro d cx l hs hcx
  rw [N6, Bool.and_eq_true] at hs
  obtain ⟨a1, a2⟩ := ih t List.mem_cons_self d cx l hs.1 hcx
  rw [M5, U5]
  cases he : M7 cx t l with
  | none => rw [a2 he]; exact ⟨fun _ _ _ h => by simp at h, fun _ => rfl⟩
  | some p =>
   obtain ⟨u, a, l1⟩ := p
   obtain ⟨b1, b2⟩ := a1 u a l1 he
   rw [b1]
   obtain ⟨c1, c2⟩ := ihl (fun x hx => ih x (List.mem_cons_of_mem _ hx)) d cx l1 hs.2 hcx
   simp only
   cases hL : M5 cx ts l1 with
   | none => rw [c2 hL]; exact ⟨fun _ _ _ h => by simp at h, fun _ => rfl⟩
   | some q =>
    obtain ⟨us, h, l2⟩ := q
    obtain ⟨d1, d2, d3, d4⟩ := c1 us h l2 hL
    rw [d1]
    refine ⟨fun us' h' l' e => ?_, fun e => by simp at e⟩
    simp only [Option.some.injEq, Prod.mk.injEq] at e
    obtain ⟨rfl, rfl, _⟩ := e
    refine ⟨rfl, fun x hx => ?_, by simp [d3], by simp [d4]⟩
    rcases List.mem_cons.1 hx with rfl | hx
    ·exact b2
    ·exact d2 x hx
theorem A2N : ∀ (t : Tm) (d : Int) (cx : Cx) (l : Int), N5 12 14 t d = true → Z3 cx → (∀ u a l', M7 cx t l = some (u, a, l') → P3 cx t = some a ∧ F4 a = true) ∧ (M7 cx t l = none → P3 cx t = none) := by
 refine Tm.ind fun k nm num ty fr lb ks ih d cx l hs hcx => ?_
 obtain ⟨_, _, h3, h4⟩ := A0Q hs
 obtain ⟨n1, _, _, _, _, n6, _⟩ := U3.1 h3
 obtain ⟨L1, L2⟩ := A7Z ks ih (d + 1) (O6 cx k nm ty) l h4 (A3o hcx fun hk => n6 (by omega))
 rw [M7, P3]
 cases hL : M5 (O6 cx k nm ty) ks l with
 | none => rw [L2 hL]; exact ⟨fun _ _ _ h => by simp at h, fun _ => rfl⟩
 | some q =>
  obtain ⟨us, h, l2⟩ := q
  obtain ⟨d1, d2, d3, d4⟩ := L1 us h l2 hL
  rw [d1]
  obtain ⟨e1, e2⟩ := B2h (k := k) (nm := nm) (ty := ty) hcx d2 (fun hk => n6 (.inr (.inl hk))) (by rw [d3]; exact n1)
  simp only [A1p]
  cases hN : Y9 cx k nm ty h with
  | none => rw [e2 hN]; exact ⟨fun _ _ _ h => by simp at h, fun _ => rfl⟩
  | some p =>
   obtain ⟨w, t⟩ := p
   obtain ⟨f1, f2⟩ := e1 w t hN
   rw [f1]
   refine ⟨fun u a l' e => ?_, fun e => by simp at e⟩
   simp only [Option.some.injEq, Prod.mk.injEq] at e
   obtain ⟨_, rfl, _⟩ := e
   exact ⟨rfl, f2⟩
theorem B2i {cx : Cx} {k : Int} {nm : ByteArray} {num : Int} {ty fr : Ty} {lb : Int} {ks : List Tm} {T : Ty} {us w : List Ty} (hu : X4 (O6 cx k nm ty) ks = some us) (hk : k ≠ 14) (hv : F4 T = true) (hw : O0 cx k nm ty us = some (w, T)) (hs : A3f w us = true) : A0D cx (.mk k nm num ty fr lb ks) = some T := by
 rw [A0D, hu]
 simp only [if_neg hk]
 unfold Y9
 rw [hw]
 simp only [hv, if_true, hs]
theorem B2j {cx : Cx} {a : Tm} {us : List Ty} (h : X4 cx [a] = some us) : ∃ x, A0D cx a = some x ∧ us = [x] := by
 rw [X4] at h
 split at h
 ·cases h
 ·rename_i x hx
  rw [X4] at h
  simp only [Option.some.injEq] at h
  exact ⟨x, hx, h.symm⟩
theorem B2k {cx : Cx} {a : Tm} {x : Ty} (h : A0D cx a = some x) : X4 cx [a] = some [x] := by rw [X4, h]; rfl
mutual
theorem A2g : ∀ a : Ty, J5 a a = true
 | .mk k ks => by rw [W0, A70 ks]; simp
theorem A70 : ∀ xs : List Ty, O9 xs xs = true
 | [] => rfl
 | a :: xs => by rw [O9, A2g a, A70 xs]; rfl
end
mutual
theorem A71 : ∀ a : Ty, T6 a a = a
 | .mk k ks => by
  rw [A2A, A72 ks]
  by_cases h : k = 1
  ·rw [if_pos h]
  ·rw [if_neg h, if_neg h]
theorem A72 : ∀ xs : List Ty, S7 xs xs = xs
 | [] => rfl
 | a :: xs => by rw [S7, A71 a, A72 xs]
end
theorem A73 {k : Int} {ks : List Ty} (hk : k = 4 ∨ k = 5) (h : F4 (.mk k ks) = true) : ∃ a b, ks = [a, b] ∧ F4 a = true ∧ F4 b = true := by
 unfold F4 at h ⊢
 rw [A4d, Bool.and_eq_true, Bool.and_eq_true, decide_eq_true_eq, decide_eq_true_eq] at h
 have h2 : ks.length = 2 := by
  have : A0r k = 2 := by rcases hk with rfl | rfl <;> rfl
  omega
 match ks, h2, h.2 with
 | [x, y], _, hL =>
  simp only [T3, Bool.and_eq_true] at hL
  exact ⟨x, y, rfl, A3n _ 2 1 (by omega) hL.1, A3n _ 2 1 (by omega) hL.2.1⟩
section inv
variable {cx : Cx} {nm : ByteArray} {num : Int} {ty fr : Ty} {lb : Int} {a b c : Tm} {T : Ty}
theorem A74 : ∀ xs : List Ty, A3f xs xs = true
 | [] => rfl
 | a :: xs => by rw [A3f, A5c, A74 xs]; rfl
theorem B2l (h : A0D cx a = some fr) : A0D cx (.mk 14 nm num ty fr lb [a]) = some ty := by
 rw [A0D, show O6 cx 14 nm ty = cx from rfl, B2k h]
 simp only [if_true, List.getD_cons_zero, A5c]
end inv
theorem A3p {cx : Cx} : ∀ {ks : List Tm} {i : Nat} (hi : i < ks.length) {l l' l2 : Int} {us : List Tm} {h : List Ty} {u : Tm} {a : Ty}, M5 cx (ks.take i) l = some (us, h, l') → M7 cx ks[i] l' = some (u, a, l2) → M5 cx (ks.take (i + 1)) l = some (us ++ [u], h ++ [a], l2)
 | [], i, hi, _, _, _, _, _, _, _, _, _ => by simp at hi
 | t :: ts, 0, _, l, l', l2, us, h, u, a, h1, h2 => by
  simp only [List.take_zero, M5, Option.some.injEq, Prod.mk.injEq] at h1
  obtain ⟨rfl, rfl, rfl⟩ := h1
  simp only [List.getElem_cons_zero] at h2
  simp [M5, h2]
 | t :: ts, i + 1, hi, l, l', l2, us, h, u, a, h1, h2 => by
  simp only [List.take_succ_cons, M5] at h1 ⊢
  split at h1
  ·cases h1
  ·rename_i u1 a1 l1 he
   split at h1
   ·cases h1
   ·rename_i us1 h1' l1' hL
    simp only [Option.some.injEq, Prod.mk.injEq] at h1
    obtain ⟨rfl, rfl, rfl⟩ := h1
    simp only [List.getElem_cons_succ] at h2
    have := A3p (ks := ts) (i := i) (by simpa using hi) hL h2
    simp only [this, List.cons_append]
theorem A5o {cx : Cx} : ∀ {ks : List Tm} {i : Nat} (hi : i < ks.length) {l l' : Int} {us : List Tm} {h : List Ty}, M5 cx (ks.take i) l = some (us, h, l') → M7 cx ks[i] l' = none → M5 cx ks l = none
 | [], i, hi, _, _, _, _, _, _ => by simp at hi
 | t :: ts, 0, _, l, l', us, h, h1, h2 => by
  simp only [List.take_zero, M5, Option.some.injEq, Prod.mk.injEq] at h1
  obtain ⟨rfl, rfl, rfl⟩ := h1
  simp only [List.getElem_cons_zero] at h2
  simp [M5, h2]
 | t :: ts, i + 1, hi, l, l', us, h, h1, h2 => by
  simp only [List.take_succ_cons, M5] at h1 ⊢
  split at h1
  ·cases h1
  ·rename_i u1 a1 l1 he
   split at h1
   ·cases h1
   ·rename_i us1 h1' l1' hL
    simp only [Option.some.injEq, Prod.mk.injEq] at h1
    obtain ⟨rfl, rfl, rfl⟩ := h1
    simp only [List.getElem_cons_succ] at h2
    have := A5o (ks := ts) (i := i) (by simpa using hi) hL h2
    simp only [this]
theorem A0v (us : List Tm) (h : List Ty) (l : Int) : I0 us h [] l = (us, l) := by
 cases us with
 | nil => rfl
 | cons u us => cases h <;> rfl
theorem A3q : ∀ (us : List Tm) (h w : List Ty) (l : Int) (j : Nat) (hj : j < w.length) (hu : w.length ≤ us.length) (hh : w.length ≤ h.length),
  (I0 us h (w.take j) l).1.length = us.length ∧ (∀ (hq : j < (I0 us h (w.take j) l).1.length), (I0 us h (w.take j) l).1[j] = us[j]'(by omega)) ∧
  I0 us h (w.take (j + 1)) l = if M4 (h[j]'(by omega)) w[j] = true then I0 us h (w.take j) l else ((I0 us h (w.take j) l).1.set j (K8 (us[j]'(by omega)) (h[j]'(by omega)) w[j] ((I0 us h (w.take j) l).2 + 1)), (I0 us h (w.take j) l).2 + 1)
 | us, h, [], l, j, hj, _, _ => by simp at hj
 | [], h, b :: w, l, j, _, hu, _ => by simp at hu
 | u :: us, [], b :: w, l, j, _, _, hh => by simp at hh
 | u :: us, a :: h, b :: w, l, 0, _, _, _ => by
  refine ⟨by simp [I0], by simp [I0], ?_⟩
  simp only [List.take_succ_cons, List.take_zero, I0, A0v, List.getElem_cons_zero, List.set_cons_zero]
 | u :: us, a :: h, b :: w, l, j + 1, hj, hu, hh => by
  simp only [List.take_succ_cons, List.getElem_cons_succ]
  by_cases hs : M4 a b = true
  ·have ih := A3q us h w l j (by simpa using hj) (by simpa using hu) (by simpa using hh)
   simp only [I0, if_pos hs]
   obtain ⟨i1, i2, i3⟩ := ih
   refine ⟨by simp [i1], fun hq => by simp [i2], ?_⟩
   rw [i3]
   split <;> simp
  ·have ih := A3q us h w (l + 1) j (by simpa using hj) (by simpa using hu) (by simpa using hh)
   simp only [I0, if_neg hs]
   obtain ⟨i1, i2, i3⟩ := ih
   refine ⟨by simp [i1], fun hq => by simp [i2], ?_⟩
   rw [i3]
   split <;> simp
theorem A1q : ∀ (us : List Tm) (h w : List Ty) (l : Int), (I0 us h w l).1.length = us.length
 | [], h, w, l => by simp [I0]
 | u :: us, [], w, l => by simp [I0]
 | u :: us, a :: h, [], l => by simp [I0]
 | u :: us, a :: h, b :: w, l => by
  simp only [I0]
  split
  ·simp [A1q us h w l]
  ·simp [A1q us h w (l + 1)]
theorem A75 {us : List Tm} {h w : List Ty} {l : Int} {j : Nat} (hj : j < w.length) (hu : w.length ≤ us.length) (hh : w.length ≤ h.length) :
  (I0 us h (w.take (j + 1)) l).1 = (I0 us h (w.take j) l).1.set j (if M4 (h[j]'(by omega)) w[j] = true then us[j]'(by omega) else K8 (us[j]'(by omega)) (h[j]'(by omega)) w[j] ((I0 us h (w.take j) l).2 + 1)) ∧
  (I0 us h (w.take (j + 1)) l).2 = (if M4 (h[j]'(by omega)) w[j] = true then (I0 us h (w.take j) l).2 else (I0 us h (w.take j) l).2 + 1) := by
 obtain ⟨h1, h2, h3⟩ := A3q us h w l j hj hu hh
 by_cases hs : M4 (h[j]'(by omega)) w[j] = true
 ·rw [h3, if_pos hs, if_pos hs, if_pos hs]
  refine ⟨?_, rfl⟩
  rw [← h2 (by omega), List.set_getElem_self]
 ·rw [h3, if_neg hs, if_neg hs, if_neg hs]
  exact ⟨rfl, rfl⟩
theorem A04 : ∀ (us : List Tm) (h w : List Ty) (l : Int), l ≤ (I0 us h w l).2 ∧ (I0 us h w l).2 ≤ l + us.length
 | [], h, w, l => by simp [I0]
 | u :: us, [], w, l => by simp [I0]; omega
 | u :: us, a :: h, [], l => by simp [I0]; omega
 | u :: us, a :: h, b :: w, l => by
  simp only [I0]
  split
  ·have := A04 us h w l; simp only [List.length_cons]; omega
  ·have := A04 us h w (l + 1); simp only [List.length_cons]; omega
mutual
def A5p : Ty → Ty → Bool
 | .mk k ks, t => decide (t.k = 1) || (decide (k = t.k) && A76 ks t.ks)
def A76 : List Ty → List Ty → Bool
 | [], [] => true
 | a :: xs, b :: ys => A5p a b && A76 xs ys
 | _, _ => false
end
mutual
def A77 : Tm → Tm → Bool
 | .mk k nm num ty _ _ ks, u => decide (k = u.k ∧ nm = u.nm ∧ num = u.num) && (decide (k ≠ 5 ∧ k ≠ 13) || A5p ty u.ty) && A78 ks u.ks
def A78 : List Tm → List Tm → Bool
 | [], [] => true
 | a :: xs, b :: ys => A77 a b && A78 xs ys
 | _, _ => false
end
def B2m (a b : Tm) : Bool := P0 a && (P0 b && A77 a b)
def A4e : GT → GT → GT
 | .any, b => b
 | .fn a b, .fn c d => .fn (A4e a c) (A4e b d)
 | .pr a b, .pr c d => .pr (A4e a c) (A4e b d)
 | a, _ => a
def gmF : GT → Option (GT × GT)
 | .fn a b => some (a, b)
 | .any => some (.any, .any)
 | _ => none
def gmP : GT → Option (GT × GT)
 | .pr a b => some (a, b)
 | .any => some (.any, .any)
 | _ => none
def CxR (cx cx' : Cx) (Γ : GC) : Prop := ∀ x a, A0C cx x = some a → ∃ A A', a = A.ty ∧ A0C cx' x = some A'.ty ∧ Γ x = some (A, A') ∧ Le A A'
def B4Z (A B : GT) (l : Int) (e : GE) : GE := if M4 A.ty B.ty = true then e else .cast A B l e
inductive GPL (Γ : GC) : List GE → List GE → List GT → List GT → Prop
 | nil : GPL Γ [] [] [] []
 | cons {e e' A A' es es' As As'} : GP Γ e e' A A' → GPL Γ es es' As As' → GPL Γ (e :: es) (e' :: es') (A :: As) (A' :: As')
abbrev ElR (Γ : GC) (u : Tm) (a : Ty) (r : Option (Tm × Ty × Int)) : Prop := ∃ e A e' A' l2, u = e.tm ∧ a = A.ty ∧ r = some (e'.tm, A'.ty, l2) ∧ GP Γ e e' A A'
section
variable {cx cx' : Cx} {Γ : GC} {es es' : List GE} {As As' : List GT} {l l' : Int} {u : Tm} {a : Ty} {l2 : Int} {nm : ByteArray} {num : Int}
end
variable {P : Program} {G : IM}
theorem Fn.forget {f : FuncId} {args : List Value} {v0 : Value} {post : IM → Value → List A4 → Prop} (h : Fn P f args [] G post) (hv : ∀ G' v outs, post G' v outs → v = v0) : Fn P f args [] G (E4 v0 G) := by
 refine ⟨fun w hw => (h.run w hw).mono ?_⟩
 rintro e w' ⟨u, G', outs, rfl, hres, hp⟩
 refine ⟨u, G, [], rfl, ⟨⟨fun b l hb => hres.own.inn b l (hres.le b l hb), by simp, by simp [Fp], by simp [Fp]⟩, hres.ext, B7.refl _, fun _ _ h => .inl h, by simp [Fp], fun b l h h0 => absurd h (by rw [h0]; simp)⟩, rfl, hv _ _ _ hp, rfl⟩
def Q5 (t : Tm) : IM → Value → List A4 → Prop := J8 fun G' v => ∃ cells, v = .agg ⟨cells⟩ ∧ A6 G' t cells
theorem Q5.mk {G : IM} {t : Tm} {cells : List Value} (h : A6 G t cells) : Q5 t G (.agg ⟨cells⟩) [] := ⟨rfl, cells, rfl, h⟩
def mGk (k : Int) : Ty := if k = 4 ∨ k = 5 then .mk k [R8, R8] else .mk k []
theorem A0F {G : IM} {k : Int} {ks : List Tm} {p : Option Addr} {n c : Nat} {es : List (List Value)} (hk : H1 k) (hn : n = ks.length) (hs : C4 G p n c 9 es) (hr : C7 G ks es) : A6 G (A0c k ks) [.int .i64 k, .string ⟨⟨[]⟩⟩, .int .i64 0, .int .i64 0, .slice none 0 0, .int .i64 0, .slice none 0 0, .int .i64 0, .slice p n c] := by
 subst hn
 simp only [A0c, A6]
 exact ⟨[.int .i64 0, .slice none 0 0], [.int .i64 0, .slice none 0 0], p, c, es, rfl, hk, ⟨by decide, by decide⟩, ⟨by decide, by decide⟩, A2C G, A2C G, hs, hr⟩
theorem A5q (k : Int) (G : IM) (hk : H1 k) : Fn Tryz.prog 232 [.int .i64 k] [] G (J8 fun G' v => ∃ cells, v = .agg ⟨cells⟩ ∧ B6 G' (mGk k) cells) := by
 have hB := A1K k R8 R8 G _ _ hk (A19 G) (A19 G)
 refine B4 Tryz.func232 rfl Tryz.ntmps232 Tryz.results232 rfl ?_
 intro w0
 refine tS (tR ?_)
 refine sE (A5 rfl) rfl (fun b3 => ?_)
 refine sD (nS (tS (tS (tR (sQ (qM rfl) rfl ?_)))))
 refine sB (qE rfl rfl) rfl rfl (fun h10 => ?_) (fun h10 => ?_)
 refine I8 ?_
 refine I3 rfl ((A00 _ _)) rfl rfl ?_
 refine I3 rfl ((A00 _ _)) rfl rfl ?_
 (refine D2 rfl hB rfl rfl (fun v G1 hle1 hh => ?_); obtain ⟨cb, rfl, hrb⟩ := hh; obtain ⟨p1, c1, e1, rfl, _⟩ := hrb.open)
 refine J7 ?_
 refine sD (nS (tT (rS ?_)))
 refine E1 (rC rfl (A3 rfl rfl)) ?_
 (exact ⟨rfl, _, rfl, by unfold mGk; rw [if_pos (by omega)]; exact hrb⟩)
 refine sQ (qM rfl) rfl (sQ (qM rfl) rfl ?_)
 refine sB (qE rfl rfl) rfl rfl (fun h33 => ?_) (fun h33 => ?_)
 refine C3 ?_
 refine I3 rfl ((A00 _ _)) rfl rfl ?_
 refine I3 rfl ((A00 _ _)) rfl rfl ?_
 (refine D2 rfl hB rfl rfl (fun v G1 hle1 hh => ?_); obtain ⟨cb, rfl, hrb⟩ := hh; obtain ⟨p1, c1, e1, rfl, _⟩ := hrb.open)
 refine J7 ?_
 refine sD (nS (tT (rS ?_)))
 refine E1 (rC rfl (A3 rfl rfl)) ?_
 (exact ⟨rfl, _, rfl, by unfold mGk; rw [if_pos (by omega)]; exact hrb⟩)
 refine D8 ?_
 refine I3 rfl ((A00 _ _)) rfl rfl ?_
 refine J7 ?_
 refine sD (nS (tT ?_))
 refine E1 (rC rfl (A3 rfl rfl)) ?_
 (exact ⟨rfl, _, rfl, by unfold mGk; rw [if_neg (by omega)]; exact O4 _ hk⟩)
theorem A79 (t : Ty) (G : IM) (cells : List Value) (hr : B6 G t cells) : Fn Tryz.prog 221 [.agg ⟨cells⟩] [] G (E4 (.bool (V3 t)) G) := by
 refine Fn.forget (post := J8 fun _ v => v = .bool (V3 t)) ?_ (fun _ _ _ h => h.2)
 have hr0 := hr
 obtain ⟨tk, tks⟩ := t
 obtain ⟨p, c, es, rfl, hk, _⟩ := hr.open
 simp only [Ty.k, Ty.ks] at hk hr0 ⊢
 rw [show V3 (.mk tk tks) = (decide (tk ≠ 1) && M4 (.mk tk tks) (mGk tk)) from rfl]
 refine B4 Tryz.func221 rfl Tryz.ntmps221 Tryz.results221 rfl ?_
 intro w0
 refine tS (tR ?_)
 refine sE (C1 rfl rfl) rfl (fun b3 => ?_)
 refine sQ (qA rfl) rfl (sD (nS (tS ?_)))
 refine D5 D6 rfl ?_
 refine J6 (i := 0) (l' := [tt,ff,ff,ff,ff,ff,ff,ff,ff,ff,ff]) rfl D0 (B0 rfl) rfl (by kernel_rfl) rfl rfl ?_
 refine aL 1 rfl (B9 rfl rfl) rfl ?_
 refine A0n (i := 2) (l' := [tt,tt,tt,ff,ff,ff,ff,ff,ff,ff,ff]) rfl D0 (N7 rfl rfl) rfl (by kernel_rfl) rfl rfl (fun h11 => ?_) (fun h11 => ?_)
 refine aP 3 rfl (qM rfl) rfl ?_
 refine aL 4 rfl (A3 rfl rfl) rfl ?_
 refine aP 5 rfl (B0 rfl) rfl ?_
 refine aL 6 rfl (B9 rfl rfl) rfl ?_
 refine A2 7 ?_
 (refine E9 rfl rfl (A5q tk G hk) rfl rfl rfl (fun v G1 hle1 hh => ?_); obtain ⟨cg, rfl, hrg⟩ := hh; have hT := A5k (.mk tk tks) (mGk tk) G1 _ _ (hr0.mono hle1) hrg; obtain ⟨pg, cgg, eg, rfl, _⟩ := hrg.open)
 refine A2 8 ?_
 refine M6 rfl rfl (hT) rfl rfl rfl ?_
 refine aP 9 rfl (L4 rfl rfl) rfl ?_
 refine aP 10 rfl (qA rfl) rfl ?_
 refine C5 (nS (tT (E1 (rT rfl) ?_)))
 (exact ⟨rfl, by rw [decide_eq_true (by omega), Bool.true_and]⟩)
 refine aP 3 rfl (qM rfl) rfl ?_
 refine B8 4 rfl rfl rfl ?_
 refine B8 5 rfl rfl rfl ?_
 refine B8 6 rfl rfl rfl ?_
 refine B8 7 rfl rfl rfl ?_
 refine B8 8 rfl rfl rfl ?_
 refine aP 9 rfl (N4 rfl rfl) rfl ?_
 refine aP 10 rfl (qA rfl) rfl ?_
 refine C5 (nS (tT (E1 (rT rfl) ?_)))
 (exact ⟨rfl, by rw [decide_eq_false (by omega), Bool.false_and]⟩)
theorem A2O (t : Tm) (G : IM) (cells : List Value) (hr : A6 G t cells) : Fn Tryz.prog 170 [.agg ⟨cells⟩] [] G (E4 (.bool (W1 t)) G) := by
 obtain ⟨k, nm, num, ⟨tk, tks⟩, ⟨fk, fks⟩, lb, ks⟩ := t
 obtain ⟨pt, ct, pf, cf, p, c, es, rfl, hk, hnum, hlb, hty, hfr, hsl, hkl⟩ := hr.open9
 have hd : W1 (.mk k nm num (.mk tk tks) (.mk fk fks) lb ks) = decide (k = 14 ∧ fk = tk ∧ (tk = 4 ∨ tk = 5)) := rfl
 rw [hd]
 refine B4 Tryz.func170 rfl Tryz.ntmps170 Tryz.results170 rfl ?_
 intro w0
 refine tS (tR ?_)
 refine sE (C1 rfl rfl) rfl (fun b3 => ?_)
 refine C3 ?_
 refine sB (qE rfl rfl) rfl rfl (fun h11 => ?_) (fun h11 => ?_)
 refine C3 ?_
 refine sB (qE rfl rfl) rfl rfl (fun h19 => ?_) (fun h19 => ?_)
 refine O8 ?_
 refine sB (qE rfl rfl) rfl rfl (fun h25 => ?_) (fun h25 => ?_)
 refine J9 ?_
 (exact ⟨rfl, by rw [decide_eq_true (by omega)], rfl⟩)
 refine H8 ?_
 refine sB (qE rfl rfl) rfl rfl (fun h43 => ?_) (fun h43 => ?_)
 refine C3 ?_
 (exact ⟨rfl, by rw [decide_eq_true (by omega)], rfl⟩)
 refine C3 ?_
 (exact ⟨rfl, by rw [decide_eq_false (by omega)], rfl⟩)
 refine T2 ?_
 (exact ⟨rfl, by rw [decide_eq_false (by omega)], rfl⟩)
 refine A3L ?_
 (exact ⟨rfl, by rw [decide_eq_false (by omega)], rfl⟩)
theorem A3r (t : Tm) (G : IM) (cells : List Value) (hr : A6 G t cells) : Fn Tryz.prog 171 [.agg ⟨cells⟩] [] G (E4 (.bool (inj t)) G) := by
 obtain ⟨k, nm, num, ⟨tk, tks⟩, ⟨fk, fks⟩, lb, ks⟩ := t
 obtain ⟨pt, ct, pf, cf, p, c, es, rfl, hk, hnum, hlb, hty, hfr, hsl, hkl⟩ := hr.open9
 have hd : inj (.mk k nm num (.mk tk tks) (.mk fk fks) lb ks) = (decide (k = 14 ∧ tk = 1) && V3 (.mk fk fks)) := rfl
 rw [hd]
 refine B4 Tryz.func171 rfl Tryz.ntmps171 Tryz.results171 rfl ?_
 intro w0
 refine tS (tR ?_)
 refine sE (C1 rfl rfl) rfl (fun b3 => ?_)
 refine C3 ?_
 refine sB (qE rfl rfl) rfl rfl (fun h11 => ?_) (fun h11 => ?_)
 refine H8 ?_
 refine sB (qE rfl rfl) rfl rfl (fun h16 => ?_) (fun h16 => ?_)
 refine H8 ?_
 refine I3 rfl ((A79 (.mk fk fks) G _ hfr)) rfl rfl ?_
 refine E2 ?_
 (exact ⟨rfl, by rw [decide_eq_true (by omega), Bool.true_and], rfl⟩)
 refine F8 ?_
 (exact ⟨rfl, by rw [decide_eq_false (by omega), Bool.false_and], rfl⟩)
 refine J1 ?_
 (exact ⟨rfl, by rw [decide_eq_false (by omega), Bool.false_and], rfl⟩)
theorem B2n (t : Tm) (G : IM) (cells : List Value) (hr : A6 G t cells) : Fn Tryz.prog 174 [.agg ⟨cells⟩] [] G (E4 (.bool (decide (t.k = 2 ∨ t.k = 3 ∨ t.k = 4 ∨ t.k = 5))) G) := by
 obtain ⟨k, nm, num, ⟨tk, tks⟩, ⟨fk, fks⟩, lb, ks⟩ := t
 obtain ⟨pt, ct, pf, cf, p, c, es, rfl, hk, hnum, hlb, hty, hfr, hsl, hkl⟩ := hr.open9
 rw [show (Tm.mk k nm num (.mk tk tks) (.mk fk fks) lb ks).k = k from rfl]
 refine B4 Tryz.func174 rfl Tryz.ntmps174 Tryz.results174 rfl ?_
 intro w0
 refine tS (tR ?_)
 refine sE (C1 rfl rfl) rfl (fun b3 => ?_)
 refine C3 ?_
 refine sB (qE rfl rfl) rfl rfl (fun h11 => ?_) (fun h11 => ?_)
 refine A0b ?_
 (exact ⟨rfl, by rw [decide_eq_true (by omega)], rfl⟩)
 refine J2 ?_
 refine sB (qE rfl rfl) rfl rfl (fun h36 => ?_) (fun h36 => ?_)
 refine J1 ?_
 (exact ⟨rfl, by rw [decide_eq_true (by omega)], rfl⟩)
 refine H8 ?_
 refine sB (qE rfl rfl) rfl rfl (fun h58 => ?_) (fun h58 => ?_)
 refine F8 ?_
 (exact ⟨rfl, by rw [decide_eq_true (by omega)], rfl⟩)
 refine H8 ?_
 refine sB (qE rfl rfl) rfl rfl (fun h75 => ?_) (fun h75 => ?_)
 refine E2 ?_
 (exact ⟨rfl, by rw [decide_eq_true (by omega)], rfl⟩)
 refine E2 ?_
 (exact ⟨rfl, by rw [decide_eq_false (by omega)], rfl⟩)
theorem B2o (G : IM) (p : Option Addr) (n c : Nat) (es : List (List Value)) (hsl : C4 G p n c 9 es) (fid : FuncId) [B1 Tryz.prog fid] (us cs : List Value) (ins : List A4) (q : Nat → Bool)
  (hq : ∀ i e, es[i]? = some e → Fn Tryz.prog fid (us ++ [.agg ⟨e⟩] ++ cs) ins G (T1 (.bool (q i)) ins G)) :
  Fn Tryz.prog 222 [.slice p n c, .func (.func fid) ⟨us⟩ ⟨cs⟩] ins G (T1 (.int .i64 (A0q q n)) ins G) := by
 have hn := hsl.le
 refine B4 Tryz.func222 rfl Tryz.ntmps222 Tryz.results222 rfl ?_
 intro w0
 refine K1 ?_
 refine B3 ?_
 refine I1 (fun i : Nat => ⟨[(8, .int .i64 i), (7, .int .i64 n), (1, .func (.func fid) ⟨us⟩ ⟨cs⟩), (0, .slice p n c)], ins, G⟩) (fun i => i ≤ n ∧ ∀ j, j < i → q j = false) (fun i => n - i) 0 ?_ ?_ ?_
 exact C9
 exact ⟨by omega, by omega⟩
 rintro i ⟨hi, hf⟩
 refine tS (tR ?_)
 refine sB (I2 rfl rfl) rfl rfl (fun h21 => ?_) (fun h21 => ?_)
 refine sD (nS (tS (qT rfl (tK (nS (tS ?_))))))
 refine B3 ?_
 refine F8 ?_
 (obtain ⟨e, b, o, he, rfl, hl, _, hat, _⟩ := hsl.get (i := i) (by omega); refine sP (A8 rfl rfl rfl (by omega)) rfl rfl ?_)
 refine sL (A0 rfl rfl (hat _) hl) rfl rfl ?_
 refine A4H rfl rfl (hq i e he) A0j rfl rfl (fun h43 => ?_) (fun h43 => ?_)
 refine H3 ?_
 refine N9 (rT rfl) A7.refl ?_
 exact ⟨rfl, by rw [A6t (by omega) hf (by assumption)], rfl⟩
 refine sD (nS (cF rfl (tK (P4 (nS (tR ?_))))))
 refine sP (E8 rfl rfl (by omega) (by omega)) rfl rfl ?_
 refine sQ (qM rfl) rfl (sD ?_)
 refine I4 (i + 1) ?_ ?_ ?_
 exact C9
 exact ⟨by omega, fun j hj => by by_cases hji : j = i; (subst hji; assumption); exact hf j (by omega)⟩
 omega
 refine H3 ?_
 refine N9 (rT rfl) A7.refl ?_
 exact ⟨rfl, by rw [A4K (fun j hj => hf j (by omega))], rfl⟩
theorem B2p (G : IM) (p : Option Addr) (n c : Nat) (es : List (List Value)) (hsl : C4 G p n c 9 es) (fid : FuncId) [B1 Tryz.prog fid] (us cs : List Value) (ins : List A4) (q : Nat → Bool)
  (hq : ∀ i e, es[i]? = some e → Fn Tryz.prog fid (us ++ [.agg ⟨e⟩] ++ cs) ins G (T1 (.bool (q i)) ins G)) :
  Fn Tryz.prog 172 [.slice p n c, .func (.func fid) ⟨us⟩ ⟨cs⟩] ins G (T1 (.bool (decide (0 ≤ A0q q n))) ins G) := by
 refine B4 Tryz.func172 rfl Tryz.ntmps172 Tryz.results172 rfl ?_
 intro w0
 refine D8 ?_
 refine A1Y rfl (B2o G p n c es hsl fid us cs ins q hq) A0j rfl rfl ?_
 refine sQ (A0X rfl rfl) rfl ?_
 refine sQ (qA rfl) rfl (sD (nS (tT ?_)))
 refine N9 (rT rfl) A7.refl ?_
 exact ⟨rfl, rfl, rfl⟩
theorem B2q (G : IM) (p : Option Addr) (n c : Nat) (es : List (List Value)) (hsl : C4 G p n c 9 es) (fid : FuncId) [B1 Tryz.prog fid] (us cs : List Value) (ins : List A4) (f : Tm → Bool) (ks : List Tm)
  (hn : ks.length = n) {A : Bool} (hA : ks.all f = A) (hq : ∀ i e, es[i]? = some e → Fn Tryz.prog fid (us ++ [.agg ⟨e⟩] ++ cs) ins G (T1 (.bool (!f (ks.getD i K7))) ins G)) :
  Fn Tryz.prog 172 [.slice p n c, .func (.func fid) ⟨us⟩ ⟨cs⟩] ins G (T1 (.bool (!A)) ins G) := by
 subst hn hA
 rw [← A6w f ks K7]
 exact B2p G p _ c es hsl fid us cs ins _ hq
theorem A8a : ∀ ks, A36 ks = ks.all K0
 | [] => rfl
 | t :: ts => by rw [A36, A8a ts, List.all_cons]
theorem B2r (t : Tm) (G : IM) (cells : List Value) (hl : cells.length = 9) (ho : cells.all (·.oneCell') = true) (h : Fn Tryz.prog 124 [.agg ⟨cells⟩] [] G (E4 (.bool (K0 t)) G)) :
  Fn Tryz.prog 173 [.agg ⟨cells⟩] [] G (T1 (.bool (!K0 t)) [] G) := by
 refine B4 Tryz.func173 rfl Tryz.ntmps173 Tryz.results173 rfl ?_
 intro w0
 refine tS (tR ?_)
 refine sE (C1 rfl rfl) rfl (fun b3 => ?_)
 refine sQ (qA rfl) rfl (sD (nS (tS (tR ?_))))
 refine sL (A0 rfl rfl (A9 (by repeat first | exact mH | apply mT)) hl) rfl rfl ?_
 refine I3 rfl (h) rfl rfl ?_
 refine sQ (A2p rfl) rfl ?_
 refine sQ (qA rfl) rfl (sD (nS (tT (E1 (rT rfl) ?_))))
 (exact ⟨rfl, rfl, rfl⟩)
theorem A2h (k : Int) (nm : ByteArray) (num : Int) (ty fr : Ty) (lb : Int) (ks : List Tm) : W1 (.mk k nm num ty fr lb ks) = decide (k = 14 ∧ fr.k = ty.k ∧ (ty.k = 4 ∨ ty.k = 5)) := rfl
theorem A8b (k : Int) (nm : ByteArray) (num : Int) (ty fr : Ty) (lb : Int) (ks : List Tm) : inj (.mk k nm num ty fr lb ks) = (decide (k = 14 ∧ ty.k = 1) && V3 fr) := rfl
theorem A4f {k : Int} {nm : ByteArray} {num : Int} {ty fr : Ty} {lb : Int} {ks : List Tm} (h : k = 10 ∨ W1 (.mk k nm num ty fr lb ks) = true ∨ inj (.mk k nm num ty fr lb ks) = true) : K0 (.mk k nm num ty fr lb ks) = ks.all K0 := by
 rw [K0, if_pos, A8a]
 rw [A2h, A8b] at h
 simp only [Bool.and_eq_true, decide_eq_true_eq] at h
 rcases h with h | h | h
 ·exact .inl h
 ·exact .inr (.inl h)
 ·exact .inr (.inr ⟨h.1.1, h.1.2, h.2⟩)
theorem A8c {k : Int} {nm : ByteArray} {num : Int} {ty fr : Ty} {lb : Int} {ks : List Tm} (h : ¬k = 10) (h2 : W1 (.mk k nm num ty fr lb ks) = false) (h3 : inj (.mk k nm num ty fr lb ks) = false) : K0 (.mk k nm num ty fr lb ks) = decide (k = 2 ∨ k = 3 ∨ k = 4 ∨ k = 5) := by
 rw [K0, if_neg]
 rw [A2h] at h2
 rw [A8b] at h3
 simp only [Bool.and_eq_false_iff, decide_eq_false_iff_not] at h2 h3
 rintro (h' | h' | h')
 ·exact h h'
 ·exact h2 h'
 ·rcases h3 with h3 | h3
  ·exact h3 ⟨h'.1, h'.2.1⟩
  ·rw [h3] at h'; cases h'.2.2
theorem A8d : ∀ (t : Tm) (G : IM) (cells : List Value), A6 G t cells → Fn Tryz.prog 124 [.agg ⟨cells⟩] [] G (E4 (.bool (K0 t)) G) := by
 refine Tm.ind fun k nm num ty fr lb ks ih G cells hr => ?_
 have hr0 := hr
 have hP := A2O _ G _ hr
 have hI := A3r _ G _ hr
 have hPl := B2n _ G _ hr
 have hy := @A4f k nm num ty fr lb ks
 have hn := @A8c k nm num ty fr lb ks
 rw [show (Tm.mk k nm num ty fr lb ks).k = k from rfl] at hPl
 obtain ⟨A, hA⟩ : ∃ A, ks.all K0 = A := ⟨_, rfl⟩
 rw [hA] at hy
 generalize hpx : W1 (.mk k nm num ty fr lb ks) = bp at hP hy hn
 generalize hij : inj (.mk k nm num ty fr lb ks) = bi at hI hy hn
 generalize K0 (.mk k nm num ty fr lb ks) = R at hy hn ⊢
 obtain ⟨tk, tks⟩ := ty
 obtain ⟨fk, fks⟩ := fr
 obtain ⟨pt, ct, pf, cf, p, c, es, rfl, hk, hnum, hlb, hty, hfr, hsl, hkl⟩ := hr.open9
 have hC := B2q G p ks.length c es hsl 173 [] [] [] K0 ks rfl hA (fun i e he => by
  have hx := hkl.inv he K7
  exact B2r _ G e hx.2.len hx.2.one (ih _ hx.1 G e hx.2))
 refine B4 Tryz.func124 rfl Tryz.ntmps124 Tryz.results124 rfl ?_
 intro w0
 refine tS (tR ?_)
 refine sE (C1 rfl rfl) rfl (fun b3 => ?_)
 refine D3 ?_
 refine sB (qE rfl rfl) rfl rfl (fun h12 => ?_) (fun h12 => ?_)
 refine H3 ?_
 refine A1Y rfl hC A0j rfl rfl ?_
 refine sQ (A2p rfl) rfl ?_
 refine sQ (qA rfl) rfl (sD (nS (tT (rS (E1 (rT rfl) ?_)))))
 (exact ⟨rfl, by rw [hy (by first | exact .inl (by omega) | exact .inr (.inl (by assumption)) | exact .inr (.inr (by assumption)))]; cases A <;> rfl, rfl⟩)
 refine sQ (qM rfl) rfl (sL (A3 rfl rfl) rfl rfl ?_)
 refine F0 rfl (hP) rfl rfl (fun h39 => ?_) (fun h39 => ?_)
 refine J9 ?_
 refine A1Y rfl hC A0j rfl rfl ?_
 refine sQ (A2p rfl) rfl ?_
 refine sQ (qA rfl) rfl (sD (nS (tT (rS (E1 (rT rfl) ?_)))))
 (exact ⟨rfl, by rw [hy (by first | exact .inl (by omega) | exact .inr (.inl (by assumption)) | exact .inr (.inr (by assumption)))]; cases A <;> rfl, rfl⟩)
 refine J2 ?_
 refine F0 rfl (hI) rfl rfl (fun h64 => ?_) (fun h64 => ?_)
 refine D3 ?_
 refine A1Y rfl hC A0j rfl rfl ?_
 refine sQ (A2p rfl) rfl ?_
 refine sQ (qA rfl) rfl (sD (nS (tT (rS (E1 (rT rfl) ?_)))))
 (exact ⟨rfl, by rw [hy (by first | exact .inl (by omega) | exact .inr (.inl (by assumption)) | exact .inr (.inr (by assumption)))]; cases A <;> rfl, rfl⟩)
 refine D8 ?_
 refine I3 rfl (hPl) rfl rfl ?_
 refine sQ (qA rfl) rfl (sD (nS (tT (E1 (rT rfl) ?_))))
 (exact ⟨rfl, by rw [hn (by omega) (by assumption) (by assumption)], rfl⟩)
theorem A6.put {G : IM} {k : Int} {nm : ByteArray} {num tk fk lb : Int} {tks fks : List Ty} {us : List Tm} {pt pf p : Option Addr} {ct cf n c : Nat} {es : List (List Value)} (hk : H1 k) (hnum : H1 num) (hlb : H1 lb) (hty : B6 G (.mk tk tks) [.int .i64 tk, .slice pt tks.length ct]) (hfr : B6 G (.mk fk fks) [.int .i64 fk, .slice pf fks.length cf])
  (hn : n = us.length) (hs : C4 G p n c 9 es) (hr : C7 G us es) : A6 G (.mk k nm num (.mk tk tks) (.mk fk fks) lb us) [.int .i64 k, .string nm, .int .i64 num, .int .i64 tk, .slice pt tks.length ct, .int .i64 fk, .slice pf fks.length cf, .int .i64 lb, .slice p n c] := by
 subst hn
 simp only [A6]
 exact ⟨_, _, p, c, es, rfl, hk, hnum, hlb, hty, hfr, hs, hr⟩
theorem T8 {uc : List Value} (h : uc.length = 9) : ∃ v1 v2 v3 v4 v5 v6 v7 v8 v9, uc = [v1, v2, v3, v4, v5, v6, v7, v8, v9] := by
 match uc, h with
 | [a, b, c, d, e, f, g, i, j], _ => exact ⟨a, b, c, d, e, f, g, i, j, rfl⟩
theorem A2P {x : ByteArray} {v : Tm} {ks : List Tm} {i : Nat} (h : i < ks.length) : (Z0 x v ks).take (i + 1) = (Z0 x v ks).take i ++ [A0m x v ks[i]] := by
 rw [A37, List.take_succ_eq_append_getElem (by rw [List.length_map]; exact h), List.getElem_map]
theorem X5 (x : ByteArray) (v : Tm) (ks : List Tm) : (Z0 x v ks).length = ks.length := by rw [A37, List.length_map]
theorem B2s (y : ByteArray) (v : Tm) (vc : List Value) : ∀ (t : Tm) (G : IM) (cells : List Value), t.small → A6 G t cells → A6 G v vc → Fn Tryz.prog 223 [.agg ⟨cells⟩, .string y, .agg ⟨vc⟩] [] G (Q5 (A0m y v t)) := by
 refine Tm.ind fun k nm num ty fr lb ks ih G cells hts hr hv => ?_
 have hr0 := hr
 obtain ⟨_, _, _, hsm, hks⟩ := A0e.1 hts
 have hvl := hv.len
 have hvo := hv.one
 have hRl := hr.len
 have hRo := hr.one
 rw [A0m]
 obtain ⟨tk, tks⟩ := ty
 obtain ⟨fk, fks⟩ := fr
 obtain ⟨pt, ct, pf, cf, p, c, es, rfl, hk, hnum, hlb, hty, hfr, hsl, hkl⟩ := hr.open9
 have hn := hsl.le
 refine B4 Tryz.func223 rfl Tryz.ntmps223 Tryz.results223 rfl ?_
 intro w0
 refine tS (tR ?_)
 refine sE (C1 rfl rfl) rfl (fun b3 => ?_)
 refine sE (C1 rfl rfl) rfl (fun b4 => ?_)
 refine sE (A5 rfl) rfl (fun b5 => ?_)
 refine sD (nS (tS ?_))
 refine B3 ?_
 refine tS (tR (sQ (B0 rfl) rfl (sL (B9 rfl rfl) rfl rfl ?_)))
 refine sB (qE rfl rfl) rfl rfl (fun h14 => ?_) (fun h14 => ?_)
 refine H8 ?_
 refine sB (A1R rfl rfl) rfl rfl (fun h19 => ?_) (fun h19 => ?_)
 refine C3 ?_
 refine sL (A0 rfl rfl (A9 (by repeat first | exact mH | apply mT)) hvl) rfl rfl ?_
 refine sS rfl rfl rfl hvl hvo rfl ?_ (hu := by exact D4 hvl.symm)
 refine sD (nS (tT (rB (rS ?_))))
 refine E1 (rC rfl (A0 rfl rfl (A9 (by repeat first | exact mH | apply mT)) hvl)) ?_
 (rw [if_pos (by refine ⟨by omega, by assumption⟩)]; exact Q5.mk hv)
 refine D8 ?_
 refine sP (I6 rfl rfl (by omega)) rfl rfl ?_
 refine J1 ?_
 refine sE (A5 rfl) rfl (fun b62 => ?_)
 refine T2 ?_
 refine B3 ?_
 (refine S2 28 9 ?_; refine I1 (fun (x : Nat × Option Addr × Nat × List (List Value) × IM) => ⟨[(37, .int .i64 x.1), (36, .int .i64 ks.length), (35, .slice p ks.length c), (1, .string y), (3, .pointer (some ⟨b3, 0, none⟩)), (5, .pointer (some ⟨b4, 0, none⟩)), (6, .pointer (some ⟨b5, 0, none⟩)), (7, .pointer (some ⟨b62, 0, none⟩))], [.blk b62 [.int .i64 k, .string nm, .int .i64 num, .int .i64 tk, .slice pt tks.length ct, .int .i64 fk, .slice pf fks.length cf, .int .i64 lb, .slice x.2.1 x.1 x.2.2.1], .slc x.2.1 x.2.2.1 28 9 x.1 x.2.2.2.1.flatten, .blk b5 [.int .i64 0, .string ⟨⟨[]⟩⟩, .int .i64 0, .int .i64 0, .slice none 0 0, .int .i64 0, .slice none 0 0, .int .i64 0, .slice none 0 0], .blk b4 vc, .blk b3 [.int .i64 k, .string nm, .int .i64 num, .int .i64 tk, .slice pt tks.length ct, .int .i64 fk, .slice pf fks.length cf, .int .i64 lb, .slice p ks.length c]], x.2.2.2.2⟩) (fun x => x.1 ≤ ks.length ∧ B7 G x.2.2.2.2 ∧ C7 x.2.2.2.2 ((Z0 y v ks).take x.1) x.2.2.2.1) (fun x => ks.length - x.1) (0, none, 0, [], G) ?_ ?_ ?_)
 (simp only [H5]; exact C9)
 (exact ⟨Nat.zero_le _, B7.refl _, by simp [C7]⟩)
 (rintro ⟨i, pn, cn, es', Gi⟩ ⟨hi, hle, hst⟩; simp only [] at hi hle hst ⊢; replace hsl := hsl.mono hle; replace hkl := hkl.mono hle; replace hv := hv.mono hle; replace hty := hty.mono hle; replace hfr := hfr.mono hle; have hsl' := hst.len; rw [List.length_take, X5] at hsl')
 refine tS (tR ?_)
 refine sB (I2 rfl rfl) rfl rfl (fun h88 => ?_) (fun h88 => ?_)
 refine sD (nS (tS (qT rfl (tK (nS (tS ?_))))))
 refine B3 ?_
 refine tS (tR ?_)
 (have hil : i < ks.length := (by omega); obtain ⟨bx, ox, e, rfl, hl, hat, hre, hgb⟩ := hsl.kidTm hkl (i := i) (by omega) (by omega); have hel := hre.len; have heo := hre.one; refine sP (A8 (j := i) rfl rfl rfl (by omega)) rfl rfl ?_)
 refine sL (A0 rfl rfl (hat _) hl) rfl rfl ?_
 refine sE (A5 rfl) rfl (fun b101 => ?_)
 refine sS rfl rfl rfl hel heo rfl ?_ (hu := by exact D4 hel.symm)
 refine sD (nS ?_)
 refine D5 D6 rfl ?_
 refine L3 (i := 2) (l' := [ff,ff,tt,ff,ff,ff,ff,ff,ff,ff]) rfl D0 (A0 rfl rfl (A9 (by repeat first | exact mH | apply mT)) hel) rfl (by kernel_rfl) rfl rfl ?_
 refine aL 4 rfl (A0 rfl rfl (A9 (by repeat first | exact mH | apply mT)) hvl) rfl ?_
 refine aP 0 rfl (B0 rfl) rfl ?_
 refine aL 1 rfl (B9 rfl rfl) rfl ?_
 refine aP 3 rfl (qM rfl) rfl ?_
 refine A2 5 ?_
 (refine E9 rfl rfl (ih ks[i] (List.getElem_mem (by omega)) Gi _ (Tm.smallL_mem hks _ (List.getElem_mem (by omega))) hre hv) rfl rfl rfl (fun u G1 hle1 hh => ?_); obtain ⟨uc, rfl, hru⟩ := hh; have hul := hru.len; have huo := hru.one; obtain ⟨v1, v2, v3, v4, v5, v6, v7, v8, v9, rfl⟩ := T8 hul)
 refine A2 6 ?_
 (refine E3 rfl (D7 rfl rfl rfl (by omega) (by unfold maxLen; omega) rfl) rfl rfl ?_; rintro _ ⟨b114, rfl⟩)
 refine A2 7 ?_
 (refine U2 rfl rfl rfl rfl rfl rfl (fun _ _ => by repeat (first | exact Sw.here | apply Sw.there)) (N8 (by repeat first | exact mH | apply mT)) rfl (fun u hu => List.all_eq_true.1 huo u hu) (by unfold maxLen; omega) (by omega) rfl rfl (by repeat (first | exact C6.nil | apply C6.dep (by decide +kernel) | apply C6.im (by decide +kernel) (by assumption) (by repeat first | exact mH | apply mT) | apply C6.blk (by decide +kernel) (by repeat (first | exact Pk.here | apply Pk.there)) (by repeat first | exact mH | apply mT))) (fun p7 c7 => ?_))
 refine aP 8 rfl (B0 rfl) rfl ?_
 refine A2 9 ?_
 refine Y2 rfl rfl rfl rfl rfl rfl rfl rfl (by decide +kernel) (by repeat first | exact Sw.here | apply Sw.there) (by rfl) ?_
 refine C5 (P4 (nS (tR ?_)))
 refine sP (E8 rfl rfl (by omega) (by omega)) rfl rfl ?_
 refine sQ (qM rfl) rfl (sD ?_)
 refine I4 (i + 1, p7, c7, es' ++ [[v1, v2, v3, v4, v5, v6, v7, v8, v9]], G1) ?_ ?_ ?_
 (simp only [H5]; exact C9)
 (dsimp only; exact ⟨by omega, hle.trans hle1, by rw [A2P (by omega)]; exact C7.snoc (hst.mono hle1) hru⟩)
 (show ks.length - (i + 1) < ks.length - i; omega)
 refine H3 ?_
 (refine H7 (cs := es'.flatten) (by repeat (first | exact Pk.here | apply Pk.there)) (fun G2 hle2 hsl2 hno2 => ?_); obtain rfl : i = ks.length := (by omega))
 refine tT ?_
 refine E1 (rC rfl (A3 rfl rfl)) ?_
 (rw [if_neg (by rintro ⟨h1, h2⟩; first | omega | contradiction), if_neg (by rintro ⟨h1, h2⟩; first | omega | contradiction)]; rw [List.take_of_length_le (by rw [X5]; omega)] at hst; exact Q5.mk (A6.put hk hnum hlb (hty.mono hle2) (hfr.mono hle2) (by rw [X5]) (C4.of hsl2 (by omega) hst.all (fun e he => (hst.each e he).2)) (hst.mono hle2)))
 refine L5 ?_
 refine sB (qE rfl rfl) rfl rfl (fun h164 => ?_) (fun h164 => ?_)
 refine H8 ?_
 refine sB (A1R rfl rfl) rfl rfl (fun h169 => ?_) (fun h169 => ?_)
 refine L5 ?_
 refine E1 (rC rfl (A3 rfl rfl)) ?_
 (rw [if_neg (by rintro ⟨h1, h2⟩; first | omega | contradiction), if_pos (by refine ⟨by omega, by assumption⟩)]; exact Q5.mk hr0)
 refine F8 ?_
 refine sE (A5 rfl) rfl (fun b197 => ?_)
 refine T2 ?_
 refine B3 ?_
 (refine S2 28 9 ?_; refine I1 (fun (x : Nat × Option Addr × Nat × List (List Value) × IM) => ⟨[(37, .int .i64 x.1), (36, .int .i64 ks.length), (35, .slice p ks.length c), (1, .string y), (3, .pointer (some ⟨b3, 0, none⟩)), (5, .pointer (some ⟨b4, 0, none⟩)), (6, .pointer (some ⟨b5, 0, none⟩)), (7, .pointer (some ⟨b197, 0, none⟩))], [.blk b197 [.int .i64 k, .string nm, .int .i64 num, .int .i64 tk, .slice pt tks.length ct, .int .i64 fk, .slice pf fks.length cf, .int .i64 lb, .slice x.2.1 x.1 x.2.2.1], .slc x.2.1 x.2.2.1 28 9 x.1 x.2.2.2.1.flatten, .blk b5 [.int .i64 0, .string ⟨⟨[]⟩⟩, .int .i64 0, .int .i64 0, .slice none 0 0, .int .i64 0, .slice none 0 0, .int .i64 0, .slice none 0 0], .blk b4 vc, .blk b3 [.int .i64 k, .string nm, .int .i64 num, .int .i64 tk, .slice pt tks.length ct, .int .i64 fk, .slice pf fks.length cf, .int .i64 lb, .slice p ks.length c]], x.2.2.2.2⟩) (fun x => x.1 ≤ ks.length ∧ B7 G x.2.2.2.2 ∧ C7 x.2.2.2.2 ((Z0 y v ks).take x.1) x.2.2.2.1) (fun x => ks.length - x.1) (0, none, 0, [], G) ?_ ?_ ?_)
 (simp only [H5]; exact C9)
 (exact ⟨Nat.zero_le _, B7.refl _, by simp [C7]⟩)
 (rintro ⟨i, pn, cn, es', Gi⟩ ⟨hi, hle, hst⟩; simp only [] at hi hle hst ⊢; replace hsl := hsl.mono hle; replace hkl := hkl.mono hle; replace hv := hv.mono hle; replace hty := hty.mono hle; replace hfr := hfr.mono hle; have hsl' := hst.len; rw [List.length_take, X5] at hsl')
 refine tS (tR ?_)
 refine sB (I2 rfl rfl) rfl rfl (fun h223 => ?_) (fun h223 => ?_)
 refine sD (nS (tS (qT rfl (tK (nS (tS ?_))))))
 refine B3 ?_
 refine tS (tR ?_)
 (have hil : i < ks.length := (by omega); obtain ⟨bx, ox, e, rfl, hl, hat, hre, hgb⟩ := hsl.kidTm hkl (i := i) (by omega) (by omega); have hel := hre.len; have heo := hre.one; refine sP (A8 (j := i) rfl rfl rfl (by omega)) rfl rfl ?_)
 refine sL (A0 rfl rfl (hat _) hl) rfl rfl ?_
 refine sE (A5 rfl) rfl (fun b236 => ?_)
 refine sS rfl rfl rfl hel heo rfl ?_ (hu := by exact D4 hel.symm)
 refine sD (nS ?_)
 refine D5 D6 rfl ?_
 refine L3 (i := 2) (l' := [ff,ff,tt,ff,ff,ff,ff,ff,ff,ff]) rfl D0 (A0 rfl rfl (A9 (by repeat first | exact mH | apply mT)) hel) rfl (by kernel_rfl) rfl rfl ?_
 refine aL 4 rfl (A0 rfl rfl (A9 (by repeat first | exact mH | apply mT)) hvl) rfl ?_
 refine aP 0 rfl (B0 rfl) rfl ?_
 refine aL 1 rfl (B9 rfl rfl) rfl ?_
 refine aP 3 rfl (qM rfl) rfl ?_
 refine A2 5 ?_
 (refine E9 rfl rfl (ih ks[i] (List.getElem_mem (by omega)) Gi _ (Tm.smallL_mem hks _ (List.getElem_mem (by omega))) hre hv) rfl rfl rfl (fun u G1 hle1 hh => ?_); obtain ⟨uc, rfl, hru⟩ := hh; have hul := hru.len; have huo := hru.one; obtain ⟨v1, v2, v3, v4, v5, v6, v7, v8, v9, rfl⟩ := T8 hul)
 refine A2 6 ?_
 (refine E3 rfl (D7 rfl rfl rfl (by omega) (by unfold maxLen; omega) rfl) rfl rfl ?_; rintro _ ⟨b249, rfl⟩)
 refine A2 7 ?_
 (refine U2 rfl rfl rfl rfl rfl rfl (fun _ _ => by repeat (first | exact Sw.here | apply Sw.there)) (N8 (by repeat first | exact mH | apply mT)) rfl (fun u hu => List.all_eq_true.1 huo u hu) (by unfold maxLen; omega) (by omega) rfl rfl (by repeat (first | exact C6.nil | apply C6.dep (by decide +kernel) | apply C6.im (by decide +kernel) (by assumption) (by repeat first | exact mH | apply mT) | apply C6.blk (by decide +kernel) (by repeat (first | exact Pk.here | apply Pk.there)) (by repeat first | exact mH | apply mT))) (fun p7 c7 => ?_))
 refine aP 8 rfl (B0 rfl) rfl ?_
 refine A2 9 ?_
 refine Y2 rfl rfl rfl rfl rfl rfl rfl rfl (by decide +kernel) (by repeat first | exact Sw.here | apply Sw.there) (by rfl) ?_
 refine C5 (P4 (nS (tR ?_)))
 refine sP (E8 rfl rfl (by omega) (by omega)) rfl rfl ?_
 refine sQ (qM rfl) rfl (sD ?_)
 refine I4 (i + 1, p7, c7, es' ++ [[v1, v2, v3, v4, v5, v6, v7, v8, v9]], G1) ?_ ?_ ?_
 (simp only [H5]; exact C9)
 (dsimp only; exact ⟨by omega, hle.trans hle1, by rw [A2P (by omega)]; exact C7.snoc (hst.mono hle1) hru⟩)
 (show ks.length - (i + 1) < ks.length - i; omega)
 refine H3 ?_
 (refine H7 (cs := es'.flatten) (by repeat (first | exact Pk.here | apply Pk.there)) (fun G2 hle2 hsl2 hno2 => ?_); obtain rfl : i = ks.length := (by omega))
 refine tT ?_
 refine E1 (rC rfl (A3 rfl rfl)) ?_
 (rw [if_neg (by rintro ⟨h1, h2⟩; first | omega | contradiction), if_neg (by rintro ⟨h1, h2⟩; first | omega | contradiction)]; rw [List.take_of_length_le (by rw [X5]; omega)] at hst; exact Q5.mk (A6.put hk hnum hlb (hty.mono hle2) (hfr.mono hle2) (by rw [X5]) (C4.of hsl2 (by omega) hst.all (fun e he => (hst.each e he).2)) (hst.mono hle2)))
 refine J1 ?_
 refine sE (A5 rfl) rfl (fun b301 => ?_)
 refine T2 ?_
 refine B3 ?_
 (refine S2 28 9 ?_; refine I1 (fun (x : Nat × Option Addr × Nat × List (List Value) × IM) => ⟨[(37, .int .i64 x.1), (36, .int .i64 ks.length), (35, .slice p ks.length c), (1, .string y), (3, .pointer (some ⟨b3, 0, none⟩)), (5, .pointer (some ⟨b4, 0, none⟩)), (6, .pointer (some ⟨b5, 0, none⟩)), (7, .pointer (some ⟨b301, 0, none⟩))], [.blk b301 [.int .i64 k, .string nm, .int .i64 num, .int .i64 tk, .slice pt tks.length ct, .int .i64 fk, .slice pf fks.length cf, .int .i64 lb, .slice x.2.1 x.1 x.2.2.1], .slc x.2.1 x.2.2.1 28 9 x.1 x.2.2.2.1.flatten, .blk b5 [.int .i64 0, .string ⟨⟨[]⟩⟩, .int .i64 0, .int .i64 0, .slice none 0 0, .int .i64 0, .slice none 0 0, .int .i64 0, .slice none 0 0], .blk b4 vc, .blk b3 [.int .i64 k, .string nm, .int .i64 num, .int .i64 tk, .slice pt tks.length ct, .int .i64 fk, .slice pf fks.length cf, .int .i64 lb, .slice p ks.length c]], x.2.2.2.2⟩) (fun x => x.1 ≤ ks.length ∧ B7 G x.2.2.2.2 ∧ C7 x.2.2.2.2 ((Z0 y v ks).take x.1) x.2.2.2.1) (fun x => ks.length - x.1) (0, none, 0, [], G) ?_ ?_ ?_)
 (simp only [H5]; exact C9)
 (exact ⟨Nat.zero_le _, B7.refl _, by simp [C7]⟩)
 (rintro ⟨i, pn, cn, es', Gi⟩ ⟨hi, hle, hst⟩; simp only [] at hi hle hst ⊢; replace hsl := hsl.mono hle; replace hkl := hkl.mono hle; replace hv := hv.mono hle; replace hty := hty.mono hle; replace hfr := hfr.mono hle; have hsl' := hst.len; rw [List.length_take, X5] at hsl')
 refine tS (tR ?_)
 refine sB (I2 rfl rfl) rfl rfl (fun h327 => ?_) (fun h327 => ?_)
 refine sD (nS (tS (qT rfl (tK (nS (tS ?_))))))
 refine B3 ?_
 refine tS (tR ?_)
 (have hil : i < ks.length := (by omega); obtain ⟨bx, ox, e, rfl, hl, hat, hre, hgb⟩ := hsl.kidTm hkl (i := i) (by omega) (by omega); have hel := hre.len; have heo := hre.one; refine sP (A8 (j := i) rfl rfl rfl (by omega)) rfl rfl ?_)
 refine sL (A0 rfl rfl (hat _) hl) rfl rfl ?_
 refine sE (A5 rfl) rfl (fun b340 => ?_)
 refine sS rfl rfl rfl hel heo rfl ?_ (hu := by exact D4 hel.symm)
 refine sD (nS ?_)
 refine D5 D6 rfl ?_
 refine L3 (i := 2) (l' := [ff,ff,tt,ff,ff,ff,ff,ff,ff,ff]) rfl D0 (A0 rfl rfl (A9 (by repeat first | exact mH | apply mT)) hel) rfl (by kernel_rfl) rfl rfl ?_
 refine aL 4 rfl (A0 rfl rfl (A9 (by repeat first | exact mH | apply mT)) hvl) rfl ?_
 refine aP 0 rfl (B0 rfl) rfl ?_
 refine aL 1 rfl (B9 rfl rfl) rfl ?_
 refine aP 3 rfl (qM rfl) rfl ?_
 refine A2 5 ?_
 (refine E9 rfl rfl (ih ks[i] (List.getElem_mem (by omega)) Gi _ (Tm.smallL_mem hks _ (List.getElem_mem (by omega))) hre hv) rfl rfl rfl (fun u G1 hle1 hh => ?_); obtain ⟨uc, rfl, hru⟩ := hh; have hul := hru.len; have huo := hru.one; obtain ⟨v1, v2, v3, v4, v5, v6, v7, v8, v9, rfl⟩ := T8 hul)
 refine A2 6 ?_
 (refine E3 rfl (D7 rfl rfl rfl (by omega) (by unfold maxLen; omega) rfl) rfl rfl ?_; rintro _ ⟨b353, rfl⟩)
 refine A2 7 ?_
 (refine U2 rfl rfl rfl rfl rfl rfl (fun _ _ => by repeat (first | exact Sw.here | apply Sw.there)) (N8 (by repeat first | exact mH | apply mT)) rfl (fun u hu => List.all_eq_true.1 huo u hu) (by unfold maxLen; omega) (by omega) rfl rfl (by repeat (first | exact C6.nil | apply C6.dep (by decide +kernel) | apply C6.im (by decide +kernel) (by assumption) (by repeat first | exact mH | apply mT) | apply C6.blk (by decide +kernel) (by repeat (first | exact Pk.here | apply Pk.there)) (by repeat first | exact mH | apply mT))) (fun p7 c7 => ?_))
 refine aP 8 rfl (B0 rfl) rfl ?_
 refine A2 9 ?_
 refine Y2 rfl rfl rfl rfl rfl rfl rfl rfl (by decide +kernel) (by repeat first | exact Sw.here | apply Sw.there) (by rfl) ?_
 refine C5 (P4 (nS (tR ?_)))
 refine sP (E8 rfl rfl (by omega) (by omega)) rfl rfl ?_
 refine sQ (qM rfl) rfl (sD ?_)
 refine I4 (i + 1, p7, c7, es' ++ [[v1, v2, v3, v4, v5, v6, v7, v8, v9]], G1) ?_ ?_ ?_
 (simp only [H5]; exact C9)
 (dsimp only; exact ⟨by omega, hle.trans hle1, by rw [A2P (by omega)]; exact C7.snoc (hst.mono hle1) hru⟩)
 (show ks.length - (i + 1) < ks.length - i; omega)
 refine H3 ?_
 (refine H7 (cs := es'.flatten) (by repeat (first | exact Pk.here | apply Pk.there)) (fun G2 hle2 hsl2 hno2 => ?_); obtain rfl : i = ks.length := (by omega))
 refine tT ?_
 refine E1 (rC rfl (A3 rfl rfl)) ?_
 (rw [if_neg (by rintro ⟨h1, h2⟩; first | omega | contradiction), if_neg (by rintro ⟨h1, h2⟩; first | omega | contradiction)]; rw [List.take_of_length_le (by rw [X5]; omega)] at hst; exact Q5.mk (A6.put hk hnum hlb (hty.mono hle2) (hfr.mono hle2) (by rw [X5]) (C4.of hsl2 (by omega) hst.all (fun e he => (hst.each e he).2)) (hst.mono hle2)))
theorem A05 (e : Tm) (a b : Ty) (l : Int) (G : IM) (ce ca cb : List Value) (hl : H1 l) (he : A6 G e ce) (ha : B6 G a ca) (hb : B6 G b cb) : Fn Tryz.prog 230 [.agg ⟨ce⟩, .agg ⟨ca⟩, .agg ⟨cb⟩, .int .i64 l] [] G (Q5 (K8 e a b l)) := by
 have hel := he.len
 have heo := he.one
 obtain ⟨v1, v2, v3, v4, v5, v6, v7, v8, v9, rfl⟩ := T8 hel
 obtain ⟨ak, aks⟩ := a
 obtain ⟨bk, bks⟩ := b
 obtain ⟨pa, cca, ea, rfl, _⟩ := ha.open
 obtain ⟨pb, ccb, eb, rfl, _⟩ := hb.open
 refine B4 Tryz.func230 rfl Tryz.ntmps230 Tryz.results230 rfl ?_
 intro w0
 refine tS (tR ?_)
 refine sE (C1 rfl rfl) rfl (fun b3 => ?_)
 refine sE (C1 rfl rfl) rfl (fun b4 => ?_)
 refine sE (C1 rfl rfl) rfl (fun b5 => ?_)
 refine sE (A5 rfl) rfl (fun b6 => ?_)
 refine sD (nS (tS (tR ?_)))
 refine sL (A0 rfl rfl (A9 (by repeat first | exact mH | apply mT)) rfl) rfl rfl ?_
 refine sL (A0 rfl rfl (A9 (by repeat first | exact mH | apply mT)) rfl) rfl rfl ?_
 refine sQ (qM rfl) rfl ?_
 refine sL (A0 rfl rfl (A9 (by repeat first | exact mH | apply mT)) rfl) rfl rfl ?_
 (refine K6 (D7 rfl rfl rfl (by omega) (by unfold maxLen; omega) rfl) rfl ?_; rintro _ ⟨b15, rfl⟩)
 refine sQ (U1 rfl rfl) rfl (J7 ?_)
 refine sD (nS ?_)
 (refine H7 (cs := [v1, v2, v3, v4, v5, v6, v7, v8, v9]) (by repeat (first | exact Pk.here | apply Pk.there)) (fun G2 hle2 hsl2 hno2 => ?_))
 refine tT ?_
 refine E1 (rC rfl (A3 rfl rfl)) ?_
 (exact Q5.mk (A6.put (us := [e]) (es := [[v1, v2, v3, v4, v5, v6, v7, v8, v9]]) ⟨by decide, by decide⟩ ⟨by decide, by decide⟩ hl (hb.mono hle2) (ha.mono hle2) rfl (C4.of hsl2 rfl (by intro x hx; obtain rfl := List.mem_singleton.1 hx; rfl) (by intro x hx; obtain rfl := List.mem_singleton.1 hx; exact heo)) (by simp only [C7]; exact ⟨_, _, rfl, he.mono hle2, rfl⟩)))
theorem A2Q (k : Int) (p : Option Addr) (n c : Nat) (G : IM) : Fn Tryz.prog 231 [.int .i64 k, .slice p n c] [] G (E4 (.agg ⟨[.int .i64 k, .string ⟨⟨[]⟩⟩, .int .i64 0, .int .i64 0, .slice none 0 0, .int .i64 0, .slice none 0 0, .int .i64 0, .slice p n c]⟩) G) := by
 refine B4 Tryz.func231 rfl Tryz.ntmps231 Tryz.results231 rfl ?_
 intro w0
 refine tS (tR ?_)
 refine sE (A5 rfl) rfl (fun b3 => ?_)
 refine F8 ?_
 refine E1 (rC rfl (A3 rfl rfl)) ?_
 (exact ⟨rfl, rfl, rfl⟩)
theorem A4g (G : IM) {k : Int} (hk : H1 k) : A6 G (A0c k []) [.int .i64 k, .string ⟨⟨[]⟩⟩, .int .i64 0, .int .i64 0, .slice none 0 0, .int .i64 0, .slice none 0 0, .int .i64 0, .slice none 0 0] := A0F hk rfl (C4.nil _ _) rfl
theorem B2t (G : IM) : Fn Tryz.prog 224 [.bool true] [] G (Q5 (A0d (true = true))) := by
 refine B4 Tryz.func224 rfl Tryz.ntmps224 Tryz.results224 rfl ?_
 intro w0
 refine tS (tR ?_)
 refine sE (A5 rfl) rfl (fun b3 => ?_)
 refine F8 ?_
 refine I3 rfl ((A2Q _ _ _ _ _)) rfl rfl ?_
 refine J7 ?_
 refine sD (nS (tT (rS ?_)))
 refine E1 (rC rfl (A3 rfl rfl)) ?_
 (exact Q5.mk (A4g _ ⟨by decide, by decide⟩))
theorem B2u (G : IM) : Fn Tryz.prog 224 [.bool false] [] G (Q5 (A0d (false = true))) := by
 refine B4 Tryz.func224 rfl Tryz.ntmps224 Tryz.results224 rfl ?_
 intro w0
 refine tS (tR ?_)
 refine sE (A5 rfl) rfl (fun b3 => ?_)
 refine K1 ?_
 refine I3 rfl ((A2Q _ _ _ _ _)) rfl rfl ?_
 refine J7 ?_
 refine sD (nS (tT ?_))
 refine E1 (rC rfl (A3 rfl rfl)) ?_
 (exact Q5.mk (A4g _ ⟨by decide, by decide⟩))
theorem A8e (b : Bool) (G : IM) : Fn Tryz.prog 224 [.bool b] [] G (Q5 (A0d (b = true))) := by
 cases b
 ·exact B2u G
 ·exact B2t G
theorem A8f {a b : Int} (h : 0 ≤ a ∧ a ≤ 999) (h' : 0 ≤ b ∧ b ≤ 999) : (a + b).tmod 1000 = (a + b) % 1000 := by
 rw [Int.tmod_eq_emod_of_nonneg (by omega)]
def W3 (k : Int) (ks : List Tm) : Option Tm :=
 if k = 6 then (if (kd ks 0).k = 5 then some (A0m (kd ks 0).nm (kd ks 1) (kd (kd ks 0).ks 0)) else none)
 else if k = 7 ∨ k = 8 then (if (kd ks 0).k = 2 ∧ (kd ks 1).k = 2 then some (if k = 7 then A2b (((kd ks 0).num + (kd ks 1).num) % 1000) else A0d ((kd ks 0).num < (kd ks 1).num)) else none)
 else if k = 9 then (if (kd ks 0).k = 3 then some (kd ks 1) else if (kd ks 0).k = 4 then some (kd ks 2) else none)
 else if k = 11 ∨ k = 12 then (if (kd ks 0).k = 10 then some (kd (kd ks 0).ks (k - 11).toNat) else none)
 else none
def Q6 (o : Option Tm) : IM → Value → List A4 → Prop := J8 fun G' v => ∃ u cells c, v = .tuple ⟨[.agg ⟨cells⟩, .int .i64 c]⟩ ∧ A6 G' u cells ∧ (∀ x, o = some x → c = 1 ∧ u = x) ∧ (o = none → c = 3)
theorem Q6.yes {G : IM} {o : Option Tm} {u : Tm} {cells : List Value} (h : o = some u) (hr : A6 G u cells) : Q6 o G (.tuple ⟨[.agg ⟨cells⟩, .int .i64 1]⟩) [] := by
 subst h; exact ⟨rfl, u, cells, 1, rfl, hr, fun x hx => (by cases hx; exact ⟨rfl, rfl⟩), fun h => (by cases h)⟩
theorem Q6.no {G : IM} {o : Option Tm} {u : Tm} {cells : List Value} (h : o = none) (hr : A6 G u cells) : Q6 o G (.tuple ⟨[.agg ⟨cells⟩, .int .i64 3]⟩) [] := by
 subst h; exact ⟨rfl, u, cells, 3, rfl, hr, fun x hx => (by cases hx), fun _ => rfl⟩
theorem M1 (G : IM) : A6 G K7 [.int .i64 0, .string ⟨⟨[]⟩⟩, .int .i64 0, .int .i64 0, .slice none 0 0, .int .i64 0, .slice none 0 0, .int .i64 0, .slice none 0 0] := (N2.zero G).R
theorem B2v (a b : Tm) (nm : ByteArray) (num : Int) (ty fr : Ty) (lb : Int) (G : IM) (cells : List Value) (hca : cv a) (hr : A6 G (.mk 6 nm num ty fr lb [a, b]) cells) : Fn Tryz.prog 177 [.agg ⟨cells⟩] [] G (Q6 (W3 6 [a, b])) := by
 have hsm := A2c a hca
 obtain ⟨ak, anm, anum, ⟨atk, atks⟩, ⟨afk, afks⟩, alb, aks⟩ := a
 obtain ⟨tk, tks⟩ := ty
 obtain ⟨fk, fks⟩ := fr
 obtain ⟨pt, ct, pf, cf, p, c, es, rfl, hk, hnum, hlb, hty, hfr, hsl, hkl⟩ := hr.open9
 obtain ⟨bx, ox, e0, rfl, hl0, hat0, hre0, hgb0⟩ := hsl.kidTm hkl (i := 0) (by simp) (by simp)
 replace hre0 : A6 G (.mk ak anm anum (.mk atk atks) (.mk afk afks) alb aks) e0 := hre0
 obtain ⟨apt, act, apf, acf, ap, ac, aes, rfl, hak, hanum, halb, haty, hafr, hasl, hakl⟩ := hre0.open9
 obtain ⟨_, _, e1, hp1, hl1, hat1, hre1, hgb1⟩ := hsl.kidTm hkl (i := 1) (by simp) (by simp)
 cases hp1
 replace hre1 : A6 G b e1 := hre1
 have ho1 := hre1.one
 obtain ⟨hN, _⟩ := hca.node
 have hops := hN.ops
 obtain ⟨_, _, _, _, hksm⟩ := A0e.1 hsm
 have h1 : ak = 5 → aks.length = 1 := fun h => by rw [h] at hops; have : D9 5 = 1 := rfl; omega
 have hL : ([Tm.mk ak anm anum (.mk atk atks) (.mk afk afks) alb aks, b] : List Tm).length = 2 := rfl
 rw [show W3 6 [Tm.mk ak anm anum (.mk atk atks) (.mk afk afks) alb aks, b] = (if ak = 5 then some (A0m anm b (kd aks 0)) else none) from rfl]
 refine B4 Tryz.func177 rfl Tryz.ntmps177 Tryz.results177 rfl ?_
 intro w0
 refine tS (tR ?_)
 refine sE (C1 rfl rfl) rfl (fun b3 => ?_)
 refine sE (A5 rfl) rfl (fun b4 => ?_)
 refine E2 ?_
 refine sE (A5 rfl) rfl (fun b11 => ?_)
 refine D8 ?_
 refine sP (A2Z rfl rfl (by omega)) rfl rfl ?_
 refine E2 ?_
 refine sP (A8 (j := 0) rfl rfl rfl (by simp)) rfl rfl ?_
 refine sL (A0 rfl rfl (hat0 _) rfl) rfl rfl ?_
 refine I8 ?_
 refine B3 ?_
 refine tS (tR ?_)
 refine sP (A0o rfl rfl (by omega)) rfl rfl ?_
 refine D3 ?_
 refine sB (qE rfl rfl) rfl rfl (fun h52 => ?_) (fun h52 => ?_)
 refine sD (nS (qT rfl (tS ?_)))
 (have hq : ak = 5 := (by omega); have hq1 := h1 hq; obtain ⟨bq, oq, e3, rfl, hl3, hat3, hre3, hgb3⟩ := hasl.kidTm hakl (i := 0) (by omega) (by omega); have hS := B2s anm b e1 aks[0] G e3 (Tm.smallL_mem hksm _ (List.getElem_mem (by omega))) hre3 hre1; refine D5 D6 rfl ?_)
 refine J6 (i := 0) (l' := [tt,ff,ff,ff,ff,ff,ff,ff,ff,ff,ff,ff,ff]) rfl D0 (B0 rfl) rfl (by kernel_rfl) rfl rfl ?_
 refine aL 1 rfl (B9 rfl rfl) rfl ?_
 refine aP 2 rfl (A8 (j := 0) rfl rfl rfl (by omega)) rfl ?_
 refine aL 3 rfl (A0 rfl rfl (hat3 _) hl3) rfl ?_
 refine aP 4 rfl (B0 rfl) rfl ?_
 refine aL 5 rfl (B9 rfl rfl) rfl ?_
 refine aP 6 rfl (B0 rfl) rfl ?_
 refine aL 7 rfl (B9 rfl rfl) rfl ?_
 refine aP 8 rfl (A8 (j := 1) rfl rfl rfl (by simp)) rfl ?_
 refine aL 9 rfl (A0 rfl rfl (hat1 _) hl1) rfl ?_
 refine A2 10 ?_
 (refine E9 rfl rfl hS rfl rfl rfl (fun u G1 hle1 hh => ?_); obtain ⟨uc, rfl, hru⟩ := hh; have hul := hru.len; have huo := hru.one)
 refine A2 11 ?_
 (refine oS rfl rfl rfl rfl hul huo rfl rfl ?_ (hu := by exact D4 hul.symm))
 refine aP 12 rfl (qA rfl) rfl ?_
 refine C5 (nS (tT (rB (rS ?_))))
 refine E5 (rC rfl (A0 rfl rfl (A9 (by repeat first | exact mH | apply mT)) hul)) (rT rfl) ?_
 (exact Q6.yes (by rw [if_pos (by omega)]; unfold kd; rw [List.getD_eq_getElem?_getD, List.getElem?_eq_getElem (by omega), Option.getD_some]) hru)
 refine L5 ?_
 refine E5 (rC rfl (A3 rfl rfl)) (rT rfl) ?_
 (exact Q6.no (by rw [if_neg (by omega)]) (M1 _))
theorem A8g (k : Int) (a b : Tm) (nm : ByteArray) (num : Int) (ty fr : Ty) (lb : Int) (G : IM) (cells : List Value) (hk78 : k = 7 ∨ k = 8) (hca : cv a) (hcb : cv b) (hr : A6 G (.mk k nm num ty fr lb [a, b]) cells) : Fn Tryz.prog 177 [.agg ⟨cells⟩] [] G (Q6 (W3 k [a, b])) := by
 obtain ⟨ak, anm, anum, ⟨atk, atks⟩, ⟨afk, afks⟩, alb, aks⟩ := a
 obtain ⟨tk, tks⟩ := ty
 obtain ⟨fk, fks⟩ := fr
 obtain ⟨pt, ct, pf, cf, p, c, es, rfl, hk, hnum, hlb, hty, hfr, hsl, hkl⟩ := hr.open9
 obtain ⟨bx, ox, e0, rfl, hl0, hat0, hre0, hgb0⟩ := hsl.kidTm hkl (i := 0) (by simp) (by simp)
 replace hre0 : A6 G (.mk ak anm anum (.mk atk atks) (.mk afk afks) alb aks) e0 := hre0
 obtain ⟨apt, act, apf, acf, ap, ac, aes, rfl, hak, hanum, halb, haty, hafr, hasl, hakl⟩ := hre0.open9
 obtain ⟨bk, bnm, bnum, ⟨btk, btks⟩, ⟨bfk, bfks⟩, blb, bks⟩ := b
 obtain ⟨_, _, e1, hp1, hl1, hat1, hre1, hgb1⟩ := hsl.kidTm hkl (i := 1) (by simp) (by simp)
 cases hp1
 replace hre1 : A6 G (.mk bk bnm bnum (.mk btk btks) (.mk bfk bfks) blb bks) e1 := hre1
 obtain ⟨bpt, bct, bpf, bcf, bp, bc, bes, rfl, hbk, hbnum, hblb, hbty, hbfr, hbsl, hbkl⟩ := hre1.open9
 obtain ⟨hN, _⟩ := hca.node
 obtain ⟨hM, _⟩ := hcb.node
 obtain ⟨hn1, hn2⟩ := hN.num0
 obtain ⟨hm1, hm2⟩ := hM.num0
 have hL : ([Tm.mk ak anm anum (.mk atk atks) (.mk afk afks) alb aks, Tm.mk bk bnm bnum (.mk btk btks) (.mk bfk bfks) blb bks] : List Tm).length = 2 := rfl
 have hR : W3 k [Tm.mk ak anm anum (.mk atk atks) (.mk afk afks) alb aks, Tm.mk bk bnm bnum (.mk btk btks) (.mk bfk bfks) blb bks] = (if ak = 2 ∧ bk = 2 then some (if k = 7 then A2b ((anum + bnum) % 1000) else A0d (anum < bnum)) else none) := by
  unfold W3; rw [if_neg (by omega), if_pos hk78]; rfl
 rw [hR]
 have htm : (anum + bnum).tmod 1000 = (anum + bnum) % 1000 := A8f ⟨hn1, hn2⟩ ⟨hm1, hm2⟩
 have hb : H1 ((anum + bnum) % 1000) := ⟨by omega, by omega⟩
 refine B4 Tryz.func177 rfl Tryz.ntmps177 Tryz.results177 rfl ?_
 intro w0
 refine tS (tR ?_)
 refine sE (C1 rfl rfl) rfl (fun b3 => ?_)
 refine sE (A5 rfl) rfl (fun b4 => ?_)
 refine E2 ?_
 refine sE (A5 rfl) rfl (fun b11 => ?_)
 refine D8 ?_
 refine sP (A2Z rfl rfl (by omega)) rfl rfl ?_
 refine E2 ?_
 refine sP (A8 (j := 0) rfl rfl rfl (by simp)) rfl rfl ?_
 refine sL (A0 rfl rfl (hat0 _) rfl) rfl rfl ?_
 refine I8 ?_
 refine B3 ?_
 refine tS (tR ?_)
 refine sP (I6 rfl rfl (by omega)) rfl rfl ?_
 refine sQ (qA rfl) rfl (sD (nS (cF rfl (tS (tS (tR ?_))))))
 refine sB (qE rfl rfl) rfl rfl (fun h51 => ?_) (fun h51 => ?_)
 refine F8 ?_
 refine sP (A8 (j := 1) rfl rfl rfl (by simp)) rfl rfl ?_
 refine sL (A0 rfl rfl (hat1 _) rfl) rfl rfl ?_
 refine sE (A5 rfl) rfl (fun b65 => ?_)
 refine J7 ?_
 refine sD (nS ?_)
 refine B3 ?_
 refine tS (tR (sQ (B0 rfl) rfl (sL (B9 rfl rfl) rfl rfl ?_)))
 refine sB (N7 rfl rfl) rfl rfl (fun h74 => ?_) (fun h74 => ?_)
 refine A0p ?_
 refine E5 (rC rfl (A3 rfl rfl)) (rT rfl) ?_
 (exact Q6.no (by rw [if_neg (by omega)]) (M1 _))
 refine J2 ?_
 refine sB (N7 rfl rfl) rfl rfl (fun h101 => ?_) (fun h101 => ?_)
 refine S1 ?_
 refine E5 (rC rfl (A3 rfl rfl)) (rT rfl) ?_
 (exact Q6.no (by rw [if_neg (by omega)]) (M1 _))
 refine D8 ?_
 refine sP (A0o rfl rfl (by omega)) rfl rfl ?_
 refine I8 ?_
 refine sP (E8 rfl rfl (by omega) (by omega)) rfl rfl ?_
 refine sP (A4v rfl rfl (by omega)) rfl rfl ?_
 refine sQ (U1 rfl rfl) rfl ?_
 (rw [htm]; refine J7 ?_)
 refine sQ (qA rfl) rfl (sD (nS (tT (rB (rB (rS ?_))))))
 refine E5 (rC rfl (A3 rfl rfl)) (rT rfl) ?_
 (exact Q6.yes (u := A2b (HMod.hMod (anum + bnum) 1000)) (by rw [if_pos ⟨by omega, by omega⟩, if_pos (by omega)]) (A6.put (us := []) ⟨by decide, by decide⟩ hb ⟨by decide, by decide⟩ (A2C _) (A2C _) rfl (C4.nil _ _) rfl))
 refine sQ (qA rfl) rfl (sD (nS (cF rfl (tR ?_))))
 refine sP (A0o rfl rfl (by omega)) rfl rfl ?_
 refine D3 ?_
 refine sP (A8 (j := 1) rfl rfl rfl (by simp)) rfl rfl ?_
 refine sL (A0 rfl rfl (hat1 _) rfl) rfl rfl ?_
 refine sE (A5 rfl) rfl (fun b170 => ?_)
 refine J7 ?_
 refine sD (nS ?_)
 refine B3 ?_
 refine tS (tR (sQ (B0 rfl) rfl (sL (B9 rfl rfl) rfl rfl ?_)))
 refine sB (N7 rfl rfl) rfl rfl (fun h179 => ?_) (fun h179 => ?_)
 refine A0p ?_
 refine E5 (rC rfl (A3 rfl rfl)) (rT rfl) ?_
 (exact Q6.no (by rw [if_neg (by omega)]) (M1 _))
 refine J2 ?_
 refine sB (N7 rfl rfl) rfl rfl (fun h206 => ?_) (fun h206 => ?_)
 refine S1 ?_
 refine E5 (rC rfl (A3 rfl rfl)) (rT rfl) ?_
 (exact Q6.no (by rw [if_neg (by omega)]) (M1 _))
 refine D8 ?_
 refine sP (I6 rfl rfl (by omega)) rfl rfl ?_
 refine I8 ?_
 (refine sB (I2 rfl rfl) rfl rfl (fun h246 => ?_) (fun h246 => ?_))
 (refine D2 rfl (A8e _ _) rfl rfl (fun u G1 hle1 hh => ?_); obtain ⟨uc, rfl, hru⟩ := hh; have hul := hru.len; have huo := hru.one)
 refine sS rfl rfl rfl hul huo rfl ?_ (hu := by exact D4 hul.symm)
 refine sQ (qA rfl) rfl (sD (nS (tT (rB (rB (rS ?_))))))
 refine E5 (rC rfl (A0 rfl rfl (A9 (by repeat first | exact mH | apply mT)) hul)) (rT rfl) ?_
 (exact Q6.yes (by rw [if_pos ⟨by omega, by omega⟩, if_neg (by omega)]; unfold A0d; rw [if_pos (by omega), if_pos rfl]) hru)
 (refine D2 rfl (A8e _ _) rfl rfl (fun u G1 hle1 hh => ?_); obtain ⟨uc, rfl, hru⟩ := hh; have hul := hru.len; have huo := hru.one)
 refine sS rfl rfl rfl hul huo rfl ?_ (hu := by exact D4 hul.symm)
 refine sQ (qA rfl) rfl (sD (nS (tT (rB (rB (rS ?_))))))
 refine E5 (rC rfl (A0 rfl rfl (A9 (by repeat first | exact mH | apply mT)) hul)) (rT rfl) ?_
 (exact Q6.yes (by rw [if_pos ⟨by omega, by omega⟩, if_neg (by omega)]; unfold A0d; rw [if_neg (by omega), if_neg (by decide)]) hru)
theorem B2w (a b c0 : Tm) (nm : ByteArray) (num : Int) (ty fr : Ty) (lb : Int) (G : IM) (cells : List Value) (hr : A6 G (.mk 9 nm num ty fr lb [a, b, c0]) cells) : Fn Tryz.prog 177 [.agg ⟨cells⟩] [] G (Q6 (W3 9 [a, b, c0])) := by
 obtain ⟨ak, anm, anum, ⟨atk, atks⟩, ⟨afk, afks⟩, alb, aks⟩ := a
 obtain ⟨tk, tks⟩ := ty
 obtain ⟨fk, fks⟩ := fr
 obtain ⟨pt, ct, pf, cf, p, c, es, rfl, hk, hnum, hlb, hty, hfr, hsl, hkl⟩ := hr.open9
 obtain ⟨bx, ox, e0, rfl, hl0, hat0, hre0, hgb0⟩ := hsl.kidTm hkl (i := 0) (by simp) (by simp)
 replace hre0 : A6 G (.mk ak anm anum (.mk atk atks) (.mk afk afks) alb aks) e0 := hre0
 obtain ⟨apt, act, apf, acf, ap, ac, aes, rfl, hak, hanum, halb, haty, hafr, hasl, hakl⟩ := hre0.open9
 obtain ⟨_, _, e1, hp1, hl1, hat1, hre1, hgb1⟩ := hsl.kidTm hkl (i := 1) (by simp) (by simp)
 cases hp1
 replace hre1 : A6 G b e1 := hre1
 have ho1 := hre1.one
 obtain ⟨_, _, e2, hp2, hl2, hat2, hre2, hgb2⟩ := hsl.kidTm hkl (i := 2) (by simp) (by simp)
 cases hp2
 replace hre2 : A6 G c0 e2 := hre2
 have ho2 := hre2.one
 have hL : ([Tm.mk ak anm anum (.mk atk atks) (.mk afk afks) alb aks, b, c0] : List Tm).length = 3 := rfl
 rw [show W3 9 [Tm.mk ak anm anum (.mk atk atks) (.mk afk afks) alb aks, b, c0] = (if ak = 3 then some b else if ak = 4 then some c0 else none) from rfl]
 refine B4 Tryz.func177 rfl Tryz.ntmps177 Tryz.results177 rfl ?_
 intro w0
 refine tS (tR ?_)
 refine sE (C1 rfl rfl) rfl (fun b3 => ?_)
 refine sE (A5 rfl) rfl (fun b4 => ?_)
 refine E2 ?_
 refine sE (A5 rfl) rfl (fun b11 => ?_)
 refine D8 ?_
 refine sP (A2Z rfl rfl (by omega)) rfl rfl ?_
 refine E2 ?_
 refine sP (A8 (j := 0) rfl rfl rfl (by simp)) rfl rfl ?_
 refine sL (A0 rfl rfl (hat0 _) rfl) rfl rfl ?_
 refine I8 ?_
 refine B3 ?_
 refine tS (tR ?_)
 refine sP (I6 rfl rfl (by omega)) rfl rfl ?_
 refine sQ (qA rfl) rfl (sD (nS (cF rfl (tS (tS (tR ?_))))))
 refine sP (I6 rfl rfl (by omega)) rfl rfl ?_
 refine sQ (qA rfl) rfl (sD (nS (cF rfl (tR ?_))))
 refine sP (I6 rfl rfl (by omega)) rfl rfl ?_
 refine sQ (qA rfl) rfl (sD (nS (cF rfl (tS (tR ?_)))))
 refine sP (A0o rfl rfl (by omega)) rfl rfl ?_
 refine I8 ?_
 refine B3 (tS (tR (sB (qE rfl rfl) rfl rfl (fun h78 => ?_) (fun h78 => ?_))))
 refine D3 ?_
 refine sP (A8 (j := 1) rfl rfl rfl (by simp)) rfl rfl ?_
 refine sL (A0 rfl rfl (hat1 _) hl1) rfl rfl ?_
 refine sS rfl rfl rfl hl1 ho1 rfl ?_ (hu := by exact D4 hl1.symm)
 refine sQ (qA rfl) rfl (sD (nS (tT (rB (rB (rS ?_))))))
 refine E5 (rC rfl (A0 rfl rfl (A9 (by repeat first | exact mH | apply mT)) hl1)) (rT rfl) ?_
 (exact Q6.yes (by rw [if_pos (by omega)]) hre1)
 refine sQ (qA rfl) rfl (sD (nS (cF rfl (tS (tR ?_)))))
 refine sB (qE rfl rfl) rfl rfl (fun h105 => ?_) (fun h105 => ?_)
 refine D3 ?_
 refine sP (A8 (j := 2) rfl rfl rfl (by simp)) rfl rfl ?_
 refine sL (A0 rfl rfl (hat2 _) hl2) rfl rfl ?_
 refine sS rfl rfl rfl hl2 ho2 rfl ?_ (hu := by exact D4 hl2.symm)
 refine sQ (qA rfl) rfl (sD (nS (tT (rB (rB (rS ?_))))))
 refine E5 (rC rfl (A0 rfl rfl (A9 (by repeat first | exact mH | apply mT)) hl2)) (rT rfl) ?_
 (exact Q6.yes (by rw [if_neg (by omega), if_pos (by omega)]) hre2)
 refine J1 ?_
 refine E5 (rC rfl (A3 rfl rfl)) (rT rfl) ?_
 (exact Q6.no (by rw [if_neg (by omega), if_neg (by omega)]) (M1 _))
theorem A8h (k : Int) (a : Tm) (nm : ByteArray) (num : Int) (ty fr : Ty) (lb : Int) (G : IM) (cells : List Value) (hk1 : k = 11 ∨ k = 12) (hca : cv a) (hr : A6 G (.mk k nm num ty fr lb [a]) cells) : Fn Tryz.prog 177 [.agg ⟨cells⟩] [] G (Q6 (W3 k [a])) := by
 obtain ⟨ak, anm, anum, ⟨atk, atks⟩, ⟨afk, afks⟩, alb, aks⟩ := a
 obtain ⟨tk, tks⟩ := ty
 obtain ⟨fk, fks⟩ := fr
 obtain ⟨pt, ct, pf, cf, p, c, es, rfl, hk, hnum, hlb, hty, hfr, hsl, hkl⟩ := hr.open9
 obtain ⟨bx, ox, e0, rfl, hl0, hat0, hre0, hgb0⟩ := hsl.kidTm hkl (i := 0) (by simp) (by simp)
 replace hre0 : A6 G (.mk ak anm anum (.mk atk atks) (.mk afk afks) alb aks) e0 := hre0
 obtain ⟨apt, act, apf, acf, ap, ac, aes, rfl, hak, hanum, halb, haty, hafr, hasl, hakl⟩ := hre0.open9
 obtain ⟨hN, _⟩ := hca.node
 have hops := hN.ops
 have h2 : ak = 10 → aks.length = 2 := fun h => by rw [h] at hops; have : D9 10 = 2 := rfl; omega
 have hL : ([Tm.mk ak anm anum (.mk atk atks) (.mk afk afks) alb aks] : List Tm).length = 1 := rfl
 have hR : W3 k [Tm.mk ak anm anum (.mk atk atks) (.mk afk afks) alb aks] = (if ak = 10 then some (kd aks (k - 11).toNat) else none) := by
  unfold W3; rw [if_neg (by omega), if_neg (by omega), if_neg (by omega), if_pos hk1]; rfl
 rw [hR]
 obtain ⟨i, hi⟩ : ∃ i : Nat, (k - 11).toNat = i := ⟨_, rfl⟩
 rw [hi]
 refine B4 Tryz.func177 rfl Tryz.ntmps177 Tryz.results177 rfl ?_
 intro w0
 refine tS (tR ?_)
 refine sE (C1 rfl rfl) rfl (fun b3 => ?_)
 refine sE (A5 rfl) rfl (fun b4 => ?_)
 refine E2 ?_
 refine sE (A5 rfl) rfl (fun b11 => ?_)
 refine D8 ?_
 refine sP (A2Z rfl rfl (by omega)) rfl rfl ?_
 refine E2 ?_
 refine sP (A8 (j := 0) rfl rfl rfl (by simp)) rfl rfl ?_
 refine sL (A0 rfl rfl (hat0 _) rfl) rfl rfl ?_
 refine I8 ?_
 refine B3 ?_
 refine tS (tR ?_)
 refine sP (I6 rfl rfl (by omega)) rfl rfl ?_
 refine sQ (qA rfl) rfl (sD (nS (cF rfl (tS (tS (tR ?_))))))
 refine sP (I6 rfl rfl (by omega)) rfl rfl ?_
 refine sQ (qA rfl) rfl (sD (nS (cF rfl (tR ?_))))
 refine sP (I6 rfl rfl (by omega)) rfl rfl ?_
 refine sQ (qA rfl) rfl (sD (nS (cF rfl (tS (tR ?_)))))
 refine sP (I6 rfl rfl (by omega)) rfl rfl ?_
 refine sQ (qA rfl) rfl (sD (nS (cF rfl (tS (tS (tR ?_))))))
 refine sB (qE rfl rfl) rfl rfl (fun h72 => ?_) (fun h72 => ?_)
 refine F8 ?_
 refine sB (qE rfl rfl) rfl rfl (fun h84 => ?_) (fun h84 => ?_)
 refine sD (nS (qT rfl (tS ?_)))
 (have hq : ak = 10 := (by omega); have hq1 := h2 hq; obtain ⟨bq, oq, e3, rfl, hl3, hat3, hre3, hgb3⟩ := hasl.kidTm hakl (i := i) (by omega) (by omega); have ho3 := hre3.one)
 refine O8 ?_
 refine sP (W8 rfl rfl (by omega) (by omega)) rfl rfl ?_
 (rw [show (k - 11 : Int) = ((i : Nat) : Int) from (by omega)]; refine sP (A8 (j := i) rfl rfl rfl (by omega)) rfl rfl ?_)
 refine sL (A0 rfl rfl (hat3 _) hl3) rfl rfl ?_
 refine sS rfl rfl rfl hl3 ho3 rfl ?_ (hu := by exact D4 hl3.symm)
 refine sQ (qA rfl) rfl (sD (nS (tT (rB (rS ?_)))))
 refine E5 (rC rfl (A0 rfl rfl (A9 (by repeat first | exact mH | apply mT)) hl3)) (rT rfl) ?_
 (exact Q6.yes (by rw [if_pos (by omega)]; unfold kd; rw [List.getD_eq_getElem?_getD, List.getElem?_eq_getElem (by omega), Option.getD_some]) hre3)
 refine L5 ?_
 refine E5 (rC rfl (A3 rfl rfl)) (rT rfl) ?_
 (exact Q6.no (by rw [if_neg (by omega)]) (M1 _))
 refine sQ (qA rfl) rfl (sD (nS (cF rfl (tR ?_))))
 refine sP (A0o rfl rfl (by omega)) rfl rfl ?_
 refine D3 ?_
 refine sB (qE rfl rfl) rfl rfl (fun h137 => ?_) (fun h137 => ?_)
 refine sD (nS (qT rfl (tS ?_)))
 (have hq : ak = 10 := (by omega); have hq1 := h2 hq; obtain ⟨bq, oq, e3, rfl, hl3, hat3, hre3, hgb3⟩ := hasl.kidTm hakl (i := i) (by omega) (by omega); have ho3 := hre3.one)
 refine O8 ?_
 refine sP (W8 rfl rfl (by omega) (by omega)) rfl rfl ?_
 (rw [show (k - 11 : Int) = ((i : Nat) : Int) from (by omega)]; refine sP (A8 (j := i) rfl rfl rfl (by omega)) rfl rfl ?_)
 refine sL (A0 rfl rfl (hat3 _) hl3) rfl rfl ?_
 refine sS rfl rfl rfl hl3 ho3 rfl ?_ (hu := by exact D4 hl3.symm)
 refine sQ (qA rfl) rfl (sD (nS (tT (rB (rS ?_)))))
 refine E5 (rC rfl (A0 rfl rfl (A9 (by repeat first | exact mH | apply mT)) hl3)) (rT rfl) ?_
 (exact Q6.yes (by rw [if_pos (by omega)]; unfold kd; rw [List.getD_eq_getElem?_getD, List.getElem?_eq_getElem (by omega), Option.getD_some]) hre3)
 refine L5 ?_
 refine E5 (rC rfl (A3 rfl rfl)) (rT rfl) ?_
 (exact Q6.no (by rw [if_neg (by omega)]) (M1 _))
section
variable {P : Program} {Γ : L7} {K : Po} {ops : Array Oper} {env : M0} {hp : List A4} {G : IM}
theorem A0S {H : List (Nat × Nat)} {fuel j : Nat} {listed : List Bool} {hp' : List A4} {p : Option Addr} {c el sz n : Nat} {cs : List Value} (hk : Pk hp (.slc p c el sz n cs) hp')
  (h : ∀ G', B7 G G' → Sl G' p n c sz cs → (∀ b ∈ H4 p, G b = none ∧ G' b ≠ none) → S9 P Γ ops K H fuel listed j ⟨env, hp', G'⟩) : S9 P Γ ops K H fuel listed j ⟨env, hp, G⟩ :=
 ⟨fun a w hs => let ⟨G', h1, h2, h3, h4⟩ := hs.freeze hk; (h G' h2 h3 h4).run a w h1⟩
end
theorem B6.kids {G : IM} {t : Ty} {a : Value} {p : Option Addr} {n c : Nat} (h : B6 G t [a, .slice p n c]) : ∃ es, C4 G p t.ks.length c 2 es ∧ C2 G t.ks es := by
 obtain ⟨p', c', es, he, _, h1, h2⟩ := h.open
 simp only [List.cons.injEq, Value.slice.injEq, and_true] at he
 obtain ⟨_, rfl, _, rfl⟩ := he
 exact ⟨es, h1, h2⟩
def X6 (k : Int) (ty fr : Ty) (lb : Int) (ks : List Tm) : Stp :=
 if k = 6 then
  (if W1 (kd ks 0) = true ∧ (kd ks 0).ty.k = 4 then (K8 (A0c 6 [kd (kd ks 0).ks 0, K8 (kd ks 1) (kt (kd ks 0).ty.ks 0) (kt (kd ks 0).fr.ks 0) (-(kd ks 0).lb)]) (kt (kd ks 0).fr.ks 1) (kt (kd ks 0).ty.ks 1) (kd ks 0).lb, 1, 0) else Q3)
 else if k = 11 ∨ k = 12 then
  (if W1 (kd ks 0) = true ∧ (kd ks 0).ty.k = 5 then (K8 (A0c k [kd (kd ks 0).ks 0]) (kt (kd ks 0).fr.ks (k - 11).toNat) (kt (kd ks 0).ty.ks (k - 11).toNat) (kd ks 0).lb, 1, 0) else Q3)
 else if k = 14 then
  (if fr.k = ty.k then (kd ks 0, 1, 0)
   else if ty.k = 1 then (K8 (K8 (kd ks 0) fr (T7 fr) lb) (T7 fr) ty lb, 1, 0)
   else if V3 ty = false then (K8 (K8 (kd ks 0) fr (T7 ty) lb) (T7 ty) ty lb, 1, 0)
   else if inj (kd ks 0) = false then Q3
   else if (kd ks 0).fr.k = ty.k then (kd (kd ks 0).ks 0, 1, 0)
   else (K7, 2, lb))
 else Q3
theorem B2x (k : Int) (ty fr : Ty) (lb : Int) (ks : List Tm) : O7 k ty fr lb ks = match W3 k ks with | some u => (u, 1, 0) | none => X6 k ty fr lb ks := by
 unfold O7 W3 X6
 by_cases h6 : k = 6
 ·rw [if_pos h6, if_pos h6, if_pos h6]
  by_cases h : (kd ks 0).k = 5
  ·rw [if_pos h, if_pos h]
  ·rw [if_neg h, if_neg h]
 rw [if_neg h6, if_neg h6, if_neg h6]
 by_cases h7 : k = 7 ∨ k = 8
 ·rw [if_pos h7, if_pos h7]
  by_cases h : (kd ks 0).k = 2 ∧ (kd ks 1).k = 2
  ·rw [if_pos h, if_pos h]
  ·rw [if_neg h, if_neg h]; simp only; rw [if_neg (by omega), if_neg (by omega)]
 rw [if_neg h7, if_neg h7]
 by_cases h9 : k = 9
 ·rw [if_pos h9, if_pos h9]
  by_cases h : (kd ks 0).k = 3
  ·rw [if_pos h, if_pos h]
  ·rw [if_neg h, if_neg h]
   by_cases h' : (kd ks 0).k = 4
   ·rw [if_pos h', if_pos h']
   ·rw [if_neg h', if_neg h']; simp only; rw [if_neg (by omega), if_neg (by omega)]
 rw [if_neg h9, if_neg h9]
 by_cases h11 : k = 11 ∨ k = 12
 ·rw [if_pos h11, if_pos h11, if_pos h11]
  by_cases h : (kd ks 0).k = 10
  ·rw [if_pos h, if_pos h]
  ·rw [if_neg h, if_neg h]
 rw [if_neg h11, if_neg h11, if_neg h11]
def Q7 (r : Stp) : IM → Value → List A4 → Prop := J8 fun G' v => ∃ u cells, v = .tuple ⟨[.agg ⟨cells⟩, .int .i64 r.2.1, .int .i64 r.2.2]⟩ ∧ A6 G' u cells ∧ (r.2.1 = 1 → u = r.1)
theorem Q7.mk {G : IM} {r : Stp} {u : Tm} {cells : List Value} {c l : Int} (h : r = (u, c, l)) (hr : A6 G u cells) : Q7 r G (.tuple ⟨[.agg ⟨cells⟩, .int .i64 c, .int .i64 l]⟩) [] := by
 subst h; exact ⟨rfl, u, cells, rfl, hr, fun _ => rfl⟩
theorem A0f {ks : List Tm} {i : Nat} (h : i < ks.length) : kd ks i = ks[i] := by unfold kd; rw [List.getD_eq_getElem?_getD, List.getElem?_eq_getElem h, Option.getD_some]
theorem O1 {ks : List Ty} {i : Nat} (h : i < ks.length) : kt ks i = ks[i] := by unfold kt; rw [List.getD_eq_getElem?_getD, List.getElem?_eq_getElem h, Option.getD_some]
theorem A8i {t : Ty} (h : V3 t = true) : t = T7 t := by
 unfold V3 at h
 rw [Bool.and_eq_true] at h
 exact (A2z _ _).1 h.2
theorem B2y (a b : Tm) (nm : ByteArray) (num : Int) (ty fr : Ty) (lb : Int) (G : IM) (cells : List Value) (hca : cv a) (hr : A6 G (.mk 6 nm num ty fr lb [a, b]) cells) : Fn Tryz.prog 192 [.agg ⟨cells⟩] [] G (Q7 (X6 6 ty fr lb [a, b])) := by
 obtain ⟨ak, anm, anum, ⟨atk, atks⟩, ⟨afk, afks⟩, alb, aks⟩ := a
 obtain ⟨hN, hkk⟩ := hca.node
 have hops := hN.ops
 have hbl := hN.lbB
 have htyA := hN.tyA
 have hfrA := hN.frA
 rw [E6] at htyA hfrA
 have h14 : ak = 14 → aks.length = 1 := fun h => by rw [h] at hops; have : D9 14 = 1 := rfl; omega
 obtain ⟨tk, tks⟩ := ty
 obtain ⟨fk, fks⟩ := fr
 obtain ⟨pt, ct, pf, cf, p, c, es, rfl, hk, hnum, hlb, hty, hfr, hsl, hkl⟩ := hr.open9
 obtain ⟨bx, ox, e0, rfl, hl0, hat0, hre0, hgb0⟩ := hsl.kidTm hkl (i := 0) (by simp) (by simp)
 replace hre0 : A6 G (Tm.mk ak anm anum (.mk atk atks) (.mk afk afks) alb aks) e0 := hre0
 have hP : Fn Tryz.prog 170 [.agg ⟨e0⟩] [] G (E4 (.bool (decide (ak = 14 ∧ afk = atk ∧ (atk = 4 ∨ atk = 5)))) G) := A2O _ G _ hre0
 obtain ⟨apt, act, apf, acf, ap, ac, aes, rfl, hak, hanum, halb, haty, hafr, hasl, hakl⟩ := hre0.open9
 obtain ⟨tes, htS, htL⟩ := haty.kids
 obtain ⟨fes, hfS, hfL⟩ := hafr.kids
 simp only [Ty.ks] at htS htL hfS hfL
 obtain ⟨_, _, e1, hp1, hl1, hat1, hre1, hgb1⟩ := hsl.kidTm hkl (i := 1) (by simp) (by simp)
 cases hp1
 replace hre1 : A6 G b e1 := hre1
 have ho1 := hre1.one
 have hR : X6 6 (.mk tk tks) (.mk fk fks) lb [Tm.mk ak anm anum (.mk atk atks) (.mk afk afks) alb aks, b] = (if (ak = 14 ∧ afk = atk ∧ (atk = 4 ∨ atk = 5)) ∧ atk = 4 then (K8 (A0c 6 [kd aks 0, K8 b (kt atks 0) (kt afks 0) (-alb)]) (kt afks 1) (kt atks 1) alb, 1, 0) else Q3) := by
  unfold X6
  rw [if_pos rfl, show kd [Tm.mk ak anm anum (.mk atk atks) (.mk afk afks) alb aks, b] 0 = Tm.mk ak anm anum (.mk atk atks) (.mk afk afks) alb aks from rfl, A2h]
  simp only [decide_eq_true_eq]
  rfl
 rw [hR]
 refine B4 Tryz.func192 rfl Tryz.ntmps192 Tryz.results192 rfl ?_
 intro w0
 refine tS (tR ?_)
 refine sE (C1 rfl rfl) rfl (fun b3 => ?_)
 refine sE (A5 rfl) rfl (fun b4 => ?_)
 refine D3 ?_
 refine sP (A8 (j := 0) rfl rfl rfl (by simp)) rfl rfl ?_
 refine sL (A0 rfl rfl (hat0 _) rfl) rfl rfl ?_
 refine sE (A5 rfl) rfl (fun b15 => ?_)
 refine J7 ?_
 refine sD (nS (tS ?_))
 refine B3 ?_
 refine tS (tR (sQ (B0 rfl) rfl (sL (B9 rfl rfl) rfl rfl ?_)))
 refine sP (A0o rfl rfl (by omega)) rfl rfl ?_
 refine sQ (qM rfl) rfl (sL (A3 rfl rfl) rfl rfl ?_)
 focus (by_cases hpx : (ak = 14 ∧ afk = atk ∧ (atk = 4 ∨ atk = 5)); rw [decide_eq_true hpx] at hP; rotate_left; rw [decide_eq_false hpx] at hP; rotate_left; all_goals (refine I3 rfl hP rfl rfl ?_))
 refine O8 ?_
 refine sB (qE rfl rfl) rfl rfl (fun h34 => ?_) (fun h34 => ?_)
 refine E2 ?_
 (have hq : (ak = 14 ∧ afk = atk ∧ (atk = 4 ∨ atk = 5)) ∧ atk = 4 := ⟨hpx, by omega⟩; have hq1 := h14 hq.1.1; have hq2 := htyA.1 (by omega); have hq3 := hfrA.1 (by omega); obtain ⟨bq, oq, e3, rfl, hl3, hat3, hre3, hgb3⟩ := hasl.kidTm hakl (i := 0) (by omega) (by omega); have ho3 := hre3.one; obtain ⟨b5, o5, q5, d5, rfl, hat5, hre5, hgb5⟩ := htS.kidTy htL (i := 0) (by omega) (by omega); obtain ⟨_, _, q6, d6, hp6, hat6, hre6, hgb6⟩ := htS.kidTy htL (i := 1) (by omega) (by omega); cases hp6; obtain ⟨b7, o7, q7, d7, rfl, hat7, hre7, hgb7⟩ := hfS.kidTy hfL (i := 0) (by omega) (by omega); obtain ⟨_, _, q8, d8, hp8, hat8, hre8, hgb8⟩ := hfS.kidTy hfL (i := 1) (by omega) (by omega); cases hp8; obtain ⟨x1, x2, x3, x4, x5, x6, x7, x8, x9, rfl⟩ := T8 hl3; obtain ⟨y1, y2, y3, y4, y5, y6, y7, y8, y9, rfl⟩ := T8 hl1; refine D5 D6 rfl ?_)
 refine J6 (i := 0) (l' := [tt,ff,ff,ff,ff,ff,ff,ff,ff,ff,ff,ff]) rfl D0 (B0 rfl) rfl (by kernel_rfl) rfl rfl ?_
 refine aL 1 rfl (B9 rfl rfl) rfl ?_
 refine aP 2 rfl (A8 (j := 0) rfl rfl rfl (by omega)) rfl ?_
 refine aL 3 rfl (A0 rfl rfl (hat3 _) rfl) rfl ?_
 refine aP 4 rfl (B0 rfl) rfl ?_
 refine aL 5 rfl (B9 rfl rfl) rfl ?_
 refine aP 6 rfl (A8 (j := 1) rfl rfl rfl (by simp)) rfl ?_
 refine aL 7 rfl (A0 rfl rfl (hat1 _) rfl) rfl ?_
 refine Q0 (j := 8) (j' := 9) (by kernel_rfl) ?_ ?_
 (refine E3 rfl (A5 rfl) rfl rfl ?_; rintro _ ⟨b51, rfl⟩)
 refine A2 9 ?_
 (refine E3 rfl (A5 rfl) rfl rfl ?_; rintro _ ⟨b53, rfl⟩)
 refine A2 10 ?_
 (refine oS rfl rfl rfl rfl rfl ho3 rfl rfl ?_ (hu := by exact D4 rfl.symm))
 refine A2 11 ?_
 (refine oS rfl rfl rfl rfl rfl ho1 rfl rfl ?_ (hu := by exact D4 rfl.symm))
 refine C5 (nS (tS ?_))
 refine D5 D6 rfl ?_
 refine L3 (i := 0) (l' := [tt,ff,ff,ff,ff,ff,ff,ff,ff,ff,ff,ff,ff,ff,ff,ff,ff,ff,ff,ff,ff,ff,ff,ff,ff,ff,ff,ff,ff,ff,ff,ff,ff,ff]) rfl D0 (A0 rfl rfl (A9 (by repeat first | exact mH | apply mT)) rfl) rfl (by kernel_rfl) rfl rfl ?_
 refine aL 1 rfl (A0 rfl rfl (A9 (by repeat first | exact mH | apply mT)) rfl) rfl ?_
 refine aP 2 rfl (B0 rfl) rfl ?_
 refine aP 3 rfl (qF rfl) rfl ?_
 refine aL 4 rfl (B9 rfl rfl) rfl ?_
 refine aP 5 rfl (A8 (j := 0) rfl rfl rfl (by omega)) rfl ?_
 refine aL 6 rfl (A0 rfl rfl (hat5 _) rfl) rfl ?_
 refine aP 7 rfl (B0 rfl) rfl ?_
 refine aP 8 rfl (qF rfl) rfl ?_
 refine aL 9 rfl (B9 rfl rfl) rfl ?_
 refine aP 10 rfl (A8 (j := 0) rfl rfl rfl (by omega)) rfl ?_
 refine aL 11 rfl (A0 rfl rfl (hat7 _) rfl) rfl ?_
 refine aP 12 rfl (B0 rfl) rfl ?_
 refine aL 13 rfl (B9 rfl rfl) rfl ?_
 refine aP 14 rfl (A3C rfl (by omega) (by omega)) rfl ?_
 refine aP 18 rfl (B0 rfl) rfl ?_
 refine aP 19 rfl (qF rfl) rfl ?_
 refine aL 20 rfl (B9 rfl rfl) rfl ?_
 refine aP 21 rfl (A8 (j := 1) rfl rfl rfl (by omega)) rfl ?_
 refine aL 22 rfl (A0 rfl rfl (hat8 _) rfl) rfl ?_
 refine aP 23 rfl (B0 rfl) rfl ?_
 refine aP 24 rfl (qF rfl) rfl ?_
 refine aL 25 rfl (B9 rfl rfl) rfl ?_
 refine aP 26 rfl (A8 (j := 1) rfl rfl rfl (by omega)) rfl ?_
 refine aL 27 rfl (A0 rfl rfl (hat6 _) rfl) rfl ?_
 refine aP 28 rfl (B0 rfl) rfl ?_
 refine aL 29 rfl (B9 rfl rfl) rfl ?_
 refine A2 15 ?_
 (refine E9 rfl rfl (A05 b atks[0] afks[0] (-alb) G _ _ _ ⟨by omega, by omega⟩ hre1 hre5 hre7) rfl rfl rfl (fun u G1 hle1 hh => ?_); obtain ⟨uc, rfl, hru⟩ := hh; have hul := hru.len; have huo := hru.one; obtain ⟨z1, z2, z3, z4, z5, z6, z7, z8, z9, rfl⟩ := T8 hul; replace hre3 := hre3.mono hle1; replace hre6 := hre6.mono hle1; replace hre8 := hre8.mono hle1)
 refine A2 16 ?_
 (refine E3 rfl (D7 rfl rfl rfl (by omega) (by unfold maxLen; omega) rfl) rfl rfl ?_; rintro _ ⟨b92, rfl⟩)
 refine A2 17 ?_
 (refine A0S (cs := [x1, x2, x3, x4, x5, x6, x7, x8, x9, z1, z2, z3, z4, z5, z6, z7, z8, z9]) (by repeat (first | exact Pk.here | apply Pk.there)) (fun G2 hle2 hsl2 hno2 => ?_); have hrN := A0F (k := 6) (ks := [aks[0], K8 b atks[0] afks[0] (-alb)]) (es := [[x1, x2, x3, x4, x5, x6, x7, x8, x9], [z1, z2, z3, z4, z5, z6, z7, z8, z9]]) ⟨by decide, by decide⟩ rfl (C4.of hsl2 rfl (by simp) (by intro x hx; rcases List.mem_cons.1 hx with rfl | hx; exact ho3; obtain rfl := List.mem_singleton.1 hx; exact huo)) (by simp only [C7]; exact ⟨_, _, rfl, hre3.mono hle2, _, _, rfl, hru.mono hle2, rfl⟩); replace hre6 := hre6.mono hle2; replace hre8 := hre8.mono hle2; refine M6 rfl rfl (A2Q _ _ _ _ _) rfl rfl rfl ?_)
 refine A2 30 ?_
 (refine E9 rfl rfl (A05 _ afks[1] atks[1] alb G2 _ _ _ ⟨by omega, by omega⟩ hrN hre8 hre6) rfl rfl rfl (fun u G3 hle3 hh => ?_); obtain ⟨wc, rfl, hrw⟩ := hh; have hwl := hrw.len; have hwo := hrw.one)
 refine A2 31 ?_
 (refine oS rfl rfl rfl rfl hwl hwo rfl rfl ?_ (hu := by exact D4 hwl.symm))
 refine aP 32 rfl (qA rfl) rfl ?_
 refine aP 33 rfl (qA rfl) rfl ?_
 refine C5 (nS (tT (rB (rS ?_))))
 refine C8 (rC rfl (A0 rfl rfl (A9 (by repeat first | exact mH | apply mT)) hwl)) (rT rfl) (rT rfl) ?_
 (exact Q7.mk (by rw [if_pos hq, A0f (by omega), O1 (by omega), O1 (by omega), O1 (by omega), O1 (by omega)]) hrw)
 (refine E3 rfl (A5 rfl) rfl rfl ?_; rintro _ ⟨b108, rfl⟩)
 refine A2 8 ?_
 (refine E3 rfl (A5 rfl) rfl rfl ?_; rintro _ ⟨b110, rfl⟩)
 refine A2 10 ?_
 (refine oS rfl rfl rfl rfl rfl ho3 rfl rfl ?_ (hu := by exact D4 rfl.symm))
 refine A2 11 ?_
 (refine oS rfl rfl rfl rfl rfl ho1 rfl rfl ?_ (hu := by exact D4 rfl.symm))
 refine C5 (nS (tS ?_))
 refine D5 D6 rfl ?_
 refine L3 (i := 0) (l' := [tt,ff,ff,ff,ff,ff,ff,ff,ff,ff,ff,ff,ff,ff,ff,ff,ff,ff,ff,ff,ff,ff,ff,ff,ff,ff,ff,ff,ff,ff,ff,ff,ff,ff]) rfl D0 (A0 rfl rfl (A9 (by repeat first | exact mH | apply mT)) rfl) rfl (by kernel_rfl) rfl rfl ?_
 refine aL 1 rfl (A0 rfl rfl (A9 (by repeat first | exact mH | apply mT)) rfl) rfl ?_
 refine aP 2 rfl (B0 rfl) rfl ?_
 refine aP 3 rfl (qF rfl) rfl ?_
 refine aL 4 rfl (B9 rfl rfl) rfl ?_
 refine aP 5 rfl (A8 (j := 0) rfl rfl rfl (by omega)) rfl ?_
 refine aL 6 rfl (A0 rfl rfl (hat5 _) rfl) rfl ?_
 refine aP 7 rfl (B0 rfl) rfl ?_
 refine aP 8 rfl (qF rfl) rfl ?_
 refine aL 9 rfl (B9 rfl rfl) rfl ?_
 refine aP 10 rfl (A8 (j := 0) rfl rfl rfl (by omega)) rfl ?_
 refine aL 11 rfl (A0 rfl rfl (hat7 _) rfl) rfl ?_
 refine aP 12 rfl (B0 rfl) rfl ?_
 refine aL 13 rfl (B9 rfl rfl) rfl ?_
 refine aP 14 rfl (A3C rfl (by omega) (by omega)) rfl ?_
 refine aP 18 rfl (B0 rfl) rfl ?_
 refine aP 19 rfl (qF rfl) rfl ?_
 refine aL 20 rfl (B9 rfl rfl) rfl ?_
 refine aP 21 rfl (A8 (j := 1) rfl rfl rfl (by omega)) rfl ?_
 refine aL 22 rfl (A0 rfl rfl (hat8 _) rfl) rfl ?_
 refine aP 23 rfl (B0 rfl) rfl ?_
 refine aP 24 rfl (qF rfl) rfl ?_
 refine aL 25 rfl (B9 rfl rfl) rfl ?_
 refine aP 26 rfl (A8 (j := 1) rfl rfl rfl (by omega)) rfl ?_
 refine aL 27 rfl (A0 rfl rfl (hat6 _) rfl) rfl ?_
 refine aP 28 rfl (B0 rfl) rfl ?_
 refine aL 29 rfl (B9 rfl rfl) rfl ?_
 refine A2 15 ?_
 (refine E9 rfl rfl (A05 b atks[0] afks[0] (-alb) G _ _ _ ⟨by omega, by omega⟩ hre1 hre5 hre7) rfl rfl rfl (fun u G1 hle1 hh => ?_); obtain ⟨uc, rfl, hru⟩ := hh; have hul := hru.len; have huo := hru.one; obtain ⟨z1, z2, z3, z4, z5, z6, z7, z8, z9, rfl⟩ := T8 hul; replace hre3 := hre3.mono hle1; replace hre6 := hre6.mono hle1; replace hre8 := hre8.mono hle1)
 refine A2 16 ?_
 (refine E3 rfl (D7 rfl rfl rfl (by omega) (by unfold maxLen; omega) rfl) rfl rfl ?_; rintro _ ⟨b149, rfl⟩)
 refine A2 17 ?_
 (refine A0S (cs := [x1, x2, x3, x4, x5, x6, x7, x8, x9, z1, z2, z3, z4, z5, z6, z7, z8, z9]) (by repeat (first | exact Pk.here | apply Pk.there)) (fun G2 hle2 hsl2 hno2 => ?_); have hrN := A0F (k := 6) (ks := [aks[0], K8 b atks[0] afks[0] (-alb)]) (es := [[x1, x2, x3, x4, x5, x6, x7, x8, x9], [z1, z2, z3, z4, z5, z6, z7, z8, z9]]) ⟨by decide, by decide⟩ rfl (C4.of hsl2 rfl (by simp) (by intro x hx; rcases List.mem_cons.1 hx with rfl | hx; exact ho3; obtain rfl := List.mem_singleton.1 hx; exact huo)) (by simp only [C7]; exact ⟨_, _, rfl, hre3.mono hle2, _, _, rfl, hru.mono hle2, rfl⟩); replace hre6 := hre6.mono hle2; replace hre8 := hre8.mono hle2; refine M6 rfl rfl (A2Q _ _ _ _ _) rfl rfl rfl ?_)
 refine A2 30 ?_
 (refine E9 rfl rfl (A05 _ afks[1] atks[1] alb G2 _ _ _ ⟨by omega, by omega⟩ hrN hre8 hre6) rfl rfl rfl (fun u G3 hle3 hh => ?_); obtain ⟨wc, rfl, hrw⟩ := hh; have hwl := hrw.len; have hwo := hrw.one)
 refine A2 31 ?_
 (refine oS rfl rfl rfl rfl hwl hwo rfl rfl ?_ (hu := by exact D4 hwl.symm))
 refine aP 32 rfl (qA rfl) rfl ?_
 refine aP 33 rfl (qA rfl) rfl ?_
 refine C5 (nS (tT (rB (rS ?_))))
 refine C8 (rC rfl (A0 rfl rfl (A9 (by repeat first | exact mH | apply mT)) hwl)) (rT rfl) (rT rfl) ?_
 (exact Q7.mk (by rw [if_pos hq, A0f (by omega), O1 (by omega), O1 (by omega), O1 (by omega), O1 (by omega)]) hrw)
 refine D8 ?_
 refine sP (I6 rfl rfl (by omega)) rfl rfl ?_
 refine J2 ?_
 refine sP (I6 rfl rfl (by omega)) rfl rfl ?_
 refine A0k ?_
 refine sP (A0i rfl rfl (by omega)) rfl rfl ?_
 refine H3 ?_
 refine C8 (rC rfl (A3 rfl rfl)) (rT rfl) (rT rfl) ?_
 (exact Q7.mk (by rw [if_neg (by omega)]; rfl) (M1 _))
 refine H3 ?_
 refine sP (I6 rfl rfl (by omega)) rfl rfl ?_
 refine J2 ?_
 refine sP (I6 rfl rfl (by omega)) rfl rfl ?_
 refine A0k ?_
 refine sP (A0i rfl rfl (by omega)) rfl rfl ?_
 refine H3 ?_
 refine C8 (rC rfl (A3 rfl rfl)) (rT rfl) (rT rfl) ?_
 (exact Q7.mk (by rw [if_neg (by omega)]; rfl) (M1 _))
theorem A8j (k : Int) (a : Tm) (nm : ByteArray) (num : Int) (ty fr : Ty) (lb : Int) (G : IM) (cells : List Value) (hk1 : k = 11 ∨ k = 12) (hca : cv a) (hr : A6 G (.mk k nm num ty fr lb [a]) cells) : Fn Tryz.prog 192 [.agg ⟨cells⟩] [] G (Q7 (X6 k ty fr lb [a])) := by
 obtain ⟨ak, anm, anum, ⟨atk, atks⟩, ⟨afk, afks⟩, alb, aks⟩ := a
 obtain ⟨hN, hkk⟩ := hca.node
 have hops := hN.ops
 have hbl := hN.lbB
 have htyA := hN.tyA
 have hfrA := hN.frA
 rw [E6] at htyA hfrA
 have h14 : ak = 14 → aks.length = 1 := fun h => by rw [h] at hops; have : D9 14 = 1 := rfl; omega
 obtain ⟨tk, tks⟩ := ty
 obtain ⟨fk, fks⟩ := fr
 obtain ⟨pt, ct, pf, cf, p, c, es, rfl, hk, hnum, hlb, hty, hfr, hsl, hkl⟩ := hr.open9
 obtain ⟨bx, ox, e0, rfl, hl0, hat0, hre0, hgb0⟩ := hsl.kidTm hkl (i := 0) (by simp) (by simp)
 replace hre0 : A6 G (Tm.mk ak anm anum (.mk atk atks) (.mk afk afks) alb aks) e0 := hre0
 have hP : Fn Tryz.prog 170 [.agg ⟨e0⟩] [] G (E4 (.bool (decide (ak = 14 ∧ afk = atk ∧ (atk = 4 ∨ atk = 5)))) G) := A2O _ G _ hre0
 have hI := A3r _ G _ hre0
 have ho0 := hre0.one
 obtain ⟨apt, act, apf, acf, ap, ac, aes, rfl, hak, hanum, halb, haty, hafr, hasl, hakl⟩ := hre0.open9
 have hfk64 : H1 fk := by obtain ⟨_, _, _, _, h, _⟩ := hfr.open; exact h
 have htk64 : H1 tk := by obtain ⟨_, _, _, _, h, _⟩ := hty.open; exact h
 obtain ⟨tes, htS, htL⟩ := haty.kids
 obtain ⟨fes, hfS, hfL⟩ := hafr.kids
 simp only [Ty.ks] at htS htL hfS hfL
 obtain ⟨i, hi⟩ : ∃ i : Nat, (k - 11).toNat = i := ⟨_, rfl⟩
 have hR : X6 k (.mk tk tks) (.mk fk fks) lb [Tm.mk ak anm anum (.mk atk atks) (.mk afk afks) alb aks] = (if (ak = 14 ∧ afk = atk ∧ (atk = 4 ∨ atk = 5)) ∧ atk = 5 then (K8 (A0c k [kd aks 0]) (kt afks i) (kt atks i) alb, 1, 0) else Q3) := by
  unfold X6
  rw [if_neg (by omega), if_pos hk1, hi, show kd [Tm.mk ak anm anum (.mk atk atks) (.mk afk afks) alb aks] 0 = Tm.mk ak anm anum (.mk atk atks) (.mk afk afks) alb aks from rfl, A2h]
  simp only [decide_eq_true_eq]
  rfl
 rw [hR]
 refine B4 Tryz.func192 rfl Tryz.ntmps192 Tryz.results192 rfl ?_
 intro w0
 refine tS (tR ?_)
 refine sE (C1 rfl rfl) rfl (fun b3 => ?_)
 refine sE (A5 rfl) rfl (fun b4 => ?_)
 refine D3 ?_
 refine sP (A8 (j := 0) rfl rfl rfl (by simp)) rfl rfl ?_
 refine sL (A0 rfl rfl (hat0 _) rfl) rfl rfl ?_
 refine sE (A5 rfl) rfl (fun b15 => ?_)
 refine J7 ?_
 refine sD (nS (tS ?_))
 refine B3 ?_
 refine tS (tR (sQ (B0 rfl) rfl (sL (B9 rfl rfl) rfl rfl ?_)))
 refine sP (I6 rfl rfl (by omega)) rfl rfl ?_
 refine T2 ?_
 refine sB (qE rfl rfl) rfl rfl (fun h44 => ?_) (fun h44 => ?_)
 refine C3 ?_
 focus (by_cases hpx : (ak = 14 ∧ afk = atk ∧ (atk = 4 ∨ atk = 5)); rw [decide_eq_true hpx] at hP; rotate_left; rw [decide_eq_false hpx] at hP; rotate_left; all_goals (refine I3 rfl hP rfl rfl ?_))
 refine O8 ?_
 refine sB (qE rfl rfl) rfl rfl (fun h58 => ?_) (fun h58 => ?_)
 refine D8 ?_
 refine sP (W8 rfl rfl (by omega) (by omega)) rfl rfl ?_
 refine sQ (qA rfl) rfl (sD (nS (tS ?_)))
 (have hq : (ak = 14 ∧ afk = atk ∧ (atk = 4 ∨ atk = 5)) ∧ atk = 5 := ⟨hpx, by omega⟩; have hq1 := h14 hq.1.1; have hq2 := htyA.1 (by omega); have hq3 := hfrA.1 (by omega); rw [show (k - 11 : Int) = ((i : Nat) : Int) from (by omega)]; obtain ⟨bq, oq, e3, rfl, hl3, hat3, hre3, hgb3⟩ := hasl.kidTm hakl (i := 0) (by omega) (by omega); have ho3 := hre3.one; obtain ⟨b5, o5, q5, d5, rfl, hat5, hre5, hgb5⟩ := htS.kidTy htL (i := i) (by omega) (by omega); obtain ⟨b7, o7, q7, d7, rfl, hat7, hre7, hgb7⟩ := hfS.kidTy hfL (i := i) (by omega) (by omega); obtain ⟨x1, x2, x3, x4, x5, x6, x7, x8, x9, rfl⟩ := T8 hl3; refine D5 D6 rfl ?_)
 refine J6 (i := 0) (l' := [tt,ff,ff,ff,ff,ff,ff,ff,ff,ff,ff,ff,ff,ff,ff,ff,ff,ff,ff,ff,ff,ff,ff,ff,ff,ff]) rfl D0 (B0 rfl) rfl (by kernel_rfl) rfl rfl ?_
 refine aL 1 rfl (B9 rfl rfl) rfl ?_
 refine aP 2 rfl (B0 rfl) rfl ?_
 refine aL 3 rfl (B9 rfl rfl) rfl ?_
 refine aP 4 rfl (A8 (j := 0) rfl rfl rfl (by omega)) rfl ?_
 refine aL 5 rfl (A0 rfl rfl (hat3 _) rfl) rfl ?_
 refine aP 8 rfl (B0 rfl) rfl ?_
 refine aP 9 rfl (qF rfl) rfl ?_
 refine aL 10 rfl (B9 rfl rfl) rfl ?_
 refine aP 11 rfl (qM rfl) rfl ?_
 refine aP 12 rfl (A8 (j := i) rfl rfl rfl (by omega)) rfl ?_
 refine aL 13 rfl (A0 rfl rfl (hat7 _) rfl) rfl ?_
 refine aP 14 rfl (B0 rfl) rfl ?_
 refine aP 15 rfl (qF rfl) rfl ?_
 refine aL 16 rfl (B9 rfl rfl) rfl ?_
 refine aP 17 rfl (qM rfl) rfl ?_
 refine aP 18 rfl (A8 (j := i) rfl rfl rfl (by omega)) rfl ?_
 refine aL 19 rfl (A0 rfl rfl (hat5 _) rfl) rfl ?_
 refine aP 20 rfl (B0 rfl) rfl ?_
 refine aL 21 rfl (B9 rfl rfl) rfl ?_
 refine A2 6 ?_
 (refine E3 rfl (D7 rfl rfl rfl (by omega) (by unfold maxLen; omega) rfl) rfl rfl ?_; rintro _ ⟨b95, rfl⟩)
 refine A2 7 ?_
 (refine A0S (cs := [x1, x2, x3, x4, x5, x6, x7, x8, x9]) (by repeat (first | exact Pk.here | apply Pk.there)) (fun G2 hle2 hsl2 hno2 => ?_); have hrN := A0F (k := k) (ks := [aks[0]]) (es := [[x1, x2, x3, x4, x5, x6, x7, x8, x9]]) hk rfl (C4.of hsl2 rfl (by simp) (by intro x hx; obtain rfl := List.mem_singleton.1 hx; exact ho3)) (by simp only [C7]; exact ⟨_, _, rfl, hre3.mono hle2, rfl⟩); replace hre5 := hre5.mono hle2; replace hre7 := hre7.mono hle2; refine M6 rfl rfl (A2Q _ _ _ _ _) rfl rfl rfl ?_)
 refine A2 22 ?_
 (refine E9 rfl rfl (A05 _ afks[i] atks[i] alb G2 _ _ _ ⟨by omega, by omega⟩ hrN hre7 hre5) rfl rfl rfl (fun u G3 hle3 hh => ?_); obtain ⟨wc, rfl, hrw⟩ := hh; have hwl := hrw.len; have hwo := hrw.one)
 refine A2 23 ?_
 (refine oS rfl rfl rfl rfl hwl hwo rfl rfl ?_ (hu := by exact D4 hwl.symm))
 refine aP 24 rfl (qA rfl) rfl ?_
 refine aP 25 rfl (qA rfl) rfl ?_
 refine C5 (nS (tT (rB (rS ?_))))
 refine C8 (rC rfl (A0 rfl rfl (A9 (by repeat first | exact mH | apply mT)) hwl)) (rT rfl) (rT rfl) ?_
 (exact Q7.mk (by rw [if_pos hq, A0f (by omega), O1 (by omega), O1 (by omega)]) hrw)
 refine D8 ?_
 refine sP (A0i rfl rfl (by omega)) rfl rfl ?_
 refine H3 ?_
 refine C8 (rC rfl (A3 rfl rfl)) (rT rfl) (rT rfl) ?_
 (exact Q7.mk (by rw [if_neg (by omega)]; rfl) (M1 _))
 refine H3 ?_
 refine sP (A0i rfl rfl (by omega)) rfl rfl ?_
 refine H3 ?_
 refine C8 (rC rfl (A3 rfl rfl)) (rT rfl) (rT rfl) ?_
 (exact Q7.mk (by rw [if_neg (by omega)]; rfl) (M1 _))
 refine J2 ?_
 refine sP (A0o rfl rfl (by omega)) rfl rfl ?_
 refine J2 ?_
 focus (by_cases hpx : (ak = 14 ∧ afk = atk ∧ (atk = 4 ∨ atk = 5)); rw [decide_eq_true hpx] at hP; rotate_left; rw [decide_eq_false hpx] at hP; rotate_left; all_goals (refine I3 rfl hP rfl rfl ?_))
 refine O8 ?_
 refine sB (qE rfl rfl) rfl rfl (fun h184 => ?_) (fun h184 => ?_)
 refine D8 ?_
 refine sP (W8 rfl rfl (by omega) (by omega)) rfl rfl ?_
 refine sQ (qA rfl) rfl (sD (nS (tS ?_)))
 (have hq : (ak = 14 ∧ afk = atk ∧ (atk = 4 ∨ atk = 5)) ∧ atk = 5 := ⟨hpx, by omega⟩; have hq1 := h14 hq.1.1; have hq2 := htyA.1 (by omega); have hq3 := hfrA.1 (by omega); rw [show (k - 11 : Int) = ((i : Nat) : Int) from (by omega)]; obtain ⟨bq, oq, e3, rfl, hl3, hat3, hre3, hgb3⟩ := hasl.kidTm hakl (i := 0) (by omega) (by omega); have ho3 := hre3.one; obtain ⟨b5, o5, q5, d5, rfl, hat5, hre5, hgb5⟩ := htS.kidTy htL (i := i) (by omega) (by omega); obtain ⟨b7, o7, q7, d7, rfl, hat7, hre7, hgb7⟩ := hfS.kidTy hfL (i := i) (by omega) (by omega); obtain ⟨x1, x2, x3, x4, x5, x6, x7, x8, x9, rfl⟩ := T8 hl3; refine D5 D6 rfl ?_)
 refine J6 (i := 0) (l' := [tt,ff,ff,ff,ff,ff,ff,ff,ff,ff,ff,ff,ff,ff,ff,ff,ff,ff,ff,ff,ff,ff,ff,ff,ff,ff]) rfl D0 (B0 rfl) rfl (by kernel_rfl) rfl rfl ?_
 refine aL 1 rfl (B9 rfl rfl) rfl ?_
 refine aP 2 rfl (B0 rfl) rfl ?_
 refine aL 3 rfl (B9 rfl rfl) rfl ?_
 refine aP 4 rfl (A8 (j := 0) rfl rfl rfl (by omega)) rfl ?_
 refine aL 5 rfl (A0 rfl rfl (hat3 _) rfl) rfl ?_
 refine aP 8 rfl (B0 rfl) rfl ?_
 refine aP 9 rfl (qF rfl) rfl ?_
 refine aL 10 rfl (B9 rfl rfl) rfl ?_
 refine aP 11 rfl (qM rfl) rfl ?_
 refine aP 12 rfl (A8 (j := i) rfl rfl rfl (by omega)) rfl ?_
 refine aL 13 rfl (A0 rfl rfl (hat7 _) rfl) rfl ?_
 refine aP 14 rfl (B0 rfl) rfl ?_
 refine aP 15 rfl (qF rfl) rfl ?_
 refine aL 16 rfl (B9 rfl rfl) rfl ?_
 refine aP 17 rfl (qM rfl) rfl ?_
 refine aP 18 rfl (A8 (j := i) rfl rfl rfl (by omega)) rfl ?_
 refine aL 19 rfl (A0 rfl rfl (hat5 _) rfl) rfl ?_
 refine aP 20 rfl (B0 rfl) rfl ?_
 refine aL 21 rfl (B9 rfl rfl) rfl ?_
 refine A2 6 ?_
 (refine E3 rfl (D7 rfl rfl rfl (by omega) (by unfold maxLen; omega) rfl) rfl rfl ?_; rintro _ ⟨b221, rfl⟩)
 refine A2 7 ?_
 (refine A0S (cs := [x1, x2, x3, x4, x5, x6, x7, x8, x9]) (by repeat (first | exact Pk.here | apply Pk.there)) (fun G2 hle2 hsl2 hno2 => ?_); have hrN := A0F (k := k) (ks := [aks[0]]) (es := [[x1, x2, x3, x4, x5, x6, x7, x8, x9]]) hk rfl (C4.of hsl2 rfl (by simp) (by intro x hx; obtain rfl := List.mem_singleton.1 hx; exact ho3)) (by simp only [C7]; exact ⟨_, _, rfl, hre3.mono hle2, rfl⟩); replace hre5 := hre5.mono hle2; replace hre7 := hre7.mono hle2; refine M6 rfl rfl (A2Q _ _ _ _ _) rfl rfl rfl ?_)
 refine A2 22 ?_
 (refine E9 rfl rfl (A05 _ afks[i] atks[i] alb G2 _ _ _ ⟨by omega, by omega⟩ hrN hre7 hre5) rfl rfl rfl (fun u G3 hle3 hh => ?_); obtain ⟨wc, rfl, hrw⟩ := hh; have hwl := hrw.len; have hwo := hrw.one)
 refine A2 23 ?_
 (refine oS rfl rfl rfl rfl hwl hwo rfl rfl ?_ (hu := by exact D4 hwl.symm))
 refine aP 24 rfl (qA rfl) rfl ?_
 refine aP 25 rfl (qA rfl) rfl ?_
 refine C5 (nS (tT (rB (rS ?_))))
 refine C8 (rC rfl (A0 rfl rfl (A9 (by repeat first | exact mH | apply mT)) hwl)) (rT rfl) (rT rfl) ?_
 (exact Q7.mk (by rw [if_pos hq, A0f (by omega), O1 (by omega), O1 (by omega)]) hrw)
 refine D8 ?_
 refine sP (A0i rfl rfl (by omega)) rfl rfl ?_
 refine H3 ?_
 refine C8 (rC rfl (A3 rfl rfl)) (rT rfl) (rT rfl) ?_
 (exact Q7.mk (by rw [if_neg (by omega)]; rfl) (M1 _))
 refine H3 ?_
 refine sP (A0i rfl rfl (by omega)) rfl rfl ?_
 refine H3 ?_
 refine C8 (rC rfl (A3 rfl rfl)) (rT rfl) (rT rfl) ?_
 (exact Q7.mk (by rw [if_neg (by omega)]; rfl) (M1 _))
theorem A5r {t : Tm} (h : inj t = true) : t.k = 14 := by
 unfold inj at h
 simp only [Bool.and_eq_true, decide_eq_true_eq] at h
 exact h.1.1
theorem B2z {t u : Ty} (h : V3 t = true) (h' : V3 u = true) : M4 t u = decide (t.k = u.k) := by
 have e1 := A8i h
 have e2 := A8i h'
 by_cases hk : t.k = u.k
 ·rw [decide_eq_true hk, A2z, e1, e2]
  unfold T7; rw [hk]
 ·rw [decide_eq_false hk]
  cases hs : M4 t u with
  | false => rfl
  | true => exact absurd (congrArg Ty.k ((A2z _ _).1 hs)) hk
theorem A8k {t : Tm} (h : inj t = true) : V3 t.fr = true := by
 unfold inj at h
 rw [Bool.and_eq_true] at h
 exact h.2
theorem B2A (a : Tm) (nm : ByteArray) (num : Int) (ty fr : Ty) (lb : Int) (G : IM) (cells : List Value) (hca : cv a) (hlb9 : -99 ≤ lb ∧ lb ≤ 99) (hr : A6 G (.mk 14 nm num ty fr lb [a]) cells) : Fn Tryz.prog 192 [.agg ⟨cells⟩] [] G (Q7 (X6 14 ty fr lb [a])) := by
 have hji := @A8k a
 have hjk := @A5r a
 obtain ⟨ak, anm, anum, ⟨atk, atks⟩, ⟨afk, afks⟩, alb, aks⟩ := a
 obtain ⟨hN, hkk⟩ := hca.node
 have hops := hN.ops
 have hbl := hN.lbB
 have htyA := hN.tyA
 have hfrA := hN.frA
 rw [E6] at htyA hfrA
 have h14 : ak = 14 → aks.length = 1 := fun h => by rw [h] at hops; have : D9 14 = 1 := rfl; omega
 obtain ⟨tk, tks⟩ := ty
 obtain ⟨fk, fks⟩ := fr
 obtain ⟨pt, ct, pf, cf, p, c, es, rfl, hk, hnum, hlb, hty, hfr, hsl, hkl⟩ := hr.open9
 obtain ⟨bx, ox, e0, rfl, hl0, hat0, hre0, hgb0⟩ := hsl.kidTm hkl (i := 0) (by simp) (by simp)
 replace hre0 : A6 G (Tm.mk ak anm anum (.mk atk atks) (.mk afk afks) alb aks) e0 := hre0
 have hP : Fn Tryz.prog 170 [.agg ⟨e0⟩] [] G (E4 (.bool (decide (ak = 14 ∧ afk = atk ∧ (atk = 4 ∨ atk = 5)))) G) := A2O _ G _ hre0
 have hI := A3r _ G _ hre0
 have ho0 := hre0.one
 obtain ⟨apt, act, apf, acf, ap, ac, aes, rfl, hak, hanum, halb, haty, hafr, hasl, hakl⟩ := hre0.open9
 have hfk64 : H1 fk := by obtain ⟨_, _, _, _, h, _⟩ := hfr.open; exact h
 have htk64 : H1 tk := by obtain ⟨_, _, _, _, h, _⟩ := hty.open; exact h
 obtain ⟨tes, htS, htL⟩ := haty.kids
 obtain ⟨fes, hfS, hfL⟩ := hafr.kids
 simp only [Ty.ks] at htS htL hfS hfL
 obtain ⟨J, hJ⟩ : ∃ J, inj (Tm.mk ak anm anum (.mk atk atks) (.mk afk afks) alb aks) = J := ⟨_, rfl⟩
 obtain ⟨D, hD⟩ : ∃ D, V3 (.mk tk tks) = D := ⟨_, rfl⟩
 have hGr := A79 _ G _ hty
 rw [hD] at hGr
 rw [hJ] at hI hji hjk
 have hR : X6 14 (.mk tk tks) (.mk fk fks) lb [Tm.mk ak anm anum (.mk atk atks) (.mk afk afks) alb aks] = (if fk = tk then (Tm.mk ak anm anum (.mk atk atks) (.mk afk afks) alb aks, 1, 0)
   else if tk = 1 then (K8 (K8 (Tm.mk ak anm anum (.mk atk atks) (.mk afk afks) alb aks) (.mk fk fks) (mGk fk) lb) (mGk fk) (.mk tk tks) lb, 1, 0)
   else if D = false then (K8 (K8 (Tm.mk ak anm anum (.mk atk atks) (.mk afk afks) alb aks) (.mk fk fks) (mGk tk) lb) (mGk tk) (.mk tk tks) lb, 1, 0)
   else if J = false then Q3
   else if afk = tk then (kd aks 0, 1, 0)
   else (K7, 2, lb)) := by
  rw [← hJ, ← hD]; rfl
 rw [hR]
 have hSm : J = true → D = true → M4 (.mk afk afks) (.mk tk tks) = decide (afk = tk) := fun h1 h2 => B2z (hji h1) (hD.trans h2)
 have hTS := A5k (.mk afk afks) (.mk tk tks) G _ _ hafr hty
 refine B4 Tryz.func192 rfl Tryz.ntmps192 Tryz.results192 rfl ?_
 intro w0
 refine tS (tR ?_)
 refine sE (C1 rfl rfl) rfl (fun b3 => ?_)
 refine sE (A5 rfl) rfl (fun b4 => ?_)
 refine D3 ?_
 refine sP (A8 (j := 0) rfl rfl rfl (by simp)) rfl rfl ?_
 refine sL (A0 rfl rfl (hat0 _) rfl) rfl rfl ?_
 refine sE (A5 rfl) rfl (fun b15 => ?_)
 refine J7 ?_
 refine sD (nS (tS ?_))
 refine B3 ?_
 refine tS (tR (sQ (B0 rfl) rfl (sL (B9 rfl rfl) rfl rfl ?_)))
 refine sP (I6 rfl rfl (by omega)) rfl rfl ?_
 refine T2 ?_
 refine sP (I6 rfl rfl (by omega)) rfl rfl ?_
 refine J2 ?_
 refine sP (I6 rfl rfl (by omega)) rfl rfl ?_
 refine A0k ?_
 refine sP (X9 rfl rfl (by omega)) rfl rfl ?_
 refine J9 ?_
 refine sB (qE rfl rfl) rfl rfl (fun h81 => ?_) (fun h81 => ?_)
 refine H3 ?_
 refine C8 (rC rfl (A3 rfl rfl)) (rT rfl) (rT rfl) ?_
 (exact Q7.mk (by rw [if_pos (by omega)]) hre0)
 refine D8 ?_
 refine sB (qE rfl rfl) rfl rfl (fun h108 => ?_) (fun h108 => ?_)
 refine D8 ?_
 (refine D2 rfl (A5q fk G hfk64) rfl rfl (fun u G1 hle1 hh => ?_); obtain ⟨gc, rfl, hrg⟩ := hh; obtain ⟨pg, cg, eg, rfl, _⟩ := hrg.open; have hgk : tk = 1 := (by omega); replace hre0 := hre0.mono hle1; replace hfr := hfr.mono hle1; replace hty := hty.mono hle1)
 refine sE (A5 rfl) rfl (fun b119 => ?_)
 refine J7 ?_
 refine sD (nS (tS ?_))
 refine D5 D6 rfl ?_
 refine L3 (i := 0) (l' := [tt,ff,ff,ff,ff,ff,ff,ff,ff,ff,ff,ff,ff,ff,ff,ff]) rfl D0 (A0 rfl rfl (A9 (by repeat first | exact mH | apply mT)) rfl) rfl (by kernel_rfl) rfl rfl ?_
 refine aL 3 rfl (A0 rfl rfl (A9 (by repeat first | exact mH | apply mT)) rfl) rfl ?_
 refine aL 7 rfl (A0 rfl rfl (A9 (by repeat first | exact mH | apply mT)) rfl) rfl ?_
 refine aP 1 rfl (B0 rfl) rfl ?_
 refine aL 2 rfl (A3 rfl rfl) rfl ?_
 refine aP 4 rfl (B0 rfl) rfl ?_
 refine aL 5 rfl (B9 rfl rfl) rfl ?_
 refine aP 8 rfl (B0 rfl) rfl ?_
 refine aL 9 rfl (A3 rfl rfl) rfl ?_
 refine aP 10 rfl (B0 rfl) rfl ?_
 refine aL 11 rfl (B9 rfl rfl) rfl ?_
 refine A2 6 ?_
 (refine E9 rfl rfl (A05 _ (.mk fk fks) _ lb G1 _ _ _ ⟨by omega, by omega⟩ hre0 hfr hrg) rfl rfl rfl (fun u G3 hle3 hh => ?_); obtain ⟨wc, rfl, hrw⟩ := hh; have hwl := hrw.len; have hwo := hrw.one; replace hrg := hrg.mono hle3; replace hty := hty.mono hle3)
 refine A2 12 ?_
 (refine E9 rfl rfl (A05 _ _ (.mk tk tks) lb G3 _ _ _ ⟨by omega, by omega⟩ hrw hrg hty) rfl rfl rfl (fun u G4 hle4 hh => ?_); obtain ⟨xc, rfl, hrx⟩ := hh; have hxl := hrx.len; have hxo := hrx.one)
 refine A2 13 ?_
 (refine oS rfl rfl rfl rfl hxl hxo rfl rfl ?_ (hu := by exact D4 hxl.symm))
 refine aP 14 rfl (qA rfl) rfl ?_
 refine aP 15 rfl (qA rfl) rfl ?_
 refine C5 (nS (tT (rB (rS ?_))))
 refine C8 (rC rfl (A0 rfl rfl (A9 (by repeat first | exact mH | apply mT)) hxl)) (rT rfl) (rT rfl) ?_
 (exact Q7.mk (by rw [if_neg (by omega), if_pos (by omega)]) hrx)
 refine D3 ?_
 focus (cases hDD : D; all_goals (rw [hDD] at hGr; refine I3 rfl hGr rfl rfl ?_))
 refine I8 ?_
 (refine D2 rfl (A5q tk G htk64) rfl rfl (fun u G1 hle1 hh => ?_); obtain ⟨gc, rfl, hrg⟩ := hh; obtain ⟨pg, cg, eg, rfl, _⟩ := hrg.open; replace hre0 := hre0.mono hle1; replace hfr := hfr.mono hle1; replace hty := hty.mono hle1)
 refine sE (A5 rfl) rfl (fun b171 => ?_)
 refine J7 ?_
 refine sD (nS (tS ?_))
 refine D5 D6 rfl ?_
 refine L3 (i := 0) (l' := [tt,ff,ff,ff,ff,ff,ff,ff,ff,ff,ff,ff,ff,ff,ff,ff]) rfl D0 (A0 rfl rfl (A9 (by repeat first | exact mH | apply mT)) rfl) rfl (by kernel_rfl) rfl rfl ?_
 refine aL 3 rfl (A0 rfl rfl (A9 (by repeat first | exact mH | apply mT)) rfl) rfl ?_
 refine aL 7 rfl (A0 rfl rfl (A9 (by repeat first | exact mH | apply mT)) rfl) rfl ?_
 refine aP 1 rfl (B0 rfl) rfl ?_
 refine aL 2 rfl (A3 rfl rfl) rfl ?_
 refine aP 4 rfl (B0 rfl) rfl ?_
 refine aL 5 rfl (B9 rfl rfl) rfl ?_
 refine aP 8 rfl (B0 rfl) rfl ?_
 refine aL 9 rfl (A3 rfl rfl) rfl ?_
 refine aP 10 rfl (B0 rfl) rfl ?_
 refine aL 11 rfl (B9 rfl rfl) rfl ?_
 refine A2 6 ?_
 (refine E9 rfl rfl (A05 _ (.mk fk fks) _ lb G1 _ _ _ ⟨by omega, by omega⟩ hre0 hfr hrg) rfl rfl rfl (fun u G3 hle3 hh => ?_); obtain ⟨wc, rfl, hrw⟩ := hh; have hwl := hrw.len; have hwo := hrw.one; replace hrg := hrg.mono hle3; replace hty := hty.mono hle3)
 refine A2 12 ?_
 (refine E9 rfl rfl (A05 _ _ (.mk tk tks) lb G3 _ _ _ ⟨by omega, by omega⟩ hrw hrg hty) rfl rfl rfl (fun u G4 hle4 hh => ?_); obtain ⟨xc, rfl, hrx⟩ := hh; have hxl := hrx.len; have hxo := hrx.one)
 refine A2 13 ?_
 (refine oS rfl rfl rfl rfl hxl hxo rfl rfl ?_ (hu := by exact D4 hxl.symm))
 refine aP 14 rfl (qA rfl) rfl ?_
 refine aP 15 rfl (qA rfl) rfl ?_
 refine C5 (nS (tT (rB (rS ?_))))
 refine C8 (rC rfl (A0 rfl rfl (A9 (by repeat first | exact mH | apply mT)) hxl)) (rT rfl) (rT rfl) ?_
 (exact Q7.mk (by rw [if_neg (by omega), if_neg (by omega), if_pos rfl]) hrx)
 refine D3 ?_
 focus (cases hJJ : J; all_goals (rw [hJJ] at hI; refine I3 rfl hI rfl rfl ?_))
 refine J1 ?_
 refine C8 (rC rfl (A3 rfl rfl)) (rT rfl) (rT rfl) ?_
 (exact Q7.mk (by rw [if_neg (by omega), if_neg (by omega), if_neg (by decide), if_pos rfl]; rfl) (M1 _))
 refine F8 ?_
 focus (rw [hSm hJJ hDD] at hTS; by_cases hfk : afk = tk; rw [decide_eq_true hfk] at hTS; rotate_left; rw [decide_eq_false hfk] at hTS; rotate_left; all_goals (refine I3 rfl hTS rfl rfl ?_))
 refine D3 ?_
 (have hq1 := h14 (hjk (by assumption)); obtain ⟨bq, oq, e3, rfl, hl3, hat3, hre3, hgb3⟩ := hasl.kidTm hakl (i := 0) (by omega) (by omega); have ho3 := hre3.one; refine sP (A8 (j := 0) rfl rfl rfl (by omega)) rfl rfl ?_)
 refine sL (A0 rfl rfl (hat3 _) hl3) rfl rfl ?_
 refine sS rfl rfl rfl hl3 ho3 rfl ?_ (hu := by exact D4 hl3.symm)
 refine C3 ?_
 refine C8 (rC rfl (A0 rfl rfl (A9 (by repeat first | exact mH | apply mT)) hl3)) (rT rfl) (rT rfl) ?_
 (exact Q7.mk (by rw [if_neg (by omega), if_neg (by omega), if_neg (by decide), if_neg (by decide), if_pos hfk, A0f (by omega)]) hre3)
 refine D3 ?_
 refine D5 D6 rfl ?_
 refine J6 (i := 0) (l' := [tt,ff,ff,ff,ff,ff]) rfl D0 (U1 rfl rfl) rfl (by kernel_rfl) rfl rfl ?_
 refine aP 1 rfl (B0 rfl) rfl ?_
 refine aL 2 rfl (B9 rfl rfl) rfl ?_
 refine A2 3 ?_
 refine H0 rfl ?_
 refine aP 4 rfl (qA rfl) rfl ?_
 refine aP 5 rfl (qA rfl) rfl ?_
 refine C5 (nS (tT ?_))
 refine C8 (rC rfl (A3 rfl rfl)) (rT rfl) (rT rfl) ?_
 (exact Q7.mk (by rw [if_neg (by omega), if_neg (by omega), if_neg (by decide), if_neg (by decide), if_neg hfk]) (M1 _))
theorem A8l (k : Int) (a b : Tm) (nm : ByteArray) (num : Int) (ty fr : Ty) (lb : Int) (G : IM) (cells : List Value) (hk1 : k = 7 ∨ k = 8) (hca : cv a) (hr : A6 G (.mk k nm num ty fr lb [a, b]) cells) : Fn Tryz.prog 192 [.agg ⟨cells⟩] [] G (Q7 (X6 k ty fr lb [a, b])) := by
 have hR : X6 k ty fr lb [a, b] = Q3 := by unfold X6; rw [if_neg (by omega), if_neg (by omega), if_neg (by omega)]
 rw [hR]
 obtain ⟨ak, anm, anum, ⟨atk, atks⟩, ⟨afk, afks⟩, alb, aks⟩ := a
 obtain ⟨hN, hkk⟩ := hca.node
 have hops := hN.ops
 have hbl := hN.lbB
 have htyA := hN.tyA
 have hfrA := hN.frA
 rw [E6] at htyA hfrA
 have h14 : ak = 14 → aks.length = 1 := fun h => by rw [h] at hops; have : D9 14 = 1 := rfl; omega
 obtain ⟨tk, tks⟩ := ty
 obtain ⟨fk, fks⟩ := fr
 obtain ⟨pt, ct, pf, cf, p, c, es, rfl, hk, hnum, hlb, hty, hfr, hsl, hkl⟩ := hr.open9
 obtain ⟨bx, ox, e0, rfl, hl0, hat0, hre0, hgb0⟩ := hsl.kidTm hkl (i := 0) (by simp) (by simp)
 replace hre0 : A6 G (Tm.mk ak anm anum (.mk atk atks) (.mk afk afks) alb aks) e0 := hre0
 have hP : Fn Tryz.prog 170 [.agg ⟨e0⟩] [] G (E4 (.bool (decide (ak = 14 ∧ afk = atk ∧ (atk = 4 ∨ atk = 5)))) G) := A2O _ G _ hre0
 have hI := A3r _ G _ hre0
 have ho0 := hre0.one
 obtain ⟨apt, act, apf, acf, ap, ac, aes, rfl, hak, hanum, halb, haty, hafr, hasl, hakl⟩ := hre0.open9
 have hfk64 : H1 fk := by obtain ⟨_, _, _, _, h, _⟩ := hfr.open; exact h
 have htk64 : H1 tk := by obtain ⟨_, _, _, _, h, _⟩ := hty.open; exact h
 obtain ⟨tes, htS, htL⟩ := haty.kids
 obtain ⟨fes, hfS, hfL⟩ := hafr.kids
 simp only [Ty.ks] at htS htL hfS hfL
 refine B4 Tryz.func192 rfl Tryz.ntmps192 Tryz.results192 rfl ?_
 intro w0
 refine tS (tR ?_)
 refine sE (C1 rfl rfl) rfl (fun b3 => ?_)
 refine sE (A5 rfl) rfl (fun b4 => ?_)
 refine D3 ?_
 refine sP (A8 (j := 0) rfl rfl rfl (by simp)) rfl rfl ?_
 refine sL (A0 rfl rfl (hat0 _) rfl) rfl rfl ?_
 refine sE (A5 rfl) rfl (fun b15 => ?_)
 refine J7 ?_
 refine sD (nS (tS ?_))
 refine B3 ?_
 refine tS (tR (sQ (B0 rfl) rfl (sL (B9 rfl rfl) rfl rfl ?_)))
 refine sP (I6 rfl rfl (by omega)) rfl rfl ?_
 refine T2 ?_
 refine sP (I6 rfl rfl (by omega)) rfl rfl ?_
 refine J2 ?_
 refine sP (I6 rfl rfl (by omega)) rfl rfl ?_
 refine A0k ?_
 refine sP (A0i rfl rfl (by omega)) rfl rfl ?_
 refine H3 ?_
 refine C8 (rC rfl (A3 rfl rfl)) (rT rfl) (rT rfl) ?_
 (exact Q7.mk rfl (M1 _))
theorem B2B (a b c0 : Tm) (nm : ByteArray) (num : Int) (ty fr : Ty) (lb : Int) (G : IM) (cells : List Value) (hca : cv a) (hr : A6 G (.mk 9 nm num ty fr lb [a, b, c0]) cells) : Fn Tryz.prog 192 [.agg ⟨cells⟩] [] G (Q7 (X6 9 ty fr lb [a, b, c0])) := by
 have hR : X6 9 ty fr lb [a, b, c0] = Q3 := by unfold X6; rw [if_neg (by omega), if_neg (by omega), if_neg (by omega)]
 rw [hR]
 obtain ⟨ak, anm, anum, ⟨atk, atks⟩, ⟨afk, afks⟩, alb, aks⟩ := a
 obtain ⟨hN, hkk⟩ := hca.node
 have hops := hN.ops
 have hbl := hN.lbB
 have htyA := hN.tyA
 have hfrA := hN.frA
 rw [E6] at htyA hfrA
 have h14 : ak = 14 → aks.length = 1 := fun h => by rw [h] at hops; have : D9 14 = 1 := rfl; omega
 obtain ⟨tk, tks⟩ := ty
 obtain ⟨fk, fks⟩ := fr
 obtain ⟨pt, ct, pf, cf, p, c, es, rfl, hk, hnum, hlb, hty, hfr, hsl, hkl⟩ := hr.open9
 obtain ⟨bx, ox, e0, rfl, hl0, hat0, hre0, hgb0⟩ := hsl.kidTm hkl (i := 0) (by simp) (by simp)
 replace hre0 : A6 G (Tm.mk ak anm anum (.mk atk atks) (.mk afk afks) alb aks) e0 := hre0
 have hP : Fn Tryz.prog 170 [.agg ⟨e0⟩] [] G (E4 (.bool (decide (ak = 14 ∧ afk = atk ∧ (atk = 4 ∨ atk = 5)))) G) := A2O _ G _ hre0
 have hI := A3r _ G _ hre0
 have ho0 := hre0.one
 obtain ⟨apt, act, apf, acf, ap, ac, aes, rfl, hak, hanum, halb, haty, hafr, hasl, hakl⟩ := hre0.open9
 have hfk64 : H1 fk := by obtain ⟨_, _, _, _, h, _⟩ := hfr.open; exact h
 have htk64 : H1 tk := by obtain ⟨_, _, _, _, h, _⟩ := hty.open; exact h
 obtain ⟨tes, htS, htL⟩ := haty.kids
 obtain ⟨fes, hfS, hfL⟩ := hafr.kids
 simp only [Ty.ks] at htS htL hfS hfL
 refine B4 Tryz.func192 rfl Tryz.ntmps192 Tryz.results192 rfl ?_
 intro w0
 refine tS (tR ?_)
 refine sE (C1 rfl rfl) rfl (fun b3 => ?_)
 refine sE (A5 rfl) rfl (fun b4 => ?_)
 refine D3 ?_
 refine sP (A8 (j := 0) rfl rfl rfl (by simp)) rfl rfl ?_
 refine sL (A0 rfl rfl (hat0 _) rfl) rfl rfl ?_
 refine sE (A5 rfl) rfl (fun b15 => ?_)
 refine J7 ?_
 refine sD (nS (tS ?_))
 refine B3 ?_
 refine tS (tR (sQ (B0 rfl) rfl (sL (B9 rfl rfl) rfl rfl ?_)))
 refine sP (I6 rfl rfl (by omega)) rfl rfl ?_
 refine T2 ?_
 refine sP (I6 rfl rfl (by omega)) rfl rfl ?_
 refine J2 ?_
 refine sP (I6 rfl rfl (by omega)) rfl rfl ?_
 refine A0k ?_
 refine sP (A0i rfl rfl (by omega)) rfl rfl ?_
 refine H3 ?_
 refine C8 (rC rfl (A3 rfl rfl)) (rT rfl) (rT rfl) ?_
 (exact Q7.mk rfl (M1 _))
theorem B2C (nm : ByteArray) (num : Int) (ty fr : Ty) (lb : Int) (G : IM) (cells : List Value) (hr : A6 G (.mk 1 nm num ty fr lb []) cells) : Fn Tryz.prog 177 [.agg ⟨cells⟩] [] G (Q6 (W3 1 [])) := by
 rw [show W3 1 [] = none from rfl]
 obtain ⟨tk, tks⟩ := ty
 obtain ⟨fk, fks⟩ := fr
 obtain ⟨pt, ct, pf, cf, p, c, es, rfl, hk, hnum, hlb, hty, hfr, hsl, hkl⟩ := hr.open9
 have hL : ([] : List Tm).length = 0 := rfl
 refine B4 Tryz.func177 rfl Tryz.ntmps177 Tryz.results177 rfl ?_
 intro w0
 refine tS (tR ?_)
 refine sE (C1 rfl rfl) rfl (fun b3 => ?_)
 refine sE (A5 rfl) rfl (fun b4 => ?_)
 refine E2 ?_
 refine sE (A5 rfl) rfl (fun b11 => ?_)
 refine D8 ?_
 refine sP (A90 rfl rfl (by omega)) rfl rfl ?_
 refine J9 ?_
 refine B3 ?_
 refine tS (tR ?_)
 refine sP (I6 rfl rfl (by omega)) rfl rfl ?_
 refine sQ (qA rfl) rfl (sD (nS (cF rfl (tS (tS (tR ?_))))))
 refine sP (I6 rfl rfl (by omega)) rfl rfl ?_
 refine sQ (qA rfl) rfl (sD (nS (cF rfl (tR ?_))))
 refine sP (I6 rfl rfl (by omega)) rfl rfl ?_
 refine sQ (qA rfl) rfl (sD (nS (cF rfl (tS (tR ?_)))))
 refine sP (I6 rfl rfl (by omega)) rfl rfl ?_
 refine sQ (qA rfl) rfl (sD (nS (cF rfl (tS (tS (tR ?_))))))
 refine sP (I6 rfl rfl (by omega)) rfl rfl ?_
 refine sQ (qA rfl) rfl (sD (nS (cF rfl (tR ?_))))
 refine sP (I6 rfl rfl (by omega)) rfl rfl ?_
 refine H3 ?_
 refine E5 (rC rfl (A3 rfl rfl)) (rT rfl) ?_
 (exact Q6.no rfl (M1 _))
theorem B2D (a : Tm) (nm : ByteArray) (num : Int) (ty fr : Ty) (lb : Int) (G : IM) (cells : List Value) (hr : A6 G (.mk 14 nm num ty fr lb [a]) cells) : Fn Tryz.prog 177 [.agg ⟨cells⟩] [] G (Q6 (W3 14 [a])) := by
 rw [show W3 14 [a] = none from rfl]
 obtain ⟨tk, tks⟩ := ty
 obtain ⟨fk, fks⟩ := fr
 obtain ⟨pt, ct, pf, cf, p, c, es, rfl, hk, hnum, hlb, hty, hfr, hsl, hkl⟩ := hr.open9
 obtain ⟨bx, ox, e0, rfl, hl0, hat0, hre0, hgb0⟩ := hsl.kidTm hkl (i := 0) (by simp) (by simp)
 have ho0 : e0.all (·.oneCell') = true := (show A6 G a e0 from hre0).one
 refine B4 Tryz.func177 rfl Tryz.ntmps177 Tryz.results177 rfl ?_
 intro w0
 refine tS (tR ?_)
 refine sE (C1 rfl rfl) rfl (fun b3 => ?_)
 refine sE (A5 rfl) rfl (fun b4 => ?_)
 refine E2 ?_
 refine sE (A5 rfl) rfl (fun b11 => ?_)
 refine D8 ?_
 refine sB (A0W rfl rfl) rfl rfl (fun h21 => ?_) (fun h21 => ?_)
 refine E2 ?_
 refine sP (A8 (j := 0) rfl rfl rfl (by simp)) rfl rfl ?_
 refine sL (A0 rfl rfl (hat0 _) hl0) rfl rfl ?_
 refine sS rfl rfl rfl hl0 ho0 rfl ?_ (hu := by exact D4 hl0.symm)
 refine D8 ?_
 refine B3 ?_
 refine tS (tR ?_)
 refine sP (I6 rfl rfl (by omega)) rfl rfl ?_
 refine sQ (qA rfl) rfl (sD (nS (cF rfl (tS (tS (tR ?_))))))
 refine sP (I6 rfl rfl (by omega)) rfl rfl ?_
 refine sQ (qA rfl) rfl (sD (nS (cF rfl (tR ?_))))
 refine sP (I6 rfl rfl (by omega)) rfl rfl ?_
 refine sQ (qA rfl) rfl (sD (nS (cF rfl (tS (tR ?_)))))
 refine sP (I6 rfl rfl (by omega)) rfl rfl ?_
 refine sQ (qA rfl) rfl (sD (nS (cF rfl (tS (tS (tR ?_))))))
 refine sP (I6 rfl rfl (by omega)) rfl rfl ?_
 refine sQ (qA rfl) rfl (sD (nS (cF rfl (tR ?_))))
 refine sP (I6 rfl rfl (by omega)) rfl rfl ?_
 refine H3 ?_
 refine E5 (rC rfl (A3 rfl rfl)) (rT rfl) ?_
 (exact Q6.no rfl (M1 _))
 refine J9 ?_
 refine B3 ?_
 refine tS (tR ?_)
 refine sP (I6 rfl rfl (by omega)) rfl rfl ?_
 refine sQ (qA rfl) rfl (sD (nS (cF rfl (tS (tS (tR ?_))))))
 refine sP (I6 rfl rfl (by omega)) rfl rfl ?_
 refine sQ (qA rfl) rfl (sD (nS (cF rfl (tR ?_))))
 refine sP (I6 rfl rfl (by omega)) rfl rfl ?_
 refine sQ (qA rfl) rfl (sD (nS (cF rfl (tS (tR ?_)))))
 refine sP (I6 rfl rfl (by omega)) rfl rfl ?_
 refine sQ (qA rfl) rfl (sD (nS (cF rfl (tS (tS (tR ?_))))))
 refine sP (I6 rfl rfl (by omega)) rfl rfl ?_
 refine sQ (qA rfl) rfl (sD (nS (cF rfl (tR ?_))))
 refine sP (I6 rfl rfl (by omega)) rfl rfl ?_
 refine H3 ?_
 refine E5 (rC rfl (A3 rfl rfl)) (rT rfl) ?_
 (exact Q6.no rfl (M1 _))
theorem ks1 {ks : List Tm} (h : ks.length = 1) : ∃ a, ks = [a] := by
 match ks, h with
 | [a], _ => exact ⟨a, rfl⟩
theorem ks2 {ks : List Tm} (h : ks.length = 2) : ∃ a b, ks = [a, b] := by
 match ks, h with
 | [a, b], _ => exact ⟨a, b, rfl⟩
theorem ks3 {ks : List Tm} (h : ks.length = 3) : ∃ a b c, ks = [a, b, c] := by
 match ks, h with
 | [a, b, c], _ => exact ⟨a, b, c, rfl⟩
theorem B2E {k : Int} {nm : ByteArray} {num : Int} {ty fr : Ty} {lb : Int} {ks : List Tm} {G : IM} {cells : List Value} (hc : cv (.mk k nm num ty fr lb ks)) (hk : k = 1 ∨ k = 6 ∨ k = 7 ∨ k = 8 ∨ k = 9 ∨ k = 11 ∨ k = 12 ∨ k = 14) (hr : A6 G (.mk k nm num ty fr lb ks) cells) :
  Fn Tryz.prog 177 [.agg ⟨cells⟩] [] G (Q6 (W3 k ks)) := by
 obtain ⟨hN, hkk⟩ := hc.node
 have hops := hN.ops
 rcases hk with rfl | rfl | rfl | rfl | rfl | rfl | rfl | rfl
 ·obtain rfl : ks = [] := List.length_eq_zero_iff.1 (by have : D9 1 = 0 := rfl; omega)
  exact B2C _ _ _ _ _ _ _ hr
 ·obtain ⟨a, b, rfl⟩ := ks2 (ks := ks) (by have : D9 6 = 2 := rfl; omega)
  exact B2v a b _ _ _ _ _ _ _ (hkk a (by simp)) hr
 ·obtain ⟨a, b, rfl⟩ := ks2 (ks := ks) (by have : D9 7 = 2 := rfl; omega)
  exact A8g 7 a b _ _ _ _ _ _ _ (.inl rfl) (hkk a (by simp)) (hkk b (by simp)) hr
 ·obtain ⟨a, b, rfl⟩ := ks2 (ks := ks) (by have : D9 8 = 2 := rfl; omega)
  exact A8g 8 a b _ _ _ _ _ _ _ (.inr rfl) (hkk a (by simp)) (hkk b (by simp)) hr
 ·obtain ⟨a, b, c, rfl⟩ := ks3 (ks := ks) (by have : D9 9 = 3 := rfl; omega)
  exact B2w a b c _ _ _ _ _ _ _ hr
 ·obtain ⟨a, rfl⟩ := ks1 (ks := ks) (by have : D9 11 = 1 := rfl; omega)
  exact A8h 11 a _ _ _ _ _ _ _ (.inl rfl) (hkk a (by simp)) hr
 ·obtain ⟨a, rfl⟩ := ks1 (ks := ks) (by have : D9 12 = 1 := rfl; omega)
  exact A8h 12 a _ _ _ _ _ _ _ (.inr rfl) (hkk a (by simp)) hr
 ·obtain ⟨a, rfl⟩ := ks1 (ks := ks) (by have : D9 14 = 1 := rfl; omega)
  exact B2D a _ _ _ _ _ _ _ hr
theorem B2F {k : Int} {nm : ByteArray} {num : Int} {ty fr : Ty} {lb : Int} {ks : List Tm} {G : IM} {cells : List Value} (hc : cv (.mk k nm num ty fr lb ks)) (hk : k = 6 ∨ k = 7 ∨ k = 8 ∨ k = 9 ∨ k = 11 ∨ k = 12 ∨ k = 14) (hr : A6 G (.mk k nm num ty fr lb ks) cells) :
  Fn Tryz.prog 192 [.agg ⟨cells⟩] [] G (Q7 (X6 k ty fr lb ks)) := by
 obtain ⟨hN, hkk⟩ := hc.node
 have hops := hN.ops
 rcases hk with rfl | rfl | rfl | rfl | rfl | rfl | rfl
 ·obtain ⟨a, b, rfl⟩ := ks2 (ks := ks) (by have : D9 6 = 2 := rfl; omega)
  exact B2y a b _ _ _ _ _ _ _ (hkk a (by simp)) hr
 ·obtain ⟨a, b, rfl⟩ := ks2 (ks := ks) (by have : D9 7 = 2 := rfl; omega)
  exact A8l 7 a b _ _ _ _ _ _ _ (.inl rfl) (hkk a (by simp)) hr
 ·obtain ⟨a, b, rfl⟩ := ks2 (ks := ks) (by have : D9 8 = 2 := rfl; omega)
  exact A8l 8 a b _ _ _ _ _ _ _ (.inr rfl) (hkk a (by simp)) hr
 ·obtain ⟨a, b, c, rfl⟩ := ks3 (ks := ks) (by have : D9 9 = 3 := rfl; omega)
  exact B2B a b c _ _ _ _ _ _ _ (hkk a (by simp)) hr
 ·obtain ⟨a, rfl⟩ := ks1 (ks := ks) (by have : D9 11 = 1 := rfl; omega)
  exact A8j 11 a _ _ _ _ _ _ _ (.inl rfl) (hkk a (by simp)) hr
 ·obtain ⟨a, rfl⟩ := ks1 (ks := ks) (by have : D9 12 = 1 := rfl; omega)
  exact A8j 12 a _ _ _ _ _ _ _ (.inr rfl) (hkk a (by simp)) hr
 ·obtain ⟨a, rfl⟩ := ks1 (ks := ks) (by have : D9 14 = 1 := rfl; omega)
  exact B2A a _ _ _ _ _ _ _ (hkk a (by simp)) hN.lbB hr
theorem A5s (n : Nat) (t : Tm) (ts : List Tm) : A0E (n + 1) (t :: ts) = if K0 t = true then (match A0E n ts with | some (us, c, l) => some (t :: us, c, l) | none => none) else some ((J3 t).1 :: ts, (J3 t).2.1, (J3 t).2.2) := by
 rw [A0E]; rfl
theorem A5t : ∀ (n : Nat) (ks : List Tm), (∀ i, i < n → (h : i < ks.length) → K0 ks[i] = true) → A0E n ks = none
 | n, [], _ => by cases n <;> rfl
 | 0, t :: ts, _ => rfl
 | n + 1, t :: ts, h => by
  rw [A5s, if_pos (show K0 t = true from h 0 (by omega) (by simp)), A5t n ts (fun i hi hl => h (i + 1) (by omega) (by simpa using hl))]
theorem A5u : ∀ (n : Nat) (ks : List Tm) (i : Nat) (hi : i < ks.length), i < n → (∀ j, j < i → (h : j < ks.length) → K0 ks[j] = true) → K0 ks[i] = false → A0E n ks = some (ks.set i (J3 ks[i]).1, (J3 ks[i]).2.1, (J3 ks[i]).2.2)
 | n, [], i, hi, _, _, _ => by simp at hi
 | 0, t :: ts, i, _, hn, _, _ => by omega
 | n + 1, t :: ts, 0, _, _, _, hv => by
  rw [A5s, if_neg (by rw [show K0 t = false from hv]; decide)]; rfl
 | n + 1, t :: ts, i + 1, hi, hn, hj, hv => by
  rw [A5s, if_pos (show K0 t = true from hj 0 (by omega) (by simp)), A5u n ts i (by simpa using hi) (by omega) (fun j hji hl => hj (j + 1) (by omega) (by simpa using hl)) hv]
  rfl
theorem B2G {k : Int} {ty fr : Ty} {lb : Int} {ks : List Tm} (h : (O7 k ty fr lb ks).2.1 = 1) : (O7 k ty fr lb ks).2.2 = 0 := by
 revert h
 unfold O7 Q3
 repeat' split
 all_goals first | (intro _; rfl) | (intro h; exfalso; revert h; simp)
theorem B2H {k : Int} {nm : ByteArray} {num : Int} {ty fr : Ty} {lb : Int} {ks : List Tm} (h : (J3 (.mk k nm num ty fr lb ks)).2.1 = 1) : (J3 (.mk k nm num ty fr lb ks)).2.2 = 0 := by
 rw [J3] at h ⊢
 cases hL : A0E (if k = 9 then 1 else ks.length) ks with
 | none => rw [hL] at h; exact B2G h
 | some p =>
  obtain ⟨us, c, l⟩ := p
  rw [hL] at h
  simp only at h ⊢
  by_cases hc : c = 1
  ·rw [if_pos hc]
  ·rw [if_neg hc] at h; exact absurd h hc
theorem B2I {t : Tm} (h : (J3 t).2.1 = 1) : (J3 t).2.2 = 0 := by cases t; exact B2H h
theorem B2J {k : Int} {nm : ByteArray} {num : Int} {ty fr : Ty} {lb : Int} {ks : List Tm} {i : Nat} (hi : i < ks.length) (hn : i < (if k = 9 then 1 else ks.length)) (hj : ∀ j, j < i → (h : j < ks.length) → K0 ks[j] = true) (hv : K0 ks[i] = false) :
  (J3 (.mk k nm num ty fr lb ks)).2.1 = (J3 ks[i]).2.1 ∧ (J3 (.mk k nm num ty fr lb ks)).2.2 = (J3 ks[i]).2.2 ∧ ((J3 ks[i]).2.1 = 1 → (J3 (.mk k nm num ty fr lb ks)).1 = .mk k nm num ty fr lb (ks.set i (J3 ks[i]).1)) := by
 rw [J3, A5u _ ks i hi hn hj hv]
 simp only
 by_cases hc : (J3 ks[i]).2.1 = 1
 ·rw [if_pos hc]
  exact ⟨hc.symm, (B2I hc).symm, fun _ => rfl⟩
 ·rw [if_neg hc]
  exact ⟨rfl, rfl, fun h => absurd h hc⟩
theorem B2K {k : Int} {nm : ByteArray} {num : Int} {ty fr : Ty} {lb : Int} {ks : List Tm} (h : ∀ i, i < (if k = 9 then 1 else ks.length) → (hl : i < ks.length) → K0 ks[i] = true) : J3 (.mk k nm num ty fr lb ks) = match W3 k ks with | some u => (u, 1, 0) | none => X6 k ty fr lb ks := by
 rw [J3, A5t _ _ h]
 exact B2x k ty fr lb ks
theorem A3s {k : Int} (h : 0 ≤ D9 k) : 1 ≤ k ∧ k ≤ 14 := by
 by_cases hk : 1 ≤ k ∧ k ≤ 14
 ·exact hk
 ·rw [A4M hk] at h; omega
theorem A8m {k : Int} {nm : ByteArray} {num : Int} {ty fr : Ty} {lb : Int} {ks : List Tm} (hc : cv (.mk k nm num ty fr lb ks)) (hv : K0 (.mk k nm num ty fr lb ks) = false) (h : ∀ i, i < (if k = 9 then 1 else ks.length) → (hl : i < ks.length) → K0 ks[i] = true) : k = 1 ∨ k = 6 ∨ k = 7 ∨ k = 8 ∨ k = 9 ∨ k = 11 ∨ k = 12 ∨ k = 14 := by
 obtain ⟨hN, _⟩ := hc.node
 have hr := A3s (by rw [hN.ops]; omega : 0 ≤ D9 k)
 have h13 := hN.ne
 have h25 : ¬(k = 2 ∨ k = 3 ∨ k = 4 ∨ k = 5) := by
  intro hk
  rw [K0, if_neg (by omega)] at hv
  rw [decide_eq_true hk] at hv
  cases hv
 have h10 : k ≠ 10 := by
  rintro rfl
  rw [A4f (.inl rfl), List.all_eq_false] at hv
  obtain ⟨t, ht, hn⟩ := hv
  obtain ⟨i, hi, rfl⟩ := List.mem_iff_getElem.1 ht
  exact hn (h i (by rw [if_neg (by decide)]; exact hi) hi)
 omega
theorem B2L (t : Tm) (G : IM) (cells : List Value) (hr : A6 G t cells) : Fn Tryz.prog 175 [.agg ⟨cells⟩] [] G (E4 (.int .i64 ((if t.k = 9 then 1 else t.ks.length : Nat) : Int)) G) := by
 obtain ⟨k, nm, num, ⟨tk, tks⟩, ⟨fk, fks⟩, lb, ks⟩ := t
 obtain ⟨pt, ct, pf, cf, p, c, es, rfl, hk, hnum, hlb, hty, hfr, hsl, hkl⟩ := hr.open9
 rw [show (Tm.mk k nm num (.mk tk tks) (.mk fk fks) lb ks).k = k from rfl, show (Tm.mk k nm num (.mk tk tks) (.mk fk fks) lb ks).ks = ks from rfl]
 refine B4 Tryz.func175 rfl Tryz.ntmps175 Tryz.results175 rfl ?_
 intro w0
 refine tS (tR ?_)
 refine sE (C1 rfl rfl) rfl (fun b3 => ?_)
 refine D3 ?_
 refine sB (qE rfl rfl) rfl rfl (fun h12 => ?_) (fun h12 => ?_)
 refine F8 ?_
 (exact ⟨rfl, by rw [if_pos (by omega)]; rfl, rfl⟩)
 refine H3 ?_
 (exact ⟨rfl, by rw [if_neg (by omega)], rfl⟩)
theorem B2M {k : Int} (h8 : k = 1 ∨ k = 6 ∨ k = 7 ∨ k = 8 ∨ k = 9 ∨ k = 11 ∨ k = 12 ∨ k = 14) (h : D9 k = 0) : k = 1 := by
 rcases h8 with rfl | rfl | rfl | rfl | rfl | rfl | rfl | rfl
 ·rfl
 all_goals exact absurd h (by decide)
theorem A8n {G : IM} {r r' : Stp} {u : Tm} {cells : List Value} {c l : Int} (h1 : r.2.1 = c) (h2 : r.2.2 = l) (hr : A6 G u cells) (h3 : c = 1 → u = r.1) : Q7 r G (.tuple ⟨[.agg ⟨cells⟩, .int .i64 c, .int .i64 l]⟩) [] := by
 subst h1 h2; exact ⟨rfl, u, cells, rfl, hr, h3⟩
theorem B2N : ∀ (t : Tm) (G : IM) (cells : List Value), cv t → K0 t = false → A6 G t cells → Fn Tryz.prog 139 [.agg ⟨cells⟩] [] G (Q7 (J3 t)) := by
 refine Tm.ind fun k nm num ty fr lb ks ih G cells hc hv hr => ?_
 have hr0 := hr
 have hN := hc.node.1
 have hkk := hc.node.2
 have hsm := A2c _ hc
 obtain ⟨_, _, _, _, hksm⟩ := A0e.1 hsm
 have hops := hN.ops
 have hle3 := A1G k
 have hkd := @A8m k nm num ty fr lb ks hc hv
 have hrd := @B2K k nm num ty fr lb ks
 have hkidS := fun (i : Nat) => @B2J k nm num ty fr lb ks i
 have hRA := fun h => @B2E k nm num ty fr lb ks G cells hc h hr
 have hCA := fun h (G1 : IM) (hle : B7 G G1) => @B2F k nm num ty fr lb ks G1 cells hc h (hr.mono hle)
 have hCt := B2L _ G _ hr
 rw [show (Tm.mk k nm num ty fr lb ks).k = k from rfl, show (Tm.mk k nm num ty fr lb ks).ks = ks from rfl] at hCt
 obtain ⟨C, hC⟩ : ∃ C : Nat, (if k = 9 then 1 else ks.length : Nat) = C := ⟨_, rfl⟩
 rw [hC] at hCt hkd hrd
 have hkidS' := fun (i : Nat) (hi : i < ks.length) (hn : i < C) => hkidS i hi (by rw [hC]; exact hn)
 have hC9 : C ≤ ks.length := by rw [← hC]; split; (have : D9 k = 3 := by (rename_i h9; rw [h9]; rfl)); omega; omega
 have hrul := hkd
 obtain ⟨tk, tks⟩ := ty
 obtain ⟨fk, fks⟩ := fr
 obtain ⟨pt, ct, pf, cf, p, c, es, rfl, hk, hnum, hlb, hty, hfr, hsl, hkl⟩ := hr.open9
 have hn := hsl.le
 have hnc := hsl.sl.2.1
 refine B4 Tryz.func139 rfl Tryz.ntmps139 Tryz.results139 rfl ?_
 intro w0
 refine tS (tR ?_)
 refine sE (C1 rfl rfl) rfl (fun b3 => ?_)
 refine sE (A5 rfl) rfl (fun b4 => ?_)
 refine sQ (qA rfl) rfl (sQ (qA rfl) rfl (sD (nS (tS (tS ?_)))))
 refine D5 D6 rfl ?_
 refine J6 (i := 0) (l' := [tt,ff,ff,ff,ff,ff,ff]) rfl D0 (B0 rfl) rfl (by kernel_rfl) rfl rfl ?_
 refine aL 1 rfl (B9 rfl rfl) rfl ?_
 refine aL 2 rfl (A3 rfl rfl) rfl ?_
 refine aP 6 rfl (qM rfl) rfl ?_
 refine A2 3 ?_
 refine M6 rfl rfl (hCt) rfl rfl rfl ?_
 refine aP 4 rfl (B1K (l := C) rfl rfl rfl (by omega)) rfl ?_
 refine aP 5 rfl (pLn rfl rfl) rfl ?_
 refine C5 (nS ?_)
 refine B3 ?_
 (refine I1 (fun (i : Nat) => ⟨[(19, .int .i64 (i : Int)), (18, .int .i64 (C : Int)), (17, .slice p C c), (1, .pointer (some ⟨b3, 0, none⟩)), (2, .pointer (some ⟨b4, 0, none⟩))], [.blk b4 [.int .i64 0, .string ⟨⟨[]⟩⟩, .int .i64 0, .int .i64 0, .slice none 0 0, .int .i64 0, .slice none 0 0, .int .i64 0, .slice none 0 0], .blk b3 [.int .i64 k, .string nm, .int .i64 num, .int .i64 tk, .slice pt tks.length ct, .int .i64 fk, .slice pf fks.length cf, .int .i64 lb, .slice p ks.length c]], G⟩) (fun i => i ≤ C ∧ ∀ j, j < i → (h : j < ks.length) → K0 ks[j] = true) (fun i => C - i) 0 ?_ ?_ ?_)
 exact C9
 (exact ⟨Nat.zero_le _, fun j hj => absurd hj (Nat.not_lt_zero j)⟩)
 (rintro i ⟨hi, hj⟩)
 refine tS (tR ?_)
 refine sB (I2 rfl rfl) rfl rfl (fun h29 => ?_) (fun h29 => ?_)
 refine sD (nS (tS (qT rfl (tK (nS (tS ?_))))))
 refine B3 ?_
 refine tS (tR (sQ (qM rfl) rfl ?_))
 (have hiC : i < C := (by omega); obtain ⟨bx, ox, e, rfl, hl, hat, hre, hgb⟩ := hsl.kidTm hkl (i := i) (by omega) (by omega); have heo := hre.one; have hVi := A8d ks[i] G e hre; refine sP (A8 (j := i) rfl rfl rfl hiC) rfl rfl ?_)
 refine sL (A0 rfl rfl (hat _) hl) rfl rfl ?_
 refine sE (A5 rfl) rfl (fun b43 => ?_)
 refine sQ (qA rfl) rfl ?_
 refine sS rfl rfl rfl hl heo rfl ?_ (hu := by exact D4 hl.symm)
 refine sD (nS (tS (tS (tR ?_))))
 refine sL (A0 rfl rfl (A9 (by repeat first | exact mH | apply mT)) hl) rfl rfl ?_
 refine F0 rfl (hVi) rfl rfl (fun h52 => ?_) (fun h52 => ?_)
 refine D3 ?_
 refine sP (E8 rfl rfl (by omega) (by omega)) rfl rfl ?_
 refine sQ (qM rfl) rfl (sD ?_)
 refine I4 (i + 1) ?_ ?_ ?_
 exact C9
 (exact ⟨by omega, fun j hji hl2 => (by by_cases he : j = i; (subst he; assumption); exact hj j (by omega) hl2)⟩)
 (show C - (i + 1) < C - i; omega)
 refine sD (nS (cF rfl (tK (nS (tS (tR ?_))))))
 refine sL (A0 rfl rfl (A9 (by repeat first | exact mH | apply mT)) hl) rfl rfl ?_
 (have hvF : K0 ks[i] = false := (by assumption); obtain ⟨hs1, hs2, hs3⟩ := hkidS' i (by omega) hiC (fun j hji hl2 => hj j hji hl2) hvF; refine D2 rfl (ih ks[i] (List.getElem_mem (by omega)) G e (hkk _ (List.getElem_mem (by omega))) hvF hre) rfl rfl (fun v G1 hle1 hh => ?_); obtain ⟨u, uc, rfl, hru, hu1⟩ := hh; have hul := hru.len; have huo := hru.one; have hClo := B19 G1 _ ks.length c es (hsl.mono hle1) (by omega) (by omega))
 refine H8 ?_
 refine sE (A5 rfl) rfl (fun b81 => ?_)
 refine sS rfl rfl rfl hul huo rfl ?_ (hu := by exact D4 hul.symm)
 refine C3 ?_
 refine sE (A5 rfl) rfl (fun b90 => ?_)
 refine C3 ?_
 (refine Y0 rfl hClo rfl rfl (fun v98 G98 outs98 hle98 h98 => ?_); obtain ⟨hG, p1, c1, rfl, rfl⟩ := h98; replace hG := hG.symm; subst hG; refine A3j (cs := es.flatten) (by repeat (first | exact Pk.here | apply Pk.there)) (by omega) (fun bc Cc hpe hnc1 hcm => ?_); subst hpe)
 replace hru := hru.mono hle98
 refine D8 ?_
 refine sL (A0 rfl rfl (A9 (by repeat first | exact mH | apply mT)) hul) rfl rfl ?_
 refine sP (A8 (j := i) rfl rfl rfl (by omega)) rfl rfl ?_
 refine S6 rfl rfl rfl hul huo rfl (by repeat first | exact Sw.here | apply Sw.there) (by exact A3k (by rw [hkl.len]; omega) (fun e he => (hsl.all e he)) hul) ?_
 refine J9 ?_
 (refine A1d (bs := [(bc, (es.set i uc).flatten ++ Cc)]) (Pk.perm (by repeat (first | exact Pk.here | apply Pk.there))) (fun hn2 hd2 hle2 => ?_))
 refine tT (rB (rS (A3z (rB (rS ?_)))))
 refine C8 (rC rfl (A3 rfl rfl)) (rT rfl) (rT rfl) ?_
 (have hks2 := C7.set (j := i) ((hkl.mono hle1).mono hle2) (hru.mono hle2); refine A8n (r' := Q3) hs1 hs2 (A6.put (us := ks.set i u) (es := es.set i uc) hk hnum hlb ((hty.mono hle1).mono hle2) ((hfr.mono hle1).mono hle2) (by rw [List.length_set]) (C4.of (Sl.of_blk (A := []) (by rw [Z6 hks2.all, hks2.len, List.length_set]) (by omega) hcm (Wi.in hn2 List.mem_cons_self)) (by rw [hks2.len, List.length_set]) hks2.all (fun e he => by obtain ⟨q, hq⟩ := List.getElem?_of_mem he; exact (hks2.inv hq K7).2.one)) hks2) (fun h1 => by rw [hs3 h1, hu1 h1]))
 refine K1 ?_
 focus (have hall : ∀ i, i < C → (hl : i < ks.length) → K0 ks[i] = true := (fun j hjc hl2 => hj j (by omega) hl2); have hk8 := hkd hall; have hrd' := hrd hall; refine D2 rfl (hRA hk8) rfl rfl (fun v G1 hle1 hh => ?_); obtain ⟨u, uc, cc, rfl, hru, hy, hno⟩ := hh; have hul := hru.len; have huo := hru.one; rcases hm : W3 k ks with _ | x; rotate_left; obtain ⟨rfl, rfl⟩ := hy _ hm; rotate_left; obtain rfl := hno hm; rw [hm] at hrd')
 refine J2 ?_
 refine sE (A5 rfl) rfl (fun b149 => ?_)
 refine sS rfl rfl rfl hul huo rfl ?_ (hu := by exact D4 hul.symm)
 refine sQ (qA rfl) rfl (sD (nS (tS (tR (sQ (qM rfl) rfl ?_)))))
 refine sP (I6 rfl rfl (by omega)) rfl rfl ?_
 refine F8 ?_
 refine sB (qE rfl rfl) rfl rfl (fun h169 => ?_) (fun h169 => ?_)
 refine K1 ?_
 refine C8 (rC rfl (A3 rfl rfl)) (rT rfl) (rT rfl) ?_
 (obtain rfl : k = 1 := B2M hk8 (by omega); rw [hrd']; exact Q7.mk rfl (M1 _))
 refine D3 ?_
 (have hk7 : k = 6 ∨ k = 7 ∨ k = 8 ∨ k = 9 ∨ k = 11 ∨ k = 12 ∨ k = 14 := (by rcases hk8 with h1 | hh; (rw [h1] at hops; have : D9 1 = 0 := rfl; omega); exact hh); refine D2 rfl (hCA hk7 _ hle1) rfl rfl (fun v G2 hle2 hh => ?_); obtain ⟨w, wc, rfl, hrw, hw1⟩ := hh; have hwl := hrw.len; have hwo := hrw.one)
 refine J2 ?_
 refine sS rfl rfl rfl hwl hwo rfl ?_ (hu := by exact D4 hwl.symm)
 refine sQ (qA rfl) rfl (sQ (qA rfl) rfl (sD (nS (tT ?_))))
 refine C8 (rC rfl (A0 rfl rfl (A9 (by repeat first | exact mH | apply mT)) hwl)) (rT rfl) (rT rfl) ?_
 (rw [hrd']; exact A8n (r' := Q3) rfl rfl hrw hw1)
 refine J2 ?_
 refine sE (A5 rfl) rfl (fun b208 => ?_)
 refine sS rfl rfl rfl hul huo rfl ?_ (hu := by exact D4 hul.symm)
 refine sQ (qA rfl) rfl (sD (nS (tS (tR (sQ (qM rfl) rfl ?_)))))
 refine sP (A0o rfl rfl (by omega)) rfl rfl ?_
 refine sD (nS (qT rfl (tS (tR ?_))))
 refine sL (A0 rfl rfl (A9 (by repeat first | exact mH | apply mT)) hul) rfl rfl ?_
 refine sQ (qM rfl) rfl ?_
 refine sS rfl rfl rfl hul huo rfl ?_ (hu := by exact D4 hul.symm)
 refine sQ (qA rfl) rfl (sQ (qA rfl) rfl (sD (nS (tT (rS ?_)))))
 refine C8 (rC rfl (A0 rfl rfl (A9 (by repeat first | exact mH | apply mT)) hul)) (rT rfl) (rT rfl) ?_
 (rw [hrd', hm]; exact Q7.mk rfl hru)
def L6 (r : Stp) : IM → Value → List A4 → Prop := J8 fun G' v => ∃ cells, v = .tuple ⟨[.agg ⟨cells⟩, .int .i64 r.2.1, .int .i64 r.2.2]⟩ ∧ A6 G' r.1 cells
theorem L6.mk {G : IM} {r : Stp} {u : Tm} {c l : Int} {cells : List Value} (h : r = (u, c, l)) (hr : A6 G u cells) : L6 r G (.tuple ⟨[.agg ⟨cells⟩, .int .i64 c, .int .i64 l]⟩) [] := by
 subst h; exact ⟨rfl, cells, rfl, hr⟩
theorem A4h {t : Tm} (h : P7 t = true) : t.small := A2c t (A2H h).1
theorem A5v {e : Tm} (h : P7 e = false) : J0 e = (K7, 3, 0) := by unfold J0; rw [if_pos h]; rfl
theorem A5w {e : Tm} (h : P7 e = true) (h2 : K0 e = true) : J0 e = (e, 0, 0) := by unfold J0; rw [if_neg (by rw [h]; decide), if_pos h2]
theorem A5x {e : Tm} (h : P7 e = true) (h2 : K0 e = false) (h3 : (J3 e).2.1 ≠ 1) : J0 e = (K7, (J3 e).2.1, (J3 e).2.2) := by
 unfold J0; rw [if_neg (by rw [h]; decide), if_neg (by rw [h2]; decide), if_pos h3]
theorem A5y {e : Tm} (h : P7 e = true) (h2 : K0 e = false) (h3 : (J3 e).2.1 = 1) (h4 : P7 (J3 e).1 = false) : J0 e = (K7, 4, 0) := by
 unfold J0; rw [if_neg (by rw [h]; decide), if_neg (by rw [h2]; decide), if_neg (by omega), if_pos h4]
theorem A5z {e : Tm} (h : P7 e = true) (h2 : K0 e = false) (h3 : (J3 e).2.1 = 1) (h4 : P7 (J3 e).1 = true) : J0 e = ((J3 e).1, 1, 0) := by
 unfold J0; rw [if_neg (by rw [h]; decide), if_neg (by rw [h2]; decide), if_neg (by omega), if_neg (by rw [h4]; decide)]
theorem B2O {e : Tm} (h : (J0 e).2.1 = 1) : P7 (J0 e).1 = true := by
 cases h1 : P7 e with
 | false => rw [A5v h1] at h; simp at h
 | true =>
  cases h2 : K0 e with
  | true => rw [A5w h1 h2] at h; simp at h
  | false =>
   by_cases h3 : (J3 e).2.1 = 1
   ·cases h4 : P7 (J3 e).1 with
    | false => rw [A5y h1 h2 h3 h4] at h; simp at h
    | true => rw [A5z h1 h2 h3 h4]; exact h4
   ·rw [A5x h1 h2 h3] at h; exact absurd h h3
theorem B2P (t : Tm) (G : IM) (cells : List Value) (hr : A6 G t cells) : Fn Tryz.prog 95 [.agg ⟨cells⟩] [] G (L6 (J0 t)) := by
 have hRl := hr.len
 have hRo := hr.one
 have hV := A7g t G cells hr
 have hI := A8d t G cells hr
 refine B4 Tryz.func95 rfl Tryz.ntmps95 Tryz.results95 rfl ?_
 intro w0
 refine tS (tR ?_)
 refine sE (C1 rfl rfl) rfl (fun b3 => ?_)
 refine sE (A5 rfl) rfl (fun b4 => ?_)
 refine sQ (qA rfl) rfl (sQ (qA rfl) rfl (sD (nS (tS ?_))))
 refine B3 ?_
 refine tS (tR ?_)
 refine sL (A0 rfl rfl (A9 (by repeat first | exact mH | apply mT)) hRl) rfl rfl ?_
 refine F0 rfl (hV) rfl rfl (fun h14 => ?_) (fun h14 => ?_)
 refine C3 ?_
 refine sL (A0 rfl rfl (A9 (by repeat first | exact mH | apply mT)) hRl) rfl rfl ?_
 refine F0 rfl (hI) rfl rfl (fun h23 => ?_) (fun h23 => ?_)
 refine sQ (qA rfl) rfl (sD (nS (qT rfl (tS (tR ?_)))))
 refine sL (A0 rfl rfl (A9 (by repeat first | exact mH | apply mT)) hRl) rfl rfl ?_
 (refine D2 rfl (A5e t G cells (A4h (by assumption)) hr) rfl rfl (fun v G1 hle1 hh => ?_); obtain ⟨cs1, F1, rfl, hs1, hn1⟩ := hh; have hul := hs1.R.len; have huo := hs1.R.one)
 refine sS rfl rfl rfl hul huo rfl ?_ (hu := by exact D4 hul.symm)
 refine C3 ?_
 refine C8 (rC rfl (A0 rfl rfl (A9 (by repeat first | exact mH | apply mT)) hul)) (rT rfl) (rT rfl) ?_
 (exact L6.mk (A5w (by assumption) (by assumption)) (hs1.R.mono (B2.le _ _)))
 refine D8 ?_
 refine sL (A0 rfl rfl (A9 (by repeat first | exact mH | apply mT)) hRl) rfl rfl ?_
 (refine D2 rfl (B2N t G cells (A2H (by assumption)).1 (by assumption) hr) rfl rfl (fun v G1 hle1 hh => ?_); obtain ⟨u, uc, rfl, hru, hu1⟩ := hh; have hul := hru.len; have huo := hru.one; have hVu := A7g u G1 uc hru)
 refine H8 ?_
 refine sE (A5 rfl) rfl (fun b57 => ?_)
 refine sS rfl rfl rfl hul huo rfl ?_ (hu := by exact D4 hul.symm)
 refine sQ (qA rfl) rfl (sQ (qA rfl) rfl (sD (nS (tS ?_))))
 refine B3 ?_
 refine tS (tR (sQ (qM rfl) rfl ?_))
 refine sB (N7 rfl rfl) rfl rfl (fun h68 => ?_) (fun h68 => ?_)
 refine S1 ?_
 refine C8 (rC rfl (A3 rfl rfl)) (rT rfl) (rT rfl) ?_
 (exact L6.mk (A5x (by assumption) (by assumption) (by omega)) (M1 _))
 refine sQ (qA rfl) rfl (sD (nS (cF rfl (tS (tR ?_)))))
 refine sL (A0 rfl rfl (A9 (by repeat first | exact mH | apply mT)) hul) rfl rfl ?_
 refine F0 rfl (hVu) rfl rfl (fun h95 => ?_) (fun h95 => ?_)
 refine I8 ?_
 refine sL (A0 rfl rfl (A9 (by repeat first | exact mH | apply mT)) hul) rfl rfl ?_
 (refine D2 rfl (A5e u G1 uc (A4h (by assumption)) hru) rfl rfl (fun v G2 hle2 hh => ?_); obtain ⟨cs2, F2, rfl, hs2, hn2⟩ := hh; have hwl := hs2.R.len; have hwo := hs2.R.one)
 refine sS rfl rfl rfl hwl hwo rfl ?_ (hu := by exact D4 hwl.symm)
 refine sQ (qA rfl) rfl (sQ (qA rfl) rfl (sD (nS (tT ?_))))
 refine C8 (rC rfl (A0 rfl rfl (A9 (by repeat first | exact mH | apply mT)) hwl)) (rT rfl) (rT rfl) ?_
 (have h9 := hu1 (by omega); subst h9; exact L6.mk (A5z (by assumption) (by assumption) (by omega) (by assumption)) (hs2.R.mono (B2.le _ _)))
 refine J1 ?_
 refine C8 (rC rfl (A3 rfl rfl)) (rT rfl) (rT rfl) ?_
 (have h9 := hu1 (by omega); subst h9; exact L6.mk (A5y (by assumption) (by assumption) (by omega) (by assumption)) (M1 _))
 refine J1 ?_
 refine C8 (rC rfl (A3 rfl rfl)) (rT rfl) (rT rfl) ?_
 (exact L6.mk (A5v (by assumption)) (M1 _))
def P8 : Nat → Tm → Tm × Int × Int × Nat
 | 0, e => ((J0 e).1, (J0 e).2.1, (J0 e).2.2, 0)
 | n + 1, e => if (J0 e).2.1 = 1 then ((P8 n (J0 e).1).1, (P8 n (J0 e).1).2.1, (P8 n (J0 e).1).2.2.1, (P8 n (J0 e).1).2.2.2 + 1)
  else ((J0 e).1, (J0 e).2.1, (J0 e).2.2, 0)
theorem A8o (e : Tm) : P8 0 e = ((J0 e).1, (J0 e).2.1, (J0 e).2.2, 0) := by rw [P8]
theorem A8p {n : Nat} {e : Tm} (h : (J0 e).2.1 = 1) : P8 (n + 1) e = ((P8 n (J0 e).1).1, (P8 n (J0 e).1).2.1, (P8 n (J0 e).1).2.2.1, (P8 n (J0 e).1).2.2.2 + 1) := by rw [P8, if_pos h]
theorem A8q {n : Nat} {e : Tm} (h : (J0 e).2.1 ≠ 1) : P8 (n + 1) e = ((J0 e).1, (J0 e).2.1, (J0 e).2.2, 0) := by rw [P8, if_neg h]
theorem A8r : ∀ (n : Nat) (e : Tm), (P8 n e).2.1 = 1 → R2 n e = (K7, 5, 0, (P8 n e).2.2.2)
 | 0, e, h => by rw [A8o] at h ⊢; rw [R2, if_pos h]
 | n + 1, e, h => by
  by_cases h1 : (J0 e).2.1 = 1
  ·rw [A8p h1] at h ⊢
   rw [R2, if_pos h1, A8r n _ h]
  ·rw [A8q h1] at h; exact absurd h h1
theorem A8s : ∀ (n : Nat) (e : Tm), (P8 n e).2.1 ≠ 1 → R2 n e = P8 n e
 | 0, e, h => by rw [A8o] at h ⊢; rw [R2, if_neg h]
 | n + 1, e, h => by
  by_cases h1 : (J0 e).2.1 = 1
  ·rw [A8p h1] at h ⊢
   rw [R2, if_pos h1, A8s n _ h]
  ·rw [A8q h1]; rw [R2, if_neg h1]
theorem B2Q (n : Nat) (e : Tm) : (R2 n e).2.2.2 = (P8 n e).2.2.2 := by
 by_cases h : (P8 n e).2.1 = 1
 ·rw [A8r n e h]
 ·rw [A8s n e h]
def EvP (r : Tm × Int × Int × Nat) : IM → Value → List A4 → Prop := J8 fun G' v => ∃ cells, v = .tuple ⟨[.agg ⟨cells⟩, .int .i64 r.2.1, .int .i64 r.2.2.1, .int .i64 (r.2.2.2 : Int)]⟩ ∧ A6 G' r.1 cells
def Z8 (i : Nat) (r : Tm × Int × Int × Nat) : Tm × Int × Int × Nat := (r.1, r.2.1, r.2.2.1, r.2.2.2 + i)
theorem B2R {m i : Nat} {e : Tm} (h : (J0 e).2.1 ≠ 1 ∨ m = 0) : Z8 i (P8 m e) = ((J0 e).1, (J0 e).2.1, (J0 e).2.2, i) := by
 cases m with
 | zero => simp [Z8, P8]
 | succ m =>
  rcases h with h | h
  ·simp only [Z8, P8]; rw [if_neg h]; simp
  ·cases h
theorem B2S {m i : Nat} {e : Tm} (h : (J0 e).2.1 = 1) (hm : 0 < m) : Z8 i (P8 m e) = Z8 (i + 1) (P8 (m - 1) (J0 e).1) := by
 obtain ⟨k, rfl⟩ : ∃ k, m = k + 1 := ⟨m - 1, by omega⟩
 simp only [Z8, P8]; rw [if_pos h]; simp only [Nat.add_sub_cancel, Nat.add_assoc, Nat.add_comm 1 i]
section fin
variable {P : Program} {Γ : L7} {env : M0} {hp : List A4} {G : IM}
theorem B2T {post : IM → Value → List A4 → Prop} {σ : Sy} (hk : post σ.G (.tuple ⟨[]⟩) []) : A0h P Γ [] post .normal σ := ⟨[], .nil, [], σ.hp, by simp, hk⟩
theorem A4i {r r2 r3 r4 : ResultVar} {post : IM → Value → List A4 → Prop} {v v2 v3 v4 : Value} (h : V9 P Γ ⟨env, hp, G⟩ r v) (h2 : V9 P Γ ⟨env, hp, G⟩ r2 v2) (h3 : V9 P Γ ⟨env, hp, G⟩ r3 v3) (h4 : V9 P Γ ⟨env, hp, G⟩ r4 v4) (hk : post G (.tuple ⟨[v, v2, v3, v4]⟩) []) :
  A0h P Γ [r, r2, r3, r4] post .ret ⟨env, hp, G⟩ := A3G (.cons h (.cons h2 (.cons h3 (.cons h4 .nil)))) hk
end fin
theorem EvP.mk {G : IM} {r : Tm × Int × Int × Nat} {u : Tm} {c l : Int} {i : Nat} {cells : List Value} (h : r = (u, c, l, i)) (hr : A6 G u cells) : EvP r G (.tuple ⟨[.agg ⟨cells⟩, .int .i64 c, .int .i64 l, .int .i64 (i : Int)]⟩) [] := by
 subst h; exact ⟨rfl, cells, rfl, hr⟩
theorem B2U (e : Tm) (n : Nat) (hn : n ≤ 300) (fid : FuncId) [B1 Tryz.prog fid] (us cs : List Value) (hq : ∀ (G : IM) (u : Tm) (cells : List Value), A6 G u cells → Fn Tryz.prog fid (us ++ [.agg ⟨cells⟩] ++ cs) [] G (E4 (.tuple ⟨[]⟩) G))
  (G : IM) (cells : List Value) (hr : A6 G e cells) : Fn Tryz.prog 49 [.agg ⟨cells⟩, .int .i64 (n : Int), .func (.func fid) ⟨us⟩ ⟨cs⟩] [] G (EvP (P8 n e)) := by
 have hRl := hr.len
 have hRo := hr.one
 have hq0 := hq G e cells hr
 refine B4 Tryz.func49 rfl Tryz.ntmps49 Tryz.results49 rfl ?_
 intro w0
 refine tS (tR ?_)
 refine sE (C1 rfl rfl) rfl (fun b3 => ?_)
 refine sE (A5 rfl) rfl (fun b4 => ?_)
 refine D3 ?_
 refine sL (A0 rfl rfl (A9 (by repeat first | exact mH | apply mT)) hRl) rfl rfl ?_
 (refine A6l rfl rfl hq0 rfl rfl ?_)
 refine sD (nS (tS (tR (sQ (qA rfl) rfl (sD (nS ?_))))))
 refine B3 ?_
 (refine I1 (fun (x : Nat × Tm × List Value × IM) => ⟨[(10, .int .i64 (x.1 : Int)), (1, .int .i64 (n : Int)), (2, .func (.func fid) ⟨us⟩ ⟨cs⟩), (3, .pointer (some ⟨b3, 0, none⟩)), (6, .pointer (some ⟨b4, 0, none⟩))], [.blk b3 x.2.2.1, .blk b4 [.int .i64 0, .string ⟨⟨[]⟩⟩, .int .i64 0, .int .i64 0, .slice none 0 0, .int .i64 0, .slice none 0 0, .int .i64 0, .slice none 0 0]], x.2.2.2⟩) (fun x => x.1 ≤ n ∧ B7 G x.2.2.2 ∧ A6 x.2.2.2 x.2.1 x.2.2.1 ∧ Z8 x.1 (P8 (n - x.1) x.2.1) = P8 n e) (fun x => n - x.1) (0, e, cells, G) ?_ ?_ ?_)
 (simp only [H5]; exact C9)
 (exact ⟨Nat.zero_le _, B7.refl _, hr, rfl⟩)
 (rintro ⟨i, u, uc, Gi⟩ ⟨hi, hle, hru, hev⟩; simp only [] at hi hle hru hev ⊢; have hul := hru.len; have huo := hru.one)
 refine tS ?_
 refine B3 ?_
 refine tS (tR ?_)
 refine sL (A0 rfl rfl (A9 (by repeat first | exact mH | apply mT)) hul) rfl rfl ?_
 (refine D2 rfl (B2P u Gi uc hru) rfl rfl (fun v G1 hle1 hh => ?_); obtain ⟨wc, hv, hrw⟩ := hh; have hwl := hrw.len; have hwo := hrw.one; have hend := @B2R (n - i) i u; have hgo := @B2S (n - i) i u; generalize J0 u = r at hv hrw hend hgo; obtain ⟨w, c, l⟩ := r; simp only at hv hrw hend hgo; subst hv)
 refine H8 ?_
 refine sE (A5 rfl) rfl (fun b37 => ?_)
 refine sS rfl rfl rfl hwl hwo rfl ?_ (hu := by exact D4 hwl.symm)
 refine D3 ?_
 refine sB (N7 rfl rfl) rfl rfl (fun h47 => ?_) (fun h47 => ?_)
 refine I8 ?_
 refine sL (A0 rfl rfl (A9 (by repeat first | exact mH | apply mT)) hwl) rfl rfl ?_
 refine sQ (qM rfl) rfl (sQ (qM rfl) rfl (sQ (qM rfl) rfl ?_))
 refine sS rfl rfl rfl hwl hwo rfl ?_ (hu := by exact D4 hwl.symm)
 refine F8 ?_
 refine A4i (rC rfl (A0 rfl rfl (A9 (by repeat first | exact mH | apply mT)) hwl)) (rT rfl) (rT rfl) (rT rfl) ?_
 (exact EvP.mk (by rw [← hev]; exact hend (by omega)) hrw)
 refine sQ (qM rfl) rfl (sQ (qM rfl) rfl (sQ (qM rfl) rfl ?_))
 refine sB (qE rfl rfl) rfl rfl (fun h79 => ?_) (fun h79 => ?_)
 refine sQ (N4 rfl rfl) rfl (sD (nS (qT rfl (tS (tR ?_)))))
 refine sL (A0 rfl rfl (A9 (by repeat first | exact mH | apply mT)) hwl) rfl rfl ?_
 refine sQ (qM rfl) rfl (sQ (qM rfl) rfl (sQ (qM rfl) rfl ?_))
 refine sS rfl rfl rfl hwl hwo rfl ?_ (hu := by exact D4 hwl.symm)
 refine F8 ?_
 refine A4i (rC rfl (A0 rfl rfl (A9 (by repeat first | exact mH | apply mT)) hwl)) (rT rfl) (rT rfl) (rT rfl) ?_
 (exact EvP.mk (by rw [← hev]; exact hend (by omega)) hrw)
 refine D3 ?_
 refine sL (A0 rfl rfl (A9 (by repeat first | exact mH | apply mT)) hwl) rfl rfl ?_
 refine S6 rfl rfl rfl hwl hwo rfl (by repeat first | exact Sw.here | apply Sw.there) (by exact D4 (hul.trans hwl.symm)) ?_
 refine sD (nS (tR (sQ (qM rfl) rfl ?_)))
 refine sL (A0 rfl rfl (A9 (by repeat first | exact mH | apply mT)) hwl) rfl rfl ?_
 (refine A6l rfl rfl (hq G1 w wc hrw) rfl rfl ?_)
 refine sD (P4 (nS (tR (sQ (qM rfl) rfl ?_))))
 refine sP (E8 rfl rfl (by omega) (by omega)) rfl rfl ?_
 refine sQ (qA rfl) rfl (sD ?_)
 refine I4 (i + 1, w, wc, G1) ?_ ?_ ?_
 (simp only [H5]; exact C9)
 (dsimp only; exact ⟨by omega, hle.trans hle1, hrw, by rw [← hev, hgo (by omega) (by omega), show n - (i + 1) = n - i - 1 by omega]⟩)
 (show n - (i + 1) < n - i; omega)
theorem A8t (fuel : Int) (G : IM) : Fn Tryz.prog 37 [.int .i64 fuel] [] G (E4 (.bool (R4 fuel 0 300)) G) := by
 refine B4 Tryz.func37 rfl Tryz.ntmps37 Tryz.results37 rfl ?_
 intro w0
 refine D3 ?_
 refine I3 rfl ((A0Z _ _ _ _)) rfl rfl ?_
 refine sQ (qA rfl) rfl (sD (nS (tT (E1 (rT rfl) ?_))))
 (exact ⟨rfl, rfl, rfl⟩)
mutual
def A5A (L : Int → Prop) : Tm → Prop
 | .mk k nm num ty fr lb ks => (k = 14 → L lb) ∧ A8u L ks
def A8u (L : Int → Prop) : List Tm → Prop
 | [] => True
 | t :: ts => A5A L t ∧ A8u L ts
end
def B40 (L : Int → Prop) (T : Ty) (r : Stp) : Prop := (r.2.1 = 1 ∧ A0D [] r.1 = some T ∧ A5A L r.1) ∨ (r.2.1 = 2 ∧ L r.2.2)
end Gw
end Go.Proofs.YtfpgncjeejickaaGreat
