/-
  Casts put into a term, in plain words. The reference's types are those of the insertion. Casts put into a term: operand by operand. The program's functions on types and contexts: each computes what the plain words say. Nodes replaced: the program's put, the reference model's l16Replace. The reference model's replacing of nodes. What a node wants of its operands. The type of a term with casts. castType and CastTypeOf compute the type of a term with casts. What a step gives is small. A function that only reads may be handed an own slice. The program's evaluator: proxies, injections, values, casts. The program's evaluator: values, casts, nodes. The program's evaluator: replacing a name, casts, nodes. The program's insertion of casts: a cast. The program's evaluator: casts, nodes, the rules without casts.
-/
import Derived.Test.YtebfignffjhnhaaGreatDoorKi3
import Derived.Test.YtebfignffjhnhaaGreatDoorKi2
import Derived.Test.YtebfignffjhnhaaGreatDoorKi0
import Derived.Test.YtebfignffjhnhaaGreatDoorKi1
set_option linter.unusedVariables false
set_option linter.unusedSimpArgs false
set_option maxHeartbeats 0
set_option maxRecDepth 100000
set_option synthInstance.maxSize 4000
set_option synthInstance.maxHeartbeats 0
namespace Go.Proofs.YtebfignffjhnhaaGreatDoor
open Go Go.RowKit
namespace Gw
def I6 : List Tm → List Ty → List Ty → Int → List Tm × Int
 | u :: us, a :: h, b :: w, l => if M2 a b = true then (u :: (I6 us h w l).1, (I6 us h w l).2) else (K6 u a b (l + 1) :: (I6 us h w (l + 1)).1, (I6 us h w (l + 1)).2)
 | us, _, _, l => (us, l)
def A1t (cx : Cx) (k : Int) (nm : ByteArray) (num : Int) (ty fr : Ty) (lb : Int) (us : List Tm) (h : List Ty) (l : Int) : Option (Tm × Ty × Int) :=
 match Y6 cx k nm ty h with
 | none => none
 | some (w, t) => some (if k = 13 then (I6 us h w l).1.getD 0 L0 else .mk k nm num ty fr lb (I6 us h w l).1, t, (I6 us h w l).2)
mutual
def M6 (cx : Cx) : Tm → Int → Option (Tm × Ty × Int)
 | .mk k nm num ty fr lb ks, l => match M3 (O7 cx k nm ty) ks l with
  | none => none
  | some (us, h, l') => A1t cx k nm num ty fr lb us h l'
def M3 (cx : Cx) : List Tm → Int → Option (List Tm × List Ty × Int)
 | [], l => some ([], [], l)
 | t :: ts, l => match M6 cx t l with
  | none => none
  | some (u, a, l') => match M3 cx ts l' with
   | none => none
   | some (us, h, l'') => some (u :: us, a :: h, l'')
end
def V2 (e : Tm) : Option (Tm × Ty) := if Q1 e = true then (match M6 [] e 0 with | some (u, t, _) => some (u, t) | none => none) else none
def V7 (cx : Cx) (k : Int) (nm : ByteArray) (ty : Ty) (h : List Ty) : Option Ty := match N7 cx k nm ty h with
 | some (_, t) => if (k = 5 ∨ k = 10) ∧ H5 t = false then none else some t
 | none => none
mutual
def P1 (cx : Cx) : Tm → Option Ty
 | .mk k nm num ty fr lb ks => match U2 (O7 cx k nm ty) ks with
  | none => none
  | some h => V7 cx k nm ty h
def U2 (cx : Cx) : List Tm → Option (List Ty)
 | [] => some []
 | t :: ts => match P1 cx t with
  | none => none
  | some a => match U2 cx ts with
   | none => none
   | some h => some (a :: h)
end
theorem A4z (k : Int) (ks : List Ty) (d : Int) : O6 (.mk k ks) d = (decide (d ≤ 4) && decide (A0v k = ks.length) && T2 ks (d + 1)) := by rw [O6]
mutual
theorem A3J : ∀ (t : Ty) (d e : Int), e ≤ d → O6 t d = true → O6 t e = true
 | .mk k ks, d, e, h, hs => by
  rw [A4z, Bool.and_eq_true, Bool.and_eq_true, decide_eq_true_eq, decide_eq_true_eq] at hs ⊢
  exact ⟨⟨by omega, hs.1.2⟩, A9e ks (d + 1) (e + 1) (by omega) hs.2⟩
theorem A9e : ∀ (ts : List Ty) (d e : Int), e ≤ d → T2 ts d = true → T2 ts e = true
 | [], d, e, h, hs => by rw [T2]
 | t :: ts, d, e, h, hs => by
  rw [T2, Bool.and_eq_true] at hs ⊢
  exact ⟨A3J t d e h hs.1, A9e ts d e h hs.2⟩
end
mutual
theorem A54 : ∀ (a b : Ty) (d : Int), K0 a b = true → O6 a d = true → O6 b d = true → O6 (T4 a b) d = true
 | .mk k ks, .mk k' ks', d, hc, ha, hb => by
  rw [A2U]
  split
  ·exact hb
  ·split
   ·exact ha
   ·rw [A0c] at hc
    rw [A4z, Bool.and_eq_true, Bool.and_eq_true, decide_eq_true_eq, decide_eq_true_eq] at ha hb ⊢
    simp only [Bool.or_eq_true, Bool.and_eq_true, decide_eq_true_eq] at hc
    obtain ⟨hk, hl⟩ : k = k' ∧ O8 ks ks' = true := by
     rcases hc with (h | h) | h
     ·contradiction
     ·contradiction
     ·exact h
    subst hk
    obtain ⟨m1, m2⟩ := A9f ks ks' (d + 1) hl ha.2 hb.2
    exact ⟨⟨ha.1.1, by rw [m2]; exact ha.1.2⟩, m1⟩
theorem A9f : ∀ (xs ys : List Ty) (d : Int), O8 xs ys = true → T2 xs d = true → T2 ys d = true → T2 (S6 xs ys) d = true ∧ (S6 xs ys).length = xs.length
 | [], [], d, _, _, _ => by simp [S6, T2]
 | [], b :: ys, d, hc, _, _ => by simp [O8] at hc
 | a :: xs, [], d, hc, _, _ => by simp [O8] at hc
 | a :: xs, b :: ys, d, hc, ha, hb => by
  rw [O8, Bool.and_eq_true] at hc
  rw [T2, Bool.and_eq_true] at ha hb
  obtain ⟨m1, m2⟩ := A9f xs ys d hc.2 ha.2 hb.2
  rw [S6, T2, Bool.and_eq_true]
  exact ⟨⟨A54 a b d hc.1 ha.1 hb.1, m1⟩, by simp [m2]⟩
end
theorem A55 {cx : Cx} (h : ∀ b ∈ cx, H5 b.2 = true) {nm : ByteArray} {t : Ty} : ∀ {n : Nat}, A0r cx nm n = some t → H5 t = true
 | 0, hl => by simp [A0r] at hl
 | n + 1, hl => by
  rw [A0r] at hl
  split at hl
  ·rename_i b hb
   split at hl
   ·cases hl; exact h b (List.mem_of_getElem? hb)
   ·exact A55 h hl
  ·exact A55 h hl
theorem A9g {k : Int} {t a b : Ty} (hk : k = 4 ∨ k = 5) (ht : H5 t = true) (h : Q7 k t = some (a, b)) : H5 a = true ∧ H5 b = true := by
 obtain ⟨tk, ks⟩ := t
 rw [show Q7 k (.mk tk ks) = (if tk = k then some (ks.getD 0 C1, ks.getD 1 C1) else if tk = 1 then some (R7, R7) else none) from rfl] at h
 by_cases he : tk = k
 ·rw [if_pos he] at h
  cases h
  unfold H5 at ht ⊢
  rw [A4z, Bool.and_eq_true, Bool.and_eq_true, decide_eq_true_eq, decide_eq_true_eq] at ht
  have h2 : ks.length = 2 := by
   have : A0v tk = 2 := by rw [he]; rcases hk with rfl | rfl <;> rfl
   omega
  match ks, h2, ht.2 with
  | [x, y], _, hL =>
   simp only [T2, Bool.and_eq_true] at hL
   exact ⟨A3J _ 2 1 (by omega) hL.1, A3J _ 2 1 (by omega) hL.2.1⟩
 ·rw [if_neg he] at h
  by_cases h1 : tk = 1
  ·rw [if_pos h1] at h
   cases h
   exact ⟨by decide, by decide⟩
  ·rw [if_neg h1] at h; cases h
theorem B3C {l : List Ty} {i : Nat} (h : i < l.length) : l.getD i C1 ∈ l := by
 rw [List.getD_eq_getElem?_getD, List.getElem?_eq_getElem h, Option.getD_some]; exact List.getElem_mem h
theorem B3D {cx : Cx} {k : Int} {nm : ByteArray} {ty : Ty} {h w : List Ty} {t : Ty} (hcx : ∀ b ∈ cx, H5 b.2 = true) (hh : ∀ a ∈ h, H5 a = true) (hd : H5 (h.getD 0 C1) = true ∨ h = []) (hty : k = 13 → H5 ty = true) (hn : F0 k = (h.length : Int)) (hw : N7 cx k nm ty h = some (w, t)) (h510 : k ≠ 5 ∧ k ≠ 10) : H5 t = true := by
 have hg : ∀ i, i < h.length → H5 (h.getD i C1) = true := fun i hi => hh _ (B3C hi)
 unfold N7 at hw
 split at hw
 ·split at hw
  ·rename_i u hu; cases hw; exact A55 hcx hu
  ·cases hw
 split at hw
 ·cases hw; decide
 split at hw
 ·cases hw; decide
 split at hw
 ·exact absurd (by assumption) h510.1
 split at hw
 ·rename_i hk6
  have hl : h.length = 2 := by have : F0 k = 2 := (by rw [hk6]; rfl); omega
  split at hw
  ·rename_i a b hm
   split at hw
   ·cases hw; exact (A9g (.inl rfl) (hg 0 (by omega)) hm).2
   ·cases hw
  ·cases hw
 split at hw
 ·split at hw
  ·cases hw; split <;> decide
  ·cases hw
 split at hw
 ·rename_i hk9
  have hl : h.length = 3 := by have : F0 k = 3 := (by rw [hk9]; rfl); omega
  split at hw
  ·rename_i hc
   cases hw
   exact A54 _ _ 1 hc.2 (hg 1 (by omega)) (hg 2 (by omega))
  ·cases hw
 split at hw
 ·exact absurd (by assumption) h510.2
 split at hw
 ·split at hw
  ·cases hw; exact hty (by assumption)
  ·cases hw
 ·split at hw
  ·rename_i a b hm
   have hl : h.length ≠ 0 := by
    intro h0
    rw [List.length_eq_zero_iff] at h0
    subst h0
    rw [show Q7 5 (([] : List Ty).getD 0 C1) = none from rfl] at hm
    cases hm
   cases hw
   have := A9g (.inr rfl) (hg 0 (by omega)) hm
   split
   ·exact this.2
   ·exact this.1
  ·cases hw
def Z1 (cx : Cx) : Prop := ∀ b ∈ cx, H5 b.2 = true
theorem A23 : Z1 [] := by intro b hb; simp at hb
theorem A3K {cx : Cx} {k : Int} {nm : ByteArray} {ty : Ty} (h : Z1 cx) (ht : k = 5 → H5 ty = true) : Z1 (O7 cx k nm ty) := by
 unfold O7
 split
 ·intro b hb
  rcases List.mem_append.1 hb with hb | hb
  ·exact h b hb
  ·obtain rfl := List.mem_singleton.1 hb; exact ht (by assumption)
 ·exact h
theorem B3E {cx : Cx} {k : Int} {nm : ByteArray} {ty : Ty} {h : List Ty} (hcx : Z1 cx) (hh : ∀ a ∈ h, H5 a = true) (hty : k = 13 → H5 ty = true) (hn : F0 k = (h.length : Int)) :
  (∀ w t, Y6 cx k nm ty h = some (w, t) → V7 cx k nm ty h = some t ∧ H5 t = true) ∧ (Y6 cx k nm ty h = none → V7 cx k nm ty h = none) := by
 unfold Y6 V7
 have hv := fun w t (e : N7 cx k nm ty h = some (w, t)) (h5 : k ≠ 5 ∧ k ≠ 10) => B3D hcx hh (by cases h with | nil => exact .inr rfl | cons x xs => exact .inl (hh _ (by simp))) hty hn e h5
 cases hw : N7 cx k nm ty h with
 | none => simp
 | some p =>
  obtain ⟨w, t⟩ := p
  have hv := hv w t hw
  simp only
  by_cases h5 : k = 5 ∨ k = 10
  ·cases ht : H5 t with
   | true => simp [ht]
   | false => simp [h5]
  ·have := hv (by omega)
   simp [this]
theorem A9h (ks : List Tm) (ih : ∀ t ∈ ks, ∀ d cx l, N2 12 14 t d = true → Z1 cx → (∀ u a l', M6 cx t l = some (u, a, l') → P1 cx t = some a ∧ H5 a = true) ∧ (M6 cx t l = none → P1 cx t = none)) :
  ∀ d cx l, N3 12 14 ks d = true → Z1 cx → (∀ us h l', M3 cx ks l = some (us, h, l') → U2 cx ks = some h ∧ (∀ a ∈ h, H5 a = true) ∧ h.length = ks.length ∧ us.length = ks.length) ∧ (M3 cx ks l = none → U2 cx ks = none) := by
 induction ks with
 | nil =>
  intro d cx l _ _
  refine ⟨fun us h l' he => ?_, fun he => by simp [M3] at he⟩
  simp only [M3, Option.some.injEq, Prod.mk.injEq] at he
  obtain ⟨rfl, rfl, _⟩ := he
  exact ⟨by rw [U2], by simp, rfl, rfl⟩
 | cons t ts ihl =>
  intro d cx l hs hcx
  rw [N3, Bool.and_eq_true] at hs
  obtain ⟨a1, a2⟩ := ih t List.mem_cons_self d cx l hs.1 hcx
  rw [M3, U2]
  cases he : M6 cx t l with
  | none => rw [a2 he]; exact ⟨fun _ _ _ h => by simp at h, fun _ => rfl⟩
  | some p =>
   obtain ⟨u, a, l1⟩ := p
   obtain ⟨b1, b2⟩ := a1 u a l1 he
   rw [b1]
   obtain ⟨c1, c2⟩ := ihl (fun x hx => ih x (List.mem_cons_of_mem _ hx)) d cx l1 hs.2 hcx
   simp only
   cases hL : M3 cx ts l1 with
   | none => rw [c2 hL]; exact ⟨fun _ _ _ h => by simp at h, fun _ => rfl⟩
   | some q =>
    obtain ⟨us, h, l2⟩ := q
    obtain ⟨d1, d2, d3, d4⟩ := c1 us h l2 hL
    rw [d1]
    refine ⟨fun us' h' l' e => ?_, fun e => by simp at e⟩
    simp only [Option.some.injEq, Prod.mk.injEq] at e
    obtain ⟨rfl, rfl, _⟩ := e
    refine ⟨rfl, fun x hx => ?_, by simp [d3], by simp [d4]⟩
    rcases List.mem_cons.1 hx with rfl | hx
    ·exact b2
    ·exact d2 x hx
theorem A24 : ∀ (t : Tm) (d : Int) (cx : Cx) (l : Int), N2 12 14 t d = true → Z1 cx → (∀ u a l', M6 cx t l = some (u, a, l') → P1 cx t = some a ∧ H5 a = true) ∧ (M6 cx t l = none → P1 cx t = none) := by
 refine Tm.ind fun k nm num ty fr lb ks ih d cx l hs hcx => ?_
 obtain ⟨_, _, h3, h4⟩ := A0U hs
 obtain ⟨n1, _, _, _, _, n6, _⟩ := U0.1 h3
 obtain ⟨L1, L2⟩ := A9h ks ih (d + 1) (O7 cx k nm ty) l h4 (A3K hcx fun hk => n6 (by omega))
 rw [M6, P1]
 cases hL : M3 (O7 cx k nm ty) ks l with
 | none => rw [L2 hL]; exact ⟨fun _ _ _ h => by simp at h, fun _ => rfl⟩
 | some q =>
  obtain ⟨us, h, l2⟩ := q
  obtain ⟨d1, d2, d3, d4⟩ := L1 us h l2 hL
  rw [d1]
  obtain ⟨e1, e2⟩ := B3E (k := k) (nm := nm) (ty := ty) hcx d2 (fun hk => n6 (.inr (.inl hk))) (by rw [d3]; exact n1)
  simp only [A1t]
  cases hN : Y6 cx k nm ty h with
  | none => rw [e2 hN]; exact ⟨fun _ _ _ h => by simp at h, fun _ => rfl⟩
  | some p =>
   obtain ⟨w, t⟩ := p
   obtain ⟨f1, f2⟩ := e1 w t hN
   rw [f1]
   refine ⟨fun u a l' e => ?_, fun e => by simp at e⟩
   simp only [Option.some.injEq, Prod.mk.injEq] at e
   obtain ⟨_, rfl, _⟩ := e
   exact ⟨rfl, f2⟩
theorem A3L {cx : Cx} : ∀ {ks : List Tm} {i : Nat} (hi : i < ks.length) {l l' l2 : Int} {us : List Tm} {h : List Ty} {u : Tm} {a : Ty}, M3 cx (ks.take i) l = some (us, h, l') → M6 cx ks[i] l' = some (u, a, l2) → M3 cx (ks.take (i + 1)) l = some (us ++ [u], h ++ [a], l2)
 | [], i, hi, _, _, _, _, _, _, _, _, _ => by simp at hi
 | t :: ts, 0, _, l, l', l2, us, h, u, a, h1, h2 => by
  simp only [List.take_zero, M3, Option.some.injEq, Prod.mk.injEq] at h1
  obtain ⟨rfl, rfl, rfl⟩ := h1
  simp only [List.getElem_cons_zero] at h2
  simp [M3, h2]
 | t :: ts, i + 1, hi, l, l', l2, us, h, u, a, h1, h2 => by
  simp only [List.take_succ_cons, M3] at h1 ⊢
  split at h1
  ·cases h1
  ·rename_i u1 a1 l1 he
   split at h1
   ·cases h1
   ·rename_i us1 h1' l1' hL
    simp only [Option.some.injEq, Prod.mk.injEq] at h1
    obtain ⟨rfl, rfl, rfl⟩ := h1
    simp only [List.getElem_cons_succ] at h2
    have := A3L (ks := ts) (i := i) (by simpa using hi) hL h2
    simp only [this, List.cons_append]
theorem A56 {cx : Cx} : ∀ {ks : List Tm} {i : Nat} (hi : i < ks.length) {l l' : Int} {us : List Tm} {h : List Ty}, M3 cx (ks.take i) l = some (us, h, l') → M6 cx ks[i] l' = none → M3 cx ks l = none
 | [], i, hi, _, _, _, _, _, _ => by simp at hi
 | t :: ts, 0, _, l, l', us, h, h1, h2 => by
  simp only [List.take_zero, M3, Option.some.injEq, Prod.mk.injEq] at h1
  obtain ⟨rfl, rfl, rfl⟩ := h1
  simp only [List.getElem_cons_zero] at h2
  simp [M3, h2]
 | t :: ts, i + 1, hi, l, l', us, h, h1, h2 => by
  simp only [List.take_succ_cons, M3] at h1 ⊢
  split at h1
  ·cases h1
  ·rename_i u1 a1 l1 he
   split at h1
   ·cases h1
   ·rename_i us1 h1' l1' hL
    simp only [Option.some.injEq, Prod.mk.injEq] at h1
    obtain ⟨rfl, rfl, rfl⟩ := h1
    simp only [List.getElem_cons_succ] at h2
    have := A56 (ks := ts) (i := i) (by simpa using hi) hL h2
    simp only [this]
theorem A0A (us : List Tm) (h : List Ty) (l : Int) : I6 us h [] l = (us, l) := by
 cases us with
 | nil => rfl
 | cons u us => cases h <;> rfl
theorem A3M : ∀ (us : List Tm) (h w : List Ty) (l : Int) (j : Nat) (hj : j < w.length) (hu : w.length ≤ us.length) (hh : w.length ≤ h.length),
  (I6 us h (w.take j) l).1.length = us.length ∧ (∀ (hq : j < (I6 us h (w.take j) l).1.length), (I6 us h (w.take j) l).1[j] = us[j]'(by omega)) ∧
  I6 us h (w.take (j + 1)) l = if M2 (h[j]'(by omega)) w[j] = true then I6 us h (w.take j) l else ((I6 us h (w.take j) l).1.set j (K6 (us[j]'(by omega)) (h[j]'(by omega)) w[j] ((I6 us h (w.take j) l).2 + 1)), (I6 us h (w.take j) l).2 + 1)
 | us, h, [], l, j, hj, _, _ => by simp at hj
 | [], h, b :: w, l, j, _, hu, _ => by simp at hu
 | u :: us, [], b :: w, l, j, _, _, hh => by simp at hh
 | u :: us, a :: h, b :: w, l, 0, _, _, _ => by
  refine ⟨by simp [I6], by simp [I6], ?_⟩
  simp only [List.take_succ_cons, List.take_zero, I6, A0A, List.getElem_cons_zero, List.set_cons_zero]
 | u :: us, a :: h, b :: w, l, j + 1, hj, hu, hh => by
  simp only [List.take_succ_cons, List.getElem_cons_succ]
  by_cases hs : M2 a b = true
  ·have ih := A3M us h w l j (by simpa using hj) (by simpa using hu) (by simpa using hh)
   simp only [I6, if_pos hs]
   obtain ⟨i1, i2, i3⟩ := ih
   refine ⟨by simp [i1], fun hq => by simp [i2], ?_⟩
   rw [i3]
   split <;> simp
  ·have ih := A3M us h w (l + 1) j (by simpa using hj) (by simpa using hu) (by simpa using hh)
   simp only [I6, if_neg hs]
   obtain ⟨i1, i2, i3⟩ := ih
   refine ⟨by simp [i1], fun hq => by simp [i2], ?_⟩
   rw [i3]
   split <;> simp
theorem A1u : ∀ (us : List Tm) (h w : List Ty) (l : Int), (I6 us h w l).1.length = us.length
 | [], h, w, l => by simp [I6]
 | u :: us, [], w, l => by simp [I6]
 | u :: us, a :: h, [], l => by simp [I6]
 | u :: us, a :: h, b :: w, l => by
  simp only [I6]
  split
  ·simp [A1u us h w l]
  ·simp [A1u us h w (l + 1)]
theorem A9i {us : List Tm} {h w : List Ty} {l : Int} {j : Nat} (hj : j < w.length) (hu : w.length ≤ us.length) (hh : w.length ≤ h.length) :
  (I6 us h (w.take (j + 1)) l).1 = (I6 us h (w.take j) l).1.set j (if M2 (h[j]'(by omega)) w[j] = true then us[j]'(by omega) else K6 (us[j]'(by omega)) (h[j]'(by omega)) w[j] ((I6 us h (w.take j) l).2 + 1)) ∧
  (I6 us h (w.take (j + 1)) l).2 = (if M2 (h[j]'(by omega)) w[j] = true then (I6 us h (w.take j) l).2 else (I6 us h (w.take j) l).2 + 1) := by
 obtain ⟨h1, h2, h3⟩ := A3M us h w l j hj hu hh
 by_cases hs : M2 (h[j]'(by omega)) w[j] = true
 ·rw [h3, if_pos hs, if_pos hs, if_pos hs]
  refine ⟨?_, rfl⟩
  rw [← h2 (by omega), List.set_getElem_self]
 ·rw [h3, if_neg hs, if_neg hs, if_neg hs]
  exact ⟨rfl, rfl⟩
theorem A07 : ∀ (us : List Tm) (h w : List Ty) (l : Int), l ≤ (I6 us h w l).2 ∧ (I6 us h w l).2 ≤ l + us.length
 | [], h, w, l => by simp [I6]
 | u :: us, [], w, l => by simp [I6]; omega
 | u :: us, a :: h, [], l => by simp [I6]; omega
 | u :: us, a :: h, b :: w, l => by
  simp only [I6]
  split
  ·have := A07 us h w l; simp only [List.length_cons]; omega
  ·have := A07 us h w (l + 1); simp only [List.length_cons]; omega
def A57 (u : Ty) (G : IM) : IM → Value → List A5 → Prop := L5 fun G' v => ∃ cells, v = .agg ⟨cells⟩ ∧ C2 G' u cells
def W4 (r : Option Ty) (G : IM) : IM → Value → List A5 → Prop := L5 fun G' v => ∃ cells u, v = .tuple ⟨[.agg ⟨cells⟩, .bool r.isSome]⟩ ∧ C2 G' u cells ∧ ∀ t, r = some t → u = t
theorem B3F {G : IM} {k : Int} {a b : Ty} {ca cb : List Value} {p : Option Addr} {c : Nat} (hk : H3 k) (ha : C2 G a ca) (hb : C2 G b cb) (hs : Sl G p 2 c 2 (ca ++ cb)) : C2 G (.mk k [a, b]) [.int .i64 k, .slice p 2 c] := by
 have hL : C7 G [a, b] [ca, cb] := by simp only [C7]; exact ⟨ca, [cb], rfl, ha, cb, [], rfl, hb, rfl⟩
 exact C7.ty (ts := [a, b]) (es := [ca, cb]) hL rfl (by simpa using hs) hk
theorem A9j {Q : Prop} (h : Q := by exact ⟨rfl, by rw [A2S, hA]; first | (rw [decide_eq_true (p := k = k') (by omega)]; rfl) | (rw [decide_eq_false (p := k = k') (by omega)]; rfl), rfl⟩) : Q := h
theorem A58 : ∀ (t t' : Ty) (G : IM) (cells cells' : List Value), C2 G t cells → C2 G t' cells' → Fn Tryz.prog 156 [.agg ⟨cells⟩, .agg ⟨cells'⟩] [] G (E5 (.bool (M2 t t')) G) := by
 refine Ty.ind fun k ks ih t' G cells cells' hr hr' => ?_
 obtain ⟨k', ks'⟩ := t'
 obtain ⟨p, c, es, rfl, hk, hsl, hkl⟩ := hr.open
 obtain ⟨p', c', es', rfl, hk', hsl', hkl'⟩ := hr'.open
 simp only [Ty.k, Ty.ks] at hk hsl hkl hk' hsl' hkl' ⊢
 obtain ⟨A, hA⟩ : ∃ A, Z6 ks ks' = A := ⟨_, rfl⟩
 have hA' : A = true ↔ ks.length = ks'.length ∧ ∀ i, i < ks.length → M2 (ks.getD i C1) (ks'.getD i C1) = true := by
  rw [← hA, A3z]
  constructor
  ·rintro ⟨h1, h2⟩
   refine ⟨h1, fun i hi => ?_⟩
   have := h2 i hi (by omega)
   simpa [List.getD_eq_getElem?_getD, List.getElem?_eq_getElem hi, List.getElem?_eq_getElem (show i < ks'.length by omega)] using this
  ·rintro ⟨h1, h2⟩
   refine ⟨h1, fun i hi hi' => ?_⟩
   have := h2 i hi
   simpa [List.getD_eq_getElem?_getD, List.getElem?_eq_getElem hi, List.getElem?_eq_getElem hi'] using this
 refine B8 Tryz.func156 rfl Tryz.ntmps156 Tryz.results156 rfl ?_
 intro w0
 refine A2 ?_
 refine sE (C6 rfl rfl) rfl (fun b3 => ?_)
 refine sE (C6 rfl rfl) rfl (fun b4 => ?_)
 refine D9 ?_
 refine sB (qE rfl rfl) rfl rfl (fun h14 => ?_) (fun h14 => ?_)
 refine B0 ?_
 refine H4 rfl (A8b _ _ _ _ _ _ _ _ _ hsl hsl' _ [] [] [] (fun i => M2 (ks.getD i C1) (ks'.getD i C1)) A hA' (fun i e e' he he' => ih _ (hkl.inv he C1).1 _ _ _ _ (hkl.inv he C1).2 (hkl'.inv he' C1).2)) rfl rfl ?_
 refine A7 ?_
 exact A9j
 refine J8 ?_
 exact A9j
theorem A1Q (k : Int) (a b : Ty) (G : IM) (ca cb : List Value) (hk : H3 k) (hra : C2 G a ca) (hrb : C2 G b cb) :
  Fn Tryz.prog 152 [.int .i64 k, .agg ⟨ca⟩, .agg ⟨cb⟩] [] G (A57 (.mk k [a, b]) G) := by
 obtain ⟨pa, cca, ea, rfl, _⟩ := hra.open
 obtain ⟨pb, ccb, eb, rfl, _⟩ := hrb.open
 refine B8 Tryz.func152 rfl Tryz.ntmps152 Tryz.results152 rfl ?_
 intro w0
 refine A2 ?_
 refine sE (C6 rfl rfl) rfl (fun b3 => ?_)
 refine sE (C6 rfl rfl) rfl (fun b4 => ?_)
 refine sE (A6 rfl) rfl (fun b5 => ?_)
 refine A9 ?_
 (refine J9 (E2 rfl rfl rfl (by omega) (by unfold maxLen; omega) rfl) rfl ?_; rintro _ ⟨b13, rfl⟩)
 refine B6 ?_
 (refine H8 (by repeat (first | exact Pk.here | apply Pk.there)) (fun G5 hle5 hsl5 hno5 => ?_))
 refine tT ?_
 refine L9 (rC rfl (A4 rfl rfl)) ?_
 exact ⟨rfl, _, rfl, B3F hk (hra.mono hle5) (hrb.mono hle5) hsl5⟩
theorem A1v (k tk : Int) (ks : List Ty) : Q7 k (.mk tk ks) = if tk = k then some (ks.getD 0 C1, ks.getD 1 C1) else if tk = 1 then some (R7, R7) else none := rfl
def A9k (k : Int) (t : Ty) (G : IM) : IM → Value → List A5 → Prop := L5 fun G' v => ∃ a ca b cb, v = .tuple ⟨[.agg ⟨ca⟩, .agg ⟨cb⟩, .bool (Q7 k t).isSome]⟩ ∧ C2 G' a ca ∧ C2 G' b cb ∧ F8 a ∧ F8 b ∧ ∀ p, Q7 k t = some p → p = (a, b)
theorem A9l (k : Int) (t : Ty) (G : IM) (cells : List Value) (hk : k = 4 ∨ k = 5) (ha : F8 t) (hr : C2 G t cells) :
  Fn Tryz.prog 153 [.agg ⟨cells⟩, .int .i64 k] [] G (A9k k t G) := by
 obtain ⟨tk, ks⟩ := t
 have ha2 := ha
 rw [F8] at ha2
 have hkid := ha.kid
 obtain ⟨p, c, es, rfl, htk, hsl, hkl⟩ := hr.open
 simp only [Ty.k, Ty.ks] at htk hsl hkl ⊢
 refine B8 Tryz.func153 rfl Tryz.ntmps153 Tryz.results153 rfl ?_
 intro w0
 refine A2 ?_
 refine sE (C6 rfl rfl) rfl (fun b3 => ?_)
 refine sE (A6 rfl) rfl (fun b4 => ?_)
 refine sE (A6 rfl) rfl (fun b5 => ?_)
 refine I9 ?_
 refine B7 (tS (tR (sQ (qM rfl) rfl (sB (qE rfl rfl) rfl rfl (fun h20 => ?_) (fun h20 => ?_)))))
 refine B0 ?_
 (have hlen : ks.length = 2 := ha2.1 (by omega); obtain ⟨b, o, q0, d0, hp0, hat0, hre0, hg0⟩ := hsl.kidTy hkl (i := 0) (by omega) (by omega); obtain ⟨b', o', q1, d1, hp1, hat1, hre1, hg1⟩ := hsl.kidTy hkl (i := 1) (by omega) (by omega); subst hp0; cases hp1; refine E1 E3 rfl ?_)
 refine K2 (i := 0) (l' := [tt,ff,ff,ff,ff,ff,ff,ff,ff,ff,ff]) rfl D5 (C0 rfl) rfl (by kernel_rfl) rfl rfl ?_
 refine aL 1 rfl (C9 rfl rfl) rfl ?_
 refine aP 2 rfl (B2 (j := 0) rfl rfl rfl (by omega)) rfl ?_
 refine aL 3 rfl (A0 rfl rfl (hat0 _) rfl) rfl ?_
 refine aP 4 rfl (C0 rfl) rfl ?_
 refine aL 5 rfl (C9 rfl rfl) rfl ?_
 refine aP 6 rfl (B2 (j := 1) rfl rfl rfl (by omega)) rfl ?_
 refine aL 7 rfl (A0 rfl rfl (hat1 _) rfl) rfl ?_
 refine A3 8 ?_
 refine H6 rfl ?_
 refine A3 9 ?_
 refine H6 rfl ?_
 refine aP 10 rfl (qA rfl) rfl ?_
 refine B0 ?_
 refine D2 (rC rfl (A4 rfl rfl)) (rC rfl (A4 rfl rfl)) (rT rfl) ?_
 (refine ⟨rfl, _, _, _, _, ?_, hre0, hre1, hkid _ (List.getElem_mem (by omega)), hkid _ (List.getElem_mem (by omega)), ?_⟩ <;> rw [A1v, if_pos (by omega)] <;> first | rfl | (intro p hp; cases hp; simp [hlen]))
 refine A7 ?_
 refine sB (qE rfl rfl) rfl rfl (fun h53 => ?_) (fun h53 => ?_)
 refine A7 ?_
 refine H4 rfl ((A04 _ _)) rfl rfl ?_
 refine H4 rfl ((A04 _ _)) rfl rfl ?_
 refine D0 ?_
 refine D2 (rC rfl (A4 rfl rfl)) (rC rfl (A4 rfl rfl)) (rT rfl) ?_
 (refine ⟨rfl, _, _, _, _, ?_, A2h _, A2h _, A4m, A4m, ?_⟩ <;> rw [A1v, if_neg (by omega), if_pos (by omega)] <;> first | rfl | (intro p hp; cases hp; rfl))
 refine Q0 ?_
 refine D2 (rC rfl (A4 rfl rfl)) (rC rfl (A4 rfl rfl)) (rT rfl) ?_
 (refine ⟨rfl, C1, _, C1, _, ?_, Q3 _ ⟨by omega, by omega⟩, Q3 _ ⟨by omega, by omega⟩, W2 (by omega) (by omega), W2 (by omega) (by omega), ?_⟩ <;> rw [A1v, if_neg (by omega), if_neg (by omega)] <;> first | rfl | (intro p hp; cases hp))
def A25 (G : IM) (b : ByteArray × Ty) (e : List Value) : Prop := ∃ q d, e = [.string b.1, .int .i64 b.2.k, .slice q b.2.ks.length d] ∧ C2 G b.2 [.int .i64 b.2.k, .slice q b.2.ks.length d]
theorem A25.mono {G G' : IM} {b : ByteArray × Ty} {e : List Value} (h : A25 G b e) (hg : C5 G G') : A25 G' b e := by
 obtain ⟨q, d, h1, h2⟩ := h
 exact ⟨q, d, h1, h2.mono hg⟩
def R4 (G : IM) (cx : Cx) (p : Option Addr) (n c : Nat) : Prop := n = cx.length ∧ ∃ es : List (List Value), C8 G p n c 3 es ∧ ∀ (i : Nat) (b : ByteArray × Ty), cx[i]? = some b → ∃ e, es[i]? = some e ∧ A25 G b e
theorem R4.mono {G G' : IM} {cx : Cx} {p : Option Addr} {n c : Nat} (h : R4 G cx p n c) (hg : C5 G G') : R4 G' cx p n c := by
 obtain ⟨h1, es, h2, h3⟩ := h
 refine ⟨h1, es, h2.mono hg, fun i b hb => ?_⟩
 obtain ⟨e, he, hr⟩ := h3 i b hb
 exact ⟨e, he, hr.mono hg⟩
theorem R4.nil (G : IM) : R4 G [] none 0 0 := ⟨rfl, [], C8.nil _ _, by simp⟩
theorem R4.le {G : IM} {cx : Cx} {p : Option Addr} {n c : Nat} (h : R4 G cx p n c) : n ≤ 9223372036854775807 := by
 obtain ⟨h1, es, h2, h3⟩ := h
 exact h2.le
theorem R4.get {G : IM} {cx : Cx} {p : Option Addr} {n c : Nat} (h : R4 G cx p n c) {i : Nat} (hi : i < n) :
  ∃ b o nm t q d, cx[i]? = some (nm, t) ∧ p = some ⟨b, o, none⟩ ∧ (∀ hp, At hp G b (o + i * 3) [.string nm, .int .i64 t.k, .slice q t.ks.length d]) ∧ C2 G t [.int .i64 t.k, .slice q t.ks.length d] ∧ G b ≠ none := by
 obtain ⟨h1, es, h2, h3⟩ := h
 obtain ⟨e, b, o, he, rfl, hl, _, hat, hgb⟩ := h2.get (i := i) (by omega)
 have hx : cx[i]? = some cx[i] := List.getElem?_eq_getElem (by omega)
 obtain ⟨e', he', q, d, h4, h5⟩ := h3 i _ hx
 rw [he] at he'
 obtain rfl := Option.some.inj he'
 rw [h4] at hat
 exact ⟨b, o, cx[i].1, cx[i].2, q, d, hx, rfl, hat, h5, hgb⟩
theorem B3G (G : IM) (cx : Cx) (p : Option Addr) (n c : Nat) (nm : ByteArray) (hx : R4 G cx p n c) :
  Fn Tryz.prog 151 [.slice p n c, .string nm] [] G (W4 (A0G cx nm) G) := by
 have hn := hx.le
 have hn1 := hx.1
 refine B8 Tryz.func151 rfl Tryz.ntmps151 Tryz.results151 rfl ?_
 intro w0
 refine A2 ?_
 refine sE (A6 rfl) rfl (fun b3 => ?_)
 refine D0 ?_
 refine sP (V9 rfl rfl (by omega) (by omega)) rfl rfl ?_
 refine B9 ?_
 refine B7 ?_
 (refine I3 (fun (i : Nat) => ⟨[(6, .int .i64 ((i : Int) - 1)), (0, .slice p n c), (1, .string nm), (4, .pointer (some ⟨b3, 0, none⟩))], [.blk b3 [.int .i64 0, .slice none 0 0]], G⟩) (fun i => i ≤ n ∧ A0r cx nm i = A0G cx nm) (fun i => i) n ?_ ?_ ?_)
 exact D3
 exact ⟨Nat.le_refl _, by rw [hn1]; rfl⟩
 (rintro i ⟨hi, hlk⟩)
 refine B6 ?_
 refine sB (A01 rfl rfl) rfl rfl (fun h25 => ?_) (fun h25 => ?_)
 refine A7 ?_
 (show K3 _ _ (.block 1 _) _ _; obtain ⟨j, rfl⟩ : ∃ j, i = j + 1 := ⟨i - 1, by omega⟩; rw [show ((j + 1 : Nat) : Int) - 1 = (j : Int) from by omega]; obtain ⟨b, o, nm1, t1, q1, d1, hcx, rfl, hat, hr1, hgb⟩ := hx.get (i := j) (by omega); refine B7 ?_)
 refine B6 ?_
 refine sP (B2 rfl rfl rfl (by omega)) rfl rfl ?_
 refine E0 ?_
 refine sL (A0j rfl rfl ((hat _).sub (j := 0) rfl)) rfl rfl ?_
 refine E0 ?_
 refine sB (A1Y rfl rfl) rfl rfl (fun h41 => ?_) (fun h41 => ?_)
 refine A9 ?_
 refine sP (B2 rfl rfl rfl (by omega)) rfl rfl ?_
 refine E0 ?_
 refine sL (A0 rfl rfl (hat _).drop rfl) rfl rfl ?_
 refine I9 ?_
 refine E9 (rC rfl (A4 rfl rfl)) (rT rfl) ?_
 (rw [A8C hcx (by assumption)] at hlk; rw [← hlk]; exact ⟨rfl, _, _, rfl, hr1, fun t ht => by cases ht; rfl⟩)
 refine D0 ?_
 refine sP (V9 rfl rfl (by omega) (by omega)) rfl rfl ?_
 refine A2 ?_
 refine I7 j ?_ ?_ ?_
 exact D3
 (rw [A8D hcx (by assumption)] at hlk; exact ⟨by omega, hlk⟩)
 (show _ < _ + 1; omega)
 refine J3 ?_
 refine E9 (rC rfl (A4 rfl rfl)) (rT rfl) ?_
 (obtain rfl : i = 0 := (by omega); rw [A0r] at hlk; rw [← hlk]; exact ⟨rfl, _, C1, rfl, Q3 _ ⟨by omega, by omega⟩, fun t ht => by cases ht⟩)
theorem B3H {xs ys : List Ty} (h : xs.length = 2) (h' : ys.length = 2) : S6 xs ys = [T4 (xs[0]'(by omega)) (ys[0]'(by omega)), T4 (xs[1]'(by omega)) (ys[1]'(by omega))] := by
 match xs, ys, h, h' with
 | [a, b], [c, d], _, _ => rfl
theorem B3I {k k' : Int} {ks bs : List Ty} (h : K0 (.mk k ks) (.mk k' bs) = true) (hk : k ≠ 1) (hk' : k' ≠ 1) : k = k' ∧ O8 ks bs = true := by
 rw [A0c] at h
 simpa [hk, hk'] using h
theorem A9m : ∀ (a b : Ty) (G : IM) (ca cb : List Value), K0 a b = true → F8 a → F8 b → C2 G a ca → C2 G b cb →
  Fn Tryz.prog 155 [.agg ⟨ca⟩, .agg ⟨cb⟩] [] G (A57 (T4 a b) G) := by
 refine Ty.ind fun k ks ih b G ca cb hc haa hab hra hrb => ?_
 have hsa := haa.small
 have hsb := hab.small
 obtain ⟨bk, bks⟩ := b
 have hra0 := hra
 have hrb0 := hrb
 have ha2 := haa
 have hb2 := hab
 rw [F8] at ha2 hb2
 have hkida := haa.kid
 have hkidb := hab.kid
 obtain ⟨p, c, es, rfl, hk, hsl, hkl⟩ := hra.open
 obtain ⟨p', c', es', rfl, hk', hsl', hkl'⟩ := hrb.open
 simp only [Ty.k, Ty.ks] at hk hsl hkl hk' hsl' hkl' ⊢
 have hn := hsl.le
 rw [A2U]
 refine B8 Tryz.func155 rfl Tryz.ntmps155 Tryz.results155 rfl ?_
 intro w0
 refine A2 ?_
 refine sE (C6 rfl rfl) rfl (fun b3 => ?_)
 refine sE (C6 rfl rfl) rfl (fun b4 => ?_)
 refine sE (A6 rfl) rfl (fun b5 => ?_)
 refine B9 ?_
 refine B7 ?_
 refine B6 ?_
 refine sB (qE rfl rfl) rfl rfl (fun h14 => ?_) (fun h14 => ?_)
 refine A9 ?_
 (refine D4 rfl (A1p _ _ _ hsb hrb0) rfl rfl (fun v G1 hle1 hh => ?_); obtain ⟨cs1, F1, rfl, hs1, hn1⟩ := hh; obtain ⟨p1, c1, rfl, _⟩ := hs1.open; have hr1 := hs1.R.mono (B5.le G1 _))
 refine A7 ?_
 refine L9 (rC rfl (A4 rfl rfl)) ?_
 (rw [if_pos (by omega)]; exact ⟨rfl, _, rfl, hr1⟩)
 refine D0 ?_
 refine sB (qE rfl rfl) rfl rfl (fun h39 => ?_) (fun h39 => ?_)
 refine J6 ?_
 (refine D4 rfl (A1p _ _ _ hsa hra0) rfl rfl (fun v G1 hle1 hh => ?_); obtain ⟨cs1, F1, rfl, hs1, hn1⟩ := hh; obtain ⟨p1, c1, rfl, _⟩ := hs1.open; have hr1 := hs1.R.mono (B5.le G1 _))
 refine A7 ?_
 refine L9 (rC rfl (A4 rfl rfl)) ?_
 (rw [if_neg (by omega)]; split <;> first | exact ⟨rfl, _, rfl, hr1⟩ | (obtain rfl : ks = [] := List.length_eq_zero_iff.1 (by omega); rw [S6]; exact ⟨rfl, _, rfl, hr1⟩; simp))
 refine B6 ?_
 refine sB (qE rfl rfl) rfl rfl (fun h66 => ?_) (fun h66 => ?_)
 refine D0 ?_
 (refine D4 rfl (A1p _ _ _ hsa hra0) rfl rfl (fun v G1 hle1 hh => ?_); obtain ⟨cs1, F1, rfl, hs1, hn1⟩ := hh; obtain ⟨p1, c1, rfl, _⟩ := hs1.open; have hr1 := hs1.R.mono (B5.le G1 _))
 refine A7 ?_
 refine L9 (rC rfl (A4 rfl rfl)) ?_
 (rw [if_neg (by omega)]; split <;> first | exact ⟨rfl, _, rfl, hr1⟩ | (obtain rfl : ks = [] := List.length_eq_zero_iff.1 (by omega); rw [S6]; exact ⟨rfl, _, rfl, hr1⟩; simp))
 refine D9 ?_
 (obtain ⟨hkk, hcl0⟩ := B3I hc (by omega) (by omega); subst hkk; have hcl := (A17 _ _).1 hcl0; have hlen : ks.length = 2 := (by have := ha2.2.1; have := ha2.1; omega); have hlen' : bks.length = 2 := (by omega); obtain ⟨b0, o0, q0, d0, hp0, hat0, hre0, hg0⟩ := hsl.kidTy hkl (i := 0) (by omega) (by omega); obtain ⟨b1, o1, q1, d1, hp1, hat1, hre1, hg1⟩ := hsl.kidTy hkl (i := 1) (by omega) (by omega); subst hp0; cases hp1; obtain ⟨b2, o2, q2, d2, hp2, hat2, hre2, hg2⟩ := hsl'.kidTy hkl' (i := 0) (by omega) (by omega); obtain ⟨b3, o3, q3, d3, hp3, hat3, hre3, hg3⟩ := hsl'.kidTy hkl' (i := 1) (by omega) (by omega); subst hp2; cases hp3; have hM1 := ih ks[0] (List.getElem_mem (by omega)) bks[0] G _ _ (hcl.2 0 (by omega) (by omega)) (hkida _ (List.getElem_mem (by omega))) (hkidb _ (List.getElem_mem (by omega))) hre0 hre2; refine E1 E3 rfl ?_)
 refine K2 (i := 0) (l' := [tt,ff,ff,ff,ff,ff,ff,ff,ff,ff,ff,ff,ff,ff,ff,ff,ff,ff,ff,ff,ff,ff]) rfl D5 (C0 rfl) rfl (by kernel_rfl) rfl rfl ?_
 refine aL 1 rfl (C9 rfl rfl) rfl ?_
 refine aP 2 rfl (C0 rfl) rfl ?_
 refine aL 3 rfl (C9 rfl rfl) rfl ?_
 refine aP 4 rfl (B2 (j := 0) rfl rfl rfl (by omega)) rfl ?_
 refine aL 5 rfl (A0 rfl rfl (hat0 _) rfl) rfl ?_
 refine aP 6 rfl (C0 rfl) rfl ?_
 refine aL 7 rfl (C9 rfl rfl) rfl ?_
 refine aP 8 rfl (B2 (j := 0) rfl rfl rfl (by omega)) rfl ?_
 refine aL 9 rfl (A0 rfl rfl (hat2 _) rfl) rfl ?_
 refine aP 11 rfl (C0 rfl) rfl ?_
 refine aL 12 rfl (C9 rfl rfl) rfl ?_
 refine aP 13 rfl (B2 (j := 1) rfl rfl rfl (by omega)) rfl ?_
 refine aL 14 rfl (A0 rfl rfl (hat1 _) rfl) rfl ?_
 refine aP 15 rfl (C0 rfl) rfl ?_
 refine aL 16 rfl (C9 rfl rfl) rfl ?_
 refine aP 17 rfl (B2 (j := 1) rfl rfl rfl (by omega)) rfl ?_
 refine aL 18 rfl (A0 rfl rfl (hat3 _) rfl) rfl ?_
 refine A3 10 ?_
 (refine H2 rfl rfl hM1 rfl rfl rfl (fun v G1 hle1 hh => ?_); obtain ⟨cm1, rfl, hm1⟩ := hh; have hM2 := ih ks[1] (List.getElem_mem (by omega)) bks[1] G1 _ _ (hcl.2 1 (by omega) (by omega)) (hkida _ (List.getElem_mem (by omega))) (hkidb _ (List.getElem_mem (by omega))) (hre1.mono hle1) (hre3.mono hle1))
 refine A3 19 ?_
 (refine H2 rfl rfl hM2 rfl rfl rfl (fun v G2 hle2 hh => ?_); obtain ⟨cm2, rfl, hm2⟩ := hh; have hB := A1Q k _ _ G2 _ _ hk (hm1.mono hle2) hm2)
 refine A3 20 ?_
 (refine H2 rfl rfl hB rfl rfl rfl (fun v G3 hle3 hh => ?_); obtain ⟨cm3, rfl, hm3⟩ := hh; obtain ⟨p5, c5, e5, rfl, _⟩ := hm3.open)
 refine A3 21 ?_
 refine H6 rfl ?_
 refine B9 ?_
 refine L9 (rC rfl (A4 rfl rfl)) ?_
 (rw [if_neg (by omega), if_neg (by omega)]; rw [B3H hlen hlen']; exact ⟨rfl, _, rfl, hm3⟩)
theorem B3J (G : IM) (p : Option Addr) (n c : Nat) (es : List (List Value)) (h : C8 G p n c 9 es) (h0 : 0 < n) (hn : n ≤ 4294967296) :
  Fn Tryz.prog 228 [.slice p n c] [] G (fun G' v outs => G' = G ∧ ∃ p' c', v = .slice p' n c' ∧ outs = [.slc p' c' 37 9 n es.flatten]) := by
 obtain ⟨hl, hc, hm, hat⟩ := h.sl
 obtain ⟨b, o, full, rfl, hg, hv⟩ := hat.resolve_left (by omega)
 have ho : ∀ u ∈ es.flatten, u.oneCell' = true := by
  intro u hu
  obtain ⟨e, he, hue⟩ := List.mem_flatten.1 hu
  exact List.all_eq_true.1 (h.one e he) u hue
 refine B8 Tryz.func228 rfl Tryz.ntmps228 Tryz.results228 rfl ?_
 intro w0
 refine D9 ?_
 refine sQ (A6Y rfl rfl rfl) rfl ?_
 refine A9 ?_
 (refine J9 (E2 rfl rfl rfl (by omega) (by unfold maxLen; omega) rfl) rfl ?_; rintro _ ⟨b18, rfl⟩)
 refine E0 ?_
 refine X1 rfl rfl rfl rfl rfl (fun _ _ => by repeat (first | exact Sw.here | apply Sw.there)) (A3W hg hv) hl ho (by unfold maxLen; omega) (by omega) rfl (fun pn cn => ?_)
 refine B6 ?_
 refine N4 (rT rfl) A8.refl ?_
 exact ⟨rfl, _, _, by rw [Nat.zero_add], by rw [Nat.zero_add]; rfl⟩
theorem At.mono' {hp : List A5} {G G' : IM} {b o : Nat} {vs : List Value} (hg : C5 G G') (h : At [] G b o vs) : At hp G' b o vs := by
 rcases h with ⟨cs, hm, hv⟩ | ⟨n, c, el, sz, cs, hm, hv⟩ | ⟨full, hx, hv⟩
 ·cases hm
 ·cases hm
 ·exact .inr (.inr ⟨full, hg _ _ hx, hv⟩)
theorem C8.kidD {G : IM} {p : Option Addr} {n c : Nat} {es : List (List Value)} {ks : List Ty} (h : C8 G p n c 2 es) (hk : C7 G ks es) {i : Nat} (hi : i < n) (hn : i < ks.length) :
  ∃ b o q d, p = some ⟨b, o, none⟩ ∧ (∀ hp, At hp G b (o + i * 2) [.int .i64 (ks.getD i C1).k, .slice q (ks.getD i C1).ks.length d]) ∧ C2 G (ks.getD i C1) [.int .i64 (ks.getD i C1).k, .slice q (ks.getD i C1).ks.length d] ∧ G b ≠ none := by
 obtain ⟨b, o, q, d, h1, h2, h3, h4⟩ := h.kidTy hk hi hn
 rw [List.getD_eq_getElem?_getD, List.getElem?_eq_getElem hn, Option.getD_some]
 exact ⟨b, o, q, d, h1, h2, h3, h4⟩
theorem A26 {hs : List Ty} (h : ∀ t ∈ hs, F8 t) {i : Nat} (hi : i < hs.length) : F8 (hs.getD i C1) := by
 rw [List.getD_eq_getElem?_getD, List.getElem?_eq_getElem hi, Option.getD_some]
 exact h _ (List.getElem_mem hi)
def L3 (r : Option (List Ty × Ty)) (G : IM) : IM → Value → List A5 → Prop := L5 fun G' v => ∃ p n c es w cu u, v = .tuple ⟨[.slice p n c, .agg ⟨cu⟩, .bool r.isSome]⟩ ∧ n = w.length ∧ C8 G' p n c 2 es ∧ C7 G' w es ∧ C2 G' u cu ∧ ∀ q, r = some q → q = (w, u)
theorem L3.mk {r : Option (List Ty × Ty)} {G G' : IM} {p : Option Addr} {n c : Nat} {es : List (List Value)} {w : List Ty} {cu : List Value} {u : Ty} {b : Bool} (hl : n = w.length) (hs : Sl G' p n c 2 es.flatten) (hw : C7 G' w es) (hu : C2 G' u cu) (h : r = if b = true then some (w, u) else none) :
  L3 r G G' (.tuple ⟨[.slice p n c, .agg ⟨cu⟩, .bool b]⟩) [] := by
 refine ⟨rfl, p, n, c, es, w, cu, u, ?_, hl, C8.of hs (by rw [hw.len, hl]) hw.all (fun e he => (hw.each e he).2), hw, hu, ?_⟩
 ·subst h; cases b <;> rfl
 ·subst h; cases b
  ·simp
  ·intro q hq; simpa using hq.symm
theorem L3.nil {r : Option (List Ty × Ty)} {G G' : IM} {cu : List Value} {u : Ty} {b : Bool} (hu : C2 G' u cu) (h : r = if b = true then some ([], u) else none) :
  L3 r G G' (.tuple ⟨[.slice none 0 0, .agg ⟨cu⟩, .bool b]⟩) [] := L3.mk (es := []) rfl (Sl.nil _ _) (by simp [C7]) hu h
theorem L3.one {r : Option (List Ty × Ty)} {G G' : IM} {p : Option Addr} {c : Nat} {a : Ty} {ca : List Value} {cu : List Value} {u : Ty} {b : Bool} (hs : Sl G' p 1 c 2 ca) (ha : C2 G' a ca) (hu : C2 G' u cu) (h : r = if b = true then some ([a], u) else none) :
  L3 r G G' (.tuple ⟨[.slice p 1 c, .agg ⟨cu⟩, .bool b]⟩) [] := L3.mk (es := [ca]) (w := [a]) rfl (by simpa using hs) ⟨_, _, rfl, ha, rfl⟩ hu h
theorem L3.two {r : Option (List Ty × Ty)} {G G' : IM} {p : Option Addr} {c : Nat} {a a2 : Ty} {ca ca2 : List Value} {cu : List Value} {u : Ty} {b : Bool} (hs : Sl G' p 2 c 2 (ca ++ ca2)) (ha : C2 G' a ca) (ha2 : C2 G' a2 ca2) (hu : C2 G' u cu) (h : r = if b = true then some ([a, a2], u) else none) :
  L3 r G G' (.tuple ⟨[.slice p 2 c, .agg ⟨cu⟩, .bool b]⟩) [] := L3.mk (es := [ca, ca2]) (w := [a, a2]) rfl (by simpa using hs) ⟨_, _, rfl, ha, _, _, rfl, ha2, rfl⟩ hu h
theorem L3.three {r : Option (List Ty × Ty)} {G G' : IM} {p : Option Addr} {c : Nat} {a a2 a3 : Ty} {ca ca2 ca3 : List Value} {cu : List Value} {u : Ty} {b : Bool} (hs : Sl G' p 3 c 2 (ca ++ (ca2 ++ ca3))) (ha : C2 G' a ca) (ha2 : C2 G' a2 ca2) (ha3 : C2 G' a3 ca3) (hu : C2 G' u cu) (h : r = if b = true then some ([a, a2, a3], u) else none) :
  L3 r G G' (.tuple ⟨[.slice p 3 c, .agg ⟨cu⟩, .bool b]⟩) [] := L3.mk (es := [ca, ca2, ca3]) (w := [a, a2, a3]) rfl (by simpa using hs) ⟨_, _, rfl, ha, _, _, rfl, ha2, _, _, rfl, ha3, rfl⟩ hu h
section
variable {cx : Cx} {nm : ByteArray} {ty : Ty} {h : List Ty}
theorem mW1 : N7 cx 1 nm ty h = match A0G cx nm with | some t => some ([], t) | none => none := rfl
theorem mW2 : N7 cx 2 nm ty h = some ([], S1) := rfl
theorem A3N {k : Int} (hk : k = 3 ∨ k = 4) : N7 cx k nm ty h = some ([], Y5) := by rcases hk with rfl | rfl <;> rfl
theorem mW5 : N7 cx 5 nm ty h = some ([], .mk 4 [ty, h.getD 0 C1]) := rfl
theorem mW6 : N7 cx 6 nm ty h = match Q7 4 (h.getD 0 C1) with | some (a, b) => if K0 (h.getD 1 C1) a = true then some ([.mk 4 [a, b], a], b) else none | none => none := rfl
theorem U3 {k : Int} (hk : k = 7 ∨ k = 8) : N7 cx k nm ty h = if K0 (h.getD 0 C1) S1 = true ∧ K0 (h.getD 1 C1) S1 = true then some ([S1, S1], if k = 8 then Y5 else S1) else none := by rcases hk with rfl | rfl <;> rfl
theorem mW9 : N7 cx 9 nm ty h = if K0 (h.getD 0 C1) Y5 = true ∧ K0 (h.getD 1 C1) (h.getD 2 C1) = true then some ([Y5, T4 (h.getD 1 C1) (h.getD 2 C1), T4 (h.getD 1 C1) (h.getD 2 C1)], T4 (h.getD 1 C1) (h.getD 2 C1)) else none := rfl
theorem A4A : N7 cx 10 nm ty h = some ([], .mk 5 [h.getD 0 C1, h.getD 1 C1]) := rfl
theorem A2r : N7 cx 13 nm ty h = if K0 (h.getD 0 C1) ty = true then some ([ty], ty) else none := rfl
theorem A27 {k : Int} (hk : k = 11 ∨ k = 12) : N7 cx k nm ty h = match Q7 5 (h.getD 0 C1) with | some (a, b) => some ([.mk 5 [a, b]], if k = 12 then b else a) | none => none := by rcases hk with rfl | rfl <;> rfl
end
theorem K1 (G : IM) : C2 G S1 [.int .i64 2, .slice none 0 0] := Q3 G ⟨by omega, by omega⟩
theorem A0i (G : IM) : C2 G Y5 [.int .i64 3, .slice none 0 0] := Q3 G ⟨by omega, by omega⟩
theorem A9n {Q : Prop} (h : Q := by (have hk1 : k = 9 := (by omega); subst hk1; exact L3.three hsl5 (A0i _) (hrM.mono hle5) (hrM.mono hle5) (hrM.mono hle5) (by rw [mW9, if_pos ⟨by assumption, by assumption⟩]; rfl))) : Q := h
theorem A9o {Q : Prop} (h : Q := by (have hk1 : k = 9 := (by omega); subst hk1; exact L3.nil (u := C1) (Q3 _ ⟨by omega, by omega⟩) (by rw [mW9, if_neg (fun hc => by first | exact Bool.noConfusion (hc.1.symm.trans (by assumption)) | exact Bool.noConfusion (hc.2.symm.trans (by assumption)) | exact Bool.noConfusion (hc.symm.trans (by assumption)))]; rfl))) : Q := h
theorem B3K (cx : Cx) (k : Int) (nm : ByteArray) (num : Int) (ty fr : Ty) (lb : Int) (ks : List Tm) (h : List Ty) (G : IM) (pc : Option Addr) (nc cc : Nat) (cells : List Value) (p : Option Addr) (n c : Nat) (es : List (List Value))
  (hx : R4 G cx pc nc cc) (hops : F0 k = n) (hnl : n = h.length) (hk14 : k ≠ 14) (hta : F8 ty) (hr : B3 G (.mk k nm num ty fr lb ks) cells) (hsl : C8 G p n c 2 es) (hkl : C7 G h es) (har : ∀ t ∈ h, F8 t) :
  Fn Tryz.prog 110 [.slice pc nc cc, .agg ⟨cells⟩, .slice p n c] [] G (L3 (N7 cx k nm ty h) G) := by
 have hone := hr.one
 have hop := A2X hops
 have hkr : 1 ≤ k ∧ k ≤ 14 := by
  apply Classical.byContradiction
  intro hc
  rw [A5n hc] at hops; omega
 obtain ⟨tyk, tyks⟩ := ty
 obtain ⟨fk, fks⟩ := fr
 obtain ⟨pt, ct, pf, cf, pk, ck, ek, rfl, hk, hnum, hlb, hrty, hrfr, _, _⟩ := hr.open9
 refine B8 Tryz.func110 rfl Tryz.ntmps110 Tryz.results110 rfl ?_
 intro w0
 refine A2 ?_
 refine sE (C6 rfl rfl) rfl (fun b3 => ?_)
 refine E0 ?_
 refine sE (A6 rfl) rfl (fun b5 => ?_)
 refine B0 ?_
 refine H4 rfl ((A04 _ _)) rfl rfl ?_
 refine H4 rfl ((A04 _ _)) rfl rfl ?_
 refine sE (A6 rfl) rfl (fun b13 => ?_)
 refine sE (A6 rfl) rfl (fun b14 => ?_)
 refine H0 ?_
 refine B7 (tS (tR (sB (qE rfl rfl) rfl rfl (fun h29 => ?_) (fun h29 => ?_))))
 refine D9 ?_
 (refine D4 rfl (B3G G cx pc nc cc nm hx) rfl rfl (fun v G1 hle1 hh => ?_); obtain ⟨cu, u, rfl, hru, hu⟩ := hh; obtain ⟨p1, c1, e1, rfl, _⟩ := hru.open)
 refine B9 ?_
 refine sE (A6 rfl) rfl (fun b43 => ?_)
 refine B0 ?_
 refine E1 E3 rfl ?_
 refine K9 (i := 0) (l' := [tt,ff,ff,ff,ff]) rfl D5 (A4 rfl rfl) rfl (by kernel_rfl) rfl rfl ?_
 refine aP 1 rfl (qM rfl) rfl ?_
 refine aP 2 rfl (qA rfl) rfl ?_
 refine A3 3 ?_
 refine H6 rfl ?_
 refine aP 4 rfl (qA rfl) rfl ?_
 refine B0 ?_
 refine D2 (rT rfl) (rC rfl (A4 rfl rfl)) (rT rfl) ?_
 (have hk1 : k = 1 := (by omega); subst hk1; rw [mW1]; refine L3.nil hru ?_; generalize A0G cx nm = r at hu ⊢; cases r with | none => rfl | some t => (rw [hu t rfl]; rfl))
 refine A7 ?_
 refine sB (qE rfl rfl) rfl rfl (fun h69 => ?_) (fun h69 => ?_)
 refine B0 ?_
 refine E1 E3 rfl ?_
 refine K9 (i := 0) (l' := [tt,ff,ff,ff]) rfl D5 (A4 rfl rfl) rfl (by kernel_rfl) rfl rfl ?_
 refine aP 1 rfl (qA rfl) rfl ?_
 refine A3 2 ?_
 refine H6 rfl ?_
 refine aP 3 rfl (qA rfl) rfl ?_
 refine B0 ?_
 refine D2 (rT rfl) (rC rfl (A4 rfl rfl)) (rT rfl) ?_
 (have hk1 : k = 2 := (by omega); subst hk1; exact L3.nil (K1 _) mW2)
 refine A9 ?_
 refine sB (qE rfl rfl) rfl rfl (fun h95 => ?_) (fun h95 => ?_)
 refine D0 ?_
 refine E1 E3 rfl ?_
 refine K9 (i := 0) (l' := [tt,ff,ff,ff]) rfl D5 (A4 rfl rfl) rfl (by kernel_rfl) rfl rfl ?_
 refine aP 1 rfl (qA rfl) rfl ?_
 refine A3 2 ?_
 refine H6 rfl ?_
 refine aP 3 rfl (qA rfl) rfl ?_
 refine B0 ?_
 refine D2 (rT rfl) (rC rfl (A4 rfl rfl)) (rT rfl) ?_
 (exact L3.nil (A0i _) (by rw [A3N (by omega)]; rfl))
 refine B0 ?_
 refine sB (qE rfl rfl) rfl rfl (fun h122 => ?_) (fun h122 => ?_)
 refine B0 ?_
 refine E1 E3 rfl ?_
 refine K9 (i := 0) (l' := [tt,ff,ff,ff]) rfl D5 (A4 rfl rfl) rfl (by kernel_rfl) rfl rfl ?_
 refine aP 1 rfl (qA rfl) rfl ?_
 refine A3 2 ?_
 refine H6 rfl ?_
 refine aP 3 rfl (qA rfl) rfl ?_
 refine B0 ?_
 refine D2 (rT rfl) (rC rfl (A4 rfl rfl)) (rT rfl) ?_
 (exact L3.nil (A0i _) (by rw [A3N (by omega)]; rfl))
 refine A7 ?_
 refine sB (qE rfl rfl) rfl rfl (fun h147 => ?_) (fun h147 => ?_)
 refine B0 ?_
 (have hl1 : n = 1 := hop.2.2 (by omega); obtain ⟨b0, o0, q0, d0, hp0, hat0, hre0, hg0⟩ := hsl.kidD hkl (i := 0) (by omega) (by omega); cases hp0; refine E1 E3 rfl ?_)
 refine K2 (i := 0) (l' := [tt,ff,ff,ff,ff,ff,ff,ff,ff]) rfl D5 (C0 rfl) rfl (by kernel_rfl) rfl rfl ?_
 refine aL 1 rfl (A4 rfl rfl) rfl ?_
 refine aP 2 rfl (qM rfl) rfl ?_
 refine aP 3 rfl (B2 (j := 0) rfl rfl rfl (by omega)) rfl ?_
 refine aL 4 rfl (A0 rfl rfl (hat0 _) rfl) rfl ?_
 refine A3 5 ?_
 (refine H2 rfl rfl (A1Q 4 _ _ _ _ _ ⟨by omega, by omega⟩ hrty hre0) rfl rfl rfl (fun v GB hleB hh => ?_); obtain ⟨cB, rfl, hrB⟩ := hh; obtain ⟨p7, c7, e7, rfl, _⟩ := hrB.open)
 refine aP 6 rfl (qA rfl) rfl ?_
 refine A3 7 ?_
 refine H6 rfl ?_
 refine aP 8 rfl (qA rfl) rfl ?_
 refine B0 ?_
 refine D2 (rT rfl) (rC rfl (A4 rfl rfl)) (rT rfl) ?_
 (have hk1 : k = 5 := (by omega); subst hk1; exact L3.nil hrB mW5)
 refine A7 ?_
 refine sB (qE rfl rfl) rfl rfl (fun h178 => ?_) (fun h178 => ?_)
 refine A9 ?_
 (have hl2 : n = 2 := hop.1 (by omega); obtain ⟨b0, o0, q0, d0, hp0, hat0, hre0, hg0⟩ := hsl.kidD hkl (i := 0) (by omega) (by omega); cases hp0; refine sP (B2 (j := 0) rfl rfl rfl (by omega)) rfl rfl ?_)
 refine sL (A0 rfl rfl (hat0 _) rfl) rfl rfl ?_
 (refine D4 rfl (A9l 4 (h.getD 0 C1) G _ (.inl rfl) (A26 har (by omega)) hre0) rfl rfl (fun v G1 hle1 hh => ?_); obtain ⟨ma, mca, mb, mcb, rfl, hma, hmb, hma2, hmb2, hmm⟩ := hh; obtain ⟨p1, c1, e1, rfl, _⟩ := hma.open; obtain ⟨p2, c2, e2, rfl, _⟩ := hmb.open; replace hsl := hsl.mono hle1; replace hkl := hkl.mono hle1; generalize hmi : (Q7 4 (h.getD 0 C1)).isSome = mi; cases mi)
 refine B6 ?_
 refine sE (A6 rfl) rfl (fun b193 => ?_)
 refine sE (A6 rfl) rfl (fun b194 => ?_)
 refine A7 ?_
 (have hl2 : n = 2 := hop.1 (by omega); obtain ⟨b0, o0, q0, d0, hp0, hat0, hre0, hg0⟩ := hsl.kidD hkl (i := 0) (by omega) (by omega); obtain ⟨b1, o1, q1, d1, hp1, hat1, hre1, hg1⟩ := hsl.kidD hkl (i := 1) (by omega) (by omega); cases hp0; cases hp1; refine E1 E3 rfl ?_)
 refine K9 (i := 0) (l' := [tt,ff,ff,ff,ff,ff,ff,ff,ff,ff,ff,ff,ff,ff,ff,ff,ff]) rfl D5 (A4 rfl rfl) rfl (by kernel_rfl) rfl rfl ?_
 refine aL 1 rfl (A4 rfl rfl) rfl ?_
 refine aL 3 rfl (A4 rfl rfl) rfl ?_
 refine aL 5 rfl (A4 rfl rfl) rfl ?_
 refine aP 6 rfl (qM rfl) rfl ?_
 refine A3 2 ?_
 (refine H2 rfl rfl (A1Q _ ma mb _ _ _ ⟨by omega, by omega⟩ hma hmb) rfl rfl rfl (fun v GB hleB hh => ?_); obtain ⟨cB, rfl, hrB⟩ := hh; obtain ⟨p7, c7, e7, rfl, _⟩ := hrB.open; have hma' := hma.mono hleB; have hmb' := hmb.mono hleB)
 refine aP 7 rfl (qM rfl) rfl ?_
 refine C4 8 rfl rfl rfl ?_
 refine C4 9 rfl rfl rfl ?_
 refine C4 10 rfl rfl rfl ?_
 refine C4 11 rfl rfl rfl ?_
 refine P9 (j := 4) (j' := 12) (by kernel_rfl) ?_ ?_
 (refine E6 rfl (E2 rfl rfl rfl (by omega) (by unfold maxLen; omega) rfl) rfl rfl ?_; rintro _ ⟨b215, rfl⟩)
 refine C4 12 rfl rfl rfl ?_
 refine aP 13 rfl (O1 rfl rfl) rfl ?_
 refine aP 14 rfl (qA rfl) rfl ?_
 refine A3 15 ?_
 refine H6 rfl ?_
 refine aP 16 rfl (qA rfl) rfl ?_
 refine A2 ?_
 (refine H8 Pk.here (fun G5 hle5 hsl5 hno5 => ?_))
 refine B9 ?_
 refine D2 (rT rfl) (rC rfl (A4 rfl rfl)) (rT rfl) ?_
 (have hk1 : k = 6 := (by omega); subst hk1; refine L3.two hsl5 (hrB.mono hle5) (hma'.mono hle5) (hmb'.mono hle5) ?_; rw [mW6]; cases hq : Q7 4 (h.getD 0 C1) with | none => rfl | some q => (rw [hq] at hmi; cases hmi))
 refine A5k (l' := [tt,tt,tt,tt,ff,tt,tt,tt,tt,tt,tt,tt,tt,ff,ff,ff,ff]) rfl rfl rfl rfl ?_
 refine aP 13 rfl (O1 rfl rfl) rfl ?_
 refine A3 4 ?_
 (refine E6 rfl (E2 rfl rfl rfl (by omega) (by unfold maxLen; omega) rfl) rfl rfl ?_; rintro _ ⟨b233, rfl⟩)
 refine aP 14 rfl (qA rfl) rfl ?_
 refine A3 15 ?_
 refine H6 rfl ?_
 refine aP 16 rfl (qA rfl) rfl ?_
 refine A2 ?_
 (refine H8 Pk.here (fun G5 hle5 hsl5 hno5 => ?_))
 refine B9 ?_
 refine D2 (rT rfl) (rC rfl (A4 rfl rfl)) (rT rfl) ?_
 (have hk1 : k = 6 := (by omega); subst hk1; refine L3.two hsl5 (hrB.mono hle5) (hma'.mono hle5) (hmb'.mono hle5) ?_; rw [mW6]; cases hq : Q7 4 (h.getD 0 C1) with | none => rfl | some q => (rw [hq] at hmi; cases hmi))
 refine B6 ?_
 refine sE (A6 rfl) rfl (fun b250 => ?_)
 refine sE (A6 rfl) rfl (fun b251 => ?_)
 refine A7 ?_
 (have hl2 : n = 2 := hop.1 (by omega); obtain ⟨b0, o0, q0, d0, hp0, hat0, hre0, hg0⟩ := hsl.kidD hkl (i := 0) (by omega) (by omega); obtain ⟨b1, o1, q1, d1, hp1, hat1, hre1, hg1⟩ := hsl.kidD hkl (i := 1) (by omega) (by omega); cases hp0; cases hp1; refine E1 E3 rfl ?_)
 refine K9 (i := 0) (l' := [tt,ff,ff,ff,ff,ff,ff,ff,ff,ff,ff,ff,ff,ff,ff,ff,ff]) rfl D5 (A4 rfl rfl) rfl (by kernel_rfl) rfl rfl ?_
 refine aL 1 rfl (A4 rfl rfl) rfl ?_
 refine aL 3 rfl (A4 rfl rfl) rfl ?_
 refine aL 5 rfl (A4 rfl rfl) rfl ?_
 refine aP 6 rfl (qM rfl) rfl ?_
 refine A3 2 ?_
 (refine H2 rfl rfl (A1Q _ ma mb _ _ _ ⟨by omega, by omega⟩ hma hmb) rfl rfl rfl (fun v GB hleB hh => ?_); obtain ⟨cB, rfl, hrB⟩ := hh; obtain ⟨p7, c7, e7, rfl, _⟩ := hrB.open; have hma' := hma.mono hleB; have hmb' := hmb.mono hleB)
 refine aP 7 rfl (qM rfl) rfl ?_
 refine aP 8 rfl (qM rfl) rfl ?_
 refine aP 9 rfl (B2 (j := 1) rfl rfl rfl (by omega)) rfl ?_
 refine aL 10 rfl (A0 rfl rfl (At.mono' hleB (hat1 _)) rfl) rfl ?_
 refine aL 11 rfl (A4 rfl rfl) rfl ?_
 refine P9 (j := 4) (j' := 12) (by kernel_rfl) ?_ ?_
 (refine E6 rfl (E2 rfl rfl rfl (by omega) (by unfold maxLen; omega) rfl) rfl rfl ?_; rintro _ ⟨b272, rfl⟩)
 refine A3 12 ?_
 refine R9 rfl rfl ((Y3 _ _ _ _ _ (hre1.mono hleB) hma')) rfl rfl rfl (fun h274 => ?_) (fun h274 => ?_)
 refine aP 13 rfl (M1 rfl rfl) rfl ?_
 refine aP 14 rfl (qA rfl) rfl ?_
 refine A3 15 ?_
 refine H6 rfl ?_
 refine aP 16 rfl (qA rfl) rfl ?_
 refine A2 ?_
 (refine H8 Pk.here (fun G5 hle5 hsl5 hno5 => ?_))
 refine B9 ?_
 refine D2 (rT rfl) (rC rfl (A4 rfl rfl)) (rT rfl) ?_
 (have hk1 : k = 6 := (by omega); subst hk1; refine L3.two hsl5 (hrB.mono hle5) (hma'.mono hle5) (hmb'.mono hle5) ?_; rw [mW6]; cases hq : Q7 4 (h.getD 0 C1) with | none => (rw [hq] at hmi; cases hmi) | some q => (have hq2 := hmm q hq; subst hq2; dsimp only; split <;> first | rfl | (exfalso; simp_all; done)))
 refine aP 13 rfl (M1 rfl rfl) rfl ?_
 refine aP 14 rfl (qA rfl) rfl ?_
 refine A3 15 ?_
 refine H6 rfl ?_
 refine aP 16 rfl (qA rfl) rfl ?_
 refine A2 ?_
 (refine H8 Pk.here (fun G5 hle5 hsl5 hno5 => ?_))
 refine B9 ?_
 refine D2 (rT rfl) (rC rfl (A4 rfl rfl)) (rT rfl) ?_
 (have hk1 : k = 6 := (by omega); subst hk1; refine L3.two hsl5 (hrB.mono hle5) (hma'.mono hle5) (hmb'.mono hle5) ?_; rw [mW6]; cases hq : Q7 4 (h.getD 0 C1) with | none => (rw [hq] at hmi; cases hmi) | some q => (have hq2 := hmm q hq; subst hq2; dsimp only; split <;> first | rfl | (exfalso; simp_all; done)))
 refine R9 rfl rfl ((Y3 _ _ _ _ _ (hre1.mono hleB) hma')) rfl rfl rfl (fun h301 => ?_) (fun h301 => ?_)
 refine aP 13 rfl (M1 rfl rfl) rfl ?_
 refine A3 4 ?_
 (refine E6 rfl (E2 rfl rfl rfl (by omega) (by unfold maxLen; omega) rfl) rfl rfl ?_; rintro _ ⟨b304, rfl⟩)
 refine aP 14 rfl (qA rfl) rfl ?_
 refine A3 15 ?_
 refine H6 rfl ?_
 refine aP 16 rfl (qA rfl) rfl ?_
 refine A2 ?_
 (refine H8 Pk.here (fun G5 hle5 hsl5 hno5 => ?_))
 refine B9 ?_
 refine D2 (rT rfl) (rC rfl (A4 rfl rfl)) (rT rfl) ?_
 (have hk1 : k = 6 := (by omega); subst hk1; refine L3.two hsl5 (hrB.mono hle5) (hma'.mono hle5) (hmb'.mono hle5) ?_; rw [mW6]; cases hq : Q7 4 (h.getD 0 C1) with | none => (rw [hq] at hmi; cases hmi) | some q => (have hq2 := hmm q hq; subst hq2; dsimp only; split <;> first | rfl | (exfalso; simp_all; done)))
 refine aP 13 rfl (M1 rfl rfl) rfl ?_
 refine A3 4 ?_
 (refine E6 rfl (E2 rfl rfl rfl (by omega) (by unfold maxLen; omega) rfl) rfl rfl ?_; rintro _ ⟨b319, rfl⟩)
 refine aP 14 rfl (qA rfl) rfl ?_
 refine A3 15 ?_
 refine H6 rfl ?_
 refine aP 16 rfl (qA rfl) rfl ?_
 refine A2 ?_
 (refine H8 Pk.here (fun G5 hle5 hsl5 hno5 => ?_))
 refine B9 ?_
 refine D2 (rT rfl) (rC rfl (A4 rfl rfl)) (rT rfl) ?_
 (have hk1 : k = 6 := (by omega); subst hk1; refine L3.two hsl5 (hrB.mono hle5) (hma'.mono hle5) (hmb'.mono hle5) ?_; rw [mW6]; cases hq : Q7 4 (h.getD 0 C1) with | none => (rw [hq] at hmi; cases hmi) | some q => (have hq2 := hmm q hq; subst hq2; dsimp only; split <;> first | rfl | (exfalso; simp_all; done)))
 refine A9 ?_
 refine sB (qE rfl rfl) rfl rfl (fun h339 => ?_) (fun h339 => ?_)
 refine I9 ?_
 refine sE (A6 rfl) rfl (fun b350 => ?_)
 refine D0 ?_
 refine sP (J1 rfl rfl (by omega)) rfl rfl ?_
 refine A7 ?_
 (have hl2 : n = 2 := hop.1 (by omega); obtain ⟨b0, o0, q0, d0, hp0, hat0, hre0, hg0⟩ := hsl.kidD hkl (i := 0) (by omega) (by omega); obtain ⟨b1, o1, q1, d1, hp1, hat1, hre1, hg1⟩ := hsl.kidD hkl (i := 1) (by omega) (by omega); cases hp0; cases hp1; refine E1 E3 rfl ?_)
 refine K9 (i := 0) (l' := [tt,ff,ff,ff,ff,ff,ff,ff,ff,ff,ff,ff,ff,ff,ff,ff,ff,ff,ff]) rfl D5 (A4 rfl rfl) rfl (by kernel_rfl) rfl rfl ?_
 refine aL 1 rfl (A4 rfl rfl) rfl ?_
 refine aL 3 rfl (A4 rfl rfl) rfl ?_
 refine aP 4 rfl (qM rfl) rfl ?_
 refine aP 5 rfl (B2 (j := 0) rfl rfl rfl (by omega)) rfl ?_
 refine aL 6 rfl (A0 rfl rfl (hat0 _) rfl) rfl ?_
 refine aL 7 rfl (A4 rfl rfl) rfl ?_
 refine P9 (j := 2) (j' := 8) (by kernel_rfl) ?_ ?_
 (refine E6 rfl (E2 rfl rfl rfl (by omega) (by unfold maxLen; omega) rfl) rfl rfl ?_; rintro _ ⟨b375, rfl⟩)
 refine A3 8 ?_
 refine R9 rfl rfl ((Y3 _ _ _ _ _ hre0 (K1 _))) rfl rfl rfl (fun h377 => ?_) (fun h377 => ?_)
 refine aP 9 rfl (qM rfl) rfl ?_
 refine aP 10 rfl (qM rfl) rfl ?_
 refine aP 11 rfl (B2 (j := 1) rfl rfl rfl (by omega)) rfl ?_
 refine aL 12 rfl (A0 rfl rfl (hat1 _) rfl) rfl ?_
 refine aL 13 rfl (A4 rfl rfl) rfl ?_
 refine A3 14 ?_
 refine R9 rfl rfl ((Y3 _ _ _ _ _ hre1 (K1 _))) rfl rfl rfl (fun h384 => ?_) (fun h384 => ?_)
 refine aP 15 rfl (M1 rfl rfl) rfl ?_
 refine aP 16 rfl (qA rfl) rfl ?_
 refine A3 17 ?_
 refine H6 rfl ?_
 refine aP 18 rfl (qA rfl) rfl ?_
 refine A2 ?_
 (refine H8 Pk.here (fun G5 hle5 hsl5 hno5 => ?_))
 refine B9 ?_
 refine D2 (rT rfl) (rC rfl (A4 rfl rfl)) (rT rfl) ?_
 (refine L3.two hsl5 (K1 _) (K1 _) (K1 _) ?_; rw [U3 (by omega)]; first | (rw [if_pos ⟨by assumption, by assumption⟩, if_neg (by omega)]; rfl) | (rw [if_neg (fun hc => by first | exact Bool.noConfusion (hc.1.symm.trans (by assumption)) | exact Bool.noConfusion (hc.2.symm.trans (by assumption)) | exact Bool.noConfusion (hc.symm.trans (by assumption)))]; rfl))
 refine aP 15 rfl (M1 rfl rfl) rfl ?_
 refine aP 16 rfl (qA rfl) rfl ?_
 refine A3 17 ?_
 refine H6 rfl ?_
 refine aP 18 rfl (qA rfl) rfl ?_
 refine A2 ?_
 (refine H8 Pk.here (fun G5 hle5 hsl5 hno5 => ?_))
 refine B9 ?_
 refine D2 (rT rfl) (rC rfl (A4 rfl rfl)) (rT rfl) ?_
 (refine L3.two hsl5 (K1 _) (K1 _) (K1 _) ?_; rw [U3 (by omega)]; first | (rw [if_pos ⟨by assumption, by assumption⟩, if_neg (by omega)]; rfl) | (rw [if_neg (fun hc => by first | exact Bool.noConfusion (hc.1.symm.trans (by assumption)) | exact Bool.noConfusion (hc.2.symm.trans (by assumption)) | exact Bool.noConfusion (hc.symm.trans (by assumption)))]; rfl))
 refine aP 9 rfl (qM rfl) rfl ?_
 refine C4 10 rfl rfl rfl ?_
 refine C4 11 rfl rfl rfl ?_
 refine C4 12 rfl rfl rfl ?_
 refine C4 13 rfl rfl rfl ?_
 refine C4 14 rfl rfl rfl ?_
 refine aP 15 rfl (O1 rfl rfl) rfl ?_
 refine aP 16 rfl (qA rfl) rfl ?_
 refine A3 17 ?_
 refine H6 rfl ?_
 refine aP 18 rfl (qA rfl) rfl ?_
 refine A2 ?_
 (refine H8 Pk.here (fun G5 hle5 hsl5 hno5 => ?_))
 refine B9 ?_
 refine D2 (rT rfl) (rC rfl (A4 rfl rfl)) (rT rfl) ?_
 (refine L3.two hsl5 (K1 _) (K1 _) (K1 _) ?_; rw [U3 (by omega)]; first | (rw [if_pos ⟨by assumption, by assumption⟩, if_neg (by omega)]; rfl) | (rw [if_neg (fun hc => by first | exact Bool.noConfusion (hc.1.symm.trans (by assumption)) | exact Bool.noConfusion (hc.2.symm.trans (by assumption)) | exact Bool.noConfusion (hc.symm.trans (by assumption)))]; rfl))
 refine R9 rfl rfl ((Y3 _ _ _ _ _ hre0 (K1 _))) rfl rfl rfl (fun h430 => ?_) (fun h430 => ?_)
 refine aP 9 rfl (qM rfl) rfl ?_
 refine aP 10 rfl (qM rfl) rfl ?_
 refine aP 11 rfl (B2 (j := 1) rfl rfl rfl (by omega)) rfl ?_
 refine aL 12 rfl (A0 rfl rfl (hat1 _) rfl) rfl ?_
 refine aL 13 rfl (A4 rfl rfl) rfl ?_
 refine P9 (j := 2) (j' := 14) (by kernel_rfl) ?_ ?_
 (refine E6 rfl (E2 rfl rfl rfl (by omega) (by unfold maxLen; omega) rfl) rfl rfl ?_; rintro _ ⟨b437, rfl⟩)
 refine A3 14 ?_
 refine R9 rfl rfl ((Y3 _ _ _ _ _ hre1 (K1 _))) rfl rfl rfl (fun h439 => ?_) (fun h439 => ?_)
 refine aP 15 rfl (M1 rfl rfl) rfl ?_
 refine aP 16 rfl (qA rfl) rfl ?_
 refine A3 17 ?_
 refine H6 rfl ?_
 refine aP 18 rfl (qA rfl) rfl ?_
 refine A2 ?_
 (refine H8 Pk.here (fun G5 hle5 hsl5 hno5 => ?_))
 refine B9 ?_
 refine D2 (rT rfl) (rC rfl (A4 rfl rfl)) (rT rfl) ?_
 (refine L3.two hsl5 (K1 _) (K1 _) (K1 _) ?_; rw [U3 (by omega)]; first | (rw [if_pos ⟨by assumption, by assumption⟩, if_neg (by omega)]; rfl) | (rw [if_neg (fun hc => by first | exact Bool.noConfusion (hc.1.symm.trans (by assumption)) | exact Bool.noConfusion (hc.2.symm.trans (by assumption)) | exact Bool.noConfusion (hc.symm.trans (by assumption)))]; rfl))
 refine aP 15 rfl (M1 rfl rfl) rfl ?_
 refine aP 16 rfl (qA rfl) rfl ?_
 refine A3 17 ?_
 refine H6 rfl ?_
 refine aP 18 rfl (qA rfl) rfl ?_
 refine A2 ?_
 (refine H8 Pk.here (fun G5 hle5 hsl5 hno5 => ?_))
 refine B9 ?_
 refine D2 (rT rfl) (rC rfl (A4 rfl rfl)) (rT rfl) ?_
 (refine L3.two hsl5 (K1 _) (K1 _) (K1 _) ?_; rw [U3 (by omega)]; first | (rw [if_pos ⟨by assumption, by assumption⟩, if_neg (by omega)]; rfl) | (rw [if_neg (fun hc => by first | exact Bool.noConfusion (hc.1.symm.trans (by assumption)) | exact Bool.noConfusion (hc.2.symm.trans (by assumption)) | exact Bool.noConfusion (hc.symm.trans (by assumption)))]; rfl))
 refine R9 rfl rfl ((Y3 _ _ _ _ _ hre1 (K1 _))) rfl rfl rfl (fun h466 => ?_) (fun h466 => ?_)
 refine aP 15 rfl (M1 rfl rfl) rfl ?_
 refine A3 2 ?_
 (refine E6 rfl (E2 rfl rfl rfl (by omega) (by unfold maxLen; omega) rfl) rfl rfl ?_; rintro _ ⟨b469, rfl⟩)
 refine aP 16 rfl (qA rfl) rfl ?_
 refine A3 17 ?_
 refine H6 rfl ?_
 refine aP 18 rfl (qA rfl) rfl ?_
 refine A2 ?_
 (refine H8 Pk.here (fun G5 hle5 hsl5 hno5 => ?_))
 refine B9 ?_
 refine D2 (rT rfl) (rC rfl (A4 rfl rfl)) (rT rfl) ?_
 (refine L3.two hsl5 (K1 _) (K1 _) (K1 _) ?_; rw [U3 (by omega)]; first | (rw [if_pos ⟨by assumption, by assumption⟩, if_neg (by omega)]; rfl) | (rw [if_neg (fun hc => by first | exact Bool.noConfusion (hc.1.symm.trans (by assumption)) | exact Bool.noConfusion (hc.2.symm.trans (by assumption)) | exact Bool.noConfusion (hc.symm.trans (by assumption)))]; rfl))
 refine aP 15 rfl (M1 rfl rfl) rfl ?_
 refine A3 2 ?_
 (refine E6 rfl (E2 rfl rfl rfl (by omega) (by unfold maxLen; omega) rfl) rfl rfl ?_; rintro _ ⟨b484, rfl⟩)
 refine aP 16 rfl (qA rfl) rfl ?_
 refine A3 17 ?_
 refine H6 rfl ?_
 refine aP 18 rfl (qA rfl) rfl ?_
 refine A2 ?_
 (refine H8 Pk.here (fun G5 hle5 hsl5 hno5 => ?_))
 refine B9 ?_
 refine D2 (rT rfl) (rC rfl (A4 rfl rfl)) (rT rfl) ?_
 (refine L3.two hsl5 (K1 _) (K1 _) (K1 _) ?_; rw [U3 (by omega)]; first | (rw [if_pos ⟨by assumption, by assumption⟩, if_neg (by omega)]; rfl) | (rw [if_neg (fun hc => by first | exact Bool.noConfusion (hc.1.symm.trans (by assumption)) | exact Bool.noConfusion (hc.2.symm.trans (by assumption)) | exact Bool.noConfusion (hc.symm.trans (by assumption)))]; rfl))
 refine aP 9 rfl (qM rfl) rfl ?_
 refine C4 10 rfl rfl rfl ?_
 refine C4 11 rfl rfl rfl ?_
 refine C4 12 rfl rfl rfl ?_
 refine C4 13 rfl rfl rfl ?_
 refine P9 (j := 2) (j' := 14) (by kernel_rfl) ?_ ?_
 (refine E6 rfl (E2 rfl rfl rfl (by omega) (by unfold maxLen; omega) rfl) rfl rfl ?_; rintro _ ⟨b503, rfl⟩)
 refine C4 14 rfl rfl rfl ?_
 refine aP 15 rfl (O1 rfl rfl) rfl ?_
 refine aP 16 rfl (qA rfl) rfl ?_
 refine A3 17 ?_
 refine H6 rfl ?_
 refine aP 18 rfl (qA rfl) rfl ?_
 refine A2 ?_
 (refine H8 Pk.here (fun G5 hle5 hsl5 hno5 => ?_))
 refine B9 ?_
 refine D2 (rT rfl) (rC rfl (A4 rfl rfl)) (rT rfl) ?_
 (refine L3.two hsl5 (K1 _) (K1 _) (K1 _) ?_; rw [U3 (by omega)]; first | (rw [if_pos ⟨by assumption, by assumption⟩, if_neg (by omega)]; rfl) | (rw [if_neg (fun hc => by first | exact Bool.noConfusion (hc.1.symm.trans (by assumption)) | exact Bool.noConfusion (hc.2.symm.trans (by assumption)) | exact Bool.noConfusion (hc.symm.trans (by assumption)))]; rfl))
 refine A5k (l' := [tt,tt,ff,tt,tt,tt,tt,tt,tt,tt,tt,tt,tt,tt,tt,ff,ff,ff,ff]) rfl rfl rfl rfl ?_
 refine aP 15 rfl (O1 rfl rfl) rfl ?_
 refine A3 2 ?_
 (refine E6 rfl (E2 rfl rfl rfl (by omega) (by unfold maxLen; omega) rfl) rfl rfl ?_; rintro _ ⟨b521, rfl⟩)
 refine aP 16 rfl (qA rfl) rfl ?_
 refine A3 17 ?_
 refine H6 rfl ?_
 refine aP 18 rfl (qA rfl) rfl ?_
 refine A2 ?_
 (refine H8 Pk.here (fun G5 hle5 hsl5 hno5 => ?_))
 refine B9 ?_
 refine D2 (rT rfl) (rC rfl (A4 rfl rfl)) (rT rfl) ?_
 (refine L3.two hsl5 (K1 _) (K1 _) (K1 _) ?_; rw [U3 (by omega)]; first | (rw [if_pos ⟨by assumption, by assumption⟩, if_neg (by omega)]; rfl) | (rw [if_neg (fun hc => by first | exact Bool.noConfusion (hc.1.symm.trans (by assumption)) | exact Bool.noConfusion (hc.2.symm.trans (by assumption)) | exact Bool.noConfusion (hc.symm.trans (by assumption)))]; rfl))
 refine B0 ?_
 refine sB (qE rfl rfl) rfl rfl (fun h539 => ?_) (fun h539 => ?_)
 refine A9 ?_
 refine sE (A6 rfl) rfl (fun b547 => ?_)
 refine D0 ?_
 refine sP (A0l rfl rfl (by omega)) rfl rfl ?_
 refine D9 ?_
 (have hl2 : n = 2 := hop.1 (by omega); obtain ⟨b0, o0, q0, d0, hp0, hat0, hre0, hg0⟩ := hsl.kidD hkl (i := 0) (by omega) (by omega); obtain ⟨b1, o1, q1, d1, hp1, hat1, hre1, hg1⟩ := hsl.kidD hkl (i := 1) (by omega) (by omega); cases hp0; cases hp1; refine E1 E3 rfl ?_)
 refine K9 (i := 0) (l' := [tt,ff,ff,ff,ff,ff,ff,ff,ff,ff,ff,ff,ff,ff,ff,ff,ff,ff,ff]) rfl D5 (A4 rfl rfl) rfl (by kernel_rfl) rfl rfl ?_
 refine aL 1 rfl (A4 rfl rfl) rfl ?_
 refine aL 3 rfl (A4 rfl rfl) rfl ?_
 refine aP 4 rfl (qM rfl) rfl ?_
 refine aP 5 rfl (B2 (j := 0) rfl rfl rfl (by omega)) rfl ?_
 refine aL 6 rfl (A0 rfl rfl (hat0 _) rfl) rfl ?_
 refine aL 7 rfl (A4 rfl rfl) rfl ?_
 refine P9 (j := 2) (j' := 8) (by kernel_rfl) ?_ ?_
 (refine E6 rfl (E2 rfl rfl rfl (by omega) (by unfold maxLen; omega) rfl) rfl rfl ?_; rintro _ ⟨b575, rfl⟩)
 refine A3 8 ?_
 refine R9 rfl rfl ((Y3 _ _ _ _ _ hre0 (K1 _))) rfl rfl rfl (fun h577 => ?_) (fun h577 => ?_)
 refine aP 9 rfl (qM rfl) rfl ?_
 refine aP 10 rfl (qM rfl) rfl ?_
 refine aP 11 rfl (B2 (j := 1) rfl rfl rfl (by omega)) rfl ?_
 refine aL 12 rfl (A0 rfl rfl (hat1 _) rfl) rfl ?_
 refine aL 13 rfl (A4 rfl rfl) rfl ?_
 refine A3 14 ?_
 refine R9 rfl rfl ((Y3 _ _ _ _ _ hre1 (K1 _))) rfl rfl rfl (fun h584 => ?_) (fun h584 => ?_)
 refine aP 15 rfl (M1 rfl rfl) rfl ?_
 refine aP 16 rfl (qA rfl) rfl ?_
 refine A3 17 ?_
 refine H6 rfl ?_
 refine aP 18 rfl (qA rfl) rfl ?_
 refine A2 ?_
 (refine H8 Pk.here (fun G5 hle5 hsl5 hno5 => ?_))
 refine B9 ?_
 refine D2 (rT rfl) (rC rfl (A4 rfl rfl)) (rT rfl) ?_
 (refine L3.two hsl5 (K1 _) (K1 _) (A0i _) ?_; rw [U3 (by omega)]; first | (rw [if_pos ⟨by assumption, by assumption⟩, if_pos (by omega)]; rfl) | (rw [if_neg (fun hc => by first | exact Bool.noConfusion (hc.1.symm.trans (by assumption)) | exact Bool.noConfusion (hc.2.symm.trans (by assumption)) | exact Bool.noConfusion (hc.symm.trans (by assumption)))]; rfl))
 refine aP 15 rfl (M1 rfl rfl) rfl ?_
 refine aP 16 rfl (qA rfl) rfl ?_
 refine A3 17 ?_
 refine H6 rfl ?_
 refine aP 18 rfl (qA rfl) rfl ?_
 refine A2 ?_
 (refine H8 Pk.here (fun G5 hle5 hsl5 hno5 => ?_))
 refine B9 ?_
 refine D2 (rT rfl) (rC rfl (A4 rfl rfl)) (rT rfl) ?_
 (refine L3.two hsl5 (K1 _) (K1 _) (A0i _) ?_; rw [U3 (by omega)]; first | (rw [if_pos ⟨by assumption, by assumption⟩, if_pos (by omega)]; rfl) | (rw [if_neg (fun hc => by first | exact Bool.noConfusion (hc.1.symm.trans (by assumption)) | exact Bool.noConfusion (hc.2.symm.trans (by assumption)) | exact Bool.noConfusion (hc.symm.trans (by assumption)))]; rfl))
 refine aP 9 rfl (qM rfl) rfl ?_
 refine C4 10 rfl rfl rfl ?_
 refine C4 11 rfl rfl rfl ?_
 refine C4 12 rfl rfl rfl ?_
 refine C4 13 rfl rfl rfl ?_
 refine C4 14 rfl rfl rfl ?_
 refine aP 15 rfl (O1 rfl rfl) rfl ?_
 refine aP 16 rfl (qA rfl) rfl ?_
 refine A3 17 ?_
 refine H6 rfl ?_
 refine aP 18 rfl (qA rfl) rfl ?_
 refine A2 ?_
 (refine H8 Pk.here (fun G5 hle5 hsl5 hno5 => ?_))
 refine B9 ?_
 refine D2 (rT rfl) (rC rfl (A4 rfl rfl)) (rT rfl) ?_
 (refine L3.two hsl5 (K1 _) (K1 _) (A0i _) ?_; rw [U3 (by omega)]; first | (rw [if_pos ⟨by assumption, by assumption⟩, if_pos (by omega)]; rfl) | (rw [if_neg (fun hc => by first | exact Bool.noConfusion (hc.1.symm.trans (by assumption)) | exact Bool.noConfusion (hc.2.symm.trans (by assumption)) | exact Bool.noConfusion (hc.symm.trans (by assumption)))]; rfl))
 refine R9 rfl rfl ((Y3 _ _ _ _ _ hre0 (K1 _))) rfl rfl rfl (fun h630 => ?_) (fun h630 => ?_)
 refine aP 9 rfl (qM rfl) rfl ?_
 refine aP 10 rfl (qM rfl) rfl ?_
 refine aP 11 rfl (B2 (j := 1) rfl rfl rfl (by omega)) rfl ?_
 refine aL 12 rfl (A0 rfl rfl (hat1 _) rfl) rfl ?_
 refine aL 13 rfl (A4 rfl rfl) rfl ?_
 refine P9 (j := 2) (j' := 14) (by kernel_rfl) ?_ ?_
 (refine E6 rfl (E2 rfl rfl rfl (by omega) (by unfold maxLen; omega) rfl) rfl rfl ?_; rintro _ ⟨b637, rfl⟩)
 refine A3 14 ?_
 refine R9 rfl rfl ((Y3 _ _ _ _ _ hre1 (K1 _))) rfl rfl rfl (fun h639 => ?_) (fun h639 => ?_)
 refine aP 15 rfl (M1 rfl rfl) rfl ?_
 refine aP 16 rfl (qA rfl) rfl ?_
 refine A3 17 ?_
 refine H6 rfl ?_
 refine aP 18 rfl (qA rfl) rfl ?_
 refine A2 ?_
 (refine H8 Pk.here (fun G5 hle5 hsl5 hno5 => ?_))
 refine B9 ?_
 refine D2 (rT rfl) (rC rfl (A4 rfl rfl)) (rT rfl) ?_
 (refine L3.two hsl5 (K1 _) (K1 _) (A0i _) ?_; rw [U3 (by omega)]; first | (rw [if_pos ⟨by assumption, by assumption⟩, if_pos (by omega)]; rfl) | (rw [if_neg (fun hc => by first | exact Bool.noConfusion (hc.1.symm.trans (by assumption)) | exact Bool.noConfusion (hc.2.symm.trans (by assumption)) | exact Bool.noConfusion (hc.symm.trans (by assumption)))]; rfl))
 refine aP 15 rfl (M1 rfl rfl) rfl ?_
 refine aP 16 rfl (qA rfl) rfl ?_
 refine A3 17 ?_
 refine H6 rfl ?_
 refine aP 18 rfl (qA rfl) rfl ?_
 refine A2 ?_
 (refine H8 Pk.here (fun G5 hle5 hsl5 hno5 => ?_))
 refine B9 ?_
 refine D2 (rT rfl) (rC rfl (A4 rfl rfl)) (rT rfl) ?_
 (refine L3.two hsl5 (K1 _) (K1 _) (A0i _) ?_; rw [U3 (by omega)]; first | (rw [if_pos ⟨by assumption, by assumption⟩, if_pos (by omega)]; rfl) | (rw [if_neg (fun hc => by first | exact Bool.noConfusion (hc.1.symm.trans (by assumption)) | exact Bool.noConfusion (hc.2.symm.trans (by assumption)) | exact Bool.noConfusion (hc.symm.trans (by assumption)))]; rfl))
 refine R9 rfl rfl ((Y3 _ _ _ _ _ hre1 (K1 _))) rfl rfl rfl (fun h666 => ?_) (fun h666 => ?_)
 refine aP 15 rfl (M1 rfl rfl) rfl ?_
 refine A3 2 ?_
 (refine E6 rfl (E2 rfl rfl rfl (by omega) (by unfold maxLen; omega) rfl) rfl rfl ?_; rintro _ ⟨b669, rfl⟩)
 refine aP 16 rfl (qA rfl) rfl ?_
 refine A3 17 ?_
 refine H6 rfl ?_
 refine aP 18 rfl (qA rfl) rfl ?_
 refine A2 ?_
 (refine H8 Pk.here (fun G5 hle5 hsl5 hno5 => ?_))
 refine B9 ?_
 refine D2 (rT rfl) (rC rfl (A4 rfl rfl)) (rT rfl) ?_
 (refine L3.two hsl5 (K1 _) (K1 _) (A0i _) ?_; rw [U3 (by omega)]; first | (rw [if_pos ⟨by assumption, by assumption⟩, if_pos (by omega)]; rfl) | (rw [if_neg (fun hc => by first | exact Bool.noConfusion (hc.1.symm.trans (by assumption)) | exact Bool.noConfusion (hc.2.symm.trans (by assumption)) | exact Bool.noConfusion (hc.symm.trans (by assumption)))]; rfl))
 refine aP 15 rfl (M1 rfl rfl) rfl ?_
 refine A3 2 ?_
 (refine E6 rfl (E2 rfl rfl rfl (by omega) (by unfold maxLen; omega) rfl) rfl rfl ?_; rintro _ ⟨b684, rfl⟩)
 refine aP 16 rfl (qA rfl) rfl ?_
 refine A3 17 ?_
 refine H6 rfl ?_
 refine aP 18 rfl (qA rfl) rfl ?_
 refine A2 ?_
 (refine H8 Pk.here (fun G5 hle5 hsl5 hno5 => ?_))
 refine B9 ?_
 refine D2 (rT rfl) (rC rfl (A4 rfl rfl)) (rT rfl) ?_
 (refine L3.two hsl5 (K1 _) (K1 _) (A0i _) ?_; rw [U3 (by omega)]; first | (rw [if_pos ⟨by assumption, by assumption⟩, if_pos (by omega)]; rfl) | (rw [if_neg (fun hc => by first | exact Bool.noConfusion (hc.1.symm.trans (by assumption)) | exact Bool.noConfusion (hc.2.symm.trans (by assumption)) | exact Bool.noConfusion (hc.symm.trans (by assumption)))]; rfl))
 refine aP 9 rfl (qM rfl) rfl ?_
 refine C4 10 rfl rfl rfl ?_
 refine C4 11 rfl rfl rfl ?_
 refine C4 12 rfl rfl rfl ?_
 refine C4 13 rfl rfl rfl ?_
 refine P9 (j := 2) (j' := 14) (by kernel_rfl) ?_ ?_
 (refine E6 rfl (E2 rfl rfl rfl (by omega) (by unfold maxLen; omega) rfl) rfl rfl ?_; rintro _ ⟨b703, rfl⟩)
 refine C4 14 rfl rfl rfl ?_
 refine aP 15 rfl (O1 rfl rfl) rfl ?_
 refine aP 16 rfl (qA rfl) rfl ?_
 refine A3 17 ?_
 refine H6 rfl ?_
 refine aP 18 rfl (qA rfl) rfl ?_
 refine A2 ?_
 (refine H8 Pk.here (fun G5 hle5 hsl5 hno5 => ?_))
 refine B9 ?_
 refine D2 (rT rfl) (rC rfl (A4 rfl rfl)) (rT rfl) ?_
 (refine L3.two hsl5 (K1 _) (K1 _) (A0i _) ?_; rw [U3 (by omega)]; first | (rw [if_pos ⟨by assumption, by assumption⟩, if_pos (by omega)]; rfl) | (rw [if_neg (fun hc => by first | exact Bool.noConfusion (hc.1.symm.trans (by assumption)) | exact Bool.noConfusion (hc.2.symm.trans (by assumption)) | exact Bool.noConfusion (hc.symm.trans (by assumption)))]; rfl))
 refine A5k (l' := [tt,tt,ff,tt,tt,tt,tt,tt,tt,tt,tt,tt,tt,tt,tt,ff,ff,ff,ff]) rfl rfl rfl rfl ?_
 refine aP 15 rfl (O1 rfl rfl) rfl ?_
 refine A3 2 ?_
 (refine E6 rfl (E2 rfl rfl rfl (by omega) (by unfold maxLen; omega) rfl) rfl rfl ?_; rintro _ ⟨b721, rfl⟩)
 refine aP 16 rfl (qA rfl) rfl ?_
 refine A3 17 ?_
 refine H6 rfl ?_
 refine aP 18 rfl (qA rfl) rfl ?_
 refine A2 ?_
 (refine H8 Pk.here (fun G5 hle5 hsl5 hno5 => ?_))
 refine B9 ?_
 refine D2 (rT rfl) (rC rfl (A4 rfl rfl)) (rT rfl) ?_
 (refine L3.two hsl5 (K1 _) (K1 _) (A0i _) ?_; rw [U3 (by omega)]; first | (rw [if_pos ⟨by assumption, by assumption⟩, if_pos (by omega)]; rfl) | (rw [if_neg (fun hc => by first | exact Bool.noConfusion (hc.1.symm.trans (by assumption)) | exact Bool.noConfusion (hc.2.symm.trans (by assumption)) | exact Bool.noConfusion (hc.symm.trans (by assumption)))]; rfl))
 refine A7 ?_
 refine sB (qE rfl rfl) rfl rfl (fun h740 => ?_) (fun h740 => ?_)
 refine A7 ?_
 (have hl3 : n = 3 := hop.2.1 (by omega); obtain ⟨b0, o0, q0, d0, hp0, hat0, hre0, hg0⟩ := hsl.kidD hkl (i := 0) (by omega) (by omega); obtain ⟨b1, o1, q1, d1, hp1, hat1, hre1, hg1⟩ := hsl.kidD hkl (i := 1) (by omega) (by omega); cases hp0; cases hp1; obtain ⟨b2, o2, q2, d2, hp2, hat2, hre2, hg2⟩ := hsl.kidD hkl (i := 2) (by omega) (by omega); cases hp2; refine E1 E3 rfl ?_)
 refine K2 (i := 0) (l' := [tt,ff,ff,ff,ff,ff,ff,ff,ff,ff,ff,ff,ff,ff,ff,ff]) rfl D5 (qM rfl) rfl (by kernel_rfl) rfl rfl ?_
 refine aP 1 rfl (B2 (j := 0) rfl rfl rfl (by omega)) rfl ?_
 refine aL 2 rfl (A0 rfl rfl (hat0 _) rfl) rfl ?_
 refine aL 3 rfl (A4 rfl rfl) rfl ?_
 refine A3 4 ?_
 refine R9 rfl rfl ((Y3 _ _ _ _ _ hre0 (A0i _))) rfl rfl rfl (fun h753 => ?_) (fun h753 => ?_)
 refine aP 5 rfl (pNt rfl) rfl ?_
 refine aP 6 rfl (qM rfl) rfl ?_
 refine aP 7 rfl (qM rfl) rfl ?_
 refine aP 8 rfl (B2 (j := 1) rfl rfl rfl (by omega)) rfl ?_
 refine aL 9 rfl (A0 rfl rfl (hat1 _) rfl) rfl ?_
 refine aP 10 rfl (qM rfl) rfl ?_
 refine aP 11 rfl (B2 (j := 2) rfl rfl rfl (by omega)) rfl ?_
 refine aL 12 rfl (A0 rfl rfl (hat2 _) rfl) rfl ?_
 refine A3 13 ?_
 refine R9 rfl rfl ((Y3 _ _ _ _ _ hre1 hre2)) rfl rfl rfl (fun h763 => ?_) (fun h763 => ?_)
 refine aP 14 rfl (pNt rfl) rfl ?_
 refine aP 15 rfl (O1 rfl rfl) rfl ?_
 refine A7 ?_
 (have hl3 : n = 3 := hop.2.1 (by omega); obtain ⟨b0, o0, q0, d0, hp0, hat0, hre0, hg0⟩ := hsl.kidD hkl (i := 0) (by omega) (by omega); obtain ⟨b1, o1, q1, d1, hp1, hat1, hre1, hg1⟩ := hsl.kidD hkl (i := 1) (by omega) (by omega); cases hp0; cases hp1; obtain ⟨b2, o2, q2, d2, hp2, hat2, hre2, hg2⟩ := hsl.kidD hkl (i := 2) (by omega) (by omega); cases hp2; refine E1 E3 rfl ?_)
 refine K2 (i := 0) (l' := [tt,ff,ff,ff,ff,ff,ff,ff,ff]) rfl D5 (qM rfl) rfl (by kernel_rfl) rfl rfl ?_
 refine aP 1 rfl (B2 (j := 1) rfl rfl rfl (by omega)) rfl ?_
 refine aL 2 rfl (A0 rfl rfl (hat1 _) rfl) rfl ?_
 refine aP 3 rfl (qM rfl) rfl ?_
 refine aP 4 rfl (B2 (j := 2) rfl rfl rfl (by omega)) rfl ?_
 refine aL 5 rfl (A0 rfl rfl (hat2 _) rfl) rfl ?_
 refine P9 (j := 6) (j' := 7) (by kernel_rfl) ?_ ?_
 (refine H2 rfl rfl (A9m _ _ _ _ _ (by assumption) (A26 har (by omega)) (A26 har (by omega)) hre1 hre2) rfl rfl rfl (fun v GM hleM hh => ?_); obtain ⟨cM, rfl, hrM⟩ := hh; obtain ⟨p7, c7, e7, rfl, _⟩ := hrM.open)
 refine A3 7 ?_
 (refine E6 rfl (A6 rfl) rfl rfl ?_; rintro _ ⟨b782, rfl⟩)
 refine A3 8 ?_
 refine H6 rfl ?_
 refine B9 ?_
 (have hl3 : n = 3 := hop.2.1 (by omega); obtain ⟨b0, o0, q0, d0, hp0, hat0, hre0, hg0⟩ := hsl.kidD hkl (i := 0) (by omega) (by omega); obtain ⟨b1, o1, q1, d1, hp1, hat1, hre1, hg1⟩ := hsl.kidD hkl (i := 1) (by omega) (by omega); cases hp0; cases hp1; obtain ⟨b2, o2, q2, d2, hp2, hat2, hre2, hg2⟩ := hsl.kidD hkl (i := 2) (by omega) (by omega); cases hp2; refine E1 E3 rfl ?_)
 refine K9 (i := 0) (l' := [tt,ff,ff,ff,ff,ff,ff,ff]) rfl D5 (A4 rfl rfl) rfl (by kernel_rfl) rfl rfl ?_
 refine aL 1 rfl (A4 rfl rfl) rfl ?_
 refine aL 2 rfl (A4 rfl rfl) rfl ?_
 refine aL 4 rfl (A4 rfl rfl) rfl ?_
 refine A3 3 ?_
 (refine E6 rfl (E2 rfl rfl rfl (by omega) (by unfold maxLen; omega) rfl) rfl rfl ?_; rintro _ ⟨b794, rfl⟩)
 refine aP 5 rfl (qA rfl) rfl ?_
 refine A3 6 ?_
 refine H6 rfl ?_
 refine aP 7 rfl (qA rfl) rfl ?_
 refine A2 ?_
 (refine H8 Pk.here (fun G5 hle5 hsl5 hno5 => ?_))
 refine B9 ?_
 refine D2 (rT rfl) (rC rfl (A4 rfl rfl)) (rT rfl) ?_
 exact A9n
 (refine E6 rfl (A6 rfl) rfl rfl ?_; rintro _ ⟨b807, rfl⟩)
 refine A3 6 ?_
 (refine H2 rfl rfl (A9m _ _ _ _ _ (by assumption) (A26 har (by omega)) (A26 har (by omega)) hre1 hre2) rfl rfl rfl (fun v GM hleM hh => ?_); obtain ⟨cM, rfl, hrM⟩ := hh; obtain ⟨p7, c7, e7, rfl, _⟩ := hrM.open)
 refine A3 8 ?_
 refine H6 rfl ?_
 refine B9 ?_
 (have hl3 : n = 3 := hop.2.1 (by omega); obtain ⟨b0, o0, q0, d0, hp0, hat0, hre0, hg0⟩ := hsl.kidD hkl (i := 0) (by omega) (by omega); obtain ⟨b1, o1, q1, d1, hp1, hat1, hre1, hg1⟩ := hsl.kidD hkl (i := 1) (by omega) (by omega); cases hp0; cases hp1; obtain ⟨b2, o2, q2, d2, hp2, hat2, hre2, hg2⟩ := hsl.kidD hkl (i := 2) (by omega) (by omega); cases hp2; refine E1 E3 rfl ?_)
 refine K9 (i := 0) (l' := [tt,ff,ff,ff,ff,ff,ff,ff]) rfl D5 (A4 rfl rfl) rfl (by kernel_rfl) rfl rfl ?_
 refine aL 1 rfl (A4 rfl rfl) rfl ?_
 refine aL 2 rfl (A4 rfl rfl) rfl ?_
 refine aL 4 rfl (A4 rfl rfl) rfl ?_
 refine A3 3 ?_
 (refine E6 rfl (E2 rfl rfl rfl (by omega) (by unfold maxLen; omega) rfl) rfl rfl ?_; rintro _ ⟨b821, rfl⟩)
 refine aP 5 rfl (qA rfl) rfl ?_
 refine A3 6 ?_
 refine H6 rfl ?_
 refine aP 7 rfl (qA rfl) rfl ?_
 refine A2 ?_
 (refine H8 Pk.here (fun G5 hle5 hsl5 hno5 => ?_))
 refine B9 ?_
 refine D2 (rT rfl) (rC rfl (A4 rfl rfl)) (rT rfl) ?_
 exact A9n
 refine aP 14 rfl (pNf rfl) rfl ?_
 refine aP 15 rfl (O1 rfl rfl) rfl ?_
 refine H1 ?_
 refine D2 (rT rfl) (rC rfl (A4 rfl rfl)) (rT rfl) ?_
 exact A9o
 refine aP 5 rfl (pNf rfl) rfl ?_
 refine aP 6 rfl (qM rfl) rfl ?_
 refine C4 7 rfl rfl rfl ?_
 refine C4 8 rfl rfl rfl ?_
 refine C4 9 rfl rfl rfl ?_
 refine C4 10 rfl rfl rfl ?_
 refine C4 11 rfl rfl rfl ?_
 refine C4 12 rfl rfl rfl ?_
 refine C4 13 rfl rfl rfl ?_
 refine C4 14 rfl rfl rfl ?_
 refine aP 15 rfl (M1 rfl rfl) rfl ?_
 refine H1 ?_
 refine D2 (rT rfl) (rC rfl (A4 rfl rfl)) (rT rfl) ?_
 exact A9o
 refine A7 ?_
 refine sB (qE rfl rfl) rfl rfl (fun h887 => ?_) (fun h887 => ?_)
 refine B0 ?_
 (have hl2 : n = 2 := hop.1 (by omega); obtain ⟨b0, o0, q0, d0, hp0, hat0, hre0, hg0⟩ := hsl.kidD hkl (i := 0) (by omega) (by omega); obtain ⟨b1, o1, q1, d1, hp1, hat1, hre1, hg1⟩ := hsl.kidD hkl (i := 1) (by omega) (by omega); cases hp0; cases hp1; refine E1 E3 rfl ?_)
 refine K2 (i := 0) (l' := [tt,ff,ff,ff,ff,ff,ff,ff,ff,ff]) rfl D5 (qM rfl) rfl (by kernel_rfl) rfl rfl ?_
 refine aP 1 rfl (B2 (j := 0) rfl rfl rfl (by omega)) rfl ?_
 refine aL 2 rfl (A0 rfl rfl (hat0 _) rfl) rfl ?_
 refine aP 3 rfl (qM rfl) rfl ?_
 refine aP 4 rfl (B2 (j := 1) rfl rfl rfl (by omega)) rfl ?_
 refine aL 5 rfl (A0 rfl rfl (hat1 _) rfl) rfl ?_
 refine A3 6 ?_
 (refine H2 rfl rfl (A1Q 5 _ _ _ _ _ ⟨by omega, by omega⟩ hre0 hre1) rfl rfl rfl (fun v GB hleB hh => ?_); obtain ⟨cB, rfl, hrB⟩ := hh; obtain ⟨p7, c7, e7, rfl, _⟩ := hrB.open)
 refine aP 7 rfl (qA rfl) rfl ?_
 refine A3 8 ?_
 refine H6 rfl ?_
 refine aP 9 rfl (qA rfl) rfl ?_
 refine B0 ?_
 refine D2 (rT rfl) (rC rfl (A4 rfl rfl)) (rT rfl) ?_
 (have hk1 : k = 10 := (by omega); subst hk1; exact L3.nil hrB A4A)
 refine A7 ?_
 refine sB (qE rfl rfl) rfl rfl (fun h919 => ?_) (fun h919 => ?_)
 refine B0 ?_
 (have hl1 : n = 1 := hop.2.2 (by omega); obtain ⟨b0, o0, q0, d0, hp0, hat0, hre0, hg0⟩ := hsl.kidD hkl (i := 0) (by omega) (by omega); cases hp0; refine E1 E3 rfl ?_)
 refine K2 (i := 0) (l' := [tt,ff,ff,ff,ff,ff,ff,ff,ff,ff,ff,ff,ff,ff]) rfl D5 (C0 rfl) rfl (by kernel_rfl) rfl rfl ?_
 refine aL 1 rfl (A4 rfl rfl) rfl ?_
 refine aP 3 rfl (C0 rfl) rfl ?_
 refine aL 4 rfl (A4 rfl rfl) rfl ?_
 refine aP 5 rfl (qM rfl) rfl ?_
 refine aP 6 rfl (B2 (j := 0) rfl rfl rfl (by omega)) rfl ?_
 refine aL 7 rfl (A0 rfl rfl (hat0 _) rfl) rfl ?_
 refine aP 8 rfl (C0 rfl) rfl ?_
 refine aL 9 rfl (A4 rfl rfl) rfl ?_
 refine P9 (j := 2) (j' := 10) (by kernel_rfl) ?_ ?_
 (refine E6 rfl (E2 rfl rfl rfl (by omega) (by unfold maxLen; omega) rfl) rfl rfl ?_; rintro _ ⟨b936, rfl⟩)
 refine A3 10 ?_
 refine R9 rfl rfl ((Y3 _ _ _ _ _ hre0 hrty)) rfl rfl rfl (fun h938 => ?_) (fun h938 => ?_)
 refine aP 11 rfl (qA rfl) rfl ?_
 refine A3 12 ?_
 refine H6 rfl ?_
 refine aP 13 rfl (qA rfl) rfl ?_
 refine A2 ?_
 (refine H8 Pk.here (fun G5 hle5 hsl5 hno5 => ?_))
 refine B9 ?_
 refine D2 (rT rfl) (rC rfl (A4 rfl rfl)) (rT rfl) ?_
 (have hk1 : k = 13 := (by omega); subst hk1; refine L3.one hsl5 (hrty.mono hle5) (hrty.mono hle5) ?_; rw [A2r]; split <;> first | rfl | (exfalso; simp_all; done))
 refine aP 11 rfl (qA rfl) rfl ?_
 refine A3 12 ?_
 refine H6 rfl ?_
 refine aP 13 rfl (qA rfl) rfl ?_
 refine A2 ?_
 (refine H8 Pk.here (fun G5 hle5 hsl5 hno5 => ?_))
 refine B9 ?_
 refine D2 (rT rfl) (rC rfl (A4 rfl rfl)) (rT rfl) ?_
 (have hk1 : k = 13 := (by omega); subst hk1; refine L3.one hsl5 (hrty.mono hle5) (hrty.mono hle5) ?_; rw [A2r]; split <;> first | rfl | (exfalso; simp_all; done))
 refine R9 rfl rfl ((Y3 _ _ _ _ _ hre0 hrty)) rfl rfl rfl (fun h963 => ?_) (fun h963 => ?_)
 refine A3 2 ?_
 (refine E6 rfl (E2 rfl rfl rfl (by omega) (by unfold maxLen; omega) rfl) rfl rfl ?_; rintro _ ⟨b965, rfl⟩)
 refine aP 11 rfl (qA rfl) rfl ?_
 refine A3 12 ?_
 refine H6 rfl ?_
 refine aP 13 rfl (qA rfl) rfl ?_
 refine A2 ?_
 (refine H8 Pk.here (fun G5 hle5 hsl5 hno5 => ?_))
 refine B9 ?_
 refine D2 (rT rfl) (rC rfl (A4 rfl rfl)) (rT rfl) ?_
 (have hk1 : k = 13 := (by omega); subst hk1; refine L3.one hsl5 (hrty.mono hle5) (hrty.mono hle5) ?_; rw [A2r]; split <;> first | rfl | (exfalso; simp_all; done))
 refine A3 2 ?_
 (refine E6 rfl (E2 rfl rfl rfl (by omega) (by unfold maxLen; omega) rfl) rfl rfl ?_; rintro _ ⟨b979, rfl⟩)
 refine aP 11 rfl (qA rfl) rfl ?_
 refine A3 12 ?_
 refine H6 rfl ?_
 refine aP 13 rfl (qA rfl) rfl ?_
 refine A2 ?_
 (refine H8 Pk.here (fun G5 hle5 hsl5 hno5 => ?_))
 refine B9 ?_
 refine D2 (rT rfl) (rC rfl (A4 rfl rfl)) (rT rfl) ?_
 (have hk1 : k = 13 := (by omega); subst hk1; refine L3.one hsl5 (hrty.mono hle5) (hrty.mono hle5) ?_; rw [A2r]; split <;> first | rfl | (exfalso; simp_all; done))
 refine I9 ?_
 (have hk11 : k = 11 ∨ k = 12 := (by omega); have hl1 : n = 1 := hop.2.2 (by omega); obtain ⟨b0, o0, q0, d0, hp0, hat0, hre0, hg0⟩ := hsl.kidD hkl (i := 0) (by omega) (by omega); cases hp0; refine sP (B2 (j := 0) rfl rfl rfl (by omega)) rfl rfl ?_)
 refine sL (A0 rfl rfl (hat0 _) rfl) rfl rfl ?_
 (refine D4 rfl (A9l 5 (h.getD 0 C1) G _ (.inr rfl) (A26 har (by omega)) hre0) rfl rfl (fun v G1 hle1 hh => ?_); obtain ⟨ma, mca, mb, mcb, rfl, hma, hmb, hma2, hmb2, hmm⟩ := hh; obtain ⟨p1, c1, e1, rfl, _⟩ := hma.open; obtain ⟨p2, c2, e2, rfl, _⟩ := hmb.open)
 refine B6 ?_
 refine sE (A6 rfl) rfl (fun b1009 => ?_)
 refine sE (A6 rfl) rfl (fun b1010 => ?_)
 refine D0 ?_
 refine sE (A6 rfl) rfl (fun b1019 => ?_)
 refine D0 ?_
 refine sB (qE rfl rfl) rfl rfl (fun h1028 => ?_) (fun h1028 => ?_)
 refine D9 ?_
 (have hl1 : n = 1 := hop.2.2 (by omega); obtain ⟨b0, o0, q0, d0, hp0, hat0, hre0, hg0⟩ := hsl.kidD hkl (i := 0) (by omega) (by omega); cases hp0; refine E1 E3 rfl ?_)
 refine K9 (i := 0) (l' := [tt,ff,ff,ff,ff,ff,ff,ff,ff]) rfl D5 (A4 rfl rfl) rfl (by kernel_rfl) rfl rfl ?_
 refine aL 1 rfl (A4 rfl rfl) rfl ?_
 refine aL 4 rfl (A4 rfl rfl) rfl ?_
 refine aP 5 rfl (qM rfl) rfl ?_
 refine A3 2 ?_
 (refine H2 rfl rfl (A1Q _ ma mb _ _ _ ⟨by omega, by omega⟩ hma hmb) rfl rfl rfl (fun v GB hleB hh => ?_); obtain ⟨cB, rfl, hrB⟩ := hh; obtain ⟨p7, c7, e7, rfl, _⟩ := hrB.open; have hma' := hma.mono hleB; have hmb' := hmb.mono hleB)
 refine A3 3 ?_
 (refine E6 rfl (E2 rfl rfl rfl (by omega) (by unfold maxLen; omega) rfl) rfl rfl ?_; rintro _ ⟨b1046, rfl⟩)
 refine aP 6 rfl (qA rfl) rfl ?_
 refine A3 7 ?_
 refine H6 rfl ?_
 refine aP 8 rfl (qA rfl) rfl ?_
 refine A2 ?_
 (refine H8 Pk.here (fun G5 hle5 hsl5 hno5 => ?_))
 refine tT ?_
 refine D2 (rT rfl) (rC rfl (A4 rfl rfl)) (rT rfl) ?_
 (refine L3.one hsl5 (hrB.mono hle5) (hmb'.mono hle5) ?_; rw [A27 (by omega)]; cases hq : Q7 5 (h.getD 0 C1) with | none => rfl | some q => (have hq2 := hmm q hq; subst hq2; dsimp only; rw [if_pos (by omega)]; rfl))
 refine A7 ?_
 (have hl1 : n = 1 := hop.2.2 (by omega); obtain ⟨b0, o0, q0, d0, hp0, hat0, hre0, hg0⟩ := hsl.kidD hkl (i := 0) (by omega) (by omega); cases hp0; refine E1 E3 rfl ?_)
 refine K9 (i := 0) (l' := [tt,ff,ff,ff,ff,ff,ff,ff,ff]) rfl D5 (A4 rfl rfl) rfl (by kernel_rfl) rfl rfl ?_
 refine aL 1 rfl (A4 rfl rfl) rfl ?_
 refine aL 4 rfl (A4 rfl rfl) rfl ?_
 refine aP 5 rfl (qM rfl) rfl ?_
 refine A3 2 ?_
 (refine H2 rfl rfl (A1Q _ ma mb _ _ _ ⟨by omega, by omega⟩ hma hmb) rfl rfl rfl (fun v GB hleB hh => ?_); obtain ⟨cB, rfl, hrB⟩ := hh; obtain ⟨p7, c7, e7, rfl, _⟩ := hrB.open; have hma' := hma.mono hleB; have hmb' := hmb.mono hleB)
 refine A3 3 ?_
 (refine E6 rfl (E2 rfl rfl rfl (by omega) (by unfold maxLen; omega) rfl) rfl rfl ?_; rintro _ ⟨b1071, rfl⟩)
 refine aP 6 rfl (qA rfl) rfl ?_
 refine A3 7 ?_
 refine H6 rfl ?_
 refine aP 8 rfl (qA rfl) rfl ?_
 refine A2 ?_
 (refine H8 Pk.here (fun G5 hle5 hsl5 hno5 => ?_))
 refine tT ?_
 refine D2 (rT rfl) (rC rfl (A4 rfl rfl)) (rT rfl) ?_
 (refine L3.one hsl5 (hrB.mono hle5) (hma'.mono hle5) ?_; rw [A27 (by omega)]; cases hq : Q7 5 (h.getD 0 C1) with | none => rfl | some q => (have hq2 := hmm q hq; subst hq2; dsimp only; rw [if_neg (by omega)]; rfl))
theorem A9p {cx : Cx} {k : Int} {nm : ByteArray} {ty : Ty} {h w : List Ty} {t : Ty} (he : Y6 cx k nm ty h = some (w, t)) : H5 t = true ∧ N7 cx k nm ty h = some (w, t) := by
 unfold Y6 at he
 split at he
 ·rename_i w' t' hw
  split at he
  ·cases he; exact ⟨by assumption, hw⟩
  ·cases he
 ·cases he
theorem B3L {cx : Cx} {k : Int} {nm : ByteArray} {ty : Ty} {h w : List Ty} {t : Ty} (hop : (k = 6 ∨ k = 7 ∨ k = 8 ∨ k = 10 → h.length = 2) ∧ (k = 9 → h.length = 3) ∧ (k = 5 ∨ k = 11 ∨ k = 12 ∨ k = 13 → h.length = 1)) (hk : 1 ≤ k ∧ k ≤ 14) (h14 : k ≠ 14) (he : N7 cx k nm ty h = some (w, t)) : w.length ≤ h.length := by
 have hkk : k = 1 ∨ k = 2 ∨ (k = 3 ∨ k = 4) ∨ k = 5 ∨ k = 6 ∨ (k = 7 ∨ k = 8) ∨ k = 9 ∨ k = 10 ∨ (k = 11 ∨ k = 12) ∨ k = 13 := by omega
 rcases hkk with rfl | rfl | hk | rfl | rfl | hk | rfl | rfl | hk | rfl
 ·rw [mW1] at he; split at he <;> cases he; simp
 ·rw [mW2] at he; cases he; simp
 ·rw [A3N hk] at he; cases he; simp
 ·rw [mW5] at he; cases he; simp
 ·rw [mW6] at he
  split at he
  ·split at he <;> cases he
   have := hop.1 (by omega); simp [this]
  ·cases he
 ·rw [U3 hk] at he
  split at he <;> cases he
  have := hop.1 (by omega); simp [this]
 ·rw [mW9] at he
  split at he <;> cases he
  have := hop.2.1 (by omega); simp [this]
 ·rw [A4A] at he; cases he; simp
 ·rw [A27 hk] at he
  split at he
  ·cases he; have := hop.2.2 (by omega); simp [this]
  ·cases he
 ·rw [A2r] at he
  split at he <;> cases he
  have := hop.2.2 (by omega); simp [this]
theorem R4.snoc {G G' : IM} {cx : Cx} {n : Nat} {p' : Option Addr} {c' : Nat} {es : List (List Value)} {e : List Value} {nm : ByteArray} {t : Ty} (h1 : n = cx.length) (hl : es.length = n) (h2 : ∀ x ∈ es, x.length = 3) (h3 : ∀ x ∈ es, x.all (·.oneCell') = true)
  (h4 : ∀ (i : Nat) (b : ByteArray × Ty), cx[i]? = some b → ∃ e, es[i]? = some e ∧ A25 G b e) (hg : C5 G G') (he : A25 G' (nm, t) e) (hs : Sl G' p' (n + 1) c' 3 (es.flatten ++ e)) : R4 G' (cx ++ [(nm, t)]) p' (n + 1) c' := by
 have hel : e.length = 3 ∧ e.all (·.oneCell') = true := by obtain ⟨q, d, rfl, _⟩ := he; exact ⟨rfl, rfl⟩
 refine ⟨by simp [h1], es ++ [e], C8.of (by simpa using hs) (by simp [hl]) ?_ ?_, ?_⟩
 ·simp only [List.forall_mem_append, List.forall_mem_singleton]; exact ⟨h2, hel.1⟩
 ·simp only [List.forall_mem_append, List.forall_mem_singleton]; exact ⟨h3, hel.2⟩
 ·intro i b hb
  rw [List.getElem?_append] at hb ⊢
  split at hb
  ·rename_i hi
   obtain ⟨e', he', hr⟩ := h4 i b hb
   rw [if_pos (by omega)]
   exact ⟨e', he', hr.mono hg⟩
  ·rename_i hi
   have : i - cx.length = 0 := by
    apply Classical.byContradiction; intro hc
    rw [List.getElem?_eq_none (by simp; omega)] at hb; cases hb
   rw [this] at hb
   simp only [List.getElem?_cons_zero, Option.some.injEq] at hb
   subst hb
   rw [if_neg (by omega)]
   exact ⟨e, by rw [show i - es.length = 0 by omega]; rfl, he⟩
theorem B3M (G : IM) (p : Option Addr) (n c : Nat) (es : List (List Value)) (h : C8 G p n c 3 es) (hn : n ≤ 4294967296) :
  Fn Tryz.prog 109 [.slice p n c] [] G (fun G' v outs => G' = G ∧ ∃ p' c', v = .slice p' n c' ∧ outs = [.slc p' c' 119 3 n es.flatten]) := by
 have hp := h.sl.nn
 have hS := h.sl
 have hone : ∀ u ∈ es.flatten, u.oneCell' = true := by
  intro u hu
  obtain ⟨e, he, hue⟩ := List.mem_flatten.1 hu
  exact List.all_eq_true.1 (h.one e he) u hue
 refine B8 Tryz.func109 rfl Tryz.ntmps109 Tryz.results109 rfl ?_
 intro w0
 cases p with
 | none =>
  obtain rfl := hp rfl
  obtain rfl : es = [] := List.length_eq_zero_iff.1 h.len
  refine R5 119 3 ?_
  refine D9 ?_
  refine sQ (B1n rfl rfl rfl) rfl ?_
  refine I9 ?_
  refine N4 (rT rfl) A8.refl ?_
  exact ⟨rfl, _, _, rfl, rfl⟩
 | some a =>
  refine D9 ?_
  refine sQ (A6Y rfl rfl rfl) rfl ?_
  refine A9 ?_
  (refine J9 (E2 rfl rfl rfl (by omega) (by unfold maxLen; omega) rfl) rfl ?_; rintro _ ⟨b18, rfl⟩)
  refine E0 ?_
  refine A3y rfl rfl rfl rfl rfl (fun _ _ => by repeat (first | exact Sw.here | apply Sw.there)) hS hone (Nat.zero_le _) (by unfold maxLen; omega) (by omega) rfl (fun pn cn => ?_)
  refine B6 ?_
  refine N4 (rT rfl) A8.refl ?_
  exact ⟨rfl, _, _, by rw [Nat.zero_add], by rw [Nat.zero_add]; rfl⟩
theorem W4.no {r : Option Ty} {G G' : IM} {cu : List Value} {u : Ty} {b : Bool} (hu : C2 G' u cu) (hb : b = false) (h : r = none) : W4 r G G' (.tuple ⟨[.agg ⟨cu⟩, .bool b]⟩) [] := by
 subst hb h
 exact ⟨rfl, cu, u, rfl, hu, by simp⟩
theorem W4.yes {r : Option Ty} {G G' : IM} {cu : List Value} {u : Ty} {b : Bool} (hu : C2 G' u cu) (hb : b = true) (h : r = some u) : W4 r G G' (.tuple ⟨[.agg ⟨cu⟩, .bool b]⟩) [] := by
 subst hb h
 exact ⟨rfl, cu, u, rfl, hu, fun t ht => by cases ht; rfl⟩
section
variable {cx : Cx} {k : Int} {nm : ByteArray} {num : Int} {ty fr : Ty} {lb : Int} {ks : List Tm}
theorem A4B {us w : List Ty} {t : Ty} (h : N7 cx k nm ty us = some (w, t)) {b : Bool} (hb : H5 t = b) : Y6 cx k nm ty us = if b = true then some (w, t) else none := by
 unfold Y6; rw [h]; simp only [hb]
theorem B3N {us : List Ty} (h : N7 cx k nm ty us = none) : Y6 cx k nm ty us = none := by
 unfold Y6; rw [h]
end
theorem B3O {t : Tm} (h : t.small) : t.nm.size ≤ 4294967296 ∧ t.ty.small ∧ t.fr.small ∧ t.ks.length ≤ 4294967296 ∧ Tm.smallL t.ks := by
 cases t; exact A0h.1 h
theorem A9q {ks : List Ty} (h : Ty.smallL ks) (i : Nat) : (kt ks i).small := by
 unfold kt
 rw [List.getD_eq_getElem?_getD]
 cases hi : ks[i]? with
 | none => exact A2m
 | some t => exact Ty.smallL_mem h t (List.mem_of_getElem? hi)
theorem A9r {t : Ty} (h : t.small) : Ty.smallL t.ks := by cases t; simp only [Ty.small] at h; exact h.2
theorem A28 (t : Ty) : (T5 t).small := by
 unfold T5; split <;> simp [R7, Ty.small, Ty.smallL]
theorem A2s {e : Tm} {a b : Ty} {l : Int} (h : e.small) (ha : a.small) (hb : b.small) : (K6 e a b l).small := A0h.2 ⟨by decide, hb, ha, by simp, by simp [Tm.smallL, h]⟩
theorem A1R (e : Tm) (a b : Ty) (l : Int) : D6 (K6 e a b l) = D6 e + 1 := by rw [K6, Y8, F4, F4]
theorem A59 {k : Int} {ks : List Tm} (h : Tm.smallL ks) (hl : ks.length ≤ 4294967296) : (A0f k ks).small := A0h.2 ⟨by decide, A2m, A2m, hl, h⟩
theorem A6a (k : Int) (ks : List Tm) : D6 (A0f k ks) = F4 ks + 1 := by rw [A0f, Y8]
theorem B3P {a : Tm} (h : a.small) : Tm.smallL [a] := by simp [Tm.smallL, h]
theorem B3Q {a b : Tm} (h : a.small) (h2 : b.small) : Tm.smallL [a, b] := by simp [Tm.smallL, h, h2]
theorem B3R : D6 L0 = 1 := by simp [L0, D6, F4]
theorem B3S (t : Tm) : D6 t = F4 t.ks + 1 := by cases t; rw [Y8]; rfl
theorem B3T {k : Int} {ty fr : Ty} {lb : Int} {ks : List Tm} (hk : Tm.smallL ks) (hc : F4 ks ≤ 199) (ht : ty.small) (hf : fr.small) : (N9 k ty fr lb ks).1.small ∧ D6 (N9 k ty fr lb ks).1 ≤ 40100 := by
 have a0 := A1P hk 0
 have a1 := A1P hk 1
 have a2 := A1P hk 2
 have n0 := A4v (ks := ks) 0
 have n1 := A4v (ks := ks) 1
 have n2 := A4v (ks := ks) 2
 obtain ⟨_, b2, b3, _, b5⟩ := B3O a0
 have e0 := B3S (kd ks 0)
 have m := fun i => A4v (ks := (kd ks 0).ks) i
 have st : P7.1.small ∧ D6 P7.1 ≤ 40100 := ⟨A4u, by simp [P7, L0, D6, F4]⟩
 have hty := fun i => A9q (A9r b2) i
 have hfr := fun i => A9q (A9r b3) i
 unfold N9
 split
 ·split
  ·obtain ⟨s1, s2⟩ := A8U (x := (kd ks 0).nm) a1 (kd (kd ks 0).ks 0) (A1P b5 0)
   refine ⟨s1, Nat.le_trans s2 ?_⟩
   have : D6 (kd (kd ks 0).ks 0) * D6 (kd ks 1) ≤ 200 * 200 := Nat.mul_le_mul (by have := m 0; omega) (by omega)
   omega
  ·split
   ·refine ⟨A2s (A59 (B3Q (A1P b5 0) (A2s a1 (hty 0) (hfr 0))) (by simp)) (hfr 1) (hty 1), ?_⟩
    have := m 0
    show D6 (K6 _ _ _ _) ≤ 40100
    rw [A1R, A6a, F4, F4, F4, A1R]
    omega
   ·exact st
 ·split
  ·split
   ·split
    ·exact ⟨A0h.2 ⟨by decide, A2m, A2m, by simp, by simp [Tm.smallL]⟩, by simp [A2j, D6, F4]⟩
    ·exact ⟨A59 (by simp [Tm.smallL]) (by simp), by simp [A0g, A6a, F4]⟩
   ·exact st
  ·split
   ·split
    ·exact ⟨a1, by show D6 (kd ks 1) ≤ _; omega⟩
    ·split
     ·exact ⟨a2, by show D6 (kd ks 2) ≤ _; omega⟩
     ·exact st
   ·split
    ·split
     ·exact ⟨A1P b5 _, by have := m (k - 11).toNat; show D6 (kd _ _) ≤ _; omega⟩
     ·split
      ·refine ⟨A2s (A59 (B3P (A1P b5 0)) (by simp)) (hfr _) (hty _), ?_⟩
       have := m 0
       show D6 (K6 _ _ _ _) ≤ 40100
       rw [A1R, A6a, F4, F4]
       omega
      ·exact st
    ·split
     ·split
      ·exact ⟨a0, by show D6 (kd ks 0) ≤ _; omega⟩
      ·split
       ·refine ⟨A2s (A2s a0 hf (A28 fr)) (A28 fr) ht, ?_⟩
        show D6 (K6 _ _ _ _) ≤ 40100
        rw [A1R, A1R]; omega
       ·split
        ·refine ⟨A2s (A2s a0 hf (A28 ty)) (A28 ty) ht, ?_⟩
         show D6 (K6 _ _ _ _) ≤ 40100
         rw [A1R, A1R]; omega
        ·split
         ·exact st
         ·split
          ·exact ⟨A1P b5 0, by have := m 0; show D6 (kd _ _) ≤ _; omega⟩
          ·exact ⟨A4u, by simp [L0, D6, F4]⟩
     ·exact st
theorem B3U (ks : List Tm) (ih : ∀ t ∈ ks, t.small → D6 t ≤ 200 → (J5 t).1.small ∧ D6 (J5 t).1 ≤ D6 t + 40100) : ∀ (n : Nat), Tm.smallL ks → F4 ks ≤ 199 → ∀ us c l, Z7 n ks = some (us, c, l) → Tm.smallL us ∧ us.length = ks.length ∧ F4 us ≤ F4 ks + 40100 := by
 induction ks with
 | nil => intro n _ _ us c l h; simp [Z7] at h
 | cons t ts ihl =>
  intro n hs hc us c l h
  simp only [Tm.smallL] at hs
  simp only [F4] at hc ⊢
  cases n with
  | zero => simp [Z7] at h
  | succ n =>
   rw [Z7] at h
   split at h
   ·split at h
    ·rename_i us' c' l' hs'
     cases h
     obtain ⟨l1, l2, l3⟩ := ihl (fun u hu => ih u (List.mem_cons_of_mem _ hu)) n hs.2 (by omega) us' c l hs'
     exact ⟨by simp only [Tm.smallL]; exact ⟨hs.1, l1⟩, by simp [l2], by simp only [F4]; omega⟩
    ·cases h
   ·cases h
    obtain ⟨s1, s2⟩ := ih t List.mem_cons_self hs.1 (by omega)
    exact ⟨by simp only [Tm.smallL]; exact ⟨s1, hs.2⟩, by simp, by simp only [F4]; omega⟩
theorem B3V : ∀ (t : Tm), t.small → D6 t ≤ 200 → (J5 t).1.small ∧ D6 (J5 t).1 ≤ D6 t + 40100 := by
 refine Tm.ind fun k nm num ty fr lb ks ih h hc => ?_
 obtain ⟨h1, h2, h3, h4, h5⟩ := A0h.1 h
 rw [Y8] at hc
 have hL := B3U ks ih (if k = 9 then 1 else ks.length) h5 (by omega)
 rw [J5]
 split
 ·rename_i us c l hs
  obtain ⟨l1, l2, l3⟩ := hL us c l hs
  split
  ·refine ⟨A0h.2 ⟨h1, h2, h3, by omega, l1⟩, ?_⟩
   show D6 (.mk k nm num ty fr lb us) ≤ _
   rw [Y8, Y8]; omega
  ·exact ⟨A4u, by show D6 L0 ≤ _; rw [B3R]; omega⟩
 ·have := B3T (k := k) (lb := lb) h5 (by omega) h2 h3
  rw [Y8]
  exact ⟨this.1, by omega⟩
variable {P : Program} {G : IM}
theorem Fn.forget {f : FuncId} {args : List Value} {v0 : Value} {post : IM → Value → List A5 → Prop} (h : Fn P f args [] G post) (hv : ∀ G' v outs, post G' v outs → v = v0) : Fn P f args [] G (E5 v0 G) := by
 refine ⟨fun w hw => (h.run w hw).mono ?_⟩
 rintro e w' ⟨u, G', outs, rfl, hres, hp⟩
 refine ⟨u, G, [], rfl, ⟨⟨fun b l hb => hres.own.inn b l (hres.le b l hb), by simp, by simp [Fp], by simp [Fp]⟩, hres.ext, C5.refl _, fun _ _ h => .inl h, by simp [Fp], fun b l h h0 => absurd h (by rw [h0]; simp)⟩, rfl, hv _ _ _ hp, rfl⟩
def V3 (t : Tm) : IM → Value → List A5 → Prop := L5 fun G' v => ∃ cells, v = .agg ⟨cells⟩ ∧ B3 G' t cells
theorem V3.mk {G : IM} {t : Tm} {cells : List Value} (h : B3 G t cells) : V3 t G (.agg ⟨cells⟩) [] := ⟨rfl, cells, rfl, h⟩
def mGk (k : Int) : Ty := if k = 4 ∨ k = 5 then .mk k [R7, R7] else .mk k []
theorem A0J {G : IM} {k : Int} {ks : List Tm} {p : Option Addr} {n c : Nat} {es : List (List Value)} (hk : H3 k) (hn : n = ks.length) (hs : C8 G p n c 9 es) (hr : D7 G ks es) : B3 G (A0f k ks) [.int .i64 k, .string ⟨⟨[]⟩⟩, .int .i64 0, .int .i64 0, .slice none 0 0, .int .i64 0, .slice none 0 0, .int .i64 0, .slice p n c] := by
 subst hn
 simp only [A0f, B3]
 exact ⟨[.int .i64 0, .slice none 0 0], [.int .i64 0, .slice none 0 0], p, c, es, rfl, hk, ⟨by decide, by decide⟩, ⟨by decide, by decide⟩, A2W G, A2W G, hs, hr⟩
theorem A6b (k : Int) (G : IM) (hk : H3 k) : Fn Tryz.prog 115 [.int .i64 k] [] G (L5 fun G' v => ∃ cells, v = .agg ⟨cells⟩ ∧ C2 G' (mGk k) cells) := by
 have hB := A1Q k R7 R7 G _ _ hk (A2h G) (A2h G)
 refine B8 Tryz.func115 rfl Tryz.ntmps115 Tryz.results115 rfl ?_
 intro w0
 refine A2 ?_
 refine sE (A6 rfl) rfl (fun b3 => ?_)
 refine A7 ?_
 refine sB (qE rfl rfl) rfl rfl (fun h10 => ?_) (fun h10 => ?_)
 refine I9 ?_
 refine H4 rfl ((A04 _ _)) rfl rfl ?_
 refine H4 rfl ((A04 _ _)) rfl rfl ?_
 (refine D4 rfl hB rfl rfl (fun v G1 hle1 hh => ?_); obtain ⟨cb, rfl, hrb⟩ := hh; obtain ⟨p1, c1, e1, rfl, _⟩ := hrb.open)
 refine B0 ?_
 refine L9 (rC rfl (A4 rfl rfl)) ?_
 (exact ⟨rfl, _, rfl, by unfold mGk; rw [if_pos (by omega)]; exact hrb⟩)
 refine A2 ?_
 refine sB (qE rfl rfl) rfl rfl (fun h33 => ?_) (fun h33 => ?_)
 refine A9 ?_
 refine H4 rfl ((A04 _ _)) rfl rfl ?_
 refine H4 rfl ((A04 _ _)) rfl rfl ?_
 (refine D4 rfl hB rfl rfl (fun v G1 hle1 hh => ?_); obtain ⟨cb, rfl, hrb⟩ := hh; obtain ⟨p1, c1, e1, rfl, _⟩ := hrb.open)
 refine B0 ?_
 refine L9 (rC rfl (A4 rfl rfl)) ?_
 (exact ⟨rfl, _, rfl, by unfold mGk; rw [if_pos (by omega)]; exact hrb⟩)
 refine D9 ?_
 refine H4 rfl ((A04 _ _)) rfl rfl ?_
 refine B6 ?_
 refine L9 (rC rfl (A4 rfl rfl)) ?_
 (exact ⟨rfl, _, rfl, by unfold mGk; rw [if_neg (by omega)]; exact Q3 _ hk⟩)
theorem A9s (t : Ty) (G : IM) (cells : List Value) (hr : C2 G t cells) : Fn Tryz.prog 237 [.agg ⟨cells⟩] [] G (E5 (.bool (V5 t)) G) := by
 refine Fn.forget (post := L5 fun _ v => v = .bool (V5 t)) ?_ (fun _ _ _ h => h.2)
 have hr0 := hr
 obtain ⟨tk, tks⟩ := t
 obtain ⟨p, c, es, rfl, hk, _⟩ := hr.open
 simp only [Ty.k, Ty.ks] at hk hr0 ⊢
 rw [show V5 (.mk tk tks) = (decide (tk ≠ 1) && M2 (.mk tk tks) (mGk tk)) from rfl]
 refine B8 Tryz.func237 rfl Tryz.ntmps237 Tryz.results237 rfl ?_
 intro w0
 refine A2 ?_
 refine sE (C6 rfl rfl) rfl (fun b3 => ?_)
 refine B6 ?_
 refine E1 E3 rfl ?_
 refine K2 (i := 0) (l' := [tt,ff,ff,ff,ff,ff,ff,ff,ff,ff,ff]) rfl D5 (C0 rfl) rfl (by kernel_rfl) rfl rfl ?_
 refine aL 1 rfl (C9 rfl rfl) rfl ?_
 refine A0D (i := 2) (l' := [tt,tt,tt,ff,ff,ff,ff,ff,ff,ff,ff]) rfl D5 (M7 rfl rfl) rfl (by kernel_rfl) rfl rfl (fun h11 => ?_) (fun h11 => ?_)
 refine aP 3 rfl (qM rfl) rfl ?_
 refine aL 4 rfl (A4 rfl rfl) rfl ?_
 refine aP 5 rfl (C0 rfl) rfl ?_
 refine aL 6 rfl (C9 rfl rfl) rfl ?_
 refine A3 7 ?_
 (refine H2 rfl rfl (A6b tk G hk) rfl rfl rfl (fun v G1 hle1 hh => ?_); obtain ⟨cg, rfl, hrg⟩ := hh; have hT := A58 (.mk tk tks) (mGk tk) G1 _ _ (hr0.mono hle1) hrg; obtain ⟨pg, cgg, eg, rfl, _⟩ := hrg.open)
 refine A3 8 ?_
 refine M5 rfl rfl (hT) rfl rfl rfl ?_
 refine aP 9 rfl (M1 rfl rfl) rfl ?_
 refine aP 10 rfl (qA rfl) rfl ?_
 refine B6 ?_
 (exact ⟨rfl, by rw [decide_eq_true (by omega), Bool.true_and]⟩)
 refine aP 3 rfl (qM rfl) rfl ?_
 refine C4 4 rfl rfl rfl ?_
 refine C4 5 rfl rfl rfl ?_
 refine C4 6 rfl rfl rfl ?_
 refine C4 7 rfl rfl rfl ?_
 refine C4 8 rfl rfl rfl ?_
 refine aP 9 rfl (O1 rfl rfl) rfl ?_
 refine aP 10 rfl (qA rfl) rfl ?_
 refine B6 ?_
 (exact ⟨rfl, by rw [decide_eq_false (by omega), Bool.false_and]⟩)
theorem A1S {Q : Prop} (h : Q := by (exact ⟨rfl, by rw [decide_eq_true (by omega)], rfl⟩)) : Q := h
theorem A2t {Q : Prop} (h : Q := by (exact ⟨rfl, by rw [decide_eq_false (by omega)], rfl⟩)) : Q := h
theorem A2u (t : Tm) (G : IM) (cells : List Value) (hr : B3 G t cells) : Fn Tryz.prog 106 [.agg ⟨cells⟩] [] G (E5 (.bool (P6 t)) G) := by
 obtain ⟨k, nm, num, ⟨tk, tks⟩, ⟨fk, fks⟩, lb, ks⟩ := t
 obtain ⟨pt, ct, pf, cf, p, c, es, rfl, hk, hnum, hlb, hty, hfr, hsl, hkl⟩ := hr.open9
 have hd : P6 (.mk k nm num (.mk tk tks) (.mk fk fks) lb ks) = decide (k = 14 ∧ fk = tk ∧ (tk = 4 ∨ tk = 5)) := rfl
 rw [hd]
 refine B8 Tryz.func106 rfl Tryz.ntmps106 Tryz.results106 rfl ?_
 intro w0
 refine A2 ?_
 refine sE (C6 rfl rfl) rfl (fun b3 => ?_)
 refine A9 ?_
 refine sB (qE rfl rfl) rfl rfl (fun h11 => ?_) (fun h11 => ?_)
 refine A9 ?_
 refine sB (qE rfl rfl) rfl rfl (fun h19 => ?_) (fun h19 => ?_)
 refine B0 ?_
 refine sB (qE rfl rfl) rfl rfl (fun h25 => ?_) (fun h25 => ?_)
 refine J8 ?_
 exact A1S
 refine B6 ?_
 refine sB (qE rfl rfl) rfl rfl (fun h43 => ?_) (fun h43 => ?_)
 refine A9 ?_
 exact A1S
 refine A9 ?_
 exact A2t
 refine U6 ?_
 exact A2t
 refine A35 ?_
 exact A2t
theorem A4C {Q : Prop} (h : Q := by (exact ⟨rfl, by rw [decide_eq_false (by omega), Bool.false_and], rfl⟩)) : Q := h
theorem A3O (t : Tm) (G : IM) (cells : List Value) (hr : B3 G t cells) : Fn Tryz.prog 223 [.agg ⟨cells⟩] [] G (E5 (.bool (inj t)) G) := by
 obtain ⟨k, nm, num, ⟨tk, tks⟩, ⟨fk, fks⟩, lb, ks⟩ := t
 obtain ⟨pt, ct, pf, cf, p, c, es, rfl, hk, hnum, hlb, hty, hfr, hsl, hkl⟩ := hr.open9
 have hd : inj (.mk k nm num (.mk tk tks) (.mk fk fks) lb ks) = (decide (k = 14 ∧ tk = 1) && V5 (.mk fk fks)) := rfl
 rw [hd]
 refine B8 Tryz.func223 rfl Tryz.ntmps223 Tryz.results223 rfl ?_
 intro w0
 refine A2 ?_
 refine sE (C6 rfl rfl) rfl (fun b3 => ?_)
 refine A9 ?_
 refine sB (qE rfl rfl) rfl rfl (fun h11 => ?_) (fun h11 => ?_)
 refine B6 ?_
 refine sB (qE rfl rfl) rfl rfl (fun h16 => ?_) (fun h16 => ?_)
 refine B6 ?_
 refine H4 rfl ((A9s (.mk fk fks) G _ hfr)) rfl rfl ?_
 refine A7 ?_
 (exact ⟨rfl, by rw [decide_eq_true (by omega), Bool.true_and], rfl⟩)
 refine H0 ?_
 exact A4C
 refine J3 ?_
 exact A4C
theorem B3W (t : Tm) (G : IM) (cells : List Value) (hr : B3 G t cells) : Fn Tryz.prog 226 [.agg ⟨cells⟩] [] G (E5 (.bool (decide (t.k = 2 ∨ t.k = 3 ∨ t.k = 4 ∨ t.k = 5))) G) := by
 obtain ⟨k, nm, num, ⟨tk, tks⟩, ⟨fk, fks⟩, lb, ks⟩ := t
 obtain ⟨pt, ct, pf, cf, p, c, es, rfl, hk, hnum, hlb, hty, hfr, hsl, hkl⟩ := hr.open9
 rw [show (Tm.mk k nm num (.mk tk tks) (.mk fk fks) lb ks).k = k from rfl]
 refine B8 Tryz.func226 rfl Tryz.ntmps226 Tryz.results226 rfl ?_
 intro w0
 refine A2 ?_
 refine sE (C6 rfl rfl) rfl (fun b3 => ?_)
 refine A9 ?_
 refine sB (qE rfl rfl) rfl rfl (fun h11 => ?_) (fun h11 => ?_)
 refine A0b ?_
 exact A1S
 refine B9 ?_
 refine sB (qE rfl rfl) rfl rfl (fun h36 => ?_) (fun h36 => ?_)
 refine J3 ?_
 exact A1S
 refine B6 ?_
 refine sB (qE rfl rfl) rfl rfl (fun h58 => ?_) (fun h58 => ?_)
 refine H0 ?_
 exact A1S
 refine B6 ?_
 refine sB (qE rfl rfl) rfl rfl (fun h75 => ?_) (fun h75 => ?_)
 refine A7 ?_
 exact A1S
 refine A7 ?_
 exact A2t
theorem B3X (G : IM) (p : Option Addr) (n c : Nat) (es : List (List Value)) (hsl : C8 G p n c 9 es) (fid : FuncId) [B4 Tryz.prog fid] (us cs : List Value) (ins : List A5) (q : Nat → Bool)
  (hq : ∀ i e, es[i]? = some e → Fn Tryz.prog fid (us ++ [.agg ⟨e⟩] ++ cs) ins G (T1 (.bool (q i)) ins G)) :
  Fn Tryz.prog 238 [.slice p n c, .func (.func fid) ⟨us⟩ ⟨cs⟩] ins G (T1 (.int .i64 (A0u q n)) ins G) := by
 have hn := hsl.le
 refine B8 Tryz.func238 rfl Tryz.ntmps238 Tryz.results238 rfl ?_
 intro w0
 refine J6 ?_
 refine B7 ?_
 refine I3 (fun i : Nat => ⟨[(8, .int .i64 i), (7, .int .i64 n), (1, .func (.func fid) ⟨us⟩ ⟨cs⟩), (0, .slice p n c)], ins, G⟩) (fun i => i ≤ n ∧ ∀ j, j < i → q j = false) (fun i => n - i) 0 ?_ ?_ ?_
 exact D3
 exact ⟨by omega, by omega⟩
 rintro i ⟨hi, hf⟩
 refine A2 ?_
 refine sB (I8 rfl rfl) rfl rfl (fun h21 => ?_) (fun h21 => ?_)
 refine A9 ?_
 refine B7 ?_
 refine H0 ?_
 (obtain ⟨e, b, o, he, rfl, hl, _, hat, _⟩ := hsl.get (i := i) (by omega); refine sP (B2 rfl rfl rfl (by omega)) rfl rfl ?_)
 refine sL (A0 rfl rfl (hat _) hl) rfl rfl ?_
 refine A5h rfl rfl (hq i e he) A0n rfl rfl (fun h43 => ?_) (fun h43 => ?_)
 refine H1 ?_
 refine N4 (rT rfl) A8.refl ?_
 exact ⟨rfl, by rw [A7j (by omega) hf (by assumption)], rfl⟩
 refine A9 ?_
 refine sP (E7 rfl rfl (by omega) (by omega)) rfl rfl ?_
 refine A2 ?_
 refine I7 (i + 1) ?_ ?_ ?_
 exact D3
 exact zq5
 omega
 refine H1 ?_
 refine N4 (rT rfl) A8.refl ?_
 exact ⟨rfl, by rw [A5m (fun j hj => hf j (by omega))], rfl⟩
theorem B3Y (G : IM) (p : Option Addr) (n c : Nat) (es : List (List Value)) (hsl : C8 G p n c 9 es) (fid : FuncId) [B4 Tryz.prog fid] (us cs : List Value) (ins : List A5) (q : Nat → Bool)
  (hq : ∀ i e, es[i]? = some e → Fn Tryz.prog fid (us ++ [.agg ⟨e⟩] ++ cs) ins G (T1 (.bool (q i)) ins G)) :
  Fn Tryz.prog 224 [.slice p n c, .func (.func fid) ⟨us⟩ ⟨cs⟩] ins G (T1 (.bool (decide (0 ≤ A0u q n))) ins G) := by
 refine B8 Tryz.func224 rfl Tryz.ntmps224 Tryz.results224 rfl ?_
 intro w0
 refine D9 ?_
 refine A15 rfl (B3X G p n c es hsl fid us cs ins q hq) A0n rfl rfl ?_
 refine sQ (A01 rfl rfl) rfl ?_
 refine B6 ?_
 refine N4 (rT rfl) A8.refl ?_
 exact ⟨rfl, rfl, rfl⟩
theorem B3Z (G : IM) (p : Option Addr) (n c : Nat) (es : List (List Value)) (hsl : C8 G p n c 9 es) (fid : FuncId) [B4 Tryz.prog fid] (us cs : List Value) (ins : List A5) (f : Tm → Bool) (ks : List Tm)
  (hn : ks.length = n) {A : Bool} (hA : ks.all f = A) (hq : ∀ i e, es[i]? = some e → Fn Tryz.prog fid (us ++ [.agg ⟨e⟩] ++ cs) ins G (T1 (.bool (!f (ks.getD i L0))) ins G)) :
  Fn Tryz.prog 224 [.slice p n c, .func (.func fid) ⟨us⟩ ⟨cs⟩] ins G (T1 (.bool (!A)) ins G) := by
 subst hn hA
 rw [← A7m f ks L0]
 exact B3Y G p _ c es hsl fid us cs ins _ hq
theorem A9t : ∀ ks, A4s ks = ks.all J4
 | [] => rfl
 | t :: ts => by rw [A4s, A9t ts, List.all_cons]
theorem B30 (t : Tm) (G : IM) (cells : List Value) (hl : cells.length = 9) (ho : cells.all (·.oneCell') = true) (h : Fn Tryz.prog 194 [.agg ⟨cells⟩] [] G (E5 (.bool (J4 t)) G)) :
  Fn Tryz.prog 225 [.agg ⟨cells⟩] [] G (T1 (.bool (!J4 t)) [] G) := by
 refine B8 Tryz.func225 rfl Tryz.ntmps225 Tryz.results225 rfl ?_
 intro w0
 refine A2 ?_
 refine sE (C6 rfl rfl) rfl (fun b3 => ?_)
 refine B0 ?_
 refine sL (A0 rfl rfl (B1 (by repeat first | exact mH | apply mT)) hl) rfl rfl ?_
 refine H4 rfl (h) rfl rfl ?_
 refine sQ (A2B rfl) rfl ?_
 refine B0 ?_
 (exact ⟨rfl, rfl, rfl⟩)
theorem A1w (k : Int) (nm : ByteArray) (num : Int) (ty fr : Ty) (lb : Int) (ks : List Tm) : P6 (.mk k nm num ty fr lb ks) = decide (k = 14 ∧ fr.k = ty.k ∧ (ty.k = 4 ∨ ty.k = 5)) := rfl
theorem A4D (k : Int) (nm : ByteArray) (num : Int) (ty fr : Ty) (lb : Int) (ks : List Tm) : inj (.mk k nm num ty fr lb ks) = (decide (k = 14 ∧ ty.k = 1) && V5 fr) := rfl
theorem A3P {k : Int} {nm : ByteArray} {num : Int} {ty fr : Ty} {lb : Int} {ks : List Tm} (h : k = 10 ∨ P6 (.mk k nm num ty fr lb ks) = true ∨ inj (.mk k nm num ty fr lb ks) = true) : J4 (.mk k nm num ty fr lb ks) = ks.all J4 := by
 rw [J4, if_pos, A9t]
 rw [A1w, A4D] at h
 simp only [Bool.and_eq_true, decide_eq_true_eq] at h
 rcases h with h | h | h
 ·exact .inl h
 ·exact .inr (.inl h)
 ·exact .inr (.inr ⟨h.1.1, h.1.2, h.2⟩)
theorem A4E {k : Int} {nm : ByteArray} {num : Int} {ty fr : Ty} {lb : Int} {ks : List Tm} (h : ¬k = 10) (h2 : P6 (.mk k nm num ty fr lb ks) = false) (h3 : inj (.mk k nm num ty fr lb ks) = false) : J4 (.mk k nm num ty fr lb ks) = decide (k = 2 ∨ k = 3 ∨ k = 4 ∨ k = 5) := by
 rw [J4, if_neg]
 rw [A1w] at h2
 rw [A4D] at h3
 simp only [Bool.and_eq_false_iff, decide_eq_false_iff_not] at h2 h3
 rintro (h' | h' | h')
 ·exact h h'
 ·exact h2 h'
 ·rcases h3 with h3 | h3
  ·exact h3 ⟨h'.1, h'.2.1⟩
  ·rw [h3] at h'; cases h'.2.2
theorem A6c {Q : Prop} (h : Q := by (exact ⟨rfl, by rw [hy (by first | exact .inl (by omega) | exact .inr (.inl (by assumption)) | exact .inr (.inr (by assumption)))]; cases A <;> rfl, rfl⟩)) : Q := h
theorem A9u : ∀ (t : Tm) (G : IM) (cells : List Value), B3 G t cells → Fn Tryz.prog 194 [.agg ⟨cells⟩] [] G (E5 (.bool (J4 t)) G) := by
 refine Tm.ind fun k nm num ty fr lb ks ih G cells hr => ?_
 have hr0 := hr
 have hP := A2u _ G _ hr
 have hI := A3O _ G _ hr
 have hPl := B3W _ G _ hr
 have hy := @A3P k nm num ty fr lb ks
 have hn := @A4E k nm num ty fr lb ks
 rw [show (Tm.mk k nm num ty fr lb ks).k = k from rfl] at hPl
 obtain ⟨A, hA⟩ : ∃ A, ks.all J4 = A := ⟨_, rfl⟩
 rw [hA] at hy
 generalize hpx : P6 (.mk k nm num ty fr lb ks) = bp at hP hy hn
 generalize hij : inj (.mk k nm num ty fr lb ks) = bi at hI hy hn
 generalize J4 (.mk k nm num ty fr lb ks) = R at hy hn ⊢
 obtain ⟨tk, tks⟩ := ty
 obtain ⟨fk, fks⟩ := fr
 obtain ⟨pt, ct, pf, cf, p, c, es, rfl, hk, hnum, hlb, hty, hfr, hsl, hkl⟩ := hr.open9
 have hC := B3Z G p ks.length c es hsl 225 [] [] [] J4 ks rfl hA (fun i e he => by
  have hx := hkl.inv he L0
  exact B30 _ G e hx.2.len hx.2.one (ih _ hx.1 G e hx.2))
 refine B8 Tryz.func194 rfl Tryz.ntmps194 Tryz.results194 rfl ?_
 intro w0
 refine A2 ?_
 refine sE (C6 rfl rfl) rfl (fun b3 => ?_)
 refine D0 ?_
 refine sB (qE rfl rfl) rfl rfl (fun h12 => ?_) (fun h12 => ?_)
 refine H1 ?_
 refine A15 rfl hC A0n rfl rfl ?_
 refine sQ (A2B rfl) rfl ?_
 refine A7 ?_
 exact A6c
 refine A2 ?_
 refine E8 rfl (hP) rfl rfl (fun h39 => ?_) (fun h39 => ?_)
 refine J8 ?_
 refine A15 rfl hC A0n rfl rfl ?_
 refine sQ (A2B rfl) rfl ?_
 refine A7 ?_
 exact A6c
 refine B9 ?_
 refine E8 rfl (hI) rfl rfl (fun h64 => ?_) (fun h64 => ?_)
 refine D0 ?_
 refine A15 rfl hC A0n rfl rfl ?_
 refine sQ (A2B rfl) rfl ?_
 refine A7 ?_
 exact A6c
 refine D9 ?_
 refine H4 rfl (hPl) rfl rfl ?_
 refine B0 ?_
 (exact ⟨rfl, by rw [hn (by omega) (by assumption) (by assumption)], rfl⟩)
theorem B3.put {G : IM} {k : Int} {nm : ByteArray} {num tk fk lb : Int} {tks fks : List Ty} {us : List Tm} {pt pf p : Option Addr} {ct cf n c : Nat} {es : List (List Value)} (hk : H3 k) (hnum : H3 num) (hlb : H3 lb) (hty : C2 G (.mk tk tks) [.int .i64 tk, .slice pt tks.length ct]) (hfr : C2 G (.mk fk fks) [.int .i64 fk, .slice pf fks.length cf])
  (hn : n = us.length) (hs : C8 G p n c 9 es) (hr : D7 G us es) : B3 G (.mk k nm num (.mk tk tks) (.mk fk fks) lb us) [.int .i64 k, .string nm, .int .i64 num, .int .i64 tk, .slice pt tks.length ct, .int .i64 fk, .slice pf fks.length cf, .int .i64 lb, .slice p n c] := by
 subst hn
 simp only [B3]
 exact ⟨_, _, p, c, es, rfl, hk, hnum, hlb, hty, hfr, hs, hr⟩
theorem T6 {uc : List Value} (h : uc.length = 9) : ∃ v1 v2 v3 v4 v5 v6 v7 v8 v9, uc = [v1, v2, v3, v4, v5, v6, v7, v8, v9] := by
 match uc, h with
 | [a, b, c, d, e, f, g, i, j], _ => exact ⟨a, b, c, d, e, f, g, i, j, rfl⟩
theorem A9v {x : ByteArray} {v : Tm} {ks : List Tm} {i : Nat} (h : i < ks.length) : (Y7 x v ks).take (i + 1) = (Y7 x v ks).take i ++ [A0s x v ks[i]] := by
 rw [A4t, List.take_succ_eq_append_getElem (by rw [List.length_map]; exact h), List.getElem_map]
theorem A08 (x : ByteArray) (v : Tm) (ks : List Tm) : (Y7 x v ks).length = ks.length := by rw [A4t, List.length_map]
theorem A2v {Q : Prop} (h : Q := by (exact ⟨Nat.zero_le _, C5.refl _, by simp [D7]⟩)) : Q := h
theorem A6d {Q : Prop} (h : Q := by (dsimp only; exact ⟨by omega, hle.trans hle1, by rw [A9v (by omega)]; exact D7.snoc (hst.mono hle1) hru⟩)) : Q := h
theorem A6e {Q : Prop} (h : Q := by (rw [if_neg (by rintro ⟨h1, h2⟩; first | omega | contradiction), if_neg (by rintro ⟨h1, h2⟩; first | omega | contradiction)]; rw [List.take_of_length_le (by rw [A08]; omega)] at hst; exact V3.mk (B3.put hk hnum hlb (hty.mono hle2) (hfr.mono hle2) (by rw [A08]) (C8.of hsl2 (by omega) hst.all (fun e he => (hst.each e he).2)) (hst.mono hle2)))) : Q := h
theorem B31 (y : ByteArray) (v : Tm) (vc : List Value) : ∀ (t : Tm) (G : IM) (cells : List Value), t.small → B3 G t cells → B3 G v vc → Fn Tryz.prog 239 [.agg ⟨cells⟩, .string y, .agg ⟨vc⟩] [] G (V3 (A0s y v t)) := by
 refine Tm.ind fun k nm num ty fr lb ks ih G cells hts hr hv => ?_
 have hr0 := hr
 obtain ⟨_, _, _, hsm, hks⟩ := A0h.1 hts
 have hvl := hv.len
 have hvo := hv.one
 have hRl := hr.len
 have hRo := hr.one
 rw [A0s]
 obtain ⟨tk, tks⟩ := ty
 obtain ⟨fk, fks⟩ := fr
 obtain ⟨pt, ct, pf, cf, p, c, es, rfl, hk, hnum, hlb, hty, hfr, hsl, hkl⟩ := hr.open9
 have hn := hsl.le
 refine B8 Tryz.func239 rfl Tryz.ntmps239 Tryz.results239 rfl ?_
 intro w0
 refine A2 ?_
 refine sE (C6 rfl rfl) rfl (fun b3 => ?_)
 refine sE (C6 rfl rfl) rfl (fun b4 => ?_)
 refine sE (A6 rfl) rfl (fun b5 => ?_)
 refine B9 ?_
 refine B7 ?_
 refine B6 ?_
 refine sB (qE rfl rfl) rfl rfl (fun h14 => ?_) (fun h14 => ?_)
 refine B6 ?_
 refine sB (A1Y rfl rfl) rfl rfl (fun h19 => ?_) (fun h19 => ?_)
 refine A9 ?_
 refine sL (A0 rfl rfl (B1 (by repeat first | exact mH | apply mT)) hvl) rfl rfl ?_
 refine sS rfl rfl rfl hvl hvo rfl ?_ (hu := by exact D8 hvl.symm)
 refine B0 ?_
 refine L9 (rC rfl (A0 rfl rfl (B1 (by repeat first | exact mH | apply mT)) hvl)) ?_
 (rw [if_pos (by refine ⟨by omega, by assumption⟩)]; exact V3.mk hv)
 refine D9 ?_
 refine sP (J1 rfl rfl (by omega)) rfl rfl ?_
 refine J3 ?_
 refine sE (A6 rfl) rfl (fun b62 => ?_)
 refine U6 ?_
 refine B7 ?_
 (refine R5 37 9 ?_; refine I3 (fun (x : Nat × Option Addr × Nat × List (List Value) × IM) => ⟨[(37, .int .i64 x.1), (36, .int .i64 ks.length), (35, .slice p ks.length c), (1, .string y), (3, .pointer (some ⟨b3, 0, none⟩)), (5, .pointer (some ⟨b4, 0, none⟩)), (6, .pointer (some ⟨b5, 0, none⟩)), (7, .pointer (some ⟨b62, 0, none⟩))], [.blk b62 [.int .i64 k, .string nm, .int .i64 num, .int .i64 tk, .slice pt tks.length ct, .int .i64 fk, .slice pf fks.length cf, .int .i64 lb, .slice x.2.1 x.1 x.2.2.1], .slc x.2.1 x.2.2.1 37 9 x.1 x.2.2.2.1.flatten, .blk b5 [.int .i64 0, .string ⟨⟨[]⟩⟩, .int .i64 0, .int .i64 0, .slice none 0 0, .int .i64 0, .slice none 0 0, .int .i64 0, .slice none 0 0], .blk b4 vc, .blk b3 [.int .i64 k, .string nm, .int .i64 num, .int .i64 tk, .slice pt tks.length ct, .int .i64 fk, .slice pf fks.length cf, .int .i64 lb, .slice p ks.length c]], x.2.2.2.2⟩) (fun x => x.1 ≤ ks.length ∧ C5 G x.2.2.2.2 ∧ D7 x.2.2.2.2 ((Y7 y v ks).take x.1) x.2.2.2.1) (fun x => ks.length - x.1) (0, none, 0, [], G) ?_ ?_ ?_)
 (simp only [H9]; exact D3)
 exact A2v
 (rintro ⟨i, pn, cn, es', Gi⟩ ⟨hi, hle, hst⟩; simp only [] at hi hle hst ⊢; replace hsl := hsl.mono hle; replace hkl := hkl.mono hle; replace hv := hv.mono hle; replace hty := hty.mono hle; replace hfr := hfr.mono hle; have hsl' := hst.len; rw [List.length_take, A08] at hsl')
 refine A2 ?_
 refine sB (I8 rfl rfl) rfl rfl (fun h88 => ?_) (fun h88 => ?_)
 refine A9 ?_
 refine B7 ?_
 refine A2 ?_
 (have hil : i < ks.length := (by omega); obtain ⟨bx, ox, e, rfl, hl, hat, hre, hgb⟩ := hsl.kidTm hkl (i := i) (by omega) (by omega); have hel := hre.len; have heo := hre.one; refine sP (B2 (j := i) rfl rfl rfl (by omega)) rfl rfl ?_)
 refine sL (A0 rfl rfl (hat _) hl) rfl rfl ?_
 refine sE (A6 rfl) rfl (fun b101 => ?_)
 refine sS rfl rfl rfl hel heo rfl ?_ (hu := by exact D8 hel.symm)
 refine A2 ?_
 refine E1 E3 rfl ?_
 refine K9 (i := 2) (l' := [ff,ff,tt,ff,ff,ff,ff,ff,ff,ff]) rfl D5 (A0 rfl rfl (B1 (by repeat first | exact mH | apply mT)) hel) rfl (by kernel_rfl) rfl rfl ?_
 refine aL 4 rfl (A0 rfl rfl (B1 (by repeat first | exact mH | apply mT)) hvl) rfl ?_
 refine aP 0 rfl (C0 rfl) rfl ?_
 refine aL 1 rfl (C9 rfl rfl) rfl ?_
 refine aP 3 rfl (qM rfl) rfl ?_
 refine A3 5 ?_
 (refine H2 rfl rfl (ih ks[i] (List.getElem_mem (by omega)) Gi _ (Tm.smallL_mem hks _ (List.getElem_mem (by omega))) hre hv) rfl rfl rfl (fun u G1 hle1 hh => ?_); obtain ⟨uc, rfl, hru⟩ := hh; have hul := hru.len; have huo := hru.one; obtain ⟨v1, v2, v3, v4, v5, v6, v7, v8, v9, rfl⟩ := T6 hul)
 refine A3 6 ?_
 (refine E6 rfl (E2 rfl rfl rfl (by omega) (by unfold maxLen; omega) rfl) rfl rfl ?_; rintro _ ⟨b114, rfl⟩)
 refine A3 7 ?_
 (refine T9 rfl rfl rfl rfl rfl rfl (fun _ _ => by repeat (first | exact Sw.here | apply Sw.there)) (M4 (by repeat first | exact mH | apply mT)) rfl (fun u hu => List.all_eq_true.1 huo u hu) (by unfold maxLen; omega) (by omega) rfl rfl (by repeat (first | exact D1.nil | apply D1.dep (by decide +kernel) | apply D1.im (by decide +kernel) (by assumption) (by repeat first | exact mH | apply mT) | apply D1.blk (by decide +kernel) (by repeat (first | exact Pk.here | apply Pk.there)) (by repeat first | exact mH | apply mT))) (fun p7 c7 => ?_))
 refine aP 8 rfl (C0 rfl) rfl ?_
 refine A3 9 ?_
 refine X8 rfl rfl rfl rfl rfl rfl rfl rfl (by decide +kernel) (by repeat first | exact Sw.here | apply Sw.there) (by rfl) ?_
 refine B6 ?_
 refine sP (E7 rfl rfl (by omega) (by omega)) rfl rfl ?_
 refine A2 ?_
 refine I7 (i + 1, p7, c7, es' ++ [[v1, v2, v3, v4, v5, v6, v7, v8, v9]], G1) ?_ ?_ ?_
 (simp only [H9]; exact D3)
 exact A6d
 exact R6
 refine H1 ?_
 (refine H8 (cs := es'.flatten) (by repeat (first | exact Pk.here | apply Pk.there)) (fun G2 hle2 hsl2 hno2 => ?_); obtain rfl : i = ks.length := (by omega))
 refine tT ?_
 refine L9 (rC rfl (A4 rfl rfl)) ?_
 exact A6e
 refine J7 ?_
 refine sB (qE rfl rfl) rfl rfl (fun h164 => ?_) (fun h164 => ?_)
 refine B6 ?_
 refine sB (A1Y rfl rfl) rfl rfl (fun h169 => ?_) (fun h169 => ?_)
 refine J7 ?_
 refine L9 (rC rfl (A4 rfl rfl)) ?_
 (rw [if_neg (by rintro ⟨h1, h2⟩; first | omega | contradiction), if_pos (by refine ⟨by omega, by assumption⟩)]; exact V3.mk hr0)
 refine H0 ?_
 refine sE (A6 rfl) rfl (fun b197 => ?_)
 refine U6 ?_
 refine B7 ?_
 (refine R5 37 9 ?_; refine I3 (fun (x : Nat × Option Addr × Nat × List (List Value) × IM) => ⟨[(37, .int .i64 x.1), (36, .int .i64 ks.length), (35, .slice p ks.length c), (1, .string y), (3, .pointer (some ⟨b3, 0, none⟩)), (5, .pointer (some ⟨b4, 0, none⟩)), (6, .pointer (some ⟨b5, 0, none⟩)), (7, .pointer (some ⟨b197, 0, none⟩))], [.blk b197 [.int .i64 k, .string nm, .int .i64 num, .int .i64 tk, .slice pt tks.length ct, .int .i64 fk, .slice pf fks.length cf, .int .i64 lb, .slice x.2.1 x.1 x.2.2.1], .slc x.2.1 x.2.2.1 37 9 x.1 x.2.2.2.1.flatten, .blk b5 [.int .i64 0, .string ⟨⟨[]⟩⟩, .int .i64 0, .int .i64 0, .slice none 0 0, .int .i64 0, .slice none 0 0, .int .i64 0, .slice none 0 0], .blk b4 vc, .blk b3 [.int .i64 k, .string nm, .int .i64 num, .int .i64 tk, .slice pt tks.length ct, .int .i64 fk, .slice pf fks.length cf, .int .i64 lb, .slice p ks.length c]], x.2.2.2.2⟩) (fun x => x.1 ≤ ks.length ∧ C5 G x.2.2.2.2 ∧ D7 x.2.2.2.2 ((Y7 y v ks).take x.1) x.2.2.2.1) (fun x => ks.length - x.1) (0, none, 0, [], G) ?_ ?_ ?_)
 (simp only [H9]; exact D3)
 exact A2v
 (rintro ⟨i, pn, cn, es', Gi⟩ ⟨hi, hle, hst⟩; simp only [] at hi hle hst ⊢; replace hsl := hsl.mono hle; replace hkl := hkl.mono hle; replace hv := hv.mono hle; replace hty := hty.mono hle; replace hfr := hfr.mono hle; have hsl' := hst.len; rw [List.length_take, A08] at hsl')
 refine A2 ?_
 refine sB (I8 rfl rfl) rfl rfl (fun h223 => ?_) (fun h223 => ?_)
 refine A9 ?_
 refine B7 ?_
 refine A2 ?_
 (have hil : i < ks.length := (by omega); obtain ⟨bx, ox, e, rfl, hl, hat, hre, hgb⟩ := hsl.kidTm hkl (i := i) (by omega) (by omega); have hel := hre.len; have heo := hre.one; refine sP (B2 (j := i) rfl rfl rfl (by omega)) rfl rfl ?_)
 refine sL (A0 rfl rfl (hat _) hl) rfl rfl ?_
 refine sE (A6 rfl) rfl (fun b236 => ?_)
 refine sS rfl rfl rfl hel heo rfl ?_ (hu := by exact D8 hel.symm)
 refine A2 ?_
 refine E1 E3 rfl ?_
 refine K9 (i := 2) (l' := [ff,ff,tt,ff,ff,ff,ff,ff,ff,ff]) rfl D5 (A0 rfl rfl (B1 (by repeat first | exact mH | apply mT)) hel) rfl (by kernel_rfl) rfl rfl ?_
 refine aL 4 rfl (A0 rfl rfl (B1 (by repeat first | exact mH | apply mT)) hvl) rfl ?_
 refine aP 0 rfl (C0 rfl) rfl ?_
 refine aL 1 rfl (C9 rfl rfl) rfl ?_
 refine aP 3 rfl (qM rfl) rfl ?_
 refine A3 5 ?_
 (refine H2 rfl rfl (ih ks[i] (List.getElem_mem (by omega)) Gi _ (Tm.smallL_mem hks _ (List.getElem_mem (by omega))) hre hv) rfl rfl rfl (fun u G1 hle1 hh => ?_); obtain ⟨uc, rfl, hru⟩ := hh; have hul := hru.len; have huo := hru.one; obtain ⟨v1, v2, v3, v4, v5, v6, v7, v8, v9, rfl⟩ := T6 hul)
 refine A3 6 ?_
 (refine E6 rfl (E2 rfl rfl rfl (by omega) (by unfold maxLen; omega) rfl) rfl rfl ?_; rintro _ ⟨b249, rfl⟩)
 refine A3 7 ?_
 (refine T9 rfl rfl rfl rfl rfl rfl (fun _ _ => by repeat (first | exact Sw.here | apply Sw.there)) (M4 (by repeat first | exact mH | apply mT)) rfl (fun u hu => List.all_eq_true.1 huo u hu) (by unfold maxLen; omega) (by omega) rfl rfl (by repeat (first | exact D1.nil | apply D1.dep (by decide +kernel) | apply D1.im (by decide +kernel) (by assumption) (by repeat first | exact mH | apply mT) | apply D1.blk (by decide +kernel) (by repeat (first | exact Pk.here | apply Pk.there)) (by repeat first | exact mH | apply mT))) (fun p7 c7 => ?_))
 refine aP 8 rfl (C0 rfl) rfl ?_
 refine A3 9 ?_
 refine X8 rfl rfl rfl rfl rfl rfl rfl rfl (by decide +kernel) (by repeat first | exact Sw.here | apply Sw.there) (by rfl) ?_
 refine B6 ?_
 refine sP (E7 rfl rfl (by omega) (by omega)) rfl rfl ?_
 refine A2 ?_
 refine I7 (i + 1, p7, c7, es' ++ [[v1, v2, v3, v4, v5, v6, v7, v8, v9]], G1) ?_ ?_ ?_
 (simp only [H9]; exact D3)
 exact A6d
 exact R6
 refine H1 ?_
 (refine H8 (cs := es'.flatten) (by repeat (first | exact Pk.here | apply Pk.there)) (fun G2 hle2 hsl2 hno2 => ?_); obtain rfl : i = ks.length := (by omega))
 refine tT ?_
 refine L9 (rC rfl (A4 rfl rfl)) ?_
 exact A6e
 refine J3 ?_
 refine sE (A6 rfl) rfl (fun b301 => ?_)
 refine U6 ?_
 refine B7 ?_
 (refine R5 37 9 ?_; refine I3 (fun (x : Nat × Option Addr × Nat × List (List Value) × IM) => ⟨[(37, .int .i64 x.1), (36, .int .i64 ks.length), (35, .slice p ks.length c), (1, .string y), (3, .pointer (some ⟨b3, 0, none⟩)), (5, .pointer (some ⟨b4, 0, none⟩)), (6, .pointer (some ⟨b5, 0, none⟩)), (7, .pointer (some ⟨b301, 0, none⟩))], [.blk b301 [.int .i64 k, .string nm, .int .i64 num, .int .i64 tk, .slice pt tks.length ct, .int .i64 fk, .slice pf fks.length cf, .int .i64 lb, .slice x.2.1 x.1 x.2.2.1], .slc x.2.1 x.2.2.1 37 9 x.1 x.2.2.2.1.flatten, .blk b5 [.int .i64 0, .string ⟨⟨[]⟩⟩, .int .i64 0, .int .i64 0, .slice none 0 0, .int .i64 0, .slice none 0 0, .int .i64 0, .slice none 0 0], .blk b4 vc, .blk b3 [.int .i64 k, .string nm, .int .i64 num, .int .i64 tk, .slice pt tks.length ct, .int .i64 fk, .slice pf fks.length cf, .int .i64 lb, .slice p ks.length c]], x.2.2.2.2⟩) (fun x => x.1 ≤ ks.length ∧ C5 G x.2.2.2.2 ∧ D7 x.2.2.2.2 ((Y7 y v ks).take x.1) x.2.2.2.1) (fun x => ks.length - x.1) (0, none, 0, [], G) ?_ ?_ ?_)
 (simp only [H9]; exact D3)
 exact A2v
 (rintro ⟨i, pn, cn, es', Gi⟩ ⟨hi, hle, hst⟩; simp only [] at hi hle hst ⊢; replace hsl := hsl.mono hle; replace hkl := hkl.mono hle; replace hv := hv.mono hle; replace hty := hty.mono hle; replace hfr := hfr.mono hle; have hsl' := hst.len; rw [List.length_take, A08] at hsl')
 refine A2 ?_
 refine sB (I8 rfl rfl) rfl rfl (fun h327 => ?_) (fun h327 => ?_)
 refine A9 ?_
 refine B7 ?_
 refine A2 ?_
 (have hil : i < ks.length := (by omega); obtain ⟨bx, ox, e, rfl, hl, hat, hre, hgb⟩ := hsl.kidTm hkl (i := i) (by omega) (by omega); have hel := hre.len; have heo := hre.one; refine sP (B2 (j := i) rfl rfl rfl (by omega)) rfl rfl ?_)
 refine sL (A0 rfl rfl (hat _) hl) rfl rfl ?_
 refine sE (A6 rfl) rfl (fun b340 => ?_)
 refine sS rfl rfl rfl hel heo rfl ?_ (hu := by exact D8 hel.symm)
 refine A2 ?_
 refine E1 E3 rfl ?_
 refine K9 (i := 2) (l' := [ff,ff,tt,ff,ff,ff,ff,ff,ff,ff]) rfl D5 (A0 rfl rfl (B1 (by repeat first | exact mH | apply mT)) hel) rfl (by kernel_rfl) rfl rfl ?_
 refine aL 4 rfl (A0 rfl rfl (B1 (by repeat first | exact mH | apply mT)) hvl) rfl ?_
 refine aP 0 rfl (C0 rfl) rfl ?_
 refine aL 1 rfl (C9 rfl rfl) rfl ?_
 refine aP 3 rfl (qM rfl) rfl ?_
 refine A3 5 ?_
 (refine H2 rfl rfl (ih ks[i] (List.getElem_mem (by omega)) Gi _ (Tm.smallL_mem hks _ (List.getElem_mem (by omega))) hre hv) rfl rfl rfl (fun u G1 hle1 hh => ?_); obtain ⟨uc, rfl, hru⟩ := hh; have hul := hru.len; have huo := hru.one; obtain ⟨v1, v2, v3, v4, v5, v6, v7, v8, v9, rfl⟩ := T6 hul)
 refine A3 6 ?_
 (refine E6 rfl (E2 rfl rfl rfl (by omega) (by unfold maxLen; omega) rfl) rfl rfl ?_; rintro _ ⟨b353, rfl⟩)
 refine A3 7 ?_
 (refine T9 rfl rfl rfl rfl rfl rfl (fun _ _ => by repeat (first | exact Sw.here | apply Sw.there)) (M4 (by repeat first | exact mH | apply mT)) rfl (fun u hu => List.all_eq_true.1 huo u hu) (by unfold maxLen; omega) (by omega) rfl rfl (by repeat (first | exact D1.nil | apply D1.dep (by decide +kernel) | apply D1.im (by decide +kernel) (by assumption) (by repeat first | exact mH | apply mT) | apply D1.blk (by decide +kernel) (by repeat (first | exact Pk.here | apply Pk.there)) (by repeat first | exact mH | apply mT))) (fun p7 c7 => ?_))
 refine aP 8 rfl (C0 rfl) rfl ?_
 refine A3 9 ?_
 refine X8 rfl rfl rfl rfl rfl rfl rfl rfl (by decide +kernel) (by repeat first | exact Sw.here | apply Sw.there) (by rfl) ?_
 refine B6 ?_
 refine sP (E7 rfl rfl (by omega) (by omega)) rfl rfl ?_
 refine A2 ?_
 refine I7 (i + 1, p7, c7, es' ++ [[v1, v2, v3, v4, v5, v6, v7, v8, v9]], G1) ?_ ?_ ?_
 (simp only [H9]; exact D3)
 exact A6d
 exact R6
 refine H1 ?_
 (refine H8 (cs := es'.flatten) (by repeat (first | exact Pk.here | apply Pk.there)) (fun G2 hle2 hsl2 hno2 => ?_); obtain rfl : i = ks.length := (by omega))
 refine tT ?_
 refine L9 (rC rfl (A4 rfl rfl)) ?_
 exact A6e
section fin
variable {P : Program} {Γ : K8} {env : L6} {hp : List A5} {G : IM}
theorem A2w {r r2 r3 : ResultVar} {post : IM → Value → List A5 → Prop} {v v2 v3 : Value} {outs : List A5} (h : W0 P Γ ⟨env, hp, G⟩ r v) (h2 : W0 P Γ ⟨env, hp, G⟩ r2 v2) (h3 : W0 P Γ ⟨env, hp, G⟩ r3 v3) (ho : A8 hp outs) (hk : post G (.tuple ⟨[v, v2, v3]⟩) outs) :
  A0k P Γ [r, r2, r3] post .ret ⟨env, hp, G⟩ := A5c (.cons h (.cons h2 (.cons h3 .nil))) ho.spec hk
end fin
def CsP (bx : Nat) (e : Tm) (a b : Ty) (l : Int) : IM → Value → List A5 → Prop := fun G' v outs => ∃ cells, v = .agg ⟨cells⟩ ∧ outs = [.blk bx [.int .i64 (if M2 a b = true then l else l + 1)]] ∧ B3 G' (if M2 a b = true then e else K6 e a b (l + 1)) cells
theorem CsP.yes {G : IM} {bx : Nat} {e : Tm} {a b : Ty} {l : Int} {cells : List Value} (h : M2 a b = true) (hr : B3 G e cells) : CsP bx e a b l G (.agg ⟨cells⟩) [.blk bx [.int .i64 l]] := ⟨cells, rfl, by rw [if_pos h], by rw [if_pos h]; exact hr⟩
theorem CsP.no {G : IM} {bx : Nat} {e : Tm} {a b : Ty} {l : Int} {cells : List Value} (h : M2 a b = false) (hr : B3 G (K6 e a b (l + 1)) cells) : CsP bx e a b l G (.agg ⟨cells⟩) [.blk bx [.int .i64 (l + 1)]] := ⟨cells, rfl, by rw [if_neg (by rw [h]; decide)], by rw [if_neg (by rw [h]; decide)]; exact hr⟩
theorem B32 (bx : Nat) (e : Tm) (a b : Ty) (l : Int) (G : IM) (ce ca cb : List Value) (hl : -1000000000000 ≤ l ∧ l ≤ 1000000000000) (hre : B3 G e ce) (hra : C2 G a ca) (hrb : C2 G b cb) :
  Fn Tryz.prog 111 [.pointer (some ⟨bx, 0, none⟩), .agg ⟨ce⟩, .agg ⟨ca⟩, .agg ⟨cb⟩] [.blk bx [.int .i64 l]] G (CsP bx e a b l) := by
 have hel := hre.len
 have heo := hre.one
 have hS := A58 a b G ca cb hra hrb
 obtain ⟨v1, v2, v3, v4, v5, v6, v7, v8, v9, rfl⟩ := T6 hel
 obtain ⟨ak, aks⟩ := a
 obtain ⟨bk, bks⟩ := b
 obtain ⟨pa, cca, ea, rfl, hka, _⟩ := hra.open
 obtain ⟨pb, ccb, eb, rfl, hkb, _⟩ := hrb.open
 refine B8 Tryz.func111 rfl Tryz.ntmps111 Tryz.results111 rfl ?_
 intro w0
 refine A2 ?_
 refine sE (C6 rfl rfl) rfl (fun b3 => ?_)
 refine sE (C6 rfl rfl) rfl (fun b4 => ?_)
 refine sE (C6 rfl rfl) rfl (fun b5 => ?_)
 refine sE (A6 rfl) rfl (fun b6 => ?_)
 refine A9 ?_
 refine E8 rfl (hS) rfl rfl (fun h14 => ?_) (fun h14 => ?_)
 refine B0 ?_
 refine sL (A0 rfl rfl (B1 (by repeat first | exact mH | apply mT)) hel) rfl rfl ?_
 refine sS rfl rfl rfl hel heo rfl ?_ (hu := by exact D8 hel.symm)
 refine B6 ?_
 refine N4 (outs := [.blk bx [.int .i64 _]]) (rC rfl (A4 rfl rfl)) (A8.cons (by repeat (first | exact Pk.here | apply Pk.there)) A8.nil) ?_
 (exact CsP.yes (by assumption) hre)
 refine D0 ?_
 refine sQ (A2C rfl) rfl ?_
 refine A2 ?_
 refine sP (E7 rfl rfl (by omega) (by omega)) rfl rfl ?_
 refine sQ (A2C rfl) rfl ?_
 refine B0 ?_
 refine E1 E3 rfl ?_
 refine K9 (i := 6) (l' := [ff,ff,ff,ff,ff,ff,tt,ff,ff,ff]) rfl D5 (A0 rfl rfl (B1 (by repeat first | exact mH | apply mT)) hel) rfl (by kernel_rfl) rfl rfl ?_
 refine aL 0 rfl (A4 rfl rfl) rfl ?_
 refine aL 1 rfl (A4 rfl rfl) rfl ?_
 refine aP 2 rfl (qM rfl) rfl ?_
 refine aP 3 rfl (A2C rfl) rfl ?_
 refine aP 4 rfl (C0 rfl) rfl ?_
 refine aL 5 rfl (C9 rfl rfl) rfl ?_
 refine A3 7 ?_
 (refine E6 rfl (E2 rfl rfl rfl (by omega) (by unfold maxLen; omega) rfl) rfl rfl ?_; rintro _ ⟨b55, rfl⟩)
 refine aP 8 rfl (Z3 rfl rfl) rfl ?_
 refine A3 9 ?_
 refine H6 rfl ?_
 refine A2 ?_
 (refine H8 (cs := [v1, v2, v3, v4, v5, v6, v7, v8, v9]) (by repeat (first | exact Pk.here | apply Pk.there)) (fun G2 hle2 hsl2 hno2 => ?_))
 refine tT ?_
 refine N4 (outs := [.blk bx [.int .i64 _]]) (rC rfl (A4 rfl rfl)) (A8.cons (by repeat (first | exact Pk.here | apply Pk.there)) A8.nil) ?_
 (exact CsP.no (by assumption) (B3.put (us := [e]) (es := [[v1, v2, v3, v4, v5, v6, v7, v8, v9]]) ⟨by decide, by decide⟩ ⟨by decide, by decide⟩ ⟨by omega, by omega⟩ (hrb.mono hle2) (hra.mono hle2) rfl (C8.of hsl2 rfl (by intro x hx; obtain rfl := List.mem_singleton.1 hx; rfl) (by intro x hx; obtain rfl := List.mem_singleton.1 hx; exact heo)) (by simp only [D7]; exact ⟨_, _, rfl, hre.mono hle2, rfl⟩)))
theorem A09 (e : Tm) (a b : Ty) (l : Int) (G : IM) (ce ca cb : List Value) (hl : H3 l) (he : B3 G e ce) (ha : C2 G a ca) (hb : C2 G b cb) : Fn Tryz.prog 241 [.agg ⟨ce⟩, .agg ⟨ca⟩, .agg ⟨cb⟩, .int .i64 l] [] G (V3 (K6 e a b l)) := by
 have hel := he.len
 have heo := he.one
 obtain ⟨v1, v2, v3, v4, v5, v6, v7, v8, v9, rfl⟩ := T6 hel
 obtain ⟨ak, aks⟩ := a
 obtain ⟨bk, bks⟩ := b
 obtain ⟨pa, cca, ea, rfl, _⟩ := ha.open
 obtain ⟨pb, ccb, eb, rfl, _⟩ := hb.open
 refine B8 Tryz.func241 rfl Tryz.ntmps241 Tryz.results241 rfl ?_
 intro w0
 refine A2 ?_
 refine sE (C6 rfl rfl) rfl (fun b3 => ?_)
 refine sE (C6 rfl rfl) rfl (fun b4 => ?_)
 refine sE (C6 rfl rfl) rfl (fun b5 => ?_)
 refine sE (A6 rfl) rfl (fun b6 => ?_)
 refine B6 ?_
 refine sL (A0 rfl rfl (B1 (by repeat first | exact mH | apply mT)) rfl) rfl rfl ?_
 refine sL (A0 rfl rfl (B1 (by repeat first | exact mH | apply mT)) rfl) rfl rfl ?_
 refine E0 ?_
 refine sL (A0 rfl rfl (B1 (by repeat first | exact mH | apply mT)) rfl) rfl rfl ?_
 (refine J9 (E2 rfl rfl rfl (by omega) (by unfold maxLen; omega) rfl) rfl ?_; rintro _ ⟨b15, rfl⟩)
 refine B6 ?_
 (refine H8 (cs := [v1, v2, v3, v4, v5, v6, v7, v8, v9]) (by repeat (first | exact Pk.here | apply Pk.there)) (fun G2 hle2 hsl2 hno2 => ?_))
 refine tT ?_
 refine L9 (rC rfl (A4 rfl rfl)) ?_
 (exact V3.mk (B3.put (us := [e]) (es := [[v1, v2, v3, v4, v5, v6, v7, v8, v9]]) ⟨by decide, by decide⟩ ⟨by decide, by decide⟩ hl (hb.mono hle2) (ha.mono hle2) rfl (C8.of hsl2 rfl (by intro x hx; obtain rfl := List.mem_singleton.1 hx; rfl) (by intro x hx; obtain rfl := List.mem_singleton.1 hx; exact heo)) (by simp only [D7]; exact ⟨_, _, rfl, he.mono hle2, rfl⟩)))
theorem A29 (k : Int) (p : Option Addr) (n c : Nat) (G : IM) : Fn Tryz.prog 242 [.int .i64 k, .slice p n c] [] G (E5 (.agg ⟨[.int .i64 k, .string ⟨⟨[]⟩⟩, .int .i64 0, .int .i64 0, .slice none 0 0, .int .i64 0, .slice none 0 0, .int .i64 0, .slice p n c]⟩) G) := by
 refine B8 Tryz.func242 rfl Tryz.ntmps242 Tryz.results242 rfl ?_
 intro w0
 refine A2 ?_
 refine sE (A6 rfl) rfl (fun b3 => ?_)
 refine H0 ?_
 refine L9 (rC rfl (A4 rfl rfl)) ?_
 (exact ⟨rfl, rfl, rfl⟩)
theorem B33 (G : IM) {k : Int} (hk : H3 k) : B3 G (A0f k []) [.int .i64 k, .string ⟨⟨[]⟩⟩, .int .i64 0, .int .i64 0, .slice none 0 0, .int .i64 0, .slice none 0 0, .int .i64 0, .slice none 0 0] := A0J hk rfl (C8.nil _ _) rfl
theorem A4F {Q : Prop} (h : Q := by (exact V3.mk (B33 _ ⟨by decide, by decide⟩))) : Q := h
theorem B34 (G : IM) : Fn Tryz.prog 240 [.bool true] [] G (V3 (A0g (true = true))) := by
 refine B8 Tryz.func240 rfl Tryz.ntmps240 Tryz.results240 rfl ?_
 intro w0
 refine A2 ?_
 refine sE (A6 rfl) rfl (fun b3 => ?_)
 refine H0 ?_
 refine H4 rfl ((A29 _ _ _ _ _)) rfl rfl ?_
 refine B0 ?_
 refine L9 (rC rfl (A4 rfl rfl)) ?_
 exact A4F
theorem B35 (G : IM) : Fn Tryz.prog 240 [.bool false] [] G (V3 (A0g (false = true))) := by
 refine B8 Tryz.func240 rfl Tryz.ntmps240 Tryz.results240 rfl ?_
 intro w0
 refine A2 ?_
 refine sE (A6 rfl) rfl (fun b3 => ?_)
 refine J6 ?_
 refine H4 rfl ((A29 _ _ _ _ _)) rfl rfl ?_
 refine B6 ?_
 refine L9 (rC rfl (A4 rfl rfl)) ?_
 exact A4F
theorem A9w (b : Bool) (G : IM) : Fn Tryz.prog 240 [.bool b] [] G (V3 (A0g (b = true))) := by
 cases b
 ·exact B35 G
 ·exact B34 G
theorem A9x {a b : Int} (h : 0 ≤ a ∧ a ≤ 999) (h' : 0 ≤ b ∧ b ≤ 999) : (a + b).tmod 1000 = (a + b) % 1000 := by
 rw [Int.tmod_eq_emod_of_nonneg (by omega)]
def W5 (k : Int) (ks : List Tm) : Option Tm :=
 if k = 6 then (if (kd ks 0).k = 5 then some (A0s (kd ks 0).nm (kd ks 1) (kd (kd ks 0).ks 0)) else none)
 else if k = 7 ∨ k = 8 then (if (kd ks 0).k = 2 ∧ (kd ks 1).k = 2 then some (if k = 7 then A2j (((kd ks 0).num + (kd ks 1).num) % 1000) else A0g ((kd ks 0).num < (kd ks 1).num)) else none)
 else if k = 9 then (if (kd ks 0).k = 3 then some (kd ks 1) else if (kd ks 0).k = 4 then some (kd ks 2) else none)
 else if k = 11 ∨ k = 12 then (if (kd ks 0).k = 10 then some (kd (kd ks 0).ks (k - 11).toNat) else none)
 else none
def S7 (o : Option Tm) : IM → Value → List A5 → Prop := L5 fun G' v => ∃ u cells c, v = .tuple ⟨[.agg ⟨cells⟩, .int .i64 c]⟩ ∧ B3 G' u cells ∧ (∀ x, o = some x → c = 1 ∧ u = x) ∧ (o = none → c = 3)
theorem S7.yes {G : IM} {o : Option Tm} {u : Tm} {cells : List Value} (h : o = some u) (hr : B3 G u cells) : S7 o G (.tuple ⟨[.agg ⟨cells⟩, .int .i64 1]⟩) [] := by
 subst h; exact ⟨rfl, u, cells, 1, rfl, hr, fun x hx => (by cases hx; exact ⟨rfl, rfl⟩), fun h => (by cases h)⟩
theorem S7.no {G : IM} {o : Option Tm} {u : Tm} {cells : List Value} (h : o = none) (hr : B3 G u cells) : S7 o G (.tuple ⟨[.agg ⟨cells⟩, .int .i64 3]⟩) [] := by
 subst h; exact ⟨rfl, u, cells, 3, rfl, hr, fun x hx => (by cases hx), fun _ => rfl⟩
theorem O0 (G : IM) : B3 G L0 [.int .i64 0, .string ⟨⟨[]⟩⟩, .int .i64 0, .int .i64 0, .slice none 0 0, .int .i64 0, .slice none 0 0, .int .i64 0, .slice none 0 0] := (N5.zero G).R
theorem A2x {Q : Prop} (h : Q := by (exact S7.no (by rw [if_neg (by omega)]) (O0 _))) : Q := h
theorem B36 (a b : Tm) (nm : ByteArray) (num : Int) (ty fr : Ty) (lb : Int) (G : IM) (cells : List Value) (hca : cv a) (hr : B3 G (.mk 6 nm num ty fr lb [a, b]) cells) : Fn Tryz.prog 229 [.agg ⟨cells⟩] [] G (S7 (W5 6 [a, b])) := by
 have hsm := A2l a hca
 obtain ⟨ak, anm, anum, ⟨atk, atks⟩, ⟨afk, afks⟩, alb, aks⟩ := a
 obtain ⟨tk, tks⟩ := ty
 obtain ⟨fk, fks⟩ := fr
 obtain ⟨pt, ct, pf, cf, p, c, es, rfl, hk, hnum, hlb, hty, hfr, hsl, hkl⟩ := hr.open9
 obtain ⟨bx, ox, e0, rfl, hl0, hat0, hre0, hgb0⟩ := hsl.kidTm hkl (i := 0) (by simp) (by simp)
 replace hre0 : B3 G (.mk ak anm anum (.mk atk atks) (.mk afk afks) alb aks) e0 := hre0
 obtain ⟨apt, act, apf, acf, ap, ac, aes, rfl, hak, hanum, halb, haty, hafr, hasl, hakl⟩ := hre0.open9
 obtain ⟨_, _, e1, hp1, hl1, hat1, hre1, hgb1⟩ := hsl.kidTm hkl (i := 1) (by simp) (by simp)
 cases hp1
 replace hre1 : B3 G b e1 := hre1
 have ho1 := hre1.one
 obtain ⟨hN, _⟩ := hca.node
 have hops := hN.ops
 obtain ⟨_, _, _, _, hksm⟩ := A0h.1 hsm
 have h1 : ak = 5 → aks.length = 1 := fun h => by rw [h] at hops; have : F0 5 = 1 := rfl; omega
 have hL : ([Tm.mk ak anm anum (.mk atk atks) (.mk afk afks) alb aks, b] : List Tm).length = 2 := rfl
 rw [show W5 6 [Tm.mk ak anm anum (.mk atk atks) (.mk afk afks) alb aks, b] = (if ak = 5 then some (A0s anm b (kd aks 0)) else none) from rfl]
 refine B8 Tryz.func229 rfl Tryz.ntmps229 Tryz.results229 rfl ?_
 intro w0
 refine A2 ?_
 refine sE (C6 rfl rfl) rfl (fun b3 => ?_)
 refine sE (A6 rfl) rfl (fun b4 => ?_)
 refine A7 ?_
 refine sE (A6 rfl) rfl (fun b11 => ?_)
 refine D9 ?_
 refine sP (A3j rfl rfl (by omega)) rfl rfl ?_
 refine A7 ?_
 refine sP (B2 (j := 0) rfl rfl rfl (by simp)) rfl rfl ?_
 refine sL (A0 rfl rfl (hat0 _) rfl) rfl rfl ?_
 refine I9 ?_
 refine B7 ?_
 refine A2 ?_
 refine sP (A0l rfl rfl (by omega)) rfl rfl ?_
 refine D0 ?_
 refine sB (qE rfl rfl) rfl rfl (fun h52 => ?_) (fun h52 => ?_)
 refine B6 ?_
 (have hq : ak = 5 := (by omega); have hq1 := h1 hq; obtain ⟨bq, oq, e3, rfl, hl3, hat3, hre3, hgb3⟩ := hasl.kidTm hakl (i := 0) (by omega) (by omega); have hS := B31 anm b e1 aks[0] G e3 (Tm.smallL_mem hksm _ (List.getElem_mem (by omega))) hre3 hre1; refine E1 E3 rfl ?_)
 refine K2 (i := 0) (l' := [tt,ff,ff,ff,ff,ff,ff,ff,ff,ff,ff,ff,ff]) rfl D5 (C0 rfl) rfl (by kernel_rfl) rfl rfl ?_
 refine aL 1 rfl (C9 rfl rfl) rfl ?_
 refine aP 2 rfl (B2 (j := 0) rfl rfl rfl (by omega)) rfl ?_
 refine aL 3 rfl (A0 rfl rfl (hat3 _) hl3) rfl ?_
 refine aP 4 rfl (C0 rfl) rfl ?_
 refine aL 5 rfl (C9 rfl rfl) rfl ?_
 refine aP 6 rfl (C0 rfl) rfl ?_
 refine aL 7 rfl (C9 rfl rfl) rfl ?_
 refine aP 8 rfl (B2 (j := 1) rfl rfl rfl (by simp)) rfl ?_
 refine aL 9 rfl (A0 rfl rfl (hat1 _) hl1) rfl ?_
 refine A3 10 ?_
 (refine H2 rfl rfl hS rfl rfl rfl (fun u G1 hle1 hh => ?_); obtain ⟨uc, rfl, hru⟩ := hh; have hul := hru.len; have huo := hru.one)
 refine A3 11 ?_
 (refine oS rfl rfl rfl rfl hul huo rfl rfl ?_ (hu := by exact D8 hul.symm))
 refine aP 12 rfl (qA rfl) rfl ?_
 refine B0 ?_
 refine E9 (rC rfl (A0 rfl rfl (B1 (by repeat first | exact mH | apply mT)) hul)) (rT rfl) ?_
 (exact S7.yes (by rw [if_pos (by omega)]; unfold kd; rw [List.getD_eq_getElem?_getD, List.getElem?_eq_getElem (by omega), Option.getD_some]) hru)
 refine J7 ?_
 refine E9 (rC rfl (A4 rfl rfl)) (rT rfl) ?_
 exact A2x
theorem A9y (k : Int) (a b : Tm) (nm : ByteArray) (num : Int) (ty fr : Ty) (lb : Int) (G : IM) (cells : List Value) (hk78 : k = 7 ∨ k = 8) (hca : cv a) (hcb : cv b) (hr : B3 G (.mk k nm num ty fr lb [a, b]) cells) : Fn Tryz.prog 229 [.agg ⟨cells⟩] [] G (S7 (W5 k [a, b])) := by
 obtain ⟨ak, anm, anum, ⟨atk, atks⟩, ⟨afk, afks⟩, alb, aks⟩ := a
 obtain ⟨tk, tks⟩ := ty
 obtain ⟨fk, fks⟩ := fr
 obtain ⟨pt, ct, pf, cf, p, c, es, rfl, hk, hnum, hlb, hty, hfr, hsl, hkl⟩ := hr.open9
 obtain ⟨bx, ox, e0, rfl, hl0, hat0, hre0, hgb0⟩ := hsl.kidTm hkl (i := 0) (by simp) (by simp)
 replace hre0 : B3 G (.mk ak anm anum (.mk atk atks) (.mk afk afks) alb aks) e0 := hre0
 obtain ⟨apt, act, apf, acf, ap, ac, aes, rfl, hak, hanum, halb, haty, hafr, hasl, hakl⟩ := hre0.open9
 obtain ⟨bk, bnm, bnum, ⟨btk, btks⟩, ⟨bfk, bfks⟩, blb, bks⟩ := b
 obtain ⟨_, _, e1, hp1, hl1, hat1, hre1, hgb1⟩ := hsl.kidTm hkl (i := 1) (by simp) (by simp)
 cases hp1
 replace hre1 : B3 G (.mk bk bnm bnum (.mk btk btks) (.mk bfk bfks) blb bks) e1 := hre1
 obtain ⟨bpt, bct, bpf, bcf, bp, bc, bes, rfl, hbk, hbnum, hblb, hbty, hbfr, hbsl, hbkl⟩ := hre1.open9
 obtain ⟨hN, _⟩ := hca.node
 obtain ⟨hM, _⟩ := hcb.node
 obtain ⟨hn1, hn2⟩ := hN.num0
 obtain ⟨hm1, hm2⟩ := hM.num0
 have hL : ([Tm.mk ak anm anum (.mk atk atks) (.mk afk afks) alb aks, Tm.mk bk bnm bnum (.mk btk btks) (.mk bfk bfks) blb bks] : List Tm).length = 2 := rfl
 have hR : W5 k [Tm.mk ak anm anum (.mk atk atks) (.mk afk afks) alb aks, Tm.mk bk bnm bnum (.mk btk btks) (.mk bfk bfks) blb bks] = (if ak = 2 ∧ bk = 2 then some (if k = 7 then A2j ((anum + bnum) % 1000) else A0g (anum < bnum)) else none) := by
  unfold W5; rw [if_neg (by omega), if_pos hk78]; rfl
 rw [hR]
 have htm : (anum + bnum).tmod 1000 = (anum + bnum) % 1000 := A9x ⟨hn1, hn2⟩ ⟨hm1, hm2⟩
 have hb : H3 ((anum + bnum) % 1000) := ⟨by omega, by omega⟩
 refine B8 Tryz.func229 rfl Tryz.ntmps229 Tryz.results229 rfl ?_
 intro w0
 refine A2 ?_
 refine sE (C6 rfl rfl) rfl (fun b3 => ?_)
 refine sE (A6 rfl) rfl (fun b4 => ?_)
 refine A7 ?_
 refine sE (A6 rfl) rfl (fun b11 => ?_)
 refine D9 ?_
 refine sP (A3j rfl rfl (by omega)) rfl rfl ?_
 refine A7 ?_
 refine sP (B2 (j := 0) rfl rfl rfl (by simp)) rfl rfl ?_
 refine sL (A0 rfl rfl (hat0 _) rfl) rfl rfl ?_
 refine I9 ?_
 refine B7 ?_
 refine A2 ?_
 refine sP (J1 rfl rfl (by omega)) rfl rfl ?_
 refine A9 ?_
 refine sB (qE rfl rfl) rfl rfl (fun h51 => ?_) (fun h51 => ?_)
 refine H0 ?_
 refine sP (B2 (j := 1) rfl rfl rfl (by simp)) rfl rfl ?_
 refine sL (A0 rfl rfl (hat1 _) rfl) rfl rfl ?_
 refine sE (A6 rfl) rfl (fun b65 => ?_)
 refine B9 ?_
 refine B7 ?_
 refine B6 ?_
 refine sB (M7 rfl rfl) rfl rfl (fun h74 => ?_) (fun h74 => ?_)
 refine A0p ?_
 refine E9 (rC rfl (A4 rfl rfl)) (rT rfl) ?_
 exact A2x
 refine B9 ?_
 refine sB (M7 rfl rfl) rfl rfl (fun h101 => ?_) (fun h101 => ?_)
 refine Q0 ?_
 refine E9 (rC rfl (A4 rfl rfl)) (rT rfl) ?_
 exact A2x
 refine D9 ?_
 refine sP (A0l rfl rfl (by omega)) rfl rfl ?_
 refine I9 ?_
 refine sP (E7 rfl rfl (by omega) (by omega)) rfl rfl ?_
 refine sP (A45 rfl rfl (by omega)) rfl rfl ?_
 refine E0 ?_
 (rw [htm]; refine sS' ?_)
 refine A9 ?_
 refine E9 (rC rfl (A4 rfl rfl)) (rT rfl) ?_
 (exact S7.yes (u := A2j (HMod.hMod (anum + bnum) 1000)) (by rw [if_pos ⟨by omega, by omega⟩, if_pos (by omega)]) (B3.put (us := []) ⟨by decide, by decide⟩ hb ⟨by decide, by decide⟩ (A2W _) (A2W _) rfl (C8.nil _ _) rfl))
 refine B0 ?_
 refine sP (A0l rfl rfl (by omega)) rfl rfl ?_
 refine D0 ?_
 refine sP (B2 (j := 1) rfl rfl rfl (by simp)) rfl rfl ?_
 refine sL (A0 rfl rfl (hat1 _) rfl) rfl rfl ?_
 refine sE (A6 rfl) rfl (fun b170 => ?_)
 refine B9 ?_
 refine B7 ?_
 refine B6 ?_
 refine sB (M7 rfl rfl) rfl rfl (fun h179 => ?_) (fun h179 => ?_)
 refine A0p ?_
 refine E9 (rC rfl (A4 rfl rfl)) (rT rfl) ?_
 exact A2x
 refine B9 ?_
 refine sB (M7 rfl rfl) rfl rfl (fun h206 => ?_) (fun h206 => ?_)
 refine Q0 ?_
 refine E9 (rC rfl (A4 rfl rfl)) (rT rfl) ?_
 exact A2x
 refine D9 ?_
 refine sP (J1 rfl rfl (by omega)) rfl rfl ?_
 refine I9 ?_
 (refine sB (I8 rfl rfl) rfl rfl (fun h246 => ?_) (fun h246 => ?_))
 (refine D4 rfl (A9w _ _) rfl rfl (fun u G1 hle1 hh => ?_); obtain ⟨uc, rfl, hru⟩ := hh; have hul := hru.len; have huo := hru.one)
 refine sS rfl rfl rfl hul huo rfl ?_ (hu := by exact D8 hul.symm)
 refine A9 ?_
 refine E9 (rC rfl (A0 rfl rfl (B1 (by repeat first | exact mH | apply mT)) hul)) (rT rfl) ?_
 (exact S7.yes (by rw [if_pos ⟨by omega, by omega⟩, if_neg (by omega)]; unfold A0g; rw [if_pos (by omega), if_pos rfl]) hru)
 (refine D4 rfl (A9w _ _) rfl rfl (fun u G1 hle1 hh => ?_); obtain ⟨uc, rfl, hru⟩ := hh; have hul := hru.len; have huo := hru.one)
 refine sS rfl rfl rfl hul huo rfl ?_ (hu := by exact D8 hul.symm)
 refine A9 ?_
 refine E9 (rC rfl (A0 rfl rfl (B1 (by repeat first | exact mH | apply mT)) hul)) (rT rfl) ?_
 (exact S7.yes (by rw [if_pos ⟨by omega, by omega⟩, if_neg (by omega)]; unfold A0g; rw [if_neg (by omega), if_neg (by decide)]) hru)
theorem B37 (a b c0 : Tm) (nm : ByteArray) (num : Int) (ty fr : Ty) (lb : Int) (G : IM) (cells : List Value) (hr : B3 G (.mk 9 nm num ty fr lb [a, b, c0]) cells) : Fn Tryz.prog 229 [.agg ⟨cells⟩] [] G (S7 (W5 9 [a, b, c0])) := by
 obtain ⟨ak, anm, anum, ⟨atk, atks⟩, ⟨afk, afks⟩, alb, aks⟩ := a
 obtain ⟨tk, tks⟩ := ty
 obtain ⟨fk, fks⟩ := fr
 obtain ⟨pt, ct, pf, cf, p, c, es, rfl, hk, hnum, hlb, hty, hfr, hsl, hkl⟩ := hr.open9
 obtain ⟨bx, ox, e0, rfl, hl0, hat0, hre0, hgb0⟩ := hsl.kidTm hkl (i := 0) (by simp) (by simp)
 replace hre0 : B3 G (.mk ak anm anum (.mk atk atks) (.mk afk afks) alb aks) e0 := hre0
 obtain ⟨apt, act, apf, acf, ap, ac, aes, rfl, hak, hanum, halb, haty, hafr, hasl, hakl⟩ := hre0.open9
 obtain ⟨_, _, e1, hp1, hl1, hat1, hre1, hgb1⟩ := hsl.kidTm hkl (i := 1) (by simp) (by simp)
 cases hp1
 replace hre1 : B3 G b e1 := hre1
 have ho1 := hre1.one
 obtain ⟨_, _, e2, hp2, hl2, hat2, hre2, hgb2⟩ := hsl.kidTm hkl (i := 2) (by simp) (by simp)
 cases hp2
 replace hre2 : B3 G c0 e2 := hre2
 have ho2 := hre2.one
 have hL : ([Tm.mk ak anm anum (.mk atk atks) (.mk afk afks) alb aks, b, c0] : List Tm).length = 3 := rfl
 rw [show W5 9 [Tm.mk ak anm anum (.mk atk atks) (.mk afk afks) alb aks, b, c0] = (if ak = 3 then some b else if ak = 4 then some c0 else none) from rfl]
 refine B8 Tryz.func229 rfl Tryz.ntmps229 Tryz.results229 rfl ?_
 intro w0
 refine A2 ?_
 refine sE (C6 rfl rfl) rfl (fun b3 => ?_)
 refine sE (A6 rfl) rfl (fun b4 => ?_)
 refine A7 ?_
 refine sE (A6 rfl) rfl (fun b11 => ?_)
 refine D9 ?_
 refine sP (A3j rfl rfl (by omega)) rfl rfl ?_
 refine A7 ?_
 refine sP (B2 (j := 0) rfl rfl rfl (by simp)) rfl rfl ?_
 refine sL (A0 rfl rfl (hat0 _) rfl) rfl rfl ?_
 refine I9 ?_
 refine B7 ?_
 refine A2 ?_
 refine sP (J1 rfl rfl (by omega)) rfl rfl ?_
 refine A9 ?_
 refine sP (J1 rfl rfl (by omega)) rfl rfl ?_
 refine B0 ?_
 refine sP (J1 rfl rfl (by omega)) rfl rfl ?_
 refine A7 ?_
 refine sP (A0l rfl rfl (by omega)) rfl rfl ?_
 refine I9 ?_
 refine B7 (tS (tR (sB (qE rfl rfl) rfl rfl (fun h78 => ?_) (fun h78 => ?_))))
 refine D0 ?_
 refine sP (B2 (j := 1) rfl rfl rfl (by simp)) rfl rfl ?_
 refine sL (A0 rfl rfl (hat1 _) hl1) rfl rfl ?_
 refine sS rfl rfl rfl hl1 ho1 rfl ?_ (hu := by exact D8 hl1.symm)
 refine A9 ?_
 refine E9 (rC rfl (A0 rfl rfl (B1 (by repeat first | exact mH | apply mT)) hl1)) (rT rfl) ?_
 (exact S7.yes (by rw [if_pos (by omega)]) hre1)
 refine A7 ?_
 refine sB (qE rfl rfl) rfl rfl (fun h105 => ?_) (fun h105 => ?_)
 refine D0 ?_
 refine sP (B2 (j := 2) rfl rfl rfl (by simp)) rfl rfl ?_
 refine sL (A0 rfl rfl (hat2 _) hl2) rfl rfl ?_
 refine sS rfl rfl rfl hl2 ho2 rfl ?_ (hu := by exact D8 hl2.symm)
 refine A9 ?_
 refine E9 (rC rfl (A0 rfl rfl (B1 (by repeat first | exact mH | apply mT)) hl2)) (rT rfl) ?_
 (exact S7.yes (by rw [if_neg (by omega), if_pos (by omega)]) hre2)
 refine J3 ?_
 refine E9 (rC rfl (A4 rfl rfl)) (rT rfl) ?_
 (exact S7.no (by rw [if_neg (by omega), if_neg (by omega)]) (O0 _))
theorem A9z (k : Int) (a : Tm) (nm : ByteArray) (num : Int) (ty fr : Ty) (lb : Int) (G : IM) (cells : List Value) (hk1 : k = 11 ∨ k = 12) (hca : cv a) (hr : B3 G (.mk k nm num ty fr lb [a]) cells) : Fn Tryz.prog 229 [.agg ⟨cells⟩] [] G (S7 (W5 k [a])) := by
 obtain ⟨ak, anm, anum, ⟨atk, atks⟩, ⟨afk, afks⟩, alb, aks⟩ := a
 obtain ⟨tk, tks⟩ := ty
 obtain ⟨fk, fks⟩ := fr
 obtain ⟨pt, ct, pf, cf, p, c, es, rfl, hk, hnum, hlb, hty, hfr, hsl, hkl⟩ := hr.open9
 obtain ⟨bx, ox, e0, rfl, hl0, hat0, hre0, hgb0⟩ := hsl.kidTm hkl (i := 0) (by simp) (by simp)
 replace hre0 : B3 G (.mk ak anm anum (.mk atk atks) (.mk afk afks) alb aks) e0 := hre0
 obtain ⟨apt, act, apf, acf, ap, ac, aes, rfl, hak, hanum, halb, haty, hafr, hasl, hakl⟩ := hre0.open9
 obtain ⟨hN, _⟩ := hca.node
 have hops := hN.ops
 have h2 : ak = 10 → aks.length = 2 := fun h => by rw [h] at hops; have : F0 10 = 2 := rfl; omega
 have hL : ([Tm.mk ak anm anum (.mk atk atks) (.mk afk afks) alb aks] : List Tm).length = 1 := rfl
 have hR : W5 k [Tm.mk ak anm anum (.mk atk atks) (.mk afk afks) alb aks] = (if ak = 10 then some (kd aks (k - 11).toNat) else none) := by
  unfold W5; rw [if_neg (by omega), if_neg (by omega), if_neg (by omega), if_pos hk1]; rfl
 rw [hR]
 obtain ⟨i, hi⟩ : ∃ i : Nat, (k - 11).toNat = i := ⟨_, rfl⟩
 rw [hi]
 refine B8 Tryz.func229 rfl Tryz.ntmps229 Tryz.results229 rfl ?_
 intro w0
 refine A2 ?_
 refine sE (C6 rfl rfl) rfl (fun b3 => ?_)
 refine sE (A6 rfl) rfl (fun b4 => ?_)
 refine A7 ?_
 refine sE (A6 rfl) rfl (fun b11 => ?_)
 refine D9 ?_
 refine sP (A3j rfl rfl (by omega)) rfl rfl ?_
 refine A7 ?_
 refine sP (B2 (j := 0) rfl rfl rfl (by simp)) rfl rfl ?_
 refine sL (A0 rfl rfl (hat0 _) rfl) rfl rfl ?_
 refine I9 ?_
 refine B7 ?_
 refine A2 ?_
 refine sP (J1 rfl rfl (by omega)) rfl rfl ?_
 refine A9 ?_
 refine sP (J1 rfl rfl (by omega)) rfl rfl ?_
 refine B0 ?_
 refine sP (J1 rfl rfl (by omega)) rfl rfl ?_
 refine A7 ?_
 refine sP (J1 rfl rfl (by omega)) rfl rfl ?_
 refine A9 ?_
 refine sB (qE rfl rfl) rfl rfl (fun h72 => ?_) (fun h72 => ?_)
 refine H0 ?_
 refine sB (qE rfl rfl) rfl rfl (fun h84 => ?_) (fun h84 => ?_)
 refine B6 ?_
 (have hq : ak = 10 := (by omega); have hq1 := h2 hq; obtain ⟨bq, oq, e3, rfl, hl3, hat3, hre3, hgb3⟩ := hasl.kidTm hakl (i := i) (by omega) (by omega); have ho3 := hre3.one)
 refine B0 ?_
 refine sP (V9 rfl rfl (by omega) (by omega)) rfl rfl ?_
 (rw [show (k - 11 : Int) = ((i : Nat) : Int) from (by omega)]; refine sP (B2 (j := i) rfl rfl rfl (by omega)) rfl rfl ?_)
 refine sL (A0 rfl rfl (hat3 _) hl3) rfl rfl ?_
 refine sS rfl rfl rfl hl3 ho3 rfl ?_ (hu := by exact D8 hl3.symm)
 refine A7 ?_
 refine E9 (rC rfl (A0 rfl rfl (B1 (by repeat first | exact mH | apply mT)) hl3)) (rT rfl) ?_
 (exact S7.yes (by rw [if_pos (by omega)]; unfold kd; rw [List.getD_eq_getElem?_getD, List.getElem?_eq_getElem (by omega), Option.getD_some]) hre3)
 refine J7 ?_
 refine E9 (rC rfl (A4 rfl rfl)) (rT rfl) ?_
 exact A2x
 refine B0 ?_
 refine sP (A0l rfl rfl (by omega)) rfl rfl ?_
 refine D0 ?_
 refine sB (qE rfl rfl) rfl rfl (fun h137 => ?_) (fun h137 => ?_)
 refine B6 ?_
 (have hq : ak = 10 := (by omega); have hq1 := h2 hq; obtain ⟨bq, oq, e3, rfl, hl3, hat3, hre3, hgb3⟩ := hasl.kidTm hakl (i := i) (by omega) (by omega); have ho3 := hre3.one)
 refine B0 ?_
 refine sP (V9 rfl rfl (by omega) (by omega)) rfl rfl ?_
 (rw [show (k - 11 : Int) = ((i : Nat) : Int) from (by omega)]; refine sP (B2 (j := i) rfl rfl rfl (by omega)) rfl rfl ?_)
 refine sL (A0 rfl rfl (hat3 _) hl3) rfl rfl ?_
 refine sS rfl rfl rfl hl3 ho3 rfl ?_ (hu := by exact D8 hl3.symm)
 refine A7 ?_
 refine E9 (rC rfl (A0 rfl rfl (B1 (by repeat first | exact mH | apply mT)) hl3)) (rT rfl) ?_
 (exact S7.yes (by rw [if_pos (by omega)]; unfold kd; rw [List.getD_eq_getElem?_getD, List.getElem?_eq_getElem (by omega), Option.getD_some]) hre3)
 refine J7 ?_
 refine E9 (rC rfl (A4 rfl rfl)) (rT rfl) ?_
 exact A2x
end Gw
end Go.Proofs.YtebfignffjhnhaaGreatDoor
