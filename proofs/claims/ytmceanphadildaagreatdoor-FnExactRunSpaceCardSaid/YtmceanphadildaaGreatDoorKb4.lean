/-
  The reference's types are those of the insertion.
-/
import Derived.Test.YtmceanphadildaaGreatDoorKb3
import Derived.Test.YtmceanphadildaaGreatDoorKb2
set_option linter.unusedVariables false
set_option linter.unusedSimpArgs false
set_option maxHeartbeats 0
set_option maxRecDepth 100000
set_option synthInstance.maxSize 4000
set_option synthInstance.maxHeartbeats 0
namespace Go.Proofs.YtmceanphadildaaGreatDoor
open Go Go.RowKit
namespace Gw
def W5 (cx : Cx) : Prop := ∀ b ∈ cx, H0 b.2 = true
theorem A3f : W5 [] := by intro b hb; simp at hb
theorem A3g {cx : Cx} {k : Int} {nm : ByteArray} {ty : Ty} (h : W5 cx) (ht : k = 5 → H0 ty = true) : W5 (M6 cx k nm ty) := by
 unfold M6
 split
 ·intro b hb
  rcases List.mem_append.1 hb with hb | hb
  ·exact h b hb
  ·obtain rfl := List.mem_singleton.1 hb; exact ht zS
 ·exact h
theorem B2z {cx : Cx} {k : Int} {nm : ByteArray} {ty : Ty} {h : List Ty} (hcx : W5 cx) (hh : ∀ a ∈ h, H0 a = true) (hty : k = 13 → H0 ty = true) (hn : H8 k = (h.length : Int)) :
  (∀ w t, W2 cx k nm ty h = some (w, t) → T8 cx k nm ty h = some t ∧ H0 t = true) ∧ (W2 cx k nm ty h = none → T8 cx k nm ty h = none) := by
 unfold W2 T8
 have hv := fun w t (e : L6 cx k nm ty h = some (w, t)) (h5 : k ≠ 5 ∧ k ≠ 10) => B2y hcx hh (by cases h with | nil => exact .inr rfl | cons x xs => exact .inl (hh _ zW)) hty hn e h5
 cases hw : L6 cx k nm ty h with
 | none => simp
 | some p =>
  obtain ⟨w, t⟩ := p
  have hv := hv w t hw
  simp only
  by_cases h5 : k = 5 ∨ k = 10
  ·cases ht : H0 t with
   | true => simp [ht]
   | false => simp [h5]
  ·have := hv zV
   simp [this]
theorem A8i (ks : List Tm) (ih : ∀ t ∈ ks, ∀ d cx l, N1 12 14 t d = true → W5 cx → (∀ u a l', N0 cx t l = some (u, a, l') → O0 cx t = some a ∧ H0 a = true) ∧ (N0 cx t l = none → O0 cx t = none)) :
  ∀ d cx l, N2 12 14 ks d = true → W5 cx → (∀ us h l', M4 cx ks l = some (us, h, l') → S5 cx ks = some h ∧ (∀ a ∈ h, H0 a = true) ∧ h.length = ks.length ∧ us.length = ks.length) ∧ (M4 cx ks l = none → S5 cx ks = none) := by
 induction ks with
 | nil =>
  intro d cx l _ _
  refine ⟨fun us h l' he => ?_, fun he => by simp [M4] at he⟩
  simp only [M4, Option.some.injEq, Prod.mk.injEq] at he
  obtain ⟨rfl, rfl, _⟩ := he
  exact ⟨by rw [S5], by simp, rfl, rfl⟩
 | cons t ts ihl =>
  intro d cx l hs hcx
  rw [N2, Bool.and_eq_true] at hs
  obtain ⟨a1, a2⟩ := ih t List.mem_cons_self d cx l hs.1 hcx
  rw [M4, S5]
  cases he : N0 cx t l with
  | none => rw [a2 he]; exact ⟨fun _ _ _ h => by simp at h, fun _ => rfl⟩
  | some p =>
   obtain ⟨u, a, l1⟩ := p
   obtain ⟨b1, b2⟩ := a1 u a l1 he
   rw [b1]
   obtain ⟨c1, c2⟩ := ihl (fun x hx => ih x (List.mem_cons_of_mem _ hx)) d cx l1 hs.2 hcx
   simp only
   cases hL : M4 cx ts l1 with
   | none => rw [c2 hL]; exact ⟨fun _ _ _ h => by simp at h, fun _ => rfl⟩
   | some q =>
    obtain ⟨us, h, l2⟩ := q
    obtain ⟨d1, d2, d3, d4⟩ := c1 us h l2 hL
    rw [d1]
    refine ⟨fun us' h' l' e => ?_, fun e => by simp at e⟩
    simp only [Option.some.injEq, Prod.mk.injEq] at e
    obtain ⟨rfl, rfl, _⟩ := e
    refine ⟨rfl, fun x hx => ?_, by simp [d3], by simp [d4]⟩
    rcases List.mem_cons.1 hx with rfl | hx
    ·exact b2
    ·exact d2 x hx
theorem A2A : ∀ (t : Tm) (d : Int) (cx : Cx) (l : Int), N1 12 14 t d = true → W5 cx → (∀ u a l', N0 cx t l = some (u, a, l') → O0 cx t = some a ∧ H0 a = true) ∧ (N0 cx t l = none → O0 cx t = none) := by
 refine Tm.ind fun k nm num ty fr lb ks ih d cx l hs hcx => ?_
 obtain ⟨_, _, h3, h4⟩ := A0Q hs
 obtain ⟨n1, _, _, _, _, n6, _⟩ := S8.1 h3
 obtain ⟨L1, L2⟩ := A8i ks ih (d + 1) (M6 cx k nm ty) l h4 (A3g hcx fun hk => n6 zV)
 rw [N0, O0]
 cases hL : M4 (M6 cx k nm ty) ks l with
 | none => rw [L2 hL]; exact ⟨fun _ _ _ h => by simp at h, fun _ => rfl⟩
 | some q =>
  obtain ⟨us, h, l2⟩ := q
  obtain ⟨d1, d2, d3, d4⟩ := L1 us h l2 hL
  rw [d1]
  obtain ⟨e1, e2⟩ := B2z (k := k) (nm := nm) (ty := ty) hcx d2 (fun hk => n6 (.inr (.inl hk))) (by rw [d3]; exact n1)
  simp only [A1k]
  cases hN : W2 cx k nm ty h with
  | none => rw [e2 hN]; exact ⟨fun _ _ _ h => by simp at h, fun _ => rfl⟩
  | some p =>
   obtain ⟨w, t⟩ := p
   obtain ⟨f1, f2⟩ := e1 w t hN
   rw [f1]
   refine ⟨fun u a l' e => ?_, fun e => by simp at e⟩
   simp only [Option.some.injEq, Prod.mk.injEq] at e
   obtain ⟨_, rfl, _⟩ := e
   exact ⟨rfl, f2⟩
theorem A0S {cx : Cx} {k : Int} {nm : ByteArray} {num : Int} {ty fr : Ty} {lb : Int} {ks : List Tm} {T : Ty} (h : M1 cx (.mk k nm num ty fr lb ks) = some T) :
  ∃ us, R6 (M6 cx k nm ty) ks = some us ∧ (k = 14 → us.getD 0 C6 = fr ∧ T = ty) ∧ (k ≠ 14 → H0 T = true ∧ ∃ w, L6 cx k nm ty us = some (w, T) ∧ A0l w us = true) := by
 rw [M1] at h
 split at h
 ·cases h
 ·rename_i us hu
  refine ⟨us, hu, fun hk => ?_, fun hk => ?_⟩
  ·rw [if_pos hk] at h
   split at h
   ·rename_i hs; cases h; exact ⟨(A0P _ _).1 hs, rfl⟩
   ·cases h
  ·rw [if_neg hk] at h
   split at h
   ·cases h
   ·rename_i w t hn
    split at h
    ·rename_i hs
     cases h
     obtain ⟨h1, h2⟩ := A5z hn
     exact ⟨h1, w, h2, hs⟩
    ·cases h
theorem B2A {cx : Cx} {k : Int} {nm : ByteArray} {num : Int} {ty fr : Ty} {lb : Int} {ks : List Tm} {T : Ty} {us w : List Ty} (hu : R6 (M6 cx k nm ty) ks = some us) (hk : k ≠ 14) (hv : H0 T = true) (hw : L6 cx k nm ty us = some (w, T)) (hs : A0l w us = true) : M1 cx (.mk k nm num ty fr lb ks) = some T := by
 rw [M1, hu]
 simp only [if_neg hk]
 unfold W2
 rw [hw]
 simp only [hv, if_true, hs]
theorem A3h {cx : Cx} {a : Tm} {us : List Ty} (h : R6 cx [a] = some us) : ∃ x, M1 cx a = some x ∧ us = [x] := by
 rw [R6] at h
 split at h
 ·cases h
 ·rename_i x hx
  rw [R6] at h
  simp only [Option.some.injEq] at h
  exact ⟨x, hx, h.symm⟩
theorem A35 {cx : Cx} {a b : Tm} {us : List Ty} (h : R6 cx [a, b] = some us) : ∃ x y, M1 cx a = some x ∧ M1 cx b = some y ∧ us = [x, y] := by
 rw [R6] at h
 split at h
 ·cases h
 ·rename_i x hx
  split at h
  ·cases h
  ·rename_i vs hv
   obtain ⟨y, hy, rfl⟩ := A3h hv
   simp only [Option.some.injEq] at h
   exact ⟨x, y, hx, hy, h.symm⟩
theorem B2B {cx : Cx} {a b c : Tm} {us : List Ty} (h : R6 cx [a, b, c] = some us) : ∃ x y z, M1 cx a = some x ∧ M1 cx b = some y ∧ M1 cx c = some z ∧ us = [x, y, z] := by
 rw [R6] at h
 split at h
 ·cases h
 ·rename_i x hx
  split at h
  ·cases h
  ·rename_i vs hv
   obtain ⟨y, z, hy, hz, rfl⟩ := A35 hv
   simp only [Option.some.injEq] at h
   exact ⟨x, y, z, hx, hy, hz, h.symm⟩
theorem B2C {cx : Cx} {a : Tm} {x : Ty} (h : M1 cx a = some x) : R6 cx [a] = some [x] := by rw [R6, h]; rfl
mutual
theorem A13 : ∀ a : Ty, J0 a a = true
 | .mk k ks => by rw [P6, A8j ks]; simp
theorem A8j : ∀ xs : List Ty, M3 xs xs = true
 | [] => rfl
 | a :: xs => by rw [M3, A13 a, A8j xs]; rfl
end
mutual
theorem A8k : ∀ a : Ty, R5 a a = a
 | .mk k ks => by
  rw [A2n, A8l ks]
  by_cases h : k = 1
  ·rw [if_pos h]
  ·rw [if_neg h, if_neg h]
theorem A8l : ∀ xs : List Ty, Q7 xs xs = xs
 | [] => rfl
 | a :: xs => by rw [Q7, A8k a, A8l xs]
end
theorem A36 {k : Int} {ks : List Ty} (hk : k = 4 ∨ k = 5) (h : H0 (.mk k ks) = true) : ∃ a b, ks = [a, b] ∧ H0 a = true ∧ H0 b = true := by
 unfold H0 at h ⊢
 rw [A3d, Bool.and_eq_true, Bool.and_eq_true, decide_eq_true_eq, decide_eq_true_eq] at h
 have h2 : ks.length = 2 := by
  have : Z9 k = 2 := by rcases hk with rfl | rfl <;> rfl
  omega
 match ks, h2, h.2 with
 | [x, y], _, hL =>
  simp only [R2, Bool.and_eq_true] at hL
  exact ⟨x, y, rfl, A3e _ 2 1 zV hL.1, A3e _ 2 1 zV hL.2.1⟩
theorem B2D {k : Int} {ks : List Ty} (h : H0 (.mk k ks) = true) (hk : k ≠ 4) (hk5 : k ≠ 5) : (k = 1 ∨ k = 2 ∨ k = 3) ∧ ks = [] := by
 unfold H0 at h
 rw [A3d, Bool.and_eq_true, Bool.and_eq_true, decide_eq_true_eq, decide_eq_true_eq] at h
 obtain ⟨h1, h2, h3⟩ := M0 k
 have hl := h.1.2
 have hk3 : k = 1 ∨ k = 2 ∨ k = 3 := by
  apply Classical.byContradiction
  intro hc
  rw [h3 zV zV zV hk hk5] at hl; omega
 rw [h1 hk3] at hl
 exact ⟨hk3, List.length_eq_zero_iff.1 zV⟩
section inv
variable {cx : Cx} {nm : ByteArray} {num : Int} {ty fr : Ty} {lb : Int} {a b c : Tm} {T : Ty}
theorem B2E {x y : Ty} (h : A0l [x] [y] = true) : x = y := by
 simp only [A0l, Bool.and_true] at h; exact (A0P _ _).1 h
theorem A8m {x y x' y' : Ty} (h : A0l [x, y] [x', y'] = true) : x = x' ∧ y = y' := by
 simp only [A0l, Bool.and_true, Bool.and_eq_true] at h; exact ⟨(A0P _ _).1 h.1, (A0P _ _).1 h.2⟩
theorem B2F {x y z x' y' z' : Ty} (h : A0l [x, y, z] [x', y', z'] = true) : x = x' ∧ y = y' ∧ z = z' := by
 simp only [A0l, Bool.and_true, Bool.and_eq_true] at h; exact ⟨(A0P _ _).1 h.1, (A0P _ _).1 h.2.1, (A0P _ _).1 h.2.2⟩
theorem A8n : ∀ xs : List Ty, A0l xs xs = true
 | [] => rfl
 | a :: xs => by rw [A0l, A5k, A8n xs]; rfl
theorem B2G (h : M1 cx (.mk 6 nm num ty fr lb [a, b]) = some T) : ∃ A, M1 cx a = some (.mk 4 [A, T]) ∧ M1 cx b = some A := by
 obtain ⟨us, hu, _, hn⟩ := A0S h
 rw [M6, if_neg zV] at hu
 obtain ⟨x, y, hx, hy, rfl⟩ := A35 hu
 obtain ⟨_, w, hw, hs⟩ := hn zU
 unfold L6 at hw
 simp only [show ¬((6 : Int) = 1) by decide, show ¬((6 : Int) = 2) by decide, show ¬((6 : Int) = 3 ∨ (6 : Int) = 4) by decide, show ¬((6 : Int) = 5) by decide, if_false, if_true, List.getD_cons_zero, List.getD_cons_succ] at hw
 split at hw
 ·rename_i p q hm
  split at hw
  ·cases hw
   obtain ⟨h1, h2⟩ := A8m hs
   subst h1 h2
   exact ⟨_, hx, hy⟩
  ·cases hw
 ·cases hw
theorem B2H {k : Int} (hk : k = 7 ∨ k = 8) (h : M1 cx (.mk k nm num ty fr lb [a, b]) = some T) : M1 cx a = some O4 ∧ M1 cx b = some O4 ∧ T = if k = 8 then T0 else O4 := by
 obtain ⟨us, hu, _, hn⟩ := A0S h
 rw [M6, if_neg zV] at hu
 obtain ⟨x, y, hx, hy, rfl⟩ := A35 hu
 obtain ⟨_, w, hw, hs⟩ := hn zV
 unfold L6 at hw
 rw [if_neg zV, if_neg zV, if_neg zV, if_neg zV, if_neg zV, if_pos hk] at hw
 split at hw
 ·cases hw
  obtain ⟨h1, h2⟩ := A8m hs
  subst h1 h2
  exact ⟨hx, hy, rfl⟩
 ·cases hw
theorem B2I (h : M1 cx (.mk 9 nm num ty fr lb [a, b, c]) = some T) : M1 cx a = some T0 ∧ M1 cx b = some T ∧ M1 cx c = some T := by
 obtain ⟨us, hu, _, hn⟩ := A0S h
 rw [M6, if_neg zV] at hu
 obtain ⟨x, y, z, hx, hy, hz, rfl⟩ := B2B hu
 obtain ⟨_, w, hw, hs⟩ := hn zU
 unfold L6 at hw
 rw [if_neg zV, if_neg zV, if_neg zV, if_neg zV, if_neg zV, if_neg zV, if_pos rfl] at hw
 split at hw
 ·cases hw
  obtain ⟨h1, h2, h3⟩ := B2F hs
  simp only [List.getD_cons_zero, List.getD_cons_succ] at h2 h3 ⊢
  refine ⟨by rw [hx, h1], by rw [hy]; congr 1; exact h2.symm, by rw [hz]; congr 1; exact h3.symm⟩
 ·cases hw
theorem B2J (h : M1 cx (.mk 10 nm num ty fr lb [a, b]) = some T) : ∃ A B, M1 cx a = some A ∧ M1 cx b = some B ∧ T = .mk 5 [A, B] := by
 obtain ⟨us, hu, _, hn⟩ := A0S h
 rw [M6, if_neg zV] at hu
 obtain ⟨x, y, hx, hy, rfl⟩ := A35 hu
 obtain ⟨_, w, hw, hs⟩ := hn zU
 unfold L6 at hw
 rw [if_neg zV, if_neg zV, if_neg zV, if_neg zV, if_neg zV, if_neg zV, if_neg zV, if_pos rfl] at hw
 cases hw
 exact ⟨x, y, hx, hy, rfl⟩
theorem B2K {k : Int} (hk : k = 11 ∨ k = 12) (h : M1 cx (.mk k nm num ty fr lb [a]) = some T) : ∃ A B, M1 cx a = some (.mk 5 [A, B]) ∧ T = if k = 12 then B else A := by
 obtain ⟨us, hu, _, hn⟩ := A0S h
 rw [M6, if_neg zV] at hu
 obtain ⟨x, hx, rfl⟩ := A3h hu
 obtain ⟨_, w, hw, hs⟩ := hn zV
 unfold L6 at hw
 rw [if_neg zV, if_neg zV, if_neg zV, if_neg zV, if_neg zV, if_neg zV, if_neg zV, if_neg zV, if_neg zV] at hw
 split at hw
 ·rename_i p q hm
  cases hw
  have h1 := B2E hs
  subst h1
  exact ⟨p, q, hx, rfl⟩
 ·cases hw
theorem B2L (h : M1 cx (.mk 14 nm num ty fr lb [a]) = some T) : M1 cx a = some fr ∧ T = ty := by
 obtain ⟨us, hu, hn, _⟩ := A0S h
 obtain ⟨x, hx, rfl⟩ := A3h hu
 obtain ⟨h1, h2⟩ := hn rfl
 simp only [List.getD_cons_zero] at h1
 subst h1
 exact ⟨hx, h2⟩
theorem B2M (h : M1 cx a = some fr) : M1 cx (.mk 14 nm num ty fr lb [a]) = some ty := by
 rw [M1, show M6 cx 14 nm ty = cx from rfl, B2C h]
 simp only [if_true, List.getD_cons_zero, A5k]
theorem B2N (h : M1 cx (.mk 5 nm num ty fr lb [a]) = some T) : ∃ B, M1 (cx ++ [(nm, ty)]) a = some B ∧ T = .mk 4 [ty, B] := by
 obtain ⟨us, hu, _, hn⟩ := A0S h
 rw [M6, if_pos rfl] at hu
 obtain ⟨x, hx, rfl⟩ := A3h hu
 obtain ⟨_, w, hw, hs⟩ := hn zU
 unfold L6 at hw
 rw [if_neg zV, if_neg zV, if_neg zV, if_pos rfl] at hw
 cases hw
 exact ⟨x, hx, rfl⟩
theorem A8o (h : M1 cx (.mk 1 nm num ty fr lb []) = some T) : W1 cx nm = some T := by
 obtain ⟨us, hu, _, hn⟩ := A0S h
 obtain ⟨_, w, hw, hs⟩ := hn zU
 unfold L6 at hw
 rw [if_pos rfl] at hw
 split at hw
 ·rename_i t ht; cases hw; exact ht
 ·cases hw
theorem B2O (h : M1 cx (.mk 2 nm num ty fr lb []) = some T) : T = O4 := by
 obtain ⟨us, hu, _, hn⟩ := A0S h
 obtain ⟨_, w, hw, hs⟩ := hn zU
 cases hw; rfl
theorem B2P {k : Int} (hk : k = 3 ∨ k = 4) (h : M1 cx (.mk k nm num ty fr lb []) = some T) : T = T0 := by
 obtain ⟨us, hu, _, hn⟩ := A0S h
 obtain ⟨_, w, hw, hs⟩ := hn zV
 rcases hk with rfl | rfl <;> (cases hw; rfl)
end inv
theorem B2Q (cx : Cx) (x nm : ByteArray) (t : Ty) : W1 (cx ++ [(x, t)]) nm = if x = nm then some t else W1 cx nm := by
 unfold W1
 rw [List.length_append, show ([(x, t)] : Cx).length = 1 from rfl]
 have hl : (cx ++ [(x, t)])[cx.length]? = some (x, t) := by rw [List.getElem?_append_right (Nat.le_refl _)]; simp
 by_cases h : x = nm
 ·rw [A5l hl h, if_pos h]
 ·rw [A5m hl h, if_neg h]
  have : ∀ n, n ≤ cx.length → U3 (cx ++ [(x, t)]) nm n = U3 cx nm n := by
   intro n
   induction n with
   | zero => intro _; rfl
   | succ n ih =>
    intro hn
    rw [U3, U3, List.getElem?_append_left zV, ih zV]
  exact this _ (Nat.le_refl _)
theorem ks1 {ks : List Tm} (h : ks.length = 1) : ∃ a, ks = [a] := by
 match ks, h with
 | [a], _ => exact ⟨a, rfl⟩
theorem A37 {k : Int} (h : 0 ≤ H8 k) : 1 ≤ k ∧ k ≤ 14 := by
 by_cases hk : 1 ≤ k ∧ k ≤ 14
 ·exact hk
 ·rw [A3E hk] at h; omega
def A1z (r : Stp) : IM → Value → List A5 → Prop := K9 fun G' v => ∃ cells, v = .tuple ⟨[.agg ⟨cells⟩, .int .i64 r.2.1, .int .i64 r.2.2]⟩ ∧ D1 G' r.1 cells
theorem A1z.mk {G : IM} {r : Stp} {u : Tm} {c l : Int} {cells : List Value} (h : r = (u, c, l)) (hr : D1 G u cells) : A1z r G (.tuple ⟨[.agg ⟨cells⟩, .int .i64 c, .int .i64 l]⟩) [] := by
 subst h; exact ⟨rfl, cells, rfl, hr⟩
theorem B2R {t : Tm} (h : T5 t = true) : t.small := A7V t (A28 h).1
def A38 : Nat → Tm → Tm × Int × Int × Nat
 | 0, e => ((R7 e).1, (R7 e).2.1, (R7 e).2.2, 0)
 | n + 1, e => if (R7 e).2.1 = 1 then ((A38 n (R7 e).1).1, (A38 n (R7 e).1).2.1, (A38 n (R7 e).1).2.2.1, (A38 n (R7 e).1).2.2.2 + 1)
  else ((R7 e).1, (R7 e).2.1, (R7 e).2.2, 0)
def EvP (r : Tm × Int × Int × Nat) : IM → Value → List A5 → Prop := K9 fun G' v => ∃ cells, v = .tuple ⟨[.agg ⟨cells⟩, .int .i64 r.2.1, .int .i64 r.2.2.1, .int .i64 (r.2.2.2 : Int)]⟩ ∧ D1 G' r.1 cells
def B5c (i : Nat) (r : Tm × Int × Int × Nat) : Tm × Int × Int × Nat := (r.1, r.2.1, r.2.2.1, r.2.2.2 + i)
section fin
variable {P : Program} {Γ : K7} {env : L4} {hp : List A5} {G : IM}
theorem A0D {r r2 r3 r4 : ResultVar} {post : IM → Value → List A5 → Prop} {v v2 v3 v4 : Value} (h : V5 P Γ ⟨env, hp, G⟩ r v) (h2 : V5 P Γ ⟨env, hp, G⟩ r2 v2) (h3 : V5 P Γ ⟨env, hp, G⟩ r3 v3) (h4 : V5 P Γ ⟨env, hp, G⟩ r4 v4) (hk : post G (.tuple ⟨[v, v2, v3, v4]⟩) []) :
  A0i P Γ [r, r2, r3, r4] post .ret ⟨env, hp, G⟩ := A3y (.cons h (.cons h2 (.cons h3 (.cons h4 .nil)))) hk
end fin
theorem B2S (fuel : Int) (G : IM) : Fn Tryz.prog 31 [.int .i64 fuel] [] G (F8 (.bool (Q6 fuel 0 300)) G) := by
 refine D5 Tryz.func31 rfl Tryz.ntmps31 Tryz.results31 rfl ?_
 intro w0
 refine B4 ?_
 refine E5 rfl ((A0M _ _ _ _)) rfl rfl ?_
 refine A9 ?_
 (exact ⟨rfl, rfl, rfl⟩)
mutual
def A8p (L : Int → Prop) : Tm → Prop
 | .mk k nm num ty fr lb ks => (k = 14 → L lb) ∧ A8q L ks
def A8q (L : Int → Prop) : List Tm → Prop
 | [] => True
 | t :: ts => A8p L t ∧ A8q L ts
end
def B5d (L : Int → Prop) (T : Ty) (r : Stp) : Prop := (r.2.1 = 1 ∧ M1 [] r.1 = some T ∧ A8p L r.1) ∨ (r.2.1 = 2 ∧ L r.2.2)
theorem A3i {cx : Cx} : ∀ {ks : List Tm} {i : Nat} (hi : i < ks.length) {l l' l2 : Int} {us : List Tm} {h : List Ty} {u : Tm} {a : Ty}, M4 cx (ks.take i) l = some (us, h, l') → N0 cx ks[i] l' = some (u, a, l2) → M4 cx (ks.take (i + 1)) l = some (us ++ [u], h ++ [a], l2)
 | [], i, hi, _, _, _, _, _, _, _, _, _ => by simp at hi
 | t :: ts, 0, _, l, l', l2, us, h, u, a, h1, h2 => by
  simp only [List.take_zero, M4, Option.some.injEq, Prod.mk.injEq] at h1
  obtain ⟨rfl, rfl, rfl⟩ := h1
  simp only [List.getElem_cons_zero] at h2
  simp [M4, h2]
 | t :: ts, i + 1, hi, l, l', l2, us, h, u, a, h1, h2 => by
  simp only [List.take_succ_cons, M4] at h1 ⊢
  split at h1
  ·cases h1
  ·rename_i u1 a1 l1 he
   split at h1
   ·cases h1
   ·rename_i us1 h1' l1' hL
    simp only [Option.some.injEq, Prod.mk.injEq] at h1
    obtain ⟨rfl, rfl, rfl⟩ := h1
    simp only [List.getElem_cons_succ] at h2
    have := A3i (ks := ts) (i := i) (by simpa using hi) hL h2
    simp only [this, List.cons_append]
theorem A5D {cx : Cx} : ∀ {ks : List Tm} {i : Nat} (hi : i < ks.length) {l l' : Int} {us : List Tm} {h : List Ty}, M4 cx (ks.take i) l = some (us, h, l') → N0 cx ks[i] l' = none → M4 cx ks l = none
 | [], i, hi, _, _, _, _, _, _ => by simp at hi
 | t :: ts, 0, _, l, l', us, h, h1, h2 => by
  simp only [List.take_zero, M4, Option.some.injEq, Prod.mk.injEq] at h1
  obtain ⟨rfl, rfl, rfl⟩ := h1
  simp only [List.getElem_cons_zero] at h2
  simp [M4, h2]
 | t :: ts, i + 1, hi, l, l', us, h, h1, h2 => by
  simp only [List.take_succ_cons, M4] at h1 ⊢
  split at h1
  ·cases h1
  ·rename_i u1 a1 l1 he
   split at h1
   ·cases h1
   ·rename_i us1 h1' l1' hL
    simp only [Option.some.injEq, Prod.mk.injEq] at h1
    obtain ⟨rfl, rfl, rfl⟩ := h1
    simp only [List.getElem_cons_succ] at h2
    have := A5D (ks := ts) (i := i) (by simpa using hi) hL h2
    simp only [this]
theorem A0e (us : List Tm) (h : List Ty) (l : Int) : H7 us h [] l = (us, l) := by
 cases us with
 | nil => rfl
 | cons u us => cases h <;> rfl
theorem A3j : ∀ (us : List Tm) (h w : List Ty) (l : Int) (j : Nat) (hj : j < w.length) (hu : w.length ≤ us.length) (hh : w.length ≤ h.length),
  (H7 us h (w.take j) l).1.length = us.length ∧ (∀ (hq : j < (H7 us h (w.take j) l).1.length), (H7 us h (w.take j) l).1[j] = us[j]'zV) ∧
  H7 us h (w.take (j + 1)) l = if M5 (h[j]'zV) w[j] = true then H7 us h (w.take j) l else ((H7 us h (w.take j) l).1.set j (P3 (us[j]'zV) (h[j]'zV) w[j] ((H7 us h (w.take j) l).2 + 1)), (H7 us h (w.take j) l).2 + 1)
 | us, h, [], l, j, hj, _, _ => by simp at hj
 | [], h, b :: w, l, j, _, hu, _ => by simp at hu
 | u :: us, [], b :: w, l, j, _, _, hh => by simp at hh
 | u :: us, a :: h, b :: w, l, 0, _, _, _ => by
  refine ⟨by simp [H7], by simp [H7], ?_⟩
  simp only [List.take_succ_cons, List.take_zero, H7, A0e, List.getElem_cons_zero, List.set_cons_zero]
 | u :: us, a :: h, b :: w, l, j + 1, hj, hu, hh => by
  simp only [List.take_succ_cons, List.getElem_cons_succ]
  by_cases hs : M5 a b = true
  ·have ih := A3j us h w l j (by simpa using hj) (by simpa using hu) (by simpa using hh)
   simp only [H7, if_pos hs]
   obtain ⟨i1, i2, i3⟩ := ih
   refine ⟨by simp [i1], fun hq => by simp [i2], ?_⟩
   rw [i3]
   split <;> simp
  ·have ih := A3j us h w (l + 1) j (by simpa using hj) (by simpa using hu) (by simpa using hh)
   simp only [H7, if_neg hs]
   obtain ⟨i1, i2, i3⟩ := ih
   refine ⟨by simp [i1], fun hq => by simp [i2], ?_⟩
   rw [i3]
   split <;> simp
theorem A1l : ∀ (us : List Tm) (h w : List Ty) (l : Int), (H7 us h w l).1.length = us.length
 | [], h, w, l => by simp [H7]
 | u :: us, [], w, l => by simp [H7]
 | u :: us, a :: h, [], l => by simp [H7]
 | u :: us, a :: h, b :: w, l => by
  simp only [H7]
  split
  ·simp [A1l us h w l]
  ·simp [A1l us h w (l + 1)]
theorem A8r {us : List Tm} {h w : List Ty} {l : Int} {j : Nat} (hj : j < w.length) (hu : w.length ≤ us.length) (hh : w.length ≤ h.length) :
  (H7 us h (w.take (j + 1)) l).1 = (H7 us h (w.take j) l).1.set j (if M5 (h[j]'zV) w[j] = true then us[j]'zV else P3 (us[j]'zV) (h[j]'zV) w[j] ((H7 us h (w.take j) l).2 + 1)) ∧
  (H7 us h (w.take (j + 1)) l).2 = (if M5 (h[j]'zV) w[j] = true then (H7 us h (w.take j) l).2 else (H7 us h (w.take j) l).2 + 1) := by
 obtain ⟨h1, h2, h3⟩ := A3j us h w l j hj hu hh
 by_cases hs : M5 (h[j]'zV) w[j] = true
 ·rw [h3, if_pos hs, if_pos hs, if_pos hs]
  refine ⟨?_, rfl⟩
  rw [← h2 zV, List.set_getElem_self]
 ·rw [h3, if_neg hs, if_neg hs, if_neg hs]
  exact ⟨rfl, rfl⟩
theorem A0T : ∀ (us : List Tm) (h w : List Ty) (l : Int), l ≤ (H7 us h w l).2 ∧ (H7 us h w l).2 ≤ l + us.length
 | [], h, w, l => by simp [H7]
 | u :: us, [], w, l => by simp [H7]; omega
 | u :: us, a :: h, [], l => by simp [H7]; omega
 | u :: us, a :: h, b :: w, l => by
  simp only [H7]
  split
  ·have := A0T us h w l; simp only [List.length_cons]; omega
  ·have := A0T us h w (l + 1); simp only [List.length_cons]; omega
mutual
theorem A8s : ∀ a b : Ty, J0 a b = true → J0 b a = true
 | .mk k ks, .mk k' ks', h => by
  rw [P6] at h ⊢
  simp only [Bool.or_eq_true, Bool.and_eq_true, decide_eq_true_eq] at h ⊢
  rcases h with (h | h) | h
  ·exact .inl (.inr h)
  ·exact .inl (.inl h)
  ·exact .inr ⟨h.1.symm, A8t ks ks' h.2⟩
theorem A8t : ∀ xs ys : List Ty, M3 xs ys = true → M3 ys xs = true
 | [], [], _ => rfl
 | [], b :: ys, h => by simp [M3] at h
 | a :: xs, [], h => by simp [M3] at h
 | a :: xs, b :: ys, h => by
  simp only [M3, Bool.and_eq_true] at h ⊢
  exact ⟨A8s a b h.1, A8t xs ys h.2⟩
end
mutual
theorem A8u : ∀ a b : Ty, J0 a b = true → J0 a (R5 a b) = true ∧ J0 b (R5 a b) = true
 | .mk k ks, .mk k' ks', h => by
  rw [A2n]
  by_cases h1 : k = 1
  ·rw [if_pos h1]
   exact ⟨h, A13 _⟩
  ·rw [if_neg h1]
   by_cases h2 : k' = 1
   ·rw [if_pos h2]
    exact ⟨A13 _, A8s _ _ h⟩
   ·rw [if_neg h2]
    rw [P6] at h
    simp only [Bool.or_eq_true, Bool.and_eq_true, decide_eq_true_eq] at h
    have h3 : k = k' ∧ M3 ks ks' = true := by
     rcases h with (h | h) | h
     ·exact absurd h h1
     ·exact absurd h h2
     ·exact h
    obtain ⟨m1, m2⟩ := A8v ks ks' h3.2
    rw [P6, P6, m1, m2]
    simp [h3.1]
theorem A8v : ∀ xs ys : List Ty, M3 xs ys = true → M3 xs (Q7 xs ys) = true ∧ M3 ys (Q7 xs ys) = true
 | [], [], _ => ⟨rfl, rfl⟩
 | [], b :: ys, h => by simp [M3] at h
 | a :: xs, [], h => by simp [M3] at h
 | a :: xs, b :: ys, h => by
  simp only [M3, Bool.and_eq_true] at h
  obtain ⟨m1, m2⟩ := A8u a b h.1
  obtain ⟨m3, m4⟩ := A8v xs ys h.2
  simp only [Q7, M3, m1, m2, m3, m4]
  exact ⟨rfl, rfl⟩
end
theorem B2T {k : Int} {a b : Ty} (hk : k = 4 ∨ k = 5) (h : H0 (.mk k [a, b]) = true) : H0 a = true ∧ H0 b = true := by
 obtain ⟨x, y, he, h1, h2⟩ := A36 hk h
 cases he
 exact ⟨h1, h2⟩
theorem B2U {k : Int} (hk : k = 4 ∨ k = 5) : H0 (.mk k [P7, P7]) = true := by rcases hk with rfl | rfl <;> decide
theorem A8w {k : Int} {t a b : Ty} (hk : k = 4 ∨ k = 5) (ht : H0 t = true) (h : O8 k t = some (a, b)) : H0 (.mk k [a, b]) = true ∧ J0 t (.mk k [a, b]) = true := by
 obtain ⟨tk, ks⟩ := t
 rw [A1i] at h
 by_cases he : tk = k
 ·subst he
  rw [if_pos rfl] at h
  obtain ⟨x, y, rfl, _, _⟩ := A36 hk ht
  cases h
  exact ⟨ht, A13 _⟩
 ·rw [if_neg he] at h
  by_cases h1 : tk = 1
  ·rw [if_pos h1] at h
   cases h
   refine ⟨B2U hk, ?_⟩
   rw [P6, h1]; rfl
  ·rw [if_neg h1] at h; cases h
structure Wt (cx : Cx) (k : Int) (nm : ByteArray) (ty : Ty) (h w : List Ty) (t : Ty) : Prop where
 len : w = [] ∨ w.length = h.length
 ok : ∀ i, (hi : i < w.length) → (hh : i < h.length) → J0 h[i] w[i] = true ∧ H0 w[i] = true
 again : k ≠ 13 → L6 cx k nm ty (if w = [] then h else w) = some (w, t)
 asT : k = 13 → w = [t]
theorem A8x {cx : Cx} {k : Int} {nm : ByteArray} {ty : Ty} {h w : List Ty} {t : Ty} (hh : ∀ a ∈ h, H0 a = true) (hty : k = 13 → H0 ty = true) (hn : H8 k = (h.length : Int)) (h14 : k ≠ 14) (hw : L6 cx k nm ty h = some (w, t)) : Wt cx k nm ty h w t := by
 have hkr := A37 (by rw [hn]; omega : 0 ≤ H8 k)
 have hkk : k = 1 ∨ k = 2 ∨ (k = 3 ∨ k = 4) ∨ k = 5 ∨ k = 6 ∨ (k = 7 ∨ k = 8) ∨ k = 9 ∨ k = 10 ∨ (k = 11 ∨ k = 12) ∨ k = 13 := by omega
 have nil : w = [] → k ≠ 13 → Wt cx k nm ty h w t := by
  rintro rfl h13
  exact ⟨.inl rfl, fun i hi => by simp at hi, fun _ => by rw [if_pos rfl]; exact hw, fun h => absurd h h13⟩
 rcases hkk with rfl | rfl | hk | rfl | rfl | hk | rfl | rfl | hk | rfl
 ·refine nil ?_ zU
  rw [mW1] at hw; split at hw <;> cases hw; rfl
 ·refine nil ?_ zU
  rw [mW2] at hw; cases hw; rfl
 ·refine nil ?_ zV
  rw [A3b hk] at hw; cases hw; rfl
 ·refine nil ?_ zU
  rw [mW5] at hw; cases hw; rfl
 ·match h, (show h.length = 2 by have : H8 6 = 2 := rfl; omega) with
  | [x, y], _ =>
  rw [mW6] at hw
  simp only [List.getD_cons_zero, List.getD_cons_succ] at hw
  split at hw
  ·rename_i a b hm
   split at hw
   ·rename_i hc
    cases hw
    obtain ⟨v1, v2⟩ := A8w (.inl rfl) (hh x zW) hm
    obtain ⟨v3, v4⟩ := B2T (.inl rfl) v1
    refine ⟨.inr rfl, fun i hi hi2 => ?_, fun _ => ?_, fun h => absurd h zU⟩
    ·match i, hi with
     | 0, _ => exact ⟨v2, v1⟩
     | 1, _ => exact ⟨hc, v3⟩
    ·rw [if_neg zW, mW6]
     simp only [List.getD_cons_zero, List.getD_cons_succ, A1i, if_true, A13]
   ·cases hw
  ·cases hw
 ·match h, (show h.length = 2 by rcases hk with rfl | rfl <;> (first | (have : H8 7 = 2 := rfl; omega) | (have : H8 8 = 2 := rfl; omega))) with
  | [x, y], _ =>
  rw [S3 hk] at hw
  simp only [List.getD_cons_zero, List.getD_cons_succ] at hw
  split at hw
  ·rename_i hc
   cases hw
   refine ⟨.inr rfl, fun i hi hi2 => ?_, fun _ => ?_, fun h => by omega⟩
   ·match i, hi with
    | 0, _ => exact ⟨hc.1, (show H0 O4 = true by decide)⟩
    | 1, _ => exact ⟨hc.2, (show H0 O4 = true by decide)⟩
   ·rw [if_neg zW, S3 hk]
    simp only [List.getD_cons_zero, List.getD_cons_succ, A13, and_self, if_true]
  ·cases hw
 ·match h, (show h.length = 3 by have : H8 9 = 3 := rfl; omega) with
  | [x, y, z], _ =>
  rw [mW9] at hw
  simp only [List.getD_cons_zero, List.getD_cons_succ] at hw
  split at hw
  ·rename_i hc
   cases hw
   obtain ⟨c1, c2⟩ := A8u y z hc.2
   have vm := A5B y z 1 hc.2 (hh y zW) (hh z zW)
   refine ⟨.inr rfl, fun i hi hi2 => ?_, fun _ => ?_, fun h => absurd h zU⟩
   ·match i, hi with
    | 0, _ => exact ⟨hc.1, (show H0 T0 = true by decide)⟩
    | 1, _ => exact ⟨c1, vm⟩
    | 2, _ => exact ⟨c2, vm⟩
   ·rw [if_neg zW, mW9]
    simp only [List.getD_cons_zero, List.getD_cons_succ, A13, and_self, if_true, A8k]
  ·cases hw
 ·refine nil ?_ zU
  rw [A33] at hw; cases hw; rfl
 ·match h, (show h.length = 1 by rcases hk with rfl | rfl <;> (first | (have : H8 11 = 1 := rfl; omega) | (have : H8 12 = 1 := rfl; omega))) with
  | [x], _ =>
  rw [A2z hk] at hw
  simp only [List.getD_cons_zero] at hw
  split at hw
  ·rename_i a b hm
   cases hw
   obtain ⟨v1, v2⟩ := A8w (.inr rfl) (hh x zW) hm
   refine ⟨.inr rfl, fun i hi hi2 => ?_, fun _ => ?_, fun h => by omega⟩
   ·match i, hi with
    | 0, _ => exact ⟨v2, v1⟩
   ·rw [if_neg zW, A2z hk]
    simp only [List.getD_cons_zero, List.getD_cons_succ, A1i, if_true]
  ·cases hw
 ·match h, (show h.length = 1 by have : H8 13 = 1 := rfl; omega) with
  | [x], _ =>
  rw [A12] at hw
  simp only [List.getD_cons_zero] at hw
  split at hw
  ·rename_i hc
   cases hw
   refine ⟨.inr rfl, fun i hi hi2 => ?_, fun h => absurd rfl h, fun _ => rfl⟩
   match i, hi with
   | 0, _ => exact ⟨hc, hty rfl⟩
  ·cases hw
theorem B2V {l : Int} (h1 : 1 ≤ l) (h2 : l ≤ 99) : A0b l = true := by
 unfold A0b
 rw [A2t.2 ⟨h1, h2⟩]; rfl
theorem B2W {u : Tm} {a b : Ty} {l D : Int} (hu : N1 40 13 u (D + 1) = true) (hc : J0 a b = true) (ha : H0 a = true) (hb : H0 b = true) (h1 : 1 ≤ l) (h2 : l ≤ 99) (hD : D ≤ 40) : N1 40 13 (P3 u a b l) D = true := by
 unfold P3
 rw [A0O hD zU (S8.2 ⟨rfl, by simp, fun _ => rfl, by simp, fun _ => rfl, fun _ => hb, by simp, fun _ => ⟨by simp [A0a, ha, hb, hc], B2V h1 h2⟩, by simp⟩)]
 simp [N2, hu]
theorem A5E {cx : Cx} : ∀ (us : List Tm) (h w : List Ty) (l D : Int), us.length = h.length → w.length = h.length → (∀ i, (hi : i < w.length) → (hh : i < h.length) → J0 h[i] w[i] = true ∧ H0 w[i] = true) → (∀ a ∈ h, H0 a = true) → R6 cx us = some h → N2 40 13 us (D + 1) = true → 0 ≤ l → (H7 us h w l).2 ≤ 99 → D ≤ 40 →
  R6 cx (H7 us h w l).1 = some w ∧ N2 40 13 (H7 us h w l).1 D = true ∧ (I4 (H7 us h w l).1 : Int) = I4 us + ((H7 us h w l).2 - l)
 | [], [], [], l, D, _, _, _, _, ht, _, _, _, _ => by simp [H7, R6, N2, I4]
 | [], a :: h, w, l, D, hl, _, _, _, _, _, _, _, _ => by simp at hl
 | u :: us, [], w, l, D, hl, _, _, _, _, _, _, _, _ => by simp at hl
 | [], [], b :: w, l, D, _, hl, _, _, _, _, _, _, _ => by simp at hl
 | u :: us, a :: h, [], l, D, _, hl, _, _, _, _, _, _, _ => by simp at hl
 | u :: us, a :: h, b :: w, l, D, h1, h2, hw, hv, ht, hs, hl, h99, hD => by
  rw [R6] at ht
  split at ht
  ·cases ht
  ·rename_i a' ha
   split at ht
   ·cases ht
   ·rename_i h' hh'
    simp only [Option.some.injEq, List.cons.injEq] at ht
    obtain ⟨rfl, rfl⟩ := ht
    rw [N2, Bool.and_eq_true] at hs
    obtain ⟨c1, c2⟩ := hw 0 zW zW
    have hw' : ∀ i, (hi : i < w.length) → (hh : i < h'.length) → J0 h'[i] w[i] = true ∧ H0 w[i] = true := fun i hi hh => hw (i + 1) (by simpa using hi) (by simpa using hh)
    have hv' : ∀ x ∈ h', H0 x = true := fun x hx => hv x (List.mem_cons_of_mem _ hx)
    simp only [H7] at h99 ⊢
    by_cases he : M5 a' b = true
    ·simp only [if_pos he] at h99 ⊢
     obtain ⟨i1, i2, i3⟩ := A5E us h' w l D (by simpa using h1) (by simpa using h2) hw' hv' hh' hs.2 hl h99 hD
     have hab := (A0P _ _).1 he
     subst hab
     refine ⟨by rw [R6, ha, i1], ?_, ?_⟩
     ·rw [N2, Bool.and_eq_true]; exact ⟨A5A 40 13 u (D + 1) D zV hs.1, i2⟩
     ·simp only [I4]; omega
    ·simp only [if_neg he] at h99 ⊢
     obtain ⟨i1, i2, i3⟩ := A5E us h' w (l + 1) D (by simpa using h1) (by simpa using h2) hw' hv' hh' hs.2 zV h99 hD
     have hlab := A0T us h' w (l + 1)
     refine ⟨by rw [R6, P3, B2M ha, i1], ?_, ?_⟩
     ·rw [N2, Bool.and_eq_true]
      exact ⟨B2W hs.1 c1 (hv a' List.mem_cons_self) c2 zV zV hD, i2⟩
     ·simp only [I4, B2i]; omega
def A8y (cx : Cx) (t : Tm) (D l : Int) (u : Tm) (a : Ty) (l' : Int) : Prop := N1 40 13 u D = true ∧ M1 cx u = some a ∧ H0 a = true ∧ l ≤ l' ∧ l' + 1 ≤ l + (J1 t : Int) ∧ (J1 u : Int) ≤ J1 t + (l' - l)
theorem A5F (ks : List Tm) (ih : ∀ t ∈ ks, ∀ (d D : Int) (cx : Cx) (l : Int) (u : Tm) (a : Ty) (l' : Int), N1 12 14 t d = true → W5 cx → 0 ≤ l → N0 cx t l = some (u, a, l') → l' ≤ 99 → D + 2 * (13 - d) ≤ 41 → A8y cx t D l u a l') :
  ∀ (d D : Int) (cx : Cx) (l : Int) (us : List Tm) (h : List Ty) (l' : Int), N2 12 14 ks d = true → W5 cx → 0 ≤ l → M4 cx ks l = some (us, h, l') → l' ≤ 99 → D + 2 * (13 - d) ≤ 41 →
   N2 40 13 us D = true ∧ R6 cx us = some h ∧ (∀ a ∈ h, H0 a = true) ∧ l ≤ l' ∧ l' + ks.length ≤ l + (I4 ks : Int) ∧ (I4 us : Int) ≤ I4 ks + (l' - l) ∧ h.length = ks.length ∧ us.length = ks.length := by
 induction ks with
 | nil =>
  intro d D cx l us h l' _ _ _ he _ _
  simp only [M4, Option.some.injEq, Prod.mk.injEq] at he
  obtain ⟨rfl, rfl, rfl⟩ := he
  simp [N2, R6, I4]
 | cons t ts ihl =>
  intro d D cx l us h l' hs hcx hl he h99 hD
  rw [N2, Bool.and_eq_true] at hs
  rw [M4] at he
  split at he
  ·cases he
  ·rename_i u a l1 h1
   split at he
   ·cases he
   ·rename_i us' h' l2 h2
    simp only [Option.some.injEq, Prod.mk.injEq] at he
    obtain ⟨rfl, rfl, rfl⟩ := he
    have hp := B0R t
    
    have hmono : l1 ≤ l2 := by
     have : ∀ (zs : List Tm) (l : Int) us h l', M4 cx zs l = some (us, h, l') → l ≤ l' := by
      intro zs
      induction zs with
      | nil => intro l us h l' he; simp only [M4, Option.some.injEq, Prod.mk.injEq] at he; omega
      | cons z zs ihz =>
       intro l us h l' he
       rw [M4] at he
       split at he
       ·cases he
       ·rename_i u a l1 hz
        split at he
        ·cases he
        ·rename_i us' h' l2 hzs
         simp only [Option.some.injEq, Prod.mk.injEq] at he
         have := ihz _ _ _ _ hzs
         have := el_mono cx z l _ _ _ hz
         omega
     exact this ts l1 us' h' l2 h2
    obtain ⟨a1, a2, a3, a4, a5, a6⟩ := ih t List.mem_cons_self d D cx l u a l1 hs.1 hcx hl h1 zV hD
    obtain ⟨b1, b2, b3, b4, b5, b6, b7, b8⟩ := ihl (fun x hx => ih x (List.mem_cons_of_mem _ hx)) d D cx l1 us' h' l2 hs.2 hcx zV h2 h99 hD
    refine ⟨by rw [N2, a1, b1]; rfl, by rw [R6, a2, b2], ?_, by omega, ?_, ?_, by simp [b7], by simp [b8]⟩
    ·intro x hx
     rcases List.mem_cons.1 hx with h | h
     ·rw [h]; exact a3
     ·exact b3 x h
    ·simp only [I4, List.length_cons]; omega
    ·simp only [I4]; omega
where
 el_mono (cx : Cx) : ∀ (z : Tm) (l : Int) (u : Tm) (a : Ty) (l' : Int), N0 cx z l = some (u, a, l') → l ≤ l' := by
  intro z
  revert cx
  refine Tm.ind (C := fun z => ∀ (cx : Cx) (l : Int) (u : Tm) (a : Ty) (l' : Int), N0 cx z l = some (u, a, l') → l ≤ l') ?_ z
  intro k nm num ty fr lb ks ih cx l u a l' he
  rw [N0] at he
  have hL : ∀ (zs : List Tm), (∀ t ∈ zs, t ∈ ks) → ∀ (cx : Cx) (l : Int) us h l', M4 cx zs l = some (us, h, l') → l ≤ l' := by
   intro zs
   induction zs with
   | nil => intro _ cx l us h l' he; simp only [M4, Option.some.injEq, Prod.mk.injEq] at he; omega
   | cons z zs ihz =>
    intro hin cx l us h l' he
    rw [M4] at he
    split at he
    ·cases he
    ·rename_i u a l1 hz
     split at he
     ·cases he
     ·rename_i us' h' l2 hzs
      simp only [Option.some.injEq, Prod.mk.injEq] at he
      have := ihz (fun t ht => hin t (List.mem_cons_of_mem _ ht)) _ _ _ _ _ hzs
      have := ih z (hin z List.mem_cons_self) _ l _ _ _ hz
      omega
  split at he
  ·cases he
  ·rename_i us h l1 hk
   have h1 := hL ks (fun _ h => h) _ _ _ _ _ hk
   unfold A1k at he
   split at he
   ·cases he
   ·rename_i w t hn
    simp only [Option.some.injEq, Prod.mk.injEq] at he
    have := A0T us h w l1
    omega
theorem B2X : ∀ (t : Tm) (d D : Int) (cx : Cx) (l : Int) (u : Tm) (a : Ty) (l' : Int), N1 12 14 t d = true → W5 cx → 0 ≤ l → N0 cx t l = some (u, a, l') → l' ≤ 99 → D + 2 * (13 - d) ≤ 41 → A8y cx t D l u a l' := by
 refine Tm.ind fun k nm num ty fr lb ks ih d D cx l u a l' hs hcx hl he h99 hD => ?_
 obtain ⟨hd, h14, h3, h4⟩ := A0Q hs
 obtain ⟨n1, n2, n3, n4, n5, n6, n7, n8, n9⟩ := S8.1 h3
 rw [N0] at he
 split at he
 ·cases he
 ·rename_i us h l1 hL
  unfold A1k at he
  split at he
  ·cases he
  ·rename_i w t hN
   simp only [Option.some.injEq, Prod.mk.injEq] at he
   obtain ⟨hu, rfl, rfl⟩ := he
   have hlab := A0T us h w l1
   obtain ⟨b1, b2, b3, b4, b5, b6, b7, b8⟩ := A5F ks ih (d + 1) (D + 2) (M6 cx k nm ty) l us h l1 h4 (A3g hcx fun hk => n6 (.inl hk)) hl hL zV zV
   obtain ⟨hv, hw⟩ := A5z hN
   have hwt := A8x b3 (fun hk => n6 (.inr (.inl hk))) (by rw [b7]; exact n1) h14 hw
   
   obtain ⟨c1, c2, c3⟩ : R6 (M6 cx k nm ty) (H7 us h w l1).1 = some (if w = [] then h else w) ∧ N2 40 13 (H7 us h w l1).1 (D + 1) = true ∧ (I4 (H7 us h w l1).1 : Int) = I4 us + ((H7 us h w l1).2 - l1) := by
    rcases hwt.len with hn | hn
    ·subst hn
     rw [A0e, if_pos rfl]
     refine ⟨b2, ?_, by simp⟩
     exact A34 40 13 us (D + 2) (D + 1) zV b1
    ·by_cases hn0 : w = []
     ·subst hn0
      rw [A0e, if_pos rfl]
      refine ⟨b2, ?_, by simp⟩
      exact A34 40 13 us (D + 2) (D + 1) zV b1
     ·rw [if_neg hn0]
      exact A5E us h w l1 (D + 1) zV hn hwt.ok b3 b2 (by rw [show D + 1 + 1 = D + 2 by omega]; exact b1) zV h99 zV
   have hlm := A1l us h w l1
   have hck : J1 (.mk k nm num ty fr lb ks) = I4 ks + 1 := A2u ..
   refine ⟨?_, ?_, hv, by omega, by rw [hck]; omega, ?_⟩
   ·rw [← hu]
    split
    ·rename_i hk
     have hl1 : ks.length = 1 := by rw [hk] at n1; have : H8 13 = 1 := rfl; omega
     have h0 : 0 < (H7 us h w l1).1.length := by omega
     rw [getD0' h0]
     have := (A0A 40 13 _ _).1 c2 0 h0
     exact A5A 40 13 _ (D + 1) D zV this
    ·rename_i hk
     rw [A0O zV hk (by rw [hlm, b8]; exact h3)]
     exact c2
   ·rw [← hu]
    split
    ·rename_i hk
     have hl1 : ks.length = 1 := by rw [hk] at n1; have : H8 13 = 1 := rfl; omega
     have h0 : 0 < (H7 us h w l1).1.length := by omega
     rw [getD0' h0]
     rw [hwt.asT hk, if_neg zW] at c1
     rw [M6, if_neg zV] at c1
     rw [← hwt.asT hk] at c1
     obtain ⟨x, hx⟩ : ∃ x, (H7 us h w l1).1 = [x] := by
      match hm : (H7 us h w l1).1, (show (H7 us h w l1).1.length = 1 by omega) with
      | [x], _ => exact ⟨x, rfl⟩
     simp only [hx, List.getElem_cons_zero] at c1 ⊢
     obtain ⟨y, hy, he⟩ := A3h c1
     rw [hwt.asT hk] at he
     cases he; exact hy
    ·rename_i hk
     refine B2A c1 h14 hv (hwt.again hk) ?_
     by_cases hn0 : w = []
     ·rw [hn0]; rfl
     ·rw [if_neg hn0]; exact A8n w
   ·rw [← hu, hck]
    split
    ·rename_i hk
     have hl1 : ks.length = 1 := by rw [hk] at n1; have : H8 13 = 1 := rfl; omega
     have h0 : 0 < (H7 us h w l1).1.length := by omega
     rw [getD0' h0]
     have := A6L (List.getElem_mem h0)
     omega
    ·rw [A2u]; omega
where
 getD0' {us : List Tm} (h : 0 < us.length) : us.getD 0 P2 = us[0] := by rw [List.getD_eq_getElem?_getD, List.getElem?_eq_getElem h, Option.getD_some]
theorem A8z : ∀ (t : Tm) (d : Int) (cx : Cx) (l : Int) (u : Tm) (a : Ty) (l' : Int), N1 12 14 t d = true → N0 cx t l = some (u, a, l') → l' + 1 ≤ l + (J1 t : Int) := by
 refine Tm.ind fun k nm num ty fr lb ks ih d cx l u a l' hs he => ?_
 obtain ⟨hd, h14, h3, h4⟩ := A0Q hs
 obtain ⟨n1, _⟩ := S8.1 h3
 have hL : ∀ (zs : List Tm), (∀ t ∈ zs, t ∈ ks) → N2 12 14 zs (d + 1) = true → ∀ (cx : Cx) (l : Int) us h l', M4 cx zs l = some (us, h, l') → l' + zs.length ≤ l + (I4 zs : Int) ∧ us.length = zs.length := by
  intro zs
  induction zs with
  | nil => intro _ _ cx l us h l' he; simp only [M4, Option.some.injEq, Prod.mk.injEq] at he; obtain ⟨rfl, _, rfl⟩ := he; simp [I4]
  | cons z zs ihz =>
   intro hin hsz cx l us h l' he
   rw [N2, Bool.and_eq_true] at hsz
   rw [M4] at he
   split at he
   ·cases he
   ·rename_i u a l1 hz
    split at he
    ·cases he
    ·rename_i us' h' l2 hzs
     simp only [Option.some.injEq, Prod.mk.injEq] at he
     obtain ⟨rfl, rfl, rfl⟩ := he
     have h5 := ihz (fun t ht => hin t (List.mem_cons_of_mem _ ht)) hsz.2 _ _ _ _ _ hzs
     have h6 := ih z (hin z List.mem_cons_self) (d + 1) _ l _ _ _ hsz.1 hz
     simp only [I4, List.length_cons]
     exact ⟨by omega, by omega⟩
 rw [N0] at he
 split at he
 ·cases he
 ·rename_i us h l1 hk
  obtain ⟨g1, g2⟩ := hL ks (fun _ h => h) h4 _ _ _ _ _ hk
  unfold A1k at he
  split at he
  ·cases he
  ·rename_i w t hn
   simp only [Option.some.injEq, Prod.mk.injEq] at he
   have := A0T us h w l1
   have hck : J1 (.mk k nm num ty fr lb ks) = I4 ks + 1 := A2u ..
   rw [hck]; omega
theorem A5G {e u : Tm} {t : Ty} (h : S4 e = some (u, t)) : T5 u = true ∧ M1 [] u = some t ∧ H0 t = true := by
 unfold S4 at h
 split at h
 ·rename_i hv
  obtain ⟨h1, h2⟩ := (A2p e).1 hv
  split at h
  ·rename_i u' t' l' he
   cases h
   have hl : l' ≤ 99 := by
    have := A5F.el_mono [] e 0 _ _ _ he
    have h3 : ∀ (t : Tm) (cx : Cx) (l : Int) (u : Tm) (a : Ty) (l' : Int), N0 cx t l = some (u, a, l') → l' ≤ l + 4 * (J1 t : Int) → True := fun _ _ _ _ _ _ _ _ => trivial
    exact el_lab e 1 h1 zV he
   obtain ⟨g1, g2, g3, g4, g5, g6⟩ := B2X e 1 1 [] 0 u t l' h1 A3f zV he hl zV
   exact ⟨(A3R u).2 ⟨g1, by omega⟩, g2, g3⟩
  ·cases h
 ·cases h
where
 el_lab (e : Tm) (d : Int) (h1 : N1 12 14 e d = true) (h2 : J1 e ≤ 30) {u : Tm} {t : Ty} {l' : Int} (he : N0 [] e 0 = some (u, t, l')) : l' ≤ 99 := by
  have := A8z e d [] 0 u t l' h1 he
  omega
def N4 (o : Option Ty) (G : IM) : IM → Value → List A5 → Prop := K9 fun G' v => ∃ t cells, v = .tuple ⟨[.agg ⟨cells⟩, .bool o.isSome]⟩ ∧ C7 G' t cells ∧ H1 t ∧ ∀ u, o = some u → u = t
theorem N4.yes {G G' : IM} {o : Option Ty} {t : Ty} {cells : List Value} (h : o = some t) (hr : C7 G' t cells) (ha : H1 t) : N4 o G G' (.tuple ⟨[.agg ⟨cells⟩, .bool true]⟩) [] := by
 subst h; exact ⟨rfl, t, cells, rfl, hr, ha, fun u h => (by cases h; rfl)⟩
theorem N4.no {G G' : IM} {o : Option Ty} {t : Ty} {cells : List Value} (h : o = none) (hr : C7 G' t cells) (ha : H1 t) : N4 o G G' (.tuple ⟨[.agg ⟨cells⟩, .bool false]⟩) [] := by
 subst h; exact ⟨rfl, t, cells, rfl, hr, ha, fun u h => (by cases h)⟩
theorem N4.mk {G G' : IM} {o : Option Ty} {b : Bool} {t : Ty} {cells : List Value} (h : o = if b = true then some t else none) (hr : C7 G' t cells) (ha : H1 t) : N4 o G G' (.tuple ⟨[.agg ⟨cells⟩, .bool b]⟩) [] := by
 cases b
 ·exact N4.no h hr ha
 ·exact N4.yes h hr ha
theorem B2Y {t : Ty} (h : H0 t = true) : H1 t := (A3V h).1
theorem A14 (k : Int) (a b : Ty) (G : IM) (ca cb : List Value) (hk : k = 4 ∨ k = 5) (ha : H1 a) (hb : H1 b) (hra : C7 G a ca) (hrb : C7 G b cb) :
  Fn Tryz.prog 149 [.int .i64 k, .agg ⟨ca⟩, .agg ⟨cb⟩] [] G (K9 fun G' v => ∃ cells, v = .tuple ⟨[.agg ⟨cells⟩, .bool (H0 (.mk k [a, b]))]⟩ ∧ C7 G' (.mk k [a, b]) cells) := by
 obtain ⟨ak, aks⟩ := a
 obtain ⟨bk, bks⟩ := b
 obtain ⟨pa, cca, ea, rfl, _⟩ := hra.open
 obtain ⟨pb, ccb, eb, rfl, _⟩ := hrb.open
 have hki : F9 k := ⟨by omega, by omega⟩
 refine D5 Tryz.func149 rfl Tryz.ntmps149 Tryz.results149 rfl ?_
 intro w0
 refine A3 ?_
 refine sE (D8 rfl rfl) rfl (fun b3 => ?_)
 refine sE (D8 rfl rfl) rfl (fun b4 => ?_)
 refine sE (A4 rfl) rfl (fun b5 => ?_)
 refine C3 ?_
 refine D3 D4 rfl ?_
 refine E9 (i := 0) (l' := [tt,ff,ff,ff,ff,ff,ff,ff,ff]) rfl C1 (qM rfl) rfl zT rfl rfl ?_
 refine aL 1 rfl (A1 rfl rfl) rfl ?_
 refine aL 3 rfl (A1 rfl rfl) rfl ?_
 refine J8 (j := 2) (j' := 7) zT ?_ ?_
 (refine D6 rfl rfl (X1 _ G _ ha.small hra) rfl rfl rfl (fun v G1 hle1 hh => ?_); obtain ⟨cs1, F1, rfl, hs1, hn1⟩ := hh; obtain ⟨p1, c1, rfl, _⟩ := hs1.open; have hC2 := X1 _ G1 _ hb.small (hrb.mono hle1))
 refine J8 (j := 4) (j' := 7) zT ?_ ?_
 (refine D6 rfl rfl hC2 rfl rfl rfl (fun v G2 hle2 hh => ?_); obtain ⟨cs2, F2, rfl, hs2, hn2⟩ := hh; obtain ⟨p2, c2, rfl, _⟩ := hs2.open; have hr1 := hs1.R.mono ((E2.le G1 G).trans hle2); have hr2 := hs2.R.mono (E2.le G2 G1))
 refine J8 (j := 5) (j' := 7) zT ?_ ?_
 (refine B6 rfl (C0 rfl rfl rfl zV zQ rfl) rfl rfl ?_; rintro _ ⟨b19, rfl⟩)
 refine aP 6 rfl (K8 rfl rfl) rfl ?_
 refine A0 7 ?_
 (refine B6 rfl (A4 rfl) rfl rfl ?_; rintro _ ⟨b22, rfl⟩)
 refine A0 8 ?_
 refine B8 rfl ?_
 refine B2 ?_
 (have hr1' := hr1; refine A2h zM (fun G5 hle5 hsl5 hno5 => ?_); have hRT : C7 G5 (.mk k [.mk ak aks, .mk bk bks]) _ := F4.ty (ts := [.mk ak aks, .mk bk bks]) (es := [[.int .i64 ak, .slice p1 aks.length c1], [.int .i64 bk, .slice p2 bks.length c2]]) ⟨_, _, rfl, hr1.mono hle5, _, _, rfl, hr2.mono hle5, rfl⟩ rfl hsl5 hki; have hV := A1U _ G5 _ hRT; refine D3 D4 rfl ?_)
 refine K3 (i := 0) (l' := [tt,ff,ff,ff,ff]) rfl C1 (A1 rfl rfl) rfl zT rfl rfl ?_
 refine aL 1 rfl (A1 rfl rfl) rfl ?_
 refine A0 2 ?_
 refine M8 rfl rfl (hV) rfl rfl rfl ?_
 refine A0 3 ?_
 refine B8 rfl ?_
 refine aP 4 rfl (qA rfl) rfl ?_
 refine B2 ?_
 refine C5 (rC rfl (A1 rfl rfl)) (rT rfl) ?_
 (exact ⟨rfl, _, rfl, hRT⟩)
 (refine B6 rfl (A4 rfl) rfl rfl ?_; rintro _ ⟨b41, rfl⟩)
 refine A0 5 ?_
 (refine B6 rfl (C0 rfl rfl rfl zV zQ rfl) rfl rfl ?_; rintro _ ⟨b43, rfl⟩)
 refine aP 6 rfl (K8 rfl rfl) rfl ?_
 refine A0 8 ?_
 refine B8 rfl ?_
 refine B2 ?_
 (have hr1' := hr1; refine A2h zM (fun G5 hle5 hsl5 hno5 => ?_); have hRT : C7 G5 (.mk k [.mk ak aks, .mk bk bks]) _ := F4.ty (ts := [.mk ak aks, .mk bk bks]) (es := [[.int .i64 ak, .slice p1 aks.length c1], [.int .i64 bk, .slice p2 bks.length c2]]) ⟨_, _, rfl, hr1.mono hle5, _, _, rfl, hr2.mono hle5, rfl⟩ rfl hsl5 hki; have hV := A1U _ G5 _ hRT; refine D3 D4 rfl ?_)
 refine K3 (i := 0) (l' := [tt,ff,ff,ff,ff]) rfl C1 (A1 rfl rfl) rfl zT rfl rfl ?_
 refine aL 1 rfl (A1 rfl rfl) rfl ?_
 refine A0 2 ?_
 refine M8 rfl rfl (hV) rfl rfl rfl ?_
 refine A0 3 ?_
 refine B8 rfl ?_
 refine aP 4 rfl (qA rfl) rfl ?_
 refine B2 ?_
 refine C5 (rC rfl (A1 rfl rfl)) (rT rfl) ?_
 (exact ⟨rfl, _, rfl, hRT⟩)
 (refine B6 rfl (A4 rfl) rfl rfl ?_; rintro _ ⟨b63, rfl⟩)
 refine A0 4 ?_
 (refine D6 rfl rfl hC2 rfl rfl rfl (fun v G2 hle2 hh => ?_); obtain ⟨cs2, F2, rfl, hs2, hn2⟩ := hh; obtain ⟨p2, c2, rfl, _⟩ := hs2.open; have hr1 := hs1.R.mono ((E2.le G1 G).trans hle2); have hr2 := hs2.R.mono (E2.le G2 G1))
 refine A0 5 ?_
 (refine B6 rfl (C0 rfl rfl rfl zV zQ rfl) rfl rfl ?_; rintro _ ⟨b67, rfl⟩)
 refine aP 6 rfl (K8 rfl rfl) rfl ?_
 refine A0 8 ?_
 refine B8 rfl ?_
 refine B2 ?_
 (have hr1' := hr1; refine A2h zM (fun G5 hle5 hsl5 hno5 => ?_); have hRT : C7 G5 (.mk k [.mk ak aks, .mk bk bks]) _ := F4.ty (ts := [.mk ak aks, .mk bk bks]) (es := [[.int .i64 ak, .slice p1 aks.length c1], [.int .i64 bk, .slice p2 bks.length c2]]) ⟨_, _, rfl, hr1.mono hle5, _, _, rfl, hr2.mono hle5, rfl⟩ rfl hsl5 hki; have hV := A1U _ G5 _ hRT; refine D3 D4 rfl ?_)
 refine K3 (i := 0) (l' := [tt,ff,ff,ff,ff]) rfl C1 (A1 rfl rfl) rfl zT rfl rfl ?_
 refine aL 1 rfl (A1 rfl rfl) rfl ?_
 refine A0 2 ?_
 refine M8 rfl rfl (hV) rfl rfl rfl ?_
 refine A0 3 ?_
 refine B8 rfl ?_
 refine aP 4 rfl (qA rfl) rfl ?_
 refine B2 ?_
 refine C5 (rC rfl (A1 rfl rfl)) (rT rfl) ?_
 (exact ⟨rfl, _, rfl, hRT⟩)
 (refine B6 rfl (A4 rfl) rfl rfl ?_; rintro _ ⟨b87, rfl⟩)
 refine A0 2 ?_
 (refine D6 rfl rfl (X1 _ G _ ha.small hra) rfl rfl rfl (fun v G1 hle1 hh => ?_); obtain ⟨cs1, F1, rfl, hs1, hn1⟩ := hh; obtain ⟨p1, c1, rfl, _⟩ := hs1.open; have hC2 := X1 _ G1 _ hb.small (hrb.mono hle1))
 refine A0 4 ?_
 (refine D6 rfl rfl hC2 rfl rfl rfl (fun v G2 hle2 hh => ?_); obtain ⟨cs2, F2, rfl, hs2, hn2⟩ := hh; obtain ⟨p2, c2, rfl, _⟩ := hs2.open; have hr1 := hs1.R.mono ((E2.le G1 G).trans hle2); have hr2 := hs2.R.mono (E2.le G2 G1))
 refine A0 5 ?_
 (refine B6 rfl (C0 rfl rfl rfl zV zQ rfl) rfl rfl ?_; rintro _ ⟨b93, rfl⟩)
 refine aP 6 rfl (K8 rfl rfl) rfl ?_
 refine A0 8 ?_
 refine B8 rfl ?_
 refine B2 ?_
 (have hr1' := hr1; refine A2h zM (fun G5 hle5 hsl5 hno5 => ?_); have hRT : C7 G5 (.mk k [.mk ak aks, .mk bk bks]) _ := F4.ty (ts := [.mk ak aks, .mk bk bks]) (es := [[.int .i64 ak, .slice p1 aks.length c1], [.int .i64 bk, .slice p2 bks.length c2]]) ⟨_, _, rfl, hr1.mono hle5, _, _, rfl, hr2.mono hle5, rfl⟩ rfl hsl5 hki; have hV := A1U _ G5 _ hRT; refine D3 D4 rfl ?_)
 refine K3 (i := 0) (l' := [tt,ff,ff,ff,ff]) rfl C1 (A1 rfl rfl) rfl zT rfl rfl ?_
 refine aL 1 rfl (A1 rfl rfl) rfl ?_
 refine A0 2 ?_
 refine M8 rfl rfl (hV) rfl rfl rfl ?_
 refine A0 3 ?_
 refine B8 rfl ?_
 refine aP 4 rfl (qA rfl) rfl ?_
 refine B2 ?_
 refine C5 (rC rfl (A1 rfl rfl)) (rT rfl) ?_
 (exact ⟨rfl, _, rfl, hRT⟩)
theorem A2B (k : Int) (t : Ty) (G : IM) (cells : List Value) (hk : k = 4 ∨ k = 5) (ha : H1 t) (hr : C7 G t cells) :
  Fn Tryz.prog 175 [.int .i64 k, .agg ⟨cells⟩] [] G (A7X k t G) := by
 obtain ⟨tk, ks⟩ := t
 have ha2 := ha
 rw [H1] at ha2
 have hkid := ha.kid
 obtain ⟨p, c, es, rfl, htk, hsl, hkl⟩ := hr.open
 simp only [Ty.k, Ty.ks] at htk hsl hkl ⊢
 refine D5 Tryz.func175 rfl Tryz.ntmps175 Tryz.results175 rfl ?_
 intro w0
 refine A3 ?_
 refine sE (D8 rfl rfl) rfl (fun b3 => ?_)
 refine sE (A4 rfl) rfl (fun b4 => ?_)
 refine sE (A4 rfl) rfl (fun b5 => ?_)
 refine B4 ?_
 refine sB (qE rfl rfl) rfl rfl (fun h14 => ?_) (fun h14 => ?_)
 refine A9 ?_
 refine E5 rfl ((A5r _)) rfl rfl ?_
 refine E5 rfl ((A5r _)) rfl rfl ?_
 refine A8 ?_
 refine E4 (rC rfl (A1 rfl rfl)) (rC rfl (A1 rfl rfl)) (rT rfl) ?_
 (refine ⟨rfl, _, _, _, _, ?_, A1Y _, A1Y _, A3O, A3O, ?_⟩ <;> rw [A1i, if_neg zV, if_pos zV] <;> first | rfl | (intro p hp; cases hp; rfl))
 refine E8 ?_
 refine sB (O6 rfl rfl) rfl rfl (fun h42 => ?_) (fun h42 => ?_)
 refine J5 ?_
 refine E4 (rC rfl (A1 rfl rfl)) (rC rfl (A1 rfl rfl)) (rT rfl) ?_
 (refine ⟨rfl, C6, _, C6, _, ?_, N9 _ ⟨by omega, by omega⟩, N9 _ ⟨by omega, by omega⟩, P8 zV zV, P8 zV zV, ?_⟩ <;> rw [A1i, if_neg zV, if_neg zV] <;> first | rfl | (intro p hp; cases hp))
 refine A7 ?_
 (have hlen : ks.length = 2 := ha2.1 zV; obtain ⟨b, o, q0, d0, hp0, hat0, hre0, hg0⟩ := hsl.kidTy hkl (i := 0) zV zV; obtain ⟨b', o', q1, d1, hp1, hat1, hre1, hg1⟩ := hsl.kidTy hkl (i := 1) zV zV; subst hp0; cases hp1; have hC1 := X1 _ G _ (hkid _ (List.getElem_mem zV)).small hre0; refine D3 D4 rfl ?_)
 refine E9 (i := 0) (l' := [tt,ff,ff,ff,ff,ff,ff,ff,ff,ff,ff,ff,ff]) rfl C1 (B0 rfl) rfl zT rfl rfl ?_
 refine aL 1 rfl (B3 rfl rfl) rfl ?_
 refine aP 2 rfl (A6 (j := 0) rfl rfl rfl zV) rfl ?_
 refine aL 3 rfl (A2 rfl rfl (hat0 _) rfl) rfl ?_
 refine aP 5 rfl (B0 rfl) rfl ?_
 refine aL 6 rfl (B3 rfl rfl) rfl ?_
 refine aP 7 rfl (A6 (j := 1) rfl rfl rfl zV) rfl ?_
 refine aL 8 rfl (A2 rfl rfl (hat1 _) rfl) rfl ?_
 refine A0 4 ?_
 (refine D6 rfl rfl hC1 rfl rfl rfl (fun v G1 hle1 hh => ?_); obtain ⟨cs1, F1, rfl, hs1, hn1⟩ := hh; obtain ⟨p1, c1, rfl, _⟩ := hs1.open; have hC2 := X1 _ G1 _ (hkid _ (List.getElem_mem zV)).small (hre1.mono hle1))
 refine A0 9 ?_
 (refine D6 rfl rfl hC2 rfl rfl rfl (fun v G2 hle2 hh => ?_); obtain ⟨cs2, F2, rfl, hs2, hn2⟩ := hh; obtain ⟨p2, c2, rfl, _⟩ := hs2.open; have hr1 := hs1.R.mono ((E2.le G1 G).trans hle2); have hr2 := hs2.R.mono (E2.le G2 G1))
 refine A0 10 ?_
 refine B8 rfl ?_
 refine A0 11 ?_
 refine S2 rfl rfl rfl rfl rfl rfl rfl rfl zR zN (by rfl) ?_
 refine aP 12 rfl (qA rfl) rfl ?_
 refine B2 ?_
 refine E4 (rC rfl (A1 rfl rfl)) (rC rfl (A1 rfl rfl)) (rT rfl) ?_
 (refine ⟨rfl, _, _, _, _, ?_, hr1, hr2, hkid _ (List.getElem_mem zV), hkid _ (List.getElem_mem zV), ?_⟩ <;> rw [A1i, if_pos zV] <;> first | rfl | (intro p hp; cases hp; simp [hlen]))
theorem B2Z (G : IM) (cx : Cx) (hv : W5 cx) (p : Option Addr) (n c : Nat) (nm : ByteArray) (hx : O9 G cx p n c) :
  Fn Tryz.prog 171 [.slice p n c, .string nm] [] G (N4 (W1 cx nm) G) := by
 have hn := hx.le
 refine D5 Tryz.func171 rfl Tryz.ntmps171 Tryz.results171 rfl ?_
 intro w0
 refine A3 ?_
 refine sE (A4 rfl) rfl (fun b3 => ?_)
 refine B4 ?_
 refine sP (R9 rfl rfl zV zV) rfl rfl ?_
 refine B2 ?_
 refine B7 ?_
 (refine J3 (fun (i : Nat) => ⟨[(6, .int .i64 ((i : Int) - 1)), (0, .slice p n c), (1, .string nm), (4, .pointer (some ⟨b3, 0, none⟩))], [.blk b3 [.int .i64 0, .slice none 0 0]], G⟩) (fun i => i ≤ n ∧ W1 cx nm = U3 cx nm i) (fun i => i) n ?_ ?_ ?_)
 exact E3
 (exact ⟨Nat.le_refl _, by unfold W1; rw [hx.1]⟩)
 (rintro i ⟨hi, hlk⟩)
 refine C3 ?_
 refine sB (A1p rfl rfl) rfl rfl (fun h25 => ?_) (fun h25 => ?_)
 refine A7 ?_
 (show J7 _ _ (.block 1 _) _ _; obtain ⟨j, rfl⟩ : ∃ j, i = j + 1 := ⟨i - 1, by omega⟩; rw [show ((j + 1 : Nat) : Int) - 1 = (j : Int) from by omega]; obtain ⟨b, o, nm1, t1, q1, d1, hcx, rfl, hat, hr1, hgb⟩ := hx.get (i := j) zV; have ha1 := B2Y (hv _ (List.mem_of_getElem? hcx)); refine B7 ?_)
 refine C3 ?_
 refine sP (A6 rfl rfl rfl zV) rfl rfl ?_
 refine I0 ?_
 refine sL (A03 rfl rfl ((hat _).sub (j := 0) rfl)) rfl rfl ?_
 refine I0 ?_
 refine sB (A1H rfl rfl) rfl rfl (fun h41 => ?_) (fun h41 => ?_)
 refine A8 ?_
 refine sP (A6 rfl rfl rfl zV) rfl rfl ?_
 refine I0 ?_
 refine sL (A2 rfl rfl (hat _).drop rfl) rfl rfl ?_
 (refine E7 rfl (X1 _ G _ ha1.small hr1) rfl rfl (fun v G1 hle1 hh => ?_); obtain ⟨cs1, F1, rfl, hs1', hn1⟩ := hh; obtain ⟨p1, c1, rfl, _⟩ := hs1'.open; have hrr := hs1'.R.mono (E2.le G1 G))
 refine H3 ?_
 refine C5 (rC rfl (A1 rfl rfl)) (rT rfl) ?_
 (exact N4.yes (by rw [hlk]; exact A5l hcx zS) hrr ha1)
 refine B4 ?_
 refine sP (R9 rfl rfl zV zV) rfl rfl ?_
 refine A3 ?_
 refine I6 j ?_ ?_ ?_
 exact E3
 (exact ⟨by omega, by rw [hlk]; exact A5m hcx zS⟩)
 (show _ < _ + 1; omega)
 refine K0 ?_
 refine C5 (rC rfl (A1 rfl rfl)) (rT rfl) ?_
 (obtain rfl : i = 0 := zV; exact N4.no (by rw [hlk]; rfl) (N9 _ ⟨by omega, by omega⟩) (P8 zV zV))
theorem A39 : ∀ (xs ys : List Ty), xs.length = ys.length → (Q7 xs ys).length = xs.length
 | [], [], _ => rfl
 | a :: xs, b :: ys, h => by simp only [Q7, List.length_cons]; rw [A39 xs ys (by simpa using h)]
 | [], b :: ys, h => by simp at h
 | a :: xs, [], h => by simp at h
theorem A5H : ∀ (xs ys : List Ty) (i : Nat) (h : i < xs.length) (h' : i < ys.length) (hl : i < (Q7 xs ys).length), (Q7 xs ys)[i] = R5 xs[i] ys[i]
 | [], _, i, h, _, _ => by simp at h
 | a :: xs, [], i, _, h', _ => by simp at h'
 | a :: xs, b :: ys, 0, _, _, _ => by simp [Q7]
 | a :: xs, b :: ys, i + 1, h, h', hl => by
  simp only [Q7, List.getElem_cons_succ]
  exact A5H xs ys i (by simpa using h) (by simpa using h') _
theorem B20 {xs ys : List Ty} {i : Nat} (hl : xs.length = ys.length) (h : i < xs.length) : (Q7 xs ys).take (i + 1) = (Q7 xs ys).take i ++ [R5 xs[i] (ys[i]'zV)] := by
 rw [List.take_succ_eq_append_getElem (by rw [A39 _ _ hl]; exact h), A5H _ _ i h zV]
theorem B21 : ∀ (a b : Ty) (G : IM) (ca cb : List Value), J0 a b = true → H1 a → H1 b → C7 G a ca → C7 G b cb → Fn Tryz.prog 194 [.agg ⟨ca⟩, .agg ⟨cb⟩] [] G (K9 fun G' v => ∃ cells, v = .agg ⟨cells⟩ ∧ C7 G' (R5 a b) cells) := by
 refine Ty.ind fun ak aks ih b G ca cb hc ha hb hra hrb => ?_
 obtain ⟨bk, bks⟩ := b
 have hka := ha.kid
 have hkb := hb.kid
 have hca := X1 _ G _ ha.small hra
 have hcb := X1 _ G _ hb.small hrb
 have hcc : ak ≠ 1 → bk ≠ 1 → aks.length = bks.length ∧ ∀ i, (h : i < aks.length) → (h' : i < bks.length) → J0 aks[i] bks[i] = true := by
  intro h1 h2
  rw [P6, decide_eq_false h1, decide_eq_false h2] at hc
  simp only [Bool.false_or, Bool.and_eq_true, decide_eq_true_eq] at hc
  exact (A1q _ _).1 hc.2
 rw [A2n]
 obtain ⟨pa, cca, ea, rfl, hak, hsla, hkla⟩ := hra.open
 obtain ⟨pb, ccb, eb, rfl, hbk, hslb, hklb⟩ := hrb.open
 simp only [Ty.k, Ty.ks] at hak hsla hkla hbk hslb hklb ⊢
 have hna := hsla.le
 have hnb := hslb.le
 have hl2 := ha.two
 refine D5 Tryz.func194 rfl Tryz.ntmps194 Tryz.results194 rfl ?_
 intro w0
 refine A3 ?_
 refine sE (D8 rfl rfl) rfl (fun b3 => ?_)
 refine sE (D8 rfl rfl) rfl (fun b4 => ?_)
 refine sE (A4 rfl) rfl (fun b5 => ?_)
 refine A8 ?_
 refine sB (qE rfl rfl) rfl rfl (fun h13 => ?_) (fun h13 => ?_)
 refine A7 ?_
 (refine E7 rfl (by first | exact hcb | exact hca) rfl rfl (fun v G1 hle1 hh => ?_); obtain ⟨cs1, F1, rfl, hs1, hn1⟩ := hh; obtain ⟨p1, c1, rfl, _⟩ := hs1.open; have hr1 := hs1.R.mono (E2.le G1 G))
 refine A9 ?_
 refine I7 (rC rfl (A1 rfl rfl)) ?_
 (rw [if_pos zV]; exact ⟨rfl, _, rfl, hr1⟩)
 refine H3 ?_
 refine sB (qE rfl rfl) rfl rfl (fun h38 => ?_) (fun h38 => ?_)
 refine A7 ?_
 (refine E7 rfl (by first | exact hcb | exact hca) rfl rfl (fun v G1 hle1 hh => ?_); obtain ⟨cs1, F1, rfl, hs1, hn1⟩ := hh; obtain ⟨p1, c1, rfl, _⟩ := hs1.open; have hr1 := hs1.R.mono (E2.le G1 G))
 refine A9 ?_
 refine I7 (rC rfl (A1 rfl rfl)) ?_
 (rw [if_neg zV, if_pos zV]; exact ⟨rfl, _, rfl, hr1⟩)
 refine H3 ?_
 refine sE (A4 rfl) rfl (fun b63 => ?_)
 refine C2 ?_
 refine B7 ?_
 (obtain ⟨hlab, hcab⟩ := hcc zV zV; refine S7 25 2 ?_; refine J3 (fun (x : Nat × Option Addr × Nat × List Ty × List (List Value) × IM) => ⟨[(6, .int .i64 x.1), (5, .pointer (some ⟨b63, 0, none⟩)), (4, .pointer (some ⟨b5, 0, none⟩)), (2, .pointer (some ⟨b3, 0, none⟩)), (3, .pointer (some ⟨b4, 0, none⟩))], [.blk b63 [.int .i64 ak, .slice x.2.1 x.1 x.2.2.1], .slc x.2.1 x.2.2.1 25 2 x.1 x.2.2.2.2.1.flatten, .blk b5 [.int .i64 0, .slice none 0 0], .blk b4 [.int .i64 bk, .slice pb bks.length ccb], .blk b3 [.int .i64 ak, .slice pa aks.length cca]], x.2.2.2.2.2⟩) (fun x => x.1 ≤ aks.length ∧ D2 G x.2.2.2.2.2 ∧ x.2.2.2.1.length = x.1 ∧ F4 x.2.2.2.2.2 x.2.2.2.1 x.2.2.2.2.1 ∧ x.2.2.2.1 = (Q7 aks bks).take x.1) (fun x => aks.length - x.1) (0, none, 0, [], [], G) ?_ ?_ ?_)
 (simp only [J4]; exact E3)
 (exact ⟨by simp, D2.refl _, rfl, by simp [F4], rfl⟩)
 (rintro ⟨i, pn, cn, us, es', Gi⟩ ⟨hi, hle, hlu, hst, hus⟩; simp only [] at hi hle hlu hst hus ⊢; replace hsla := hsla.mono hle; replace hkla := hkla.mono hle; replace hslb := hslb.mono hle; replace hklb := hklb.mono hle)
 refine A8 ?_
 refine sB (I3 rfl rfl) rfl rfl (fun h85 => ?_) (fun h85 => ?_)
 refine A7 ?_
 refine B7 ?_
 (obtain ⟨b, o, q0, d0, hp0, hat0, hre0, hg0⟩ := hsla.kidTy hkla (i := i) zV zV; obtain ⟨b', o', q1, d1, hp1, hat1, hre1, hg1⟩ := hslb.kidTy hklb (i := i) zV zV; subst hp0; subst hp1; have hih := ih aks[i] (List.getElem_mem zV) bks[i] Gi _ _ (hcab i zV zV) (hka _ (List.getElem_mem zV)) (hkb _ (List.getElem_mem zV)) hre0 hre1; refine D3 D4 rfl ?_)
 refine E9 (i := 0) (l' := [tt,ff,ff,ff,ff,ff,ff,ff,ff,ff,ff,ff,ff,ff,ff,ff,ff]) rfl C1 (B0 rfl) rfl zT rfl rfl ?_
 refine aL 1 rfl (B3 rfl rfl) rfl ?_
 refine aP 2 rfl (B0 rfl) rfl ?_
 refine aL 3 rfl (B3 rfl rfl) rfl ?_
 refine aP 4 rfl (qM rfl) rfl ?_
 refine aP 5 rfl (A6 rfl rfl rfl zV) rfl ?_
 refine aL 6 rfl (A2 rfl rfl (hat0 _) rfl) rfl ?_
 refine aP 7 rfl (B0 rfl) rfl ?_
 refine aL 8 rfl (B3 rfl rfl) rfl ?_
 refine aP 9 rfl (qM rfl) rfl ?_
 refine aP 10 rfl (A6 rfl rfl rfl zV) rfl ?_
 refine aL 11 rfl (A2 rfl rfl (hat1 _) rfl) rfl ?_
 refine A0 12 ?_
 (refine D6 rfl rfl hih rfl rfl rfl (fun v G1 hle1 hh => ?_); obtain ⟨cells', rfl, hru⟩ := hh; generalize hu : R5 aks[i] bks[i] = u at hru; obtain ⟨p3, c3, es3, rfl, _⟩ := hru.open)
 refine A0 13 ?_
 (refine B6 rfl (C0 rfl rfl rfl zV zQ rfl) rfl rfl ?_; rintro _ ⟨b109, rfl⟩)
 refine A0 14 ?_
 refine P5 rfl rfl rfl rfl rfl rfl (fun _ _ => by repeat (first | exact Sw.here | apply Sw.there)) (O1 zO) rfl zP zQ zV rfl rfl zH (fun pn' cn' => ?_)
 refine aP 15 rfl (B0 rfl) rfl ?_
 refine A0 16 ?_
 refine S2 rfl rfl rfl rfl rfl rfl rfl rfl zR zN (by rfl) ?_
 refine A9 ?_
 refine sP (H9 rfl rfl zV zV) rfl rfl ?_
 refine A3 ?_
 refine I6 (i + 1, pn', cn', us ++ [u], es' ++ [[.int .i64 u.k, .slice p3 u.ks.length c3]], G1) ?_ ?_ ?_
 (simp only [J4]; exact E3)
 (dsimp only; exact ⟨by omega, hle.trans hle1, by simp [hlu], F4.snoc (hst.mono hle1) hru, by rw [B20 hlab zV, ← hus, hu]⟩)
 (show aks.length - (i + 1) < aks.length - i; omega)
 refine J5 ?_
 (refine E0 zM (fun G2 hle2 hsl2 hno2 => ?_); obtain rfl : i = aks.length := zV)
 refine tT ?_
 refine I7 (rC rfl (A1 rfl rfl)) ?_
 (rw [List.take_of_length_le (by rw [A39 _ _ hlab]; omega)] at hus; rw [if_neg zV, if_neg zV, ← hus]; exact ⟨rfl, _, rfl, (hst.mono hle2).ty hlu hsl2 hak⟩)
theorem gD {ts : List Ty} {i : Nat} (h : i < ts.length) : ts.getD i C6 = ts[i] := by rw [List.getD_eq_getElem?_getD, List.getElem?_eq_getElem h, Option.getD_some]
section
variable {cx : Cx} {k : Int} {nm : ByteArray} {ty : Ty} {ts : List Ty}
theorem A8A (h : 1 < ts.length) : T8 cx 6 nm ty ts = match O8 4 ts[0] with | some (a, b) => if J0 ts[1] a = true then some b else none | none => none := by
 unfold T8 L6
 rw [gD (i := 0) zV, gD (i := 1) h]
 simp only [show ¬((6 : Int) = 1) by decide, show ¬((6 : Int) = 2) by decide, show ¬((6 : Int) = 3 ∨ (6 : Int) = 4) by decide, show ¬((6 : Int) = 5) by decide, if_false, if_true]
 cases O8 4 ts[0] with
 | none => rfl
 | some p =>
  obtain ⟨a, b⟩ := p
  by_cases hc : J0 ts[1] a = true
  ·simp [hc]
  ·simp [hc]
theorem A4a (hk : k = 7 ∨ k = 8) (h : 1 < ts.length) : T8 cx k nm ty ts = if J0 ts[0] O4 = true ∧ J0 ts[1] O4 = true then some (if k = 8 then T0 else O4) else none := by
 unfold T8 L6
 rw [gD (i := 0) zV, gD (i := 1) h, if_neg zV, if_neg zV, if_neg zV, if_neg zV, if_neg zV, if_pos hk]
 by_cases hc : J0 ts[0] O4 = true ∧ J0 ts[1] O4 = true
 ·rw [if_pos hc, if_pos hc]; simp only; rw [if_neg zV]
 ·rw [if_neg hc, if_neg hc]
theorem A8B (h : 2 < ts.length) : T8 cx 9 nm ty ts = if J0 ts[0] T0 = true ∧ J0 ts[1] ts[2] = true then some (R5 ts[1] ts[2]) else none := by
 unfold T8 L6
 rw [gD (i := 0) zV, gD (i := 1) zV, gD (i := 2) h, if_neg zV, if_neg zV, if_neg zV, if_neg zV, if_neg zV, if_neg zV, if_pos rfl]
 by_cases hc : J0 ts[0] T0 = true ∧ J0 ts[1] ts[2] = true
 ·rw [if_pos hc, if_pos hc]; simp
 ·rw [if_neg hc, if_neg hc]
theorem B22 (h : 1 < ts.length) : T8 cx 10 nm ty ts = if H0 (.mk 5 [ts[0], ts[1]]) = true then some (.mk 5 [ts[0], ts[1]]) else none := by
 unfold T8 L6
 rw [gD (i := 0) zV, gD (i := 1) h, if_neg zV, if_neg zV, if_neg zV, if_neg zV, if_neg zV, if_neg zV, if_neg zV, if_pos rfl]
 cases hv : H0 (.mk 5 [ts[0], ts[1]]) <;> simp [hv]
theorem B23 (h : 0 < ts.length) : T8 cx 13 nm ty ts = if J0 ts[0] ty = true then some ty else none := by
 unfold T8 L6
 rw [gD (i := 0) h, if_neg zV, if_neg zV, if_neg zV, if_neg zV, if_neg zV, if_neg zV, if_neg zV, if_neg zV, if_pos rfl]
 by_cases hc : J0 ts[0] ty = true
 ·rw [if_pos hc, if_pos hc]; simp
 ·rw [if_neg hc, if_neg hc]
theorem A4b (hk : k = 11 ∨ k = 12) (h : 0 < ts.length) : T8 cx k nm ty ts = match O8 5 ts[0] with | some (a, b) => some (if k = 12 then b else a) | none => none := by
 unfold T8 L6
 rw [gD (i := 0) h, if_neg zV, if_neg zV, if_neg zV, if_neg zV, if_neg zV, if_neg zV, if_neg zV, if_neg zV, if_neg zV]
 cases O8 5 ts[0] with
 | none => rfl
 | some p =>
  obtain ⟨a, b⟩ := p
  simp only
  rw [if_neg zV]
end
theorem B24 : ∀ (a b : Ty), J0 a b = true → H1 a → H1 b → H1 (R5 a b) := by
 refine Ty.ind fun k ks ih b hc ha hb => ?_
 obtain ⟨k', ks'⟩ := b
 rw [A2n]
 split
 ·exact hb
 ·split
  ·exact ha
  ·rw [P6] at hc
   simp only [Bool.or_eq_true, Bool.and_eq_true, decide_eq_true_eq] at hc
   obtain ⟨hk, hl⟩ : k = k' ∧ M3 ks ks' = true := by
    rcases hc with (h | h) | h
    ·contradiction
    ·contradiction
    ·exact h
   obtain ⟨hll, hcc⟩ := (A1q _ _).1 hl
   have hlen := A39 ks ks' hll
   refine B2a ha hlen fun u hu => ?_
   obtain ⟨i, hi, rfl⟩ := List.mem_iff_getElem.1 hu
   rw [A5H ks ks' i zV zV]
   exact ih _ (List.getElem_mem _) _ (hcc i zV zV) (ha.kid _ (List.getElem_mem _)) (hb.kid _ (List.getElem_mem _))
theorem B25 (cx : Cx) (k : Int) (nm : ByteArray) (num : Int) (ty fr : Ty) (lb : Int) (ks : List Tm) (ts : List Ty) (G : IM) (cells : List Value) (p : Option Addr) (c : Nat) (es : List (List Value))
  (hops : H8 k = ts.length) (hk6 : 6 ≤ k ∧ k ≤ 13) (hty : H1 ty) (hr : D1 G (.mk k nm num ty fr lb ks) cells) (hsl : C8 G p ts.length c 2 es) (hkl : F4 G ts es) (har : ∀ t ∈ ts, H1 t) :
  Fn Tryz.prog 174 [.agg ⟨cells⟩, .slice p ts.length c] [] G (N4 (T8 cx k nm ty ts) G) := by
 have hone := hr.one
 have hop := A2r hops
 have ha0 := fun h : 0 < ts.length => har _ (List.getElem_mem h)
 have ha1 := fun h : 1 < ts.length => har _ (List.getElem_mem h)
 have ha2 := fun h : 2 < ts.length => har _ (List.getElem_mem h)
 obtain ⟨tk, tks⟩ := ty
 obtain ⟨fk, fks⟩ := fr
 obtain ⟨pt, ct, pf, cf, pk, ck, ek, rfl, hk, hnum, hlb, hrty, hrfr, _, _⟩ := hr.open9
 refine D5 Tryz.func174 rfl Tryz.ntmps174 Tryz.results174 rfl ?_
 intro w0
 refine A3 ?_
 refine sE (D8 rfl rfl) rfl (fun b3 => ?_)
 refine sE (A4 rfl) rfl (fun b4 => ?_)
 refine H3 ?_
 refine B7 (tS (tR (sB (qE rfl rfl) rfl rfl (fun h18 => ?_) (fun h18 => ?_))))
 refine A8 ?_
 (have hl2 : ts.length = 2 := hop.1 zV; obtain ⟨b0, o0, q0, d0, hp0, hat0, hre0, hg0⟩ := hsl.kidTy hkl (i := 0) zV zV; obtain ⟨b1, o1, q1, d1, hp1, hat1, hre1, hg1⟩ := hsl.kidTy hkl (i := 1) zV zV; cases hp0; cases hp1; refine sP (A6 (j := 0) rfl rfl rfl zV) rfl rfl ?_)
 refine sL (A2 rfl rfl (hat0 _) rfl) rfl rfl ?_
 focus (refine E7 rfl (A2B 4 ts[0] G _ (.inl rfl) (ha0 zV) hre0) rfl rfl (fun v G1 hle1 hh => ?_); obtain ⟨ma, mca, mb, mcb, rfl, hma, hmb, hma2, hmb2, hpp⟩ := hh; obtain ⟨p1, c1, e1, rfl, _⟩ := hma.open; obtain ⟨p2, c2, e2, rfl, _⟩ := hmb.open; replace hsl := hsl.mono hle1; replace hkl := hkl.mono hle1; rcases hm : O8 4 ts[0] with _ | pr; rotate_left; obtain rfl := hpp _ hm; rotate_left; all_goals simp only [Option.isSome])
 refine C3 ?_
 refine sE (A4 rfl) rfl (fun b33 => ?_)
 refine sE (A4 rfl) rfl (fun b34 => ?_)
 refine A7 ?_
 (have hl2 : ts.length = 2 := hop.1 zV; obtain ⟨b0, o0, q0, d0, hp0, hat0, hre0, hg0⟩ := hsl.kidTy hkl (i := 0) zV zV; obtain ⟨b1, o1, q1, d1, hp1, hat1, hre1, hg1⟩ := hsl.kidTy hkl (i := 1) zV zV; cases hp0; cases hp1; refine D3 D4 rfl ?_)
 refine K3 (i := 0) (l' := [tt,ff,ff,ff,ff,ff,ff,ff,ff,ff,ff]) rfl C1 (A1 rfl rfl) rfl zT rfl rfl ?_
 refine aP 1 rfl (qM rfl) rfl ?_
 refine aP 2 rfl (qM rfl) rfl ?_
 refine C4 3 rfl rfl rfl ?_
 refine C4 4 rfl rfl rfl ?_
 refine C4 5 rfl rfl rfl ?_
 refine C4 6 rfl rfl rfl ?_
 refine C4 7 rfl rfl rfl ?_
 refine aP 8 rfl (N7 rfl rfl) rfl ?_
 refine A0 9 ?_
 refine B8 rfl ?_
 refine aP 10 rfl (qA rfl) rfl ?_
 refine A9 ?_
 refine C5 (rC rfl (A1 rfl rfl)) (rT rfl) ?_
 (obtain rfl : k = 6 := zV; exact N4.no (by rw [A8A zV, hm]) hmb hmb2)
 refine C3 ?_
 refine sE (A4 rfl) rfl (fun b65 => ?_)
 refine sE (A4 rfl) rfl (fun b66 => ?_)
 refine A7 ?_
 (have hl2 : ts.length = 2 := hop.1 zV; obtain ⟨b0, o0, q0, d0, hp0, hat0, hre0, hg0⟩ := hsl.kidTy hkl (i := 0) zV zV; obtain ⟨b1, o1, q1, d1, hp1, hat1, hre1, hg1⟩ := hsl.kidTy hkl (i := 1) zV zV; cases hp0; cases hp1; refine D3 D4 rfl ?_)
 refine K3 (i := 0) (l' := [tt,ff,ff,ff,ff,ff,ff,ff,ff,ff,ff]) rfl C1 (A1 rfl rfl) rfl zT rfl rfl ?_
 refine aP 1 rfl (qM rfl) rfl ?_
 refine aP 2 rfl (qM rfl) rfl ?_
 refine aP 3 rfl (qM rfl) rfl ?_
 refine aP 4 rfl (A6 (j := 1) rfl rfl rfl zV) rfl ?_
 refine aL 5 rfl (A2 rfl rfl (hat1 _) rfl) rfl ?_
 refine aL 6 rfl (A1 rfl rfl) rfl ?_
 refine A0 7 ?_
 refine M8 rfl rfl ((A1w ts[1] ma _ _ _ (ha1 zV) hma2 hre1 hma)) rfl rfl rfl ?_
 refine aP 8 rfl (M2 rfl rfl) rfl ?_
 refine A0 9 ?_
 refine B8 rfl ?_
 refine aP 10 rfl (qA rfl) rfl ?_
 refine A9 ?_
 refine C5 (rC rfl (A1 rfl rfl)) (rT rfl) ?_
 (obtain rfl : k = 6 := zV; exact N4.mk (by rw [A8A zV, hm]) hmb hmb2)
 refine A7 ?_
 refine sB (qE rfl rfl) rfl rfl (fun h100 => ?_) (fun h100 => ?_)
 refine A9 ?_
 (have hl2 : ts.length = 2 := hop.1 zV; obtain ⟨b0, o0, q0, d0, hp0, hat0, hre0, hg0⟩ := hsl.kidTy hkl (i := 0) zV zV; obtain ⟨b1, o1, q1, d1, hp1, hat1, hre1, hg1⟩ := hsl.kidTy hkl (i := 1) zV zV; cases hp0; cases hp1; refine D3 D4 rfl ?_)
 refine E9 (i := 1) (l' := [ff,tt,ff,ff,ff,ff,ff,ff,ff,ff,ff,ff,ff,ff,ff]) rfl C1 (qM rfl) rfl zT rfl rfl ?_
 refine aP 2 rfl (A6 (j := 0) rfl rfl rfl zV) rfl ?_
 refine aL 3 rfl (A2 rfl rfl (hat0 _) rfl) rfl ?_
 refine A0 0 ?_
 refine M8 rfl rfl ((A0R _)) rfl rfl rfl ?_
 refine A0 4 ?_
 refine M8 rfl rfl ((A0R _)) rfl rfl rfl ?_
 refine A0 5 ?_
 refine Q3 rfl rfl ((A1w ts[0] (.mk 2 []) _ _ _ (ha0 zV) (P8 zU zU) hre0 (N9 _ ⟨by omega, by omega⟩))) rfl rfl rfl (fun h115 => ?_) (fun h115 => ?_)
 refine aP 6 rfl (qM rfl) rfl ?_
 refine aP 7 rfl (qM rfl) rfl ?_
 refine aP 8 rfl (A6 (j := 1) rfl rfl rfl zV) rfl ?_
 refine aL 9 rfl (A2 rfl rfl (hat1 _) rfl) rfl ?_
 refine A0 10 ?_
 refine M8 rfl rfl ((A0R _)) rfl rfl rfl ?_
 refine A0 11 ?_
 refine M8 rfl rfl ((A1w ts[1] (.mk 2 []) _ _ _ (ha1 zV) (P8 zU zU) hre1 (N9 _ ⟨by omega, by omega⟩))) rfl rfl rfl ?_
 refine aP 12 rfl (M2 rfl rfl) rfl ?_
 refine A0 13 ?_
 refine B8 rfl ?_
 refine aP 14 rfl (qA rfl) rfl ?_
 refine A9 ?_
 refine C5 (rC rfl (A1 rfl rfl)) (rT rfl) ?_
 (have hk7 : k = 7 := zV; exact N4.mk (by rw [A4a (.inl hk7) zV]; simp_all [O4]) (N9 _ ⟨by omega, by omega⟩) (P8 zV zV))
 refine aP 6 rfl (qM rfl) rfl ?_
 refine C4 7 rfl rfl rfl ?_
 refine C4 8 rfl rfl rfl ?_
 refine C4 9 rfl rfl rfl ?_
 refine C4 10 rfl rfl rfl ?_
 refine C4 11 rfl rfl rfl ?_
 refine aP 12 rfl (N7 rfl rfl) rfl ?_
 refine A0 13 ?_
 refine B8 rfl ?_
 refine aP 14 rfl (qA rfl) rfl ?_
 refine A9 ?_
 refine C5 (rC rfl (A1 rfl rfl)) (rT rfl) ?_
 (have hk7 : k = 7 := zV; exact N4.mk (by rw [A4a (.inl hk7) zV]; simp_all [O4]) (N9 _ ⟨by omega, by omega⟩) (P8 zV zV))
 refine A7 ?_
 refine sB (qE rfl rfl) rfl rfl (fun h158 => ?_) (fun h158 => ?_)
 refine A9 ?_
 (have hl2 : ts.length = 2 := hop.1 zV; obtain ⟨b0, o0, q0, d0, hp0, hat0, hre0, hg0⟩ := hsl.kidTy hkl (i := 0) zV zV; obtain ⟨b1, o1, q1, d1, hp1, hat1, hre1, hg1⟩ := hsl.kidTy hkl (i := 1) zV zV; cases hp0; cases hp1; refine D3 D4 rfl ?_)
 refine E9 (i := 1) (l' := [ff,tt,ff,ff,ff,ff,ff,ff,ff,ff,ff,ff,ff,ff,ff]) rfl C1 (qM rfl) rfl zT rfl rfl ?_
 refine aP 2 rfl (A6 (j := 0) rfl rfl rfl zV) rfl ?_
 refine aL 3 rfl (A2 rfl rfl (hat0 _) rfl) rfl ?_
 refine A0 0 ?_
 refine M8 rfl rfl ((A26 _)) rfl rfl rfl ?_
 refine A0 4 ?_
 refine M8 rfl rfl ((A0R _)) rfl rfl rfl ?_
 refine A0 5 ?_
 refine Q3 rfl rfl ((A1w ts[0] (.mk 2 []) _ _ _ (ha0 zV) (P8 zU zU) hre0 (N9 _ ⟨by omega, by omega⟩))) rfl rfl rfl (fun h173 => ?_) (fun h173 => ?_)
 refine aP 6 rfl (qM rfl) rfl ?_
 refine aP 7 rfl (qM rfl) rfl ?_
 refine aP 8 rfl (A6 (j := 1) rfl rfl rfl zV) rfl ?_
 refine aL 9 rfl (A2 rfl rfl (hat1 _) rfl) rfl ?_
 refine A0 10 ?_
 refine M8 rfl rfl ((A0R _)) rfl rfl rfl ?_
 refine A0 11 ?_
 refine M8 rfl rfl ((A1w ts[1] (.mk 2 []) _ _ _ (ha1 zV) (P8 zU zU) hre1 (N9 _ ⟨by omega, by omega⟩))) rfl rfl rfl ?_
 refine aP 12 rfl (M2 rfl rfl) rfl ?_
 refine A0 13 ?_
 refine B8 rfl ?_
 refine aP 14 rfl (qA rfl) rfl ?_
 refine A9 ?_
 refine C5 (rC rfl (A1 rfl rfl)) (rT rfl) ?_
 (have hk8 : k = 8 := zV; exact N4.mk (by rw [A4a (.inr hk8) zV]; simp_all [O4, T0]) (N9 _ ⟨by omega, by omega⟩) (P8 zV zV))
 refine aP 6 rfl (qM rfl) rfl ?_
 refine C4 7 rfl rfl rfl ?_
 refine C4 8 rfl rfl rfl ?_
 refine C4 9 rfl rfl rfl ?_
 refine C4 10 rfl rfl rfl ?_
 refine C4 11 rfl rfl rfl ?_
 refine aP 12 rfl (N7 rfl rfl) rfl ?_
 refine A0 13 ?_
 refine B8 rfl ?_
 refine aP 14 rfl (qA rfl) rfl ?_
 refine A9 ?_
 refine C5 (rC rfl (A1 rfl rfl)) (rT rfl) ?_
 (have hk8 : k = 8 := zV; exact N4.mk (by rw [A4a (.inr hk8) zV]; simp_all [O4, T0]) (N9 _ ⟨by omega, by omega⟩) (P8 zV zV))
 refine A7 ?_
 refine sB (qE rfl rfl) rfl rfl (fun h216 => ?_) (fun h216 => ?_)
 refine A7 ?_
 (have hl3 : ts.length = 3 := hop.2.1 zV; obtain ⟨b0, o0, q0, d0, hp0, hat0, hre0, hg0⟩ := hsl.kidTy hkl (i := 0) zV zV; obtain ⟨b1, o1, q1, d1, hp1, hat1, hre1, hg1⟩ := hsl.kidTy hkl (i := 1) zV zV; obtain ⟨b2, o2, q2, d2, hp2, hat2, hre2, hg2⟩ := hsl.kidTy hkl (i := 2) zV zV; cases hp0; cases hp1; cases hp2; refine D3 D4 rfl ?_)
 refine E9 (i := 0) (l' := [tt,ff,ff,ff,ff,ff,ff,ff]) rfl C1 (qM rfl) rfl zT rfl rfl ?_
 refine aP 1 rfl (A6 (j := 1) rfl rfl rfl zV) rfl ?_
 refine aL 2 rfl (A2 rfl rfl (hat1 _) rfl) rfl ?_
 refine aP 3 rfl (qM rfl) rfl ?_
 refine aP 4 rfl (A6 (j := 2) rfl rfl rfl zV) rfl ?_
 refine aL 5 rfl (A2 rfl rfl (hat2 _) rfl) rfl ?_
 refine A0 6 ?_
 refine Q3 rfl rfl ((A1w ts[1] ts[2] _ _ _ (ha1 zV) (ha2 zV) hre1 hre2)) rfl rfl rfl (fun h231 => ?_) (fun h231 => ?_)
 refine aP 7 rfl (Z6 rfl) rfl ?_
 refine A7 ?_
 (have hl3 : ts.length = 3 := hop.2.1 zV; obtain ⟨b0, o0, q0, d0, hp0, hat0, hre0, hg0⟩ := hsl.kidTy hkl (i := 0) zV zV; obtain ⟨b1, o1, q1, d1, hp1, hat1, hre1, hg1⟩ := hsl.kidTy hkl (i := 1) zV zV; obtain ⟨b2, o2, q2, d2, hp2, hat2, hre2, hg2⟩ := hsl.kidTy hkl (i := 2) zV zV; cases hp0; cases hp1; cases hp2; refine D3 D4 rfl ?_)
 refine E9 (i := 0) (l' := [tt,ff,ff,ff,ff,ff,ff,ff,ff,ff,ff,ff,ff,ff]) rfl C1 (qM rfl) rfl zT rfl rfl ?_
 refine aP 1 rfl (A6 (j := 1) rfl rfl rfl zV) rfl ?_
 refine aL 2 rfl (A2 rfl rfl (hat1 _) rfl) rfl ?_
 refine aP 3 rfl (qM rfl) rfl ?_
 refine aP 4 rfl (A6 (j := 2) rfl rfl rfl zV) rfl ?_
 refine aL 5 rfl (A2 rfl rfl (hat2 _) rfl) rfl ?_
 refine aP 7 rfl (qM rfl) rfl ?_
 refine aP 8 rfl (A6 (j := 0) rfl rfl rfl zV) rfl ?_
 refine aL 9 rfl (A2 rfl rfl (hat0 _) rfl) rfl ?_
 refine A0 6 ?_
 (refine D6 rfl rfl (B21 ts[1] ts[2] G _ _ zS (ha1 zV) (ha2 zV) hre1 hre2) rfl rfl rfl (fun v G1 hle1 hh => ?_); obtain ⟨mc, rfl, hmr⟩ := hh; obtain ⟨mt, hmt⟩ : ∃ mt, R5 ts[1] ts[2] = mt := ⟨_, rfl⟩; rw [hmt] at hmr; have hma : H1 mt := (hmt ▸ B24 ts[1] ts[2] zS (ha1 zV) (ha2 zV)); obtain ⟨p1, c1, e1, rfl, _⟩ := hmr.open; have hre0q := hre0.mono hle1)
 refine A0 10 ?_
 refine M8 rfl rfl ((A26 _)) rfl rfl rfl ?_
 refine A0 11 ?_
 refine M8 rfl rfl ((A1w ts[0] (.mk 3 []) _ _ _ (ha0 zV) (P8 zU zU) hre0q (N9 _ ⟨by omega, by omega⟩))) rfl rfl rfl ?_
 refine A0 12 ?_
 refine B8 rfl ?_
 refine aP 13 rfl (qA rfl) rfl ?_
 refine A9 ?_
 refine C5 (rC rfl (A1 rfl rfl)) (rT rfl) ?_
 (obtain rfl : k = 9 := zV; exact N4.mk (by rw [A8B zV, hmt]; simp_all [T0]) hmr hma)
 refine aP 7 rfl (pNf rfl) rfl ?_
 refine J5 ?_
 refine C5 (rC rfl (A1 rfl rfl)) (rT rfl) ?_
 (obtain rfl : k = 9 := zV; exact N4.no (by rw [A8B zV]; simp_all) (N9 _ ⟨by omega, by omega⟩) (P8 zV zV))
 refine A7 ?_
 refine sB (qE rfl rfl) rfl rfl (fun h288 => ?_) (fun h288 => ?_)
 refine A9 ?_
 (have hl2 : ts.length = 2 := hop.1 zV; obtain ⟨b0, o0, q0, d0, hp0, hat0, hre0, hg0⟩ := hsl.kidTy hkl (i := 0) zV zV; obtain ⟨b1, o1, q1, d1, hp1, hat1, hre1, hg1⟩ := hsl.kidTy hkl (i := 1) zV zV; cases hp0; cases hp1; refine D3 D4 rfl ?_)
 refine E9 (i := 0) (l' := [tt,ff,ff,ff,ff,ff,ff,ff,ff,ff,ff]) rfl C1 (qM rfl) rfl zT rfl rfl ?_
 refine aP 1 rfl (A6 (j := 0) rfl rfl rfl zV) rfl ?_
 refine aL 2 rfl (A2 rfl rfl (hat0 _) rfl) rfl ?_
 refine aP 3 rfl (qM rfl) rfl ?_
 refine aP 4 rfl (A6 (j := 1) rfl rfl rfl zV) rfl ?_
 refine aL 5 rfl (A2 rfl rfl (hat1 _) rfl) rfl ?_
 refine A0 6 ?_
 (refine D6 rfl rfl (A14 5 ts[0] ts[1] G _ _ (.inr rfl) (ha0 zV) (ha1 zV) hre0 hre1) rfl rfl rfl (fun v G1 hle1 hh => ?_); obtain ⟨mc, rfl, hmr⟩ := hh; have hma := A3T (.inr rfl) (ha0 zV) (ha1 zV); obtain ⟨p1, c1, e1, rfl, _⟩ := hmr.open)
 refine aP 7 rfl (pX rfl rfl) rfl ?_
 refine aP 8 rfl (pX rfl rfl) rfl ?_
 refine A0 9 ?_
 refine B8 rfl ?_
 refine aP 10 rfl (qA rfl) rfl ?_
 refine A9 ?_
 refine C5 (rC rfl (A1 rfl rfl)) (rT rfl) ?_
 (obtain rfl : k = 10 := zV; exact N4.mk (by rw [B22 zV]) hmr hma)
 refine A7 ?_
 refine sB (qE rfl rfl) rfl rfl (fun h321 => ?_) (fun h321 => ?_)
 refine A8 ?_
 (have hl1 : ts.length = 1 := hop.2.2 zV; obtain ⟨b0, o0, q0, d0, hp0, hat0, hre0, hg0⟩ := hsl.kidTy hkl (i := 0) zV zV; cases hp0; refine sP (A6 (j := 0) rfl rfl rfl zV) rfl rfl ?_)
 refine sL (A2 rfl rfl (hat0 _) rfl) rfl rfl ?_
 focus (refine E7 rfl (A2B 5 ts[0] G _ (.inr rfl) (ha0 zV) hre0) rfl rfl (fun v G1 hle1 hh => ?_); obtain ⟨ma, mca, mb, mcb, rfl, hma, hmb, hma2, hmb2, hpp⟩ := hh; obtain ⟨p1, c1, e1, rfl, _⟩ := hma.open; obtain ⟨p2, c2, e2, rfl, _⟩ := hmb.open; rcases hm : O8 5 ts[0] with _ | pr; rotate_left; obtain rfl := hpp _ hm; rotate_left; all_goals simp only [Option.isSome])
 refine C3 ?_
 refine sE (A4 rfl) rfl (fun b336 => ?_)
 refine sE (A4 rfl) rfl (fun b337 => ?_)
 refine K0 ?_
 refine C5 (rC rfl (A1 rfl rfl)) (rT rfl) ?_
 (have hk11 : k = 11 := zV; exact N4.no (by rw [A4b (.inl hk11) zV, hm]) hma hma2)
 refine C3 ?_
 refine sE (A4 rfl) rfl (fun b360 => ?_)
 refine sE (A4 rfl) rfl (fun b361 => ?_)
 refine K0 ?_
 refine C5 (rC rfl (A1 rfl rfl)) (rT rfl) ?_
 (have hk11 : k = 11 := zV; exact N4.yes (by rw [A4b (.inl hk11) zV, hm]; simp only; rw [if_neg zV]) hma hma2)
 refine A7 ?_
 refine sB (qE rfl rfl) rfl rfl (fun h386 => ?_) (fun h386 => ?_)
 refine A8 ?_
 (have hl1 : ts.length = 1 := hop.2.2 zV; obtain ⟨b0, o0, q0, d0, hp0, hat0, hre0, hg0⟩ := hsl.kidTy hkl (i := 0) zV zV; cases hp0; refine sP (A6 (j := 0) rfl rfl rfl zV) rfl rfl ?_)
 refine sL (A2 rfl rfl (hat0 _) rfl) rfl rfl ?_
 focus (refine E7 rfl (A2B 5 ts[0] G _ (.inr rfl) (ha0 zV) hre0) rfl rfl (fun v G1 hle1 hh => ?_); obtain ⟨ma, mca, mb, mcb, rfl, hma, hmb, hma2, hmb2, hpp⟩ := hh; obtain ⟨p1, c1, e1, rfl, _⟩ := hma.open; obtain ⟨p2, c2, e2, rfl, _⟩ := hmb.open; rcases hm : O8 5 ts[0] with _ | pr; rotate_left; obtain rfl := hpp _ hm; rotate_left; all_goals simp only [Option.isSome])
 refine C3 ?_
 refine sE (A4 rfl) rfl (fun b401 => ?_)
 refine sE (A4 rfl) rfl (fun b402 => ?_)
 refine K0 ?_
 refine C5 (rC rfl (A1 rfl rfl)) (rT rfl) ?_
 (have hk12 : k = 12 := zV; exact N4.no (by rw [A4b (.inr hk12) zV, hm]) hmb hmb2)
 refine C3 ?_
 refine sE (A4 rfl) rfl (fun b425 => ?_)
 refine sE (A4 rfl) rfl (fun b426 => ?_)
 refine K0 ?_
 refine C5 (rC rfl (A1 rfl rfl)) (rT rfl) ?_
 (have hk12 : k = 12 := zV; exact N4.yes (by rw [A4b (.inr hk12) zV, hm]; simp only; rw [if_pos zV]) hmb hmb2)
 refine A7 ?_
 refine sP (I1 rfl rfl zV) rfl rfl ?_
 refine A9 ?_
 (have hl1 : ts.length = 1 := hop.2.2 zV; obtain ⟨b0, o0, q0, d0, hp0, hat0, hre0, hg0⟩ := hsl.kidTy hkl (i := 0) zV zV; cases hp0; refine D3 D4 rfl ?_)
 refine E9 (i := 0) (l' := [tt,ff,ff,ff,ff,ff,ff,ff,ff,ff,ff]) rfl C1 (B0 rfl) rfl zT rfl rfl ?_
 refine aL 1 rfl (A1 rfl rfl) rfl ?_
 refine aP 3 rfl (qM rfl) rfl ?_
 refine aP 4 rfl (A6 (j := 0) rfl rfl rfl zV) rfl ?_
 refine aL 5 rfl (A2 rfl rfl (hat0 _) rfl) rfl ?_
 refine aP 6 rfl (B0 rfl) rfl ?_
 refine aL 7 rfl (A1 rfl rfl) rfl ?_
 refine A0 2 ?_
 (refine D6 rfl rfl (X1 (.mk tk tks) G _ hty.small hrty) rfl rfl rfl (fun v G1 hle1 hh => ?_); obtain ⟨cs1, F1, rfl, hs1, hn1⟩ := hh; obtain ⟨p1, c1, rfl, _⟩ := hs1.open; have hmr := hs1.R.mono (E2.le G1 G); have hre0q := hre0.mono hle1; have hrtyq := hrty.mono hle1)
 refine A0 8 ?_
 refine M8 rfl rfl ((A1w ts[0] (.mk tk tks) _ _ _ (ha0 zV) hty hre0q hrtyq)) rfl rfl rfl ?_
 refine A0 9 ?_
 refine B8 rfl ?_
 refine aP 10 rfl (qA rfl) rfl ?_
 refine A9 ?_
 refine C5 (rC rfl (A1 rfl rfl)) (rT rfl) ?_
 (obtain rfl : k = 13 := zV; exact N4.mk (by rw [B23 zV]) hmr hty)
section fin
variable {P : Program} {Γ : K7} {env : L4} {hp : List A5} {G : IM}
theorem A15 {r r2 r3 : ResultVar} {post : IM → Value → List A5 → Prop} {v v2 v3 : Value} {outs : List A5} (h : V5 P Γ ⟨env, hp, G⟩ r v) (h2 : V5 P Γ ⟨env, hp, G⟩ r2 v2) (h3 : V5 P Γ ⟨env, hp, G⟩ r3 v3) (ho : D0 hp outs) (hk : post G (.tuple ⟨[v, v2, v3]⟩) outs) :
  A0i P Γ [r, r2, r3] post .ret ⟨env, hp, G⟩ := A6g (.cons h (.cons h2 (.cons h3 .nil))) ho.spec hk
end fin
def CsP (bx : Nat) (e : Tm) (a b : Ty) (l : Int) : IM → Value → List A5 → Prop := fun G' v outs => ∃ cells, v = .agg ⟨cells⟩ ∧ outs = [.blk bx [.int .i64 (if M5 a b = true then l else l + 1)]] ∧ D1 G' (if M5 a b = true then e else P3 e a b (l + 1)) cells
theorem CsP.yes {G : IM} {bx : Nat} {e : Tm} {a b : Ty} {l : Int} {cells : List Value} (h : M5 a b = true) (hr : D1 G e cells) : CsP bx e a b l G (.agg ⟨cells⟩) [.blk bx [.int .i64 l]] := ⟨cells, rfl, by rw [if_pos h], by rw [if_pos h]; exact hr⟩
theorem CsP.no {G : IM} {bx : Nat} {e : Tm} {a b : Ty} {l : Int} {cells : List Value} (h : M5 a b = false) (hr : D1 G (P3 e a b (l + 1)) cells) : CsP bx e a b l G (.agg ⟨cells⟩) [.blk bx [.int .i64 (l + 1)]] := ⟨cells, rfl, by rw [if_neg (by rw [h]; decide)], by rw [if_neg (by rw [h]; decide)]; exact hr⟩
theorem B26 (bx : Nat) (e : Tm) (a b : Ty) (l : Int) (G : IM) (ce ca cb : List Value) (hl : -1000000000000 ≤ l ∧ l ≤ 1000000000000) (hre : D1 G e ce) (hra : C7 G a ca) (hrb : C7 G b cb) :
  Fn Tryz.prog 140 [.pointer (some ⟨bx, 0, none⟩), .agg ⟨ce⟩, .agg ⟨ca⟩, .agg ⟨cb⟩] [.blk bx [.int .i64 l]] G (CsP bx e a b l) := by
 have hel := hre.len
 have heo := hre.one
 have hS := B2k a b G ca cb hra hrb
 obtain ⟨v1, v2, v3, v4, v5, v6, v7, v8, v9, rfl⟩ := A3Z hel
 obtain ⟨ak, aks⟩ := a
 obtain ⟨bk, bks⟩ := b
 obtain ⟨pa, cca, ea, rfl, hka, _⟩ := hra.open
 obtain ⟨pb, ccb, eb, rfl, hkb, _⟩ := hrb.open
 refine D5 Tryz.func140 rfl Tryz.ntmps140 Tryz.results140 rfl ?_
 intro w0
 refine A3 ?_
 refine sE (D8 rfl rfl) rfl (fun b3 => ?_)
 refine sE (D8 rfl rfl) rfl (fun b4 => ?_)
 refine sE (D8 rfl rfl) rfl (fun b5 => ?_)
 refine sE (A4 rfl) rfl (fun b6 => ?_)
 refine A8 ?_
 refine I5 rfl (hS) rfl rfl (fun h14 => ?_) (fun h14 => ?_)
 refine A9 ?_
 refine sL (A2 rfl rfl (C9 zO) hel) rfl rfl ?_
 refine sS rfl rfl rfl hel heo rfl ?_ (hu := by exact D7 hel.symm)
 refine C3 ?_
 refine S1 (outs := [.blk bx [.int .i64 _]]) (rC rfl (A1 rfl rfl)) (D0.cons zM D0.nil) ?_
 (exact CsP.yes zS hre)
 refine B4 ?_
 refine sQ (A2b rfl) rfl ?_
 refine A3 ?_
 refine sP (H9 rfl rfl zV zV) rfl rfl ?_
 refine sQ (A2b rfl) rfl ?_
 refine A9 ?_
 refine D3 D4 rfl ?_
 refine K3 (i := 6) (l' := [ff,ff,ff,ff,ff,ff,tt,ff,ff,ff]) rfl C1 (A2 rfl rfl (C9 zO) hel) rfl zT rfl rfl ?_
 refine aL 0 rfl (A1 rfl rfl) rfl ?_
 refine aL 1 rfl (A1 rfl rfl) rfl ?_
 refine aP 2 rfl (qM rfl) rfl ?_
 refine aP 3 rfl (A2b rfl) rfl ?_
 refine aP 4 rfl (B0 rfl) rfl ?_
 refine aL 5 rfl (B3 rfl rfl) rfl ?_
 refine A0 7 ?_
 (refine B6 rfl (C0 rfl rfl rfl zV zQ rfl) rfl rfl ?_; rintro _ ⟨b55, rfl⟩)
 refine aP 8 rfl (K8 rfl rfl) rfl ?_
 refine A0 9 ?_
 refine B8 rfl ?_
 refine A3 ?_
 (refine E0 (cs := [v1, v2, v3, v4, v5, v6, v7, v8, v9]) zM (fun G2 hle2 hsl2 hno2 => ?_))
 refine tT ?_
 refine S1 (outs := [.blk bx [.int .i64 _]]) (rC rfl (A1 rfl rfl)) (D0.cons zM D0.nil) ?_
 (exact CsP.no zS (D1.put (us := [e]) (es := [[v1, v2, v3, v4, v5, v6, v7, v8, v9]]) ⟨by decide, by decide⟩ ⟨by decide, by decide⟩ ⟨by omega, by omega⟩ (hrb.mono hle2) (hra.mono hle2) rfl (C8.of hsl2 rfl (by intro x hx; obtain rfl := List.mem_singleton.1 hx; rfl) (by intro x hx; obtain rfl := List.mem_singleton.1 hx; exact heo)) (by simp only [H4]; exact ⟨_, _, rfl, hre.mono hle2, rfl⟩)))
def ElP (bx : Nat) (cx : Cx) (e : Tm) (l : Int) : IM → Value → List A5 → Prop := fun G' v outs => ∃ u cu t ct l', v = .tuple ⟨[.agg ⟨cu⟩, .agg ⟨ct⟩, .bool (N0 cx e l).isSome]⟩ ∧ outs = [.blk bx [.int .i64 l']] ∧ D1 G' u cu ∧ C7 G' t ct ∧ l ≤ l' ∧ l' + 1 ≤ l + (J1 e : Int) ∧ ∀ r, N0 cx e l = some r → r = (u, t, l')
theorem ElP.no {G : IM} {bx : Nat} {cx : Cx} {e : Tm} {l l' : Int} {u : Tm} {t : Ty} {cu ct : List Value} (h : N0 cx e l = none) (hu : D1 G u cu) (ht : C7 G t ct) (h1 : l ≤ l') (h2 : l' + 1 ≤ l + (J1 e : Int)) : ElP bx cx e l G (.tuple ⟨[.agg ⟨cu⟩, .agg ⟨ct⟩, .bool false]⟩) [.blk bx [.int .i64 l']] :=
 ⟨u, cu, t, ct, l', by rw [h]; rfl, rfl, hu, ht, h1, h2, fun r hr => by rw [h] at hr; cases hr⟩
theorem ElP.yes {G : IM} {bx : Nat} {cx : Cx} {e : Tm} {l l' : Int} {u : Tm} {t : Ty} {cu ct : List Value} (h : N0 cx e l = some (u, t, l')) (hu : D1 G u cu) (ht : C7 G t ct) (h1 : l ≤ l') (h2 : l' + 1 ≤ l + (J1 e : Int)) : ElP bx cx e l G (.tuple ⟨[.agg ⟨cu⟩, .agg ⟨ct⟩, .bool true]⟩) [.blk bx [.int .i64 l']] :=
 ⟨u, cu, t, ct, l', by rw [h]; rfl, rfl, hu, ht, h1, h2, fun r hr => by rw [h] at hr; cases hr; rfl⟩
section
variable {cx : Cx} {k : Int} {nm : ByteArray} {num : Int} {ty fr : Ty} {lb : Int} {ks us : List Tm} {h : List Ty} {l l' : Int}
theorem B27 (hL : M4 (M6 cx k nm ty) ks l = none) : N0 cx (.mk k nm num ty fr lb ks) l = none := by rw [N0, hL]
theorem A5I (hL : M4 (M6 cx k nm ty) ks l = some (us, h, l')) (hn : W2 cx k nm ty h = none) : N0 cx (.mk k nm num ty fr lb ks) l = none := by rw [N0, hL]; simp only [A1k, hn]
theorem B28 {w : List Ty} {t : Ty} (hL : M4 (M6 cx k nm ty) ks l = some (us, h, l')) (hn : W2 cx k nm ty h = some (w, t)) (hk : k = 13) : N0 cx (.mk k nm num ty fr lb ks) l = some ((H7 us h w l').1.getD 0 P2, t, (H7 us h w l').2) := by
 rw [N0, hL]; simp only [A1k, hn, if_pos hk]
theorem A8C {w : List Ty} {t : Ty} (hL : M4 (M6 cx k nm ty) ks l = some (us, h, l')) (hn : W2 cx k nm ty h = some (w, t)) (hk : k ≠ 13) : N0 cx (.mk k nm num ty fr lb ks) l = some (.mk k nm num ty fr lb (H7 us h w l').1, t, (H7 us h w l').2) := by
 rw [N0, hL]; simp only [A1k, hn, if_neg hk]
end
theorem A16 {t : Ty} (h : H0 t = true) : H1 t := (A3V h).1
theorem A8D {us : List Tm} (h : 0 < us.length) : us.getD 0 P2 = us[0] := by rw [List.getD_eq_getElem?_getD, List.getElem?_eq_getElem h, Option.getD_some]
theorem B29 (bx : Nat) : ∀ (e : Tm) (d : Int) (cx : Cx) (l0 : Int) (G : IM) (pc : Option Addr) (nc cc : Nat) (cells : List Value), N1 12 14 e d = true → (nc : Int) ≤ d → W5 cx → O9 G cx pc nc cc → D1 G e cells → 0 ≤ l0 → l0 + (J1 e : Int) ≤ 1000000000 →
  Fn Tryz.prog 88 [.pointer (some ⟨bx, 0, none⟩), .slice pc nc cc, .agg ⟨cells⟩] [.blk bx [.int .i64 l0]] G (ElP bx cx e l0) := by
 refine Tm.ind fun k nm num ty fr lb ks ih d cx l0 G pc nc cc cells hv hnd hcv hx hr hl0 hlc => ?_
 have hr0 := hr
 have hone := hr.one
 obtain ⟨hv1, hv2, hv3, hv4⟩ := A0Q hv
 have hvk := (A0A 12 14 ks _).1 hv4
 have har := (S8.1 hv3).1
 have hop := A2r har
 obtain ⟨hta, hts⟩ := A27 hv3
 have hkr : 1 ≤ k ∧ k ≤ 14 := A37 (by rw [har]; omega)
 have hcvX : W5 (M6 cx k nm ty) := A3g hcv fun hk => (S8.1 hv3).2.2.2.2.2.1 (.inl hk)
 have hck : J1 (.mk k nm num ty fr lb ks) = I4 ks + 1 := A2u ..
 rw [hck] at hlc
 obtain ⟨tk, tks⟩ := ty
 obtain ⟨fk, fks⟩ := fr
 obtain ⟨pt, ct, pf, cf, q, cq, es, rfl, hk, hnum, hlb, hty, hfr, hsl, hkl⟩ := hr.open9
 have hlen : ks.length ≤ 3 := by have := A10 k; omega
 obtain ⟨hx1, esx, hx2, hx3⟩ := id hx
 have hcl := B2u G pc nc cc esx hx2 zV
 have hcnt0 := A6M ks
 refine D5 Tryz.func88 rfl Tryz.ntmps88 Tryz.results88 rfl ?_
 intro w0
 refine A3 ?_
 refine sE (D8 rfl rfl) rfl (fun b3 => ?_)
 refine sE (A4 rfl) rfl (fun b4 => ?_)
 refine sE (A4 rfl) rfl (fun b5 => ?_)
 refine H3 ?_
 (show J7 _ _ (.seq (.region 2 _ _) (.cond (.tmp 25) _ _)) _ _; refine A1X (fun (x : Option Addr × Nat × Nat × IM) => ⟨[(9, .slice x.1 x.2.1 x.2.2.1), (1, .slice pc nc cc), (0, .pointer (some ⟨bx, 0, none⟩)), (5, .pointer (some ⟨b3, 0, none⟩)), (6, .pointer (some ⟨b4, 0, none⟩)), (7, .pointer (some ⟨b5, 0, none⟩))], [.blk b5 [.int .i64 0, .slice none 0 0], .blk b4 [.int .i64 0, .string ⟨⟨[]⟩⟩, .int .i64 0, .int .i64 0, .slice none 0 0, .int .i64 0, .slice none 0 0, .int .i64 0, .slice none 0 0], .blk b3 [.int .i64 k, .string nm, .int .i64 num, .int .i64 tk, .slice pt tks.length ct, .int .i64 fk, .slice pf fks.length cf, .int .i64 lb, .slice q ks.length cq], .blk bx [.int .i64 l0]], x.2.2.2⟩) (fun x => D2 G x.2.2.2 ∧ O9 x.2.2.2 (M6 cx k nm (.mk tk tks)) x.1 x.2.1 x.2.2.1 ∧ x.2.1 ≤ nc + 1) ?_ ?_)
 ·refine C3 ?_
  refine sB (qE rfl rfl) rfl rfl (fun h21 => ?_) (fun h21 => ?_)
  ·refine B2 ?_
   refine D3 D4 rfl ?_
   refine E9 (i := 0) (l' := [tt,ff,ff,ff,ff,ff,ff,ff,ff,ff]) rfl C1 (qM rfl) rfl zT rfl rfl ?_
   refine aP 2 rfl (B0 rfl) rfl ?_
   refine aL 3 rfl (B3 rfl rfl) rfl ?_
   refine aP 4 rfl (B0 rfl) rfl ?_
   refine aL 5 rfl (A1 rfl rfl) rfl ?_
   refine aP 6 rfl (K8 rfl rfl) rfl ?_
   refine J8 (j := 1) (j' := 7) zT ?_ ?_
   ·(refine A6t rfl rfl hcl rfl rfl rfl (fun v33 G33 outs33 hle33 h33 => ?_); obtain ⟨hG, p1, c1, rfl, rfl⟩ := h33; replace hG := hG.symm; subst hG)
    replace hr := hr.mono hle33
    replace hr0 := hr0.mono hle33
    replace hty := hty.mono hle33
    replace hfr := hfr.mono hle33
    replace hsl := hsl.mono hle33
    replace hkl := hkl.mono hle33
    replace hx2 := hx2.mono hle33
    refine A0 7 ?_
    (refine B6 rfl (C0 rfl rfl rfl zV zQ rfl) rfl rfl ?_; rintro _ ⟨b35, rfl⟩)
    refine A0 8 ?_
    (refine P5 rfl rfl rfl rfl rfl rfl (fun _ _ => by repeat (first | exact Sw.here | apply Sw.there)) (O1 zO) rfl zP zQ zV rfl rfl zH (fun p5 c5 => ?_); refine A6n (cs := esx.flatten ++ [.string nm, .int .i64 tk, .slice pt tks.length ct]) zM (fun Gf hleF hslF hnoF => ?_); have hxF := O9.snoc (nm := nm) (t := .mk tk tks) hx1 hx2.len hx2.all hx2.one hx3 hleF ⟨_, _, rfl, hty.mono hleF⟩ hslF)
    refine aP 9 rfl (qA rfl) rfl ?_
    refine aD' ?_
    refine A0C (p5, nc + 1, c5, Gf) (T4 zL zI) ⟨hleF, by (dsimp only; rw [M6, if_pos zV]; exact hxF), by (dsimp only; omega)⟩
   ·(refine B6 rfl (C0 rfl rfl rfl zV zQ rfl) rfl rfl ?_; rintro _ ⟨b41, rfl⟩)
    refine A0 1 ?_
    (refine A6t rfl rfl hcl rfl rfl rfl (fun v43 G43 outs43 hle43 h43 => ?_); obtain ⟨hG, p1, c1, rfl, rfl⟩ := h43; replace hG := hG.symm; subst hG)
    replace hr := hr.mono hle43
    replace hr0 := hr0.mono hle43
    replace hty := hty.mono hle43
    replace hfr := hfr.mono hle43
    replace hsl := hsl.mono hle43
    replace hkl := hkl.mono hle43
    replace hx2 := hx2.mono hle43
    refine A0 8 ?_
    (refine P5 rfl rfl rfl rfl rfl rfl (fun _ _ => by repeat (first | exact Sw.here | apply Sw.there)) (O1 zO) rfl zP zQ zV rfl rfl zH (fun p5 c5 => ?_); refine A6n (cs := esx.flatten ++ [.string nm, .int .i64 tk, .slice pt tks.length ct]) zM (fun Gf hleF hslF hnoF => ?_); have hxF := O9.snoc (nm := nm) (t := .mk tk tks) hx1 hx2.len hx2.all hx2.one hx3 hleF ⟨_, _, rfl, hty.mono hleF⟩ hslF)
    refine aP 9 rfl (qA rfl) rfl ?_
    refine aD' ?_
    refine A0C (p5, nc + 1, c5, Gf) (T4 zL zI) ⟨hleF, by (dsimp only; rw [M6, if_pos zV]; exact hxF), by (dsimp only; omega)⟩
  ·refine C3 ?_
   refine A0C (pc, nc, cc, G) (T4 zL zI) ⟨D2.refl _, by (dsimp only; rw [M6, if_neg zV]; exact hx), by (dsimp only; omega)⟩
 ·(rintro ⟨p6, n6, c6, Gx⟩ ⟨hleX, hxX, hn6⟩; simp only [] at hleX hxX hn6 ⊢; replace hsl := hsl.mono hleX; replace hkl := hkl.mono hleX; replace hx := hx.mono hleX; replace hr0 := hr0.mono hleX; replace hty := hty.mono hleX; replace hfr := hfr.mono hleX)
  refine B2 ?_
  refine sE (A4 rfl) rfl (fun b58 => ?_)
  refine A07 ?_
  refine B7 ?_
  (refine S7 28 9 ?_; refine S7 25 2 ?_; refine J3 (fun (x : Nat × (Option Addr × Nat × List Tm × List (List Value)) × (Option Addr × Nat × List Ty × List (List Value)) × Int × IM) => ⟨[(40, .int .i64 x.1), (39, .int .i64 ks.length), (38, .slice q ks.length cq), (11, .slice x.2.2.1.1 x.1 x.2.2.1.2.1), (9, .slice p6 n6 c6), (1, .slice pc nc cc), (0, .pointer (some ⟨bx, 0, none⟩)), (5, .pointer (some ⟨b3, 0, none⟩)), (6, .pointer (some ⟨b4, 0, none⟩)), (7, .pointer (some ⟨b5, 0, none⟩)), (10, .pointer (some ⟨b58, 0, none⟩))], [.blk b58 [.int .i64 k, .string nm, .int .i64 num, .int .i64 tk, .slice pt tks.length ct, .int .i64 fk, .slice pf fks.length cf, .int .i64 lb, .slice x.2.1.1 x.1 x.2.1.2.1], .slc x.2.1.1 x.2.1.2.1 28 9 x.1 x.2.1.2.2.2.flatten, .slc x.2.2.1.1 x.2.2.1.2.1 25 2 x.1 x.2.2.1.2.2.2.flatten, .blk b5 [.int .i64 0, .slice none 0 0], .blk b4 [.int .i64 0, .string ⟨⟨[]⟩⟩, .int .i64 0, .int .i64 0, .slice none 0 0, .int .i64 0, .slice none 0 0, .int .i64 0, .slice none 0 0], .blk b3 [.int .i64 k, .string nm, .int .i64 num, .int .i64 tk, .slice pt tks.length ct, .int .i64 fk, .slice pf fks.length cf, .int .i64 lb, .slice q ks.length cq], .blk bx [.int .i64 x.2.2.2.1]], x.2.2.2.2⟩) (fun x => x.1 ≤ ks.length ∧ D2 Gx x.2.2.2.2 ∧ x.2.1.2.2.1.length = x.1 ∧ H4 x.2.2.2.2 x.2.1.2.2.1 x.2.1.2.2.2 ∧ x.2.2.1.2.2.1.length = x.1 ∧ F4 x.2.2.2.2 x.2.2.1.2.2.1 x.2.2.1.2.2.2 ∧ (∀ t ∈ x.2.2.1.2.2.1, H1 t) ∧ M4 (M6 cx k nm (.mk tk tks)) (ks.take x.1) l0 = some (x.2.1.2.2.1, x.2.2.1.2.2.1, x.2.2.2.1) ∧ l0 ≤ x.2.2.2.1 ∧ x.2.2.2.1 + x.1 ≤ l0 + (I4 (ks.take x.1) : Int)) (fun x => ks.length - x.1) (0, (none, 0, [], []), (none, 0, [], []), l0, Gx) ?_ ?_ ?_)
  ·(simp only [List.take_zero, A0e]; exact (T4 zL zI))
  ·(exact ⟨by simp, D2.refl _, rfl, by simp [H4], rfl, by simp [F4], by simp, by simp [M4], Int.le_refl _, by simp [I4]⟩)
  ·(rintro ⟨i, ⟨pn, cn, us, es'⟩, ⟨pm, cm, ts, ess⟩, l, Gi⟩ ⟨hi, hle, hlu, hst, hlt, hstt, hat, hml, hl1, hl2⟩; simp only [] at hi hle hlu hst hlt hstt hat hml hl1 hl2 ⊢; replace hty := hty.mono hle; replace hfr := hfr.mono hle; replace hsl := hsl.mono hle; replace hkl := hkl.mono hle; replace hr0 := hr0.mono hle; replace hx := hx.mono hle; replace hxX := hxX.mono hle)
   refine A3 ?_
   refine sB (I3 rfl rfl) rfl rfl (fun h89 => ?_) (fun h89 => ?_)
   ·refine A8 ?_
    refine B7 ?_
    refine A3 ?_
    (obtain ⟨b, o, e, rfl, hl, hate, hre, hgb⟩ := hsl.kidTm hkl (i := i) zV zV; have hon := hre.one; have hsc := A43 (ks := ks) (i := i) zV; have hsk := A42 (ks := ks) (i := i) zV; refine sP (A6 rfl rfl rfl zV) rfl rfl ?_)
    refine sL (A2 rfl rfl (hate _) hl) rfl rfl ?_
    refine sE (A4 rfl) rfl (fun b102 => ?_)
    refine sS rfl rfl rfl hl hon rfl ?_ (hu := by exact D7 hl.symm)
    refine A7 ?_
    refine sL (A2 rfl rfl (C9 zO) hl) rfl rfl ?_
    (refine A7N rfl (ih ks[i] (List.getElem_mem zV) (d + 1) _ l Gi p6 n6 c6 _ (hvk i zV) zV hcvX hxX hre zV zV) (Pk.perm zM) rfl rfl (fun v G3 outs hle3 hh => ?_); obtain ⟨u, uc, t, tc, l3, rfl, rfl, hru, hrt, hl3, hl4, hu⟩ := hh; obtain ⟨v1, v2, v3, v4, v5, v6, v7, v8, v9, rfl⟩ := A3Z hru.len; obtain ⟨p3, c3, e3, rfl, _⟩ := hrt.open; have hlu9 := hru.len; have hou9 := hru.one; rcases hE : N0 (M6 cx k nm (Ty.mk tk tks)) ks[i] l with _ | ⟨u2, t2, l2⟩; rotate_left; have hue := hu _ hE; simp only [Prod.mk.injEq] at hue; obtain ⟨rfl, rfl, rfl⟩ := hue; rotate_left)
    ·refine C3 ?_
     refine sE (A4 rfl) rfl (fun b116 => ?_)
     refine sE (A4 rfl) rfl (fun b117 => ?_)
     refine sS rfl rfl rfl hlu9 hou9 rfl ?_ (hu := by exact D7 hlu9.symm)
     refine A6s ?_
     refine A15 (outs := [.blk bx [.int .i64 _]]) (rC rfl (A1 rfl rfl)) (rC rfl (A1 rfl rfl)) (rT rfl) (D0.cons zM D0.nil) ?_
     (exact ElP.no (B27 (A5D zV hml hE)) (A1j _) (N9 _ ⟨by omega, by omega⟩) zV (by rw [hck]; omega))
    ·refine C3 ?_
     refine sE (A4 rfl) rfl (fun b153 => ?_)
     refine sE (A4 rfl) rfl (fun b154 => ?_)
     refine sS rfl rfl rfl hlu9 hou9 rfl ?_ (hu := by exact D7 hlu9.symm)
     refine J5 ?_
     refine D3 D4 rfl ?_
     refine E9 (i := 0) (l' := [tt,ff,ff,ff,ff,ff,ff,ff,ff,ff,ff,ff]) rfl C1 (B0 rfl) rfl zT rfl rfl ?_
     refine aL 1 rfl (B3 rfl rfl) rfl ?_
     refine aL 2 rfl (A1 rfl rfl) rfl ?_
     refine aP 5 rfl (qM rfl) rfl ?_
     refine aL 6 rfl (A1 rfl rfl) rfl ?_
     refine J8 (j := 3) (j' := 7) zT ?_ ?_
     ·(refine B6 rfl (C0 rfl rfl rfl zV zQ rfl) rfl rfl ?_; rintro _ ⟨b177, rfl⟩)
      refine J8 (j := 4) (j' := 7) zT ?_ ?_
      ·(refine P5 rfl rfl rfl rfl rfl rfl (fun _ _ => by repeat (first | exact Sw.here | apply Sw.there)) (O1 zO) rfl (fun u hu => List.all_eq_true.1 hou9 u hu) zQ zV rfl rfl zC (fun pn' cn' => ?_))
       refine aP 9 rfl (B0 rfl) rfl ?_
       refine A0 7 ?_
       (refine B6 rfl (C0 rfl rfl rfl zV zQ rfl) rfl rfl ?_; rintro _ ⟨b182, rfl⟩)
       refine A0 8 ?_
       (refine P5 rfl rfl rfl rfl rfl rfl (fun _ _ => by repeat (first | exact Sw.here | apply Sw.there)) (O1 zO) rfl zP zQ zV rfl rfl zC (fun pm' cm' => ?_))
       refine A0 10 ?_
       refine oS rfl rfl rfl rfl rfl rfl rfl rfl ?_
       refine aP 11 rfl (qA rfl) rfl ?_
       refine C3 ?_
       refine sP (H9 rfl rfl zV zV) rfl rfl ?_
       refine A3 ?_
       refine I6 (i + 1, (pn', cn', us ++ [u2], es' ++ [[v1, v2, v3, v4, v5, v6, v7, v8, v9]]), (pm', cm', ts ++ [t2], ess ++ [[.int .i64 t2.k, .slice p3 t2.ks.length c3]]), l2, G3) ?_ ?_ ?_
       ·(simp only [J4]; exact E3)
       ·(dsimp only; exact ⟨by omega, hle.trans hle3, by simp [hlu], H4.snoc (hst.mono hle3) hru, by simp [hlt], F4.snoc (hstt.mono hle3) hrt, A3U hat (A16 ((A2A ks[i] (d + 1) _ l (hvk i zV) hcvX).1 _ _ _ hE).2), A3i zV hml hE, by omega, by omega⟩)
       ·(show ks.length - (i + 1) < ks.length - i; omega)
      ·(refine B6 rfl (C0 rfl rfl rfl zV zQ rfl) rfl rfl ?_; rintro _ ⟨b199, rfl⟩)
       refine A0 4 ?_
       (refine P5 rfl rfl rfl rfl rfl rfl (fun _ _ => by repeat (first | exact Sw.here | apply Sw.there)) (O1 zO) rfl (fun u hu => List.all_eq_true.1 hou9 u hu) zQ zV rfl rfl zC (fun pn' cn' => ?_))
       refine aP 9 rfl (B0 rfl) rfl ?_
       refine A0 8 ?_
       (refine P5 rfl rfl rfl rfl rfl rfl (fun _ _ => by repeat (first | exact Sw.here | apply Sw.there)) (O1 zO) rfl zP zQ zV rfl rfl zC (fun pm' cm' => ?_))
       refine A0 10 ?_
       refine oS rfl rfl rfl rfl rfl rfl rfl rfl ?_
       refine aP 11 rfl (qA rfl) rfl ?_
       refine C3 ?_
       refine sP (H9 rfl rfl zV zV) rfl rfl ?_
       refine A3 ?_
       refine I6 (i + 1, (pn', cn', us ++ [u2], es' ++ [[v1, v2, v3, v4, v5, v6, v7, v8, v9]]), (pm', cm', ts ++ [t2], ess ++ [[.int .i64 t2.k, .slice p3 t2.ks.length c3]]), l2, G3) ?_ ?_ ?_
       ·(simp only [J4]; exact E3)
       ·(dsimp only; exact ⟨by omega, hle.trans hle3, by simp [hlu], H4.snoc (hst.mono hle3) hru, by simp [hlt], F4.snoc (hstt.mono hle3) hrt, A3U hat (A16 ((A2A ks[i] (d + 1) _ l (hvk i zV) hcvX).1 _ _ _ hE).2), A3i zV hml hE, by omega, by omega⟩)
       ·(show ks.length - (i + 1) < ks.length - i; omega)
     ·(refine B6 rfl (C0 rfl rfl rfl zV zQ rfl) rfl rfl ?_; rintro _ ⟨b219, rfl⟩)
      refine A0 3 ?_
      (refine B6 rfl (C0 rfl rfl rfl zV zQ rfl) rfl rfl ?_; rintro _ ⟨b221, rfl⟩)
      refine A0 4 ?_
      (refine P5 rfl rfl rfl rfl rfl rfl (fun _ _ => by repeat (first | exact Sw.here | apply Sw.there)) (O1 zO) rfl (fun u hu => List.all_eq_true.1 hou9 u hu) zQ zV rfl rfl zC (fun pn' cn' => ?_))
      refine aP 9 rfl (B0 rfl) rfl ?_
      refine A0 8 ?_
      (refine P5 rfl rfl rfl rfl rfl rfl (fun _ _ => by repeat (first | exact Sw.here | apply Sw.there)) (O1 zO) rfl zP zQ zV rfl rfl zC (fun pm' cm' => ?_))
      refine A0 10 ?_
      refine oS rfl rfl rfl rfl rfl rfl rfl rfl ?_
      refine aP 11 rfl (qA rfl) rfl ?_
      refine C3 ?_
      refine sP (H9 rfl rfl zV zV) rfl rfl ?_
      refine A3 ?_
      refine I6 (i + 1, (pn', cn', us ++ [u2], es' ++ [[v1, v2, v3, v4, v5, v6, v7, v8, v9]]), (pm', cm', ts ++ [t2], ess ++ [[.int .i64 t2.k, .slice p3 t2.ks.length c3]]), l2, G3) ?_ ?_ ?_
      ·(simp only [J4]; exact E3)
      ·(dsimp only; exact ⟨by omega, hle.trans hle3, by simp [hlu], H4.snoc (hst.mono hle3) hru, by simp [hlt], F4.snoc (hstt.mono hle3) hrt, A3U hat (A16 ((A2A ks[i] (d + 1) _ l (hvk i zV) hcvX).1 _ _ _ hE).2), A3i zV hml hE, by omega, by omega⟩)
      ·(show ks.length - (i + 1) < ks.length - i; omega)
   ·refine J5 ?_
    (obtain rfl : i = ks.length := zV; have hk14 : k ≠ 14 := hv2; rw [List.take_length] at hml hl2; refine A4U (cs := ess.flatten) zM (fun G3 hle3 hsl3 hno3 => ?_); have hst3 := hstt.mono hle3; have hslU : C8 G3 pm ks.length cm 2 ess := C8.of hsl3 (by rw [hst3.len, hlt]) hst3.all (fun e he => (hst3.each e he).2); refine E7 rfl (B2s cx k nm num (.mk tk tks) (.mk fk fks) lb ks ts G3 pc nc cc _ pm ks.length cm ess (hx.mono hle3) har hlt.symm hk14 hta (hr0.mono hle3) hslU hst3 hat) rfl rfl (fun v G4 hle4 hh => ?_); obtain ⟨pw, nw, cw, ew, w, wc, wt, rfl, hnw, hslw, hstw, hrt, hw⟩ := hh; obtain ⟨p3, c3, e3, rfl, _⟩ := hrt.open; replace hst3 := hst3.mono hle4; replace hslU := hslU.mono hle4; have hle34 := hle3.trans hle4; replace hst := hst.mono hle34; replace hty := hty.mono hle34; replace hfr := hfr.mono hle34; rcases hmw : L6 cx k nm (Ty.mk tk tks) ts with _ | ⟨w2, t2⟩; rotate_left; have hwe := hw _ hmw; simp only [Prod.mk.injEq] at hwe; obtain ⟨rfl, rfl⟩ := hwe; have hwl := B2t (by rw [hlt]; exact hop) hkr hk14 hmw; have hcl2 := A0T us ts w2 l; rcases Nat.eq_zero_or_pos ks.length with h0 | h0; rotate_left; rotate_left)
    ·refine C3 ?_
     refine sE (A4 rfl) rfl (fun b260 => ?_)
     refine A6r ?_
     (refine E0 (cs := es'.flatten) zM (fun G8 hle8 hsl8 hno8 => ?_); have hst8 := hst.mono hle8)
     refine A3 ?_
     refine A15 (outs := [.blk bx [.int .i64 _]]) (rC rfl (A1 rfl rfl)) (rC rfl (A1 rfl rfl)) (rT rfl) (D0.cons zM D0.nil) ?_
     (exact ElP.no (A5I hml (B2v hmw)) (A1j _) (N9 _ ⟨by omega, by omega⟩) zV (by rw [hck]; omega))
    ·refine C3 ?_
     refine sE (A4 rfl) rfl (fun b297 => ?_)
     refine K1 ?_
     refine I5 rfl ((A20 _ _ _ hrt)) rfl rfl (fun h310 => ?_) (fun h310 => ?_)
     ·refine I9 ?_
      refine B7 ?_
      (have h0' : ks.length = 0 := h0; refine J3 (fun (_ : Nat) => ⟨[(86, .int .i64 0), (85, .int .i64 nw), (84, .slice pw nw cw), (11, .slice pm ks.length cm), (1, .slice pc nc cc), (0, .pointer (some ⟨bx, 0, none⟩)), (5, .pointer (some ⟨b3, 0, none⟩)), (6, .pointer (some ⟨b4, 0, none⟩)), (7, .pointer (some ⟨b5, 0, none⟩)), (10, .pointer (some ⟨b58, 0, none⟩)), (18, .pointer (some ⟨b297, 0, none⟩))], [.blk b297 [.int .i64 t2.k, .slice p3 t2.ks.length c3], .blk b58 [.int .i64 k, .string nm, .int .i64 num, .int .i64 tk, .slice pt tks.length ct, .int .i64 fk, .slice pf fks.length cf, .int .i64 lb, .slice pn ks.length cn], .slc pn cn 28 9 ks.length es'.flatten, .blk b5 [.int .i64 0, .slice none 0 0], .blk b4 [.int .i64 0, .string ⟨⟨[]⟩⟩, .int .i64 0, .int .i64 0, .slice none 0 0, .int .i64 0, .slice none 0 0, .int .i64 0, .slice none 0 0], .blk b3 [.int .i64 k, .string nm, .int .i64 num, .int .i64 tk, .slice pt tks.length ct, .int .i64 fk, .slice pf fks.length cf, .int .i64 lb, .slice q ks.length cq], .blk bx [.int .i64 l]], G4⟩) (fun _ => True) (fun i => i) 0 ?_ ?_ ?_)
      ·exact E3
      ·trivial
      ·(rintro (i0 : Nat) _)
       refine A3 ?_
       refine sP (A0j rfl rfl zV) rfl rfl ?_
       refine J5 ?_
       refine sP (E1 rfl rfl zV) rfl rfl ?_
       refine A7 ?_
       refine D3 D4 rfl ?_
       refine K3 (i := 0) (l' := [tt,ff,ff,ff,ff]) rfl C1 (A1 rfl rfl) rfl zT rfl rfl ?_
       refine aL 1 rfl (A1 rfl rfl) rfl ?_
       refine A0 2 ?_
       refine oS rfl rfl rfl rfl rfl rfl rfl rfl ?_
       refine A0 3 ?_
       refine oS rfl rfl rfl rfl rfl rfl rfl rfl ?_
       refine aP 4 rfl (qA rfl) rfl ?_
       refine A3 ?_
       (refine E0 (cs := es'.flatten) zM (fun G8 hle8 hsl8 hno8 => ?_); have hst8 := hst.mono hle8)
       refine tT ?_
       refine A15 (outs := [.blk bx [.int .i64 _]]) (rC rfl (A1 rfl rfl)) (rC rfl (A1 rfl rfl)) (rT rfl) (D0.cons zM D0.nil) ?_
       (obtain rfl : w2 = [] := List.length_eq_zero_iff.1 zV; have hne : k ≠ 13 := (fun h => by have := hop.2.2 (.inr (.inr (.inr h))); omega); have hel := A8C (num := num) (fr := .mk fk fks) (lb := lb) hml (A3c hmw (b := true) zS) hne; rw [A0e] at hel; exact ElP.yes hel (D1.put hk hnum hlb (hty.mono hle8) (hfr.mono hle8) (by rw [hlu]) (C8.of hsl8 (by rw [hst8.len, hlu]) hst8.all (fun e he => (hst8.each e he).2)) hst8) (hrt.mono hle8) zV (by rw [hck]; omega))
     ·refine J5 ?_
      (refine E0 (cs := es'.flatten) zM (fun G8 hle8 hsl8 hno8 => ?_); have hst8 := hst.mono hle8)
      refine A3 ?_
      refine A15 (outs := [.blk bx [.int .i64 _]]) (rC rfl (A1 rfl rfl)) (rC rfl (A1 rfl rfl)) (rT rfl) (D0.cons zM D0.nil) ?_
      (exact ElP.no (A5I hml (A3c hmw (b := false) zS)) (A1j _) (N9 _ ⟨by omega, by omega⟩) zV (by rw [hck]; omega))
    ·(refine A1e (cs := es'.flatten) zM h0 (fun bc C hpe hnc hcm => ?_); subst hpe; refine sQ (qM rfl) rfl ?_)
     refine B2 ?_
     refine sE (A4 rfl) rfl (fun b392 => ?_)
     refine K1 ?_
     refine I5 rfl ((A20 _ _ _ hrt)) rfl rfl (fun h405 => ?_) (fun h405 => ?_)
     ·refine I9 ?_
      refine B7 ?_
      (have h0' := h0; refine J3 (fun (x : Nat × List (List Value) × IM) => ⟨[(86, .int .i64 x.1), (85, .int .i64 nw), (84, .slice pw nw cw), (11, .slice pm ks.length cm), (1, .slice pc nc cc), (0, .pointer (some ⟨bx, 0, none⟩)), (5, .pointer (some ⟨b3, 0, none⟩)), (6, .pointer (some ⟨b4, 0, none⟩)), (7, .pointer (some ⟨b5, 0, none⟩)), (10, .pointer (some ⟨b58, 0, none⟩)), (18, .pointer (some ⟨b392, 0, none⟩))], [.blk b392 [.int .i64 t2.k, .slice p3 t2.ks.length c3], .blk b58 [.int .i64 k, .string nm, .int .i64 num, .int .i64 tk, .slice pt tks.length ct, .int .i64 fk, .slice pf fks.length cf, .int .i64 lb, .slice (some ⟨bc, 0, none⟩) ks.length cn], .blk bc (x.2.1.flatten ++ C), .blk b5 [.int .i64 0, .slice none 0 0], .blk b4 [.int .i64 0, .string ⟨⟨[]⟩⟩, .int .i64 0, .int .i64 0, .slice none 0 0, .int .i64 0, .slice none 0 0, .int .i64 0, .slice none 0 0], .blk b3 [.int .i64 k, .string nm, .int .i64 num, .int .i64 tk, .slice pt tks.length ct, .int .i64 fk, .slice pf fks.length cf, .int .i64 lb, .slice q ks.length cq], .blk bx [.int .i64 (H7 us ts (w2.take x.1) l).2]], x.2.2⟩) (fun x => x.1 ≤ nw ∧ D2 G4 x.2.2 ∧ H4 x.2.2 (H7 us ts (w2.take x.1) l).1 x.2.1) (fun x => nw - x.1) (0, es', G4) ?_ ?_ ?_)
      ·(simp only [List.take_zero, A0e]; exact (T4 zL zI))
      ·(exact ⟨Nat.zero_le _, D2.refl _, by simp only [List.take_zero, A0e]; exact hst⟩)
      ·(rintro ⟨j, es2, G6⟩ ⟨hj, hle6, hst2⟩; simp only [] at hj hle6 hst2 ⊢; replace hslw := hslw.mono hle6; replace hstw := hstw.mono hle6; replace hslU := hslU.mono hle6; replace hst3 := hst3.mono hle6; replace hty := hty.mono hle6; replace hfr := hfr.mono hle6; replace hrt := hrt.mono hle6; have hall2 := hst2.all; have hle2s := hst2.len; rw [A1l] at hle2s)
       refine A3 ?_
       refine sB (I3 rfl rfl) rfl rfl (fun h428 => ?_) (fun h428 => ?_)
       ·refine A8 ?_
        refine B7 ?_
        refine B2 ?_
        (have hjw : j < w2.length := zV; obtain ⟨b5w, o5w, q5, d5, hp5, hat, hrw, hgb⟩ := hslw.kidTy hstw (i := j) zV zV; cases hp5; refine sP (A6 rfl rfl rfl zV) rfl rfl ?_)
        refine sL (A2 rfl rfl (hat _) rfl) rfl rfl ?_
        refine sE (A4 rfl) rfl (fun b442 => ?_)
        refine C3 ?_
        (have hjw2 := hjw; obtain ⟨b0, o0, q0, d0, hp0, hat0, hre0, hg0⟩ := hslU.kidTy hst3 (i := j) zV zV; cases hp0; obtain ⟨m1, m2, _⟩ := A3j us ts w2 l j hjw zV zV; obtain ⟨m3, m4⟩ := A8r (us := us) (h := ts) (w := w2) (l := l) hjw zV zV; obtain ⟨hE1, hE2⟩ := hst2.at2 (i := j) zV zV; rw [m2] at hE2; have hE3 := hE2.len; have hE4 := hE2.one; have hcj := A0T us ts (w2.take j) l; refine D3 D4 rfl ?_)
        refine E9 (i := 0) (l' := [tt,ff,ff,ff,ff,ff,ff,ff,ff,ff,ff,ff,ff,ff,ff,ff,ff]) rfl C1 (B0 rfl) rfl zT rfl rfl ?_
        refine aL 1 rfl (B3 rfl rfl) rfl ?_
        refine aP 2 rfl (qM rfl) rfl ?_
        refine aP 3 rfl (qM rfl) rfl ?_
        refine aP 4 rfl (B0 rfl) rfl ?_
        refine aL 5 rfl (B3 rfl rfl) rfl ?_
        refine aP 6 rfl (qM rfl) rfl ?_
        refine aP 7 rfl (A6 (j := j) rfl rfl rfl zV) rfl ?_
        refine aL 8 rfl (A2 rfl rfl (A3W (es := es2) zO zV hall2) hE3) rfl ?_
        refine aP 9 rfl (qM rfl) rfl ?_
        refine aP 10 rfl (qM rfl) rfl ?_
        refine aP 11 rfl (A6 (j := j) rfl rfl rfl zV) rfl ?_
        refine aL 12 rfl (A2 rfl rfl (hat0 _) rfl) rfl ?_
        refine aL 13 rfl (A1 rfl rfl) rfl ?_
        refine A0 14 ?_
        (refine B14 (l' := [tt,tt,tt,tt,tt,tt,tt,tt,tt,tt,tt,tt,tt,tt,tt,ff,ff]) rfl rfl (B26 bx us[j] ts[j] w2[j] (H7 us ts (w2.take j) l).2 G6 _ _ _ zV hE2 hre0 hrw) (Pk.perm zM) rfl rfl rfl zC (fun v G7 outs hle7 hh => ?_); obtain ⟨uc, rfl, rfl, hru⟩ := hh; rw [← m4]; have hlu9 := hru.len; have hou9 := hru.one)
        refine aP 15 rfl (A6 (j := j) rfl rfl rfl zV) rfl ?_
        refine A0 16 ?_
        refine S2 rfl rfl rfl rfl hlu9 hou9 rfl rfl zT zN (by exact A1f zV hall2 hlu9) ?_
        refine C3 ?_
        refine sP (H9 rfl rfl zV zV) rfl rfl ?_
        refine A3 ?_
        refine I6 (j + 1, es2.set j uc, G7) ?_ ?_ ?_
        ·(simp only [List.take_zero, A0e]; exact (T4 zL zI))
        ·(dsimp only; exact ⟨by omega, hle6.trans hle7, by rw [m3]; exact H4.set (hst2.mono hle7) hru⟩)
        ·(show nw - (j + 1) < nw - j; omega)
       ·refine J5 ?_
        refine sB (qE rfl rfl) rfl rfl (fun h492 => ?_) (fun h492 => ?_)
        ·refine C3 ?_
         (have hq13 : k = 13 := zV; have hl13 := hop.2.2 (.inr (.inr (.inr hq13))); have hjw : j = w2.length := zV; rw [hjw, List.take_length] at hst2; have hm0 := A1l us ts w2 l; obtain ⟨hE1, hE2⟩ := hst2.at2 (i := 0) zV zV; have hE3 := hE2.len; have hE4 := hE2.one; refine D3 D4 rfl ?_)
         refine E9 (i := 0) (l' := [tt,ff,ff,ff,ff,ff,ff,ff]) rfl C1 (B0 rfl) rfl zT rfl rfl ?_
         refine aL 1 rfl (B3 rfl rfl) rfl ?_
         refine aP 2 rfl (A6 (j := 0) rfl rfl rfl zV) rfl ?_
         refine aL 3 rfl (A2 rfl rfl (A3W (es := es2) zO zV hall2) hE3) rfl ?_
         refine aL 4 rfl (A1 rfl rfl) rfl ?_
         refine A0 5 ?_
         refine oS rfl rfl rfl rfl hE3 hE4 rfl rfl ?_ (hu := by exact D7 hE3.symm)
         refine A0 6 ?_
         refine oS rfl rfl rfl rfl rfl rfl rfl rfl ?_
         refine aP 7 rfl (qA rfl) rfl ?_
         refine A3 ?_
         (refine Z8 (bs := [(bc, es2.flatten ++ C)]) (Pk.perm zM) (fun hn9 hd9 hle9 => ?_))
         refine A3 ?_
         refine A15 (outs := [.blk bx [.int .i64 _]]) (rC rfl (A2 rfl rfl (C9 zO) hE3)) (rC rfl (A1 rfl rfl)) (rT rfl) (D0.cons zM D0.nil) ?_
         (have hel := B28 (num := num) (fr := .mk fk fks) (lb := lb) hml (A3c hmw (b := true) zS) hq13; rw [A8D zV] at hel; rw [hjw, List.take_length]; exact ElP.yes hel (hE2.mono hle9) (hrt.mono hle9) zV (by rw [hck]; omega))
        ·refine A7 ?_
         refine D3 D4 rfl ?_
         refine K3 (i := 0) (l' := [tt,ff,ff,ff,ff]) rfl C1 (A1 rfl rfl) rfl zT rfl rfl ?_
         refine aL 1 rfl (A1 rfl rfl) rfl ?_
         refine A0 2 ?_
         refine oS rfl rfl rfl rfl rfl rfl rfl rfl ?_
         refine A0 3 ?_
         refine oS rfl rfl rfl rfl rfl rfl rfl rfl ?_
         refine aP 4 rfl (qA rfl) rfl ?_
         refine A3 ?_
         (refine Z8 (bs := [(bc, es2.flatten ++ C)]) (Pk.perm zM) (fun hn9 hd9 hle9 => ?_))
         refine tT ?_
         refine A15 (outs := [.blk bx [.int .i64 _]]) (rC rfl (A1 rfl rfl)) (rC rfl (A1 rfl rfl)) (rT rfl) (D0.cons zM D0.nil) ?_
         (have hjw : j = w2.length := zV; rw [hjw, List.take_length] at hst2; have hst9 := hst2.mono hle9; have hel := A8C (num := num) (fr := .mk fk fks) (lb := lb) hml (A3c hmw (b := true) zS) (show k ≠ 13 by omega); rw [hjw, List.take_length]; have hm0 := A1l us ts w2 l; exact ElP.yes hel (D1.put hk hnum hlb (hty.mono hle9) (hfr.mono hle9) (by rw [hm0, hlu]) (C8.of (Sl.of_blk (A := []) (by rw [V8 hst9.all, hst9.len, hm0, hlu]) zV hcm (Wi.in hn9 List.mem_cons_self)) (by rw [hst9.len, hm0, hlu]) hst9.all (fun e he => (hst9.each e he).2)) hst9) (hrt.mono hle9) zV (by rw [hck]; omega))
     ·refine K0 ?_
      refine A15 (outs := [.blk bx [.int .i64 _]]) (rC rfl (A1 rfl rfl)) (rC rfl (A1 rfl rfl)) (rT rfl) (D0.cons zM D0.nil) ?_
      (exact ElP.no (A5I hml (A3c hmw (b := false) zS)) (A1j _) (N9 _ ⟨by omega, by omega⟩) zV (by rw [hck]; omega))
def A0E (r : Option (Tm × Ty)) : IM → Value → List A5 → Prop := K9 fun G' v => ∃ cu ct, v = .tuple ⟨[.agg ⟨cu⟩, .agg ⟨ct⟩, .bool r.isSome]⟩ ∧ D1 G' (r.getD (P2, C6)).1 cu ∧ C7 G' (r.getD (P2, C6)).2 ct
theorem A0E.no {G : IM} {r : Option (Tm × Ty)} {cu ct : List Value} (h : r = none) (hu : D1 G P2 cu) (ht : C7 G C6 ct) : A0E r G (.tuple ⟨[.agg ⟨cu⟩, .agg ⟨ct⟩, .bool false]⟩) [] := by subst h; exact ⟨rfl, cu, ct, rfl, hu, ht⟩
theorem A0E.yes {G : IM} {r : Option (Tm × Ty)} {u : Tm} {t : Ty} {cu ct : List Value} (h : r = some (u, t)) (hu : D1 G u cu) (ht : C7 G t ct) : A0E r G (.tuple ⟨[.agg ⟨cu⟩, .agg ⟨ct⟩, .bool true]⟩) [] := by subst h; exact ⟨rfl, cu, ct, rfl, hu, ht⟩
theorem A8E {e : Tm} (h : V7 e = false) : S4 e = none := by unfold S4; rw [if_neg (by rw [h]; decide)]
theorem A8F {e : Tm} (h : V7 e = true) (h2 : N0 [] e 0 = none) : S4 e = none := by unfold S4; rw [if_pos h, h2]
theorem A8G {e u : Tm} {t : Ty} {l : Int} (h : V7 e = true) (h2 : N0 [] e 0 = some (u, t, l)) : S4 e = some (u, t) := by unfold S4; rw [if_pos h, h2]
theorem B3a (e : Tm) (G : IM) (cells : List Value) (hr : D1 G e cells) : Fn Tryz.prog 44 [.agg ⟨cells⟩] [] G (A0E (S4 e)) := by
 have hRl := hr.len
 have hRo := hr.one
 have hV := B1D e G cells hr
 have hno := @A8E e
 have hnn := @A8F e
 have hso := @A8G e
 refine D5 Tryz.func44 rfl Tryz.ntmps44 Tryz.results44 rfl ?_
 intro w0
 refine A3 ?_
 refine sE (D8 rfl rfl) rfl (fun b3 => ?_)
 refine sE (A4 rfl) rfl (fun b4 => ?_)
 refine sE (A4 rfl) rfl (fun b5 => ?_)
 refine A7 ?_
 refine sL (A2 rfl rfl (C9 zO) hRl) rfl rfl ?_
 refine I5 rfl (hV) rfl rfl (fun h13 => ?_) (fun h13 => ?_)
 refine C2 ?_
 refine sE (D8 rfl rfl) rfl (fun b23 => ?_)
 refine sL (A2 rfl rfl (C9 zO) hRl) rfl rfl ?_
 focus (have htv : V7 e = true := zS; obtain ⟨hsh, hcn⟩ := (A2p e).1 htv; refine A7N rfl (B29 _ e 1 [] 0 G none 0 0 _ hsh zV A3f (O9.nil G) hr zV zV) (Pk.perm zM) rfl rfl (fun v G1 outs hle1 hh => ?_); obtain ⟨u, uc, t, tc, l3, rfl, rfl, hru, hrt, hl3, hl4, hu⟩ := hh; have hul := hru.len; have huo := hru.one; obtain ⟨p3, c3, e3, rfl, _⟩ := hrt.open; have hnn := hnn htv; have hso := @hso u t l3 htv; rcases hE : N0 [] e 0 with _ | ⟨u2, t2, l2⟩; rotate_left; have hue := hu _ hE; simp only [Prod.mk.injEq] at hue; obtain ⟨rfl, rfl, rfl⟩ := hue; have hso := hso hE; obtain ⟨hg1, hg2, hg3⟩ := A5G hso; rotate_left; simp only [Option.isSome]; rotate_left; simp only [Option.isSome])
 refine C3 ?_
 refine sE (A4 rfl) rfl (fun b30 => ?_)
 refine sE (A4 rfl) rfl (fun b31 => ?_)
 refine sS rfl rfl rfl hul huo rfl ?_ (hu := by exact D7 hul.symm)
 refine I9 ?_
 refine D3 D4 rfl ?_
 refine K3 (i := 0) (l' := [tt,ff,ff,ff,ff,ff,ff]) rfl C1 (A2 rfl rfl (C9 zO) hul) rfl zT rfl rfl ?_
 refine aL 2 rfl (A1 rfl rfl) rfl ?_
 refine A0 1 ?_
 (refine D6 rfl rfl (B1Y _ _ _ (B2R hg1) hru) rfl rfl rfl (fun v G2 hle2 hh => ?_); obtain ⟨cs2, F2, rfl, hs2, hn2⟩ := hh; have hwl := hs2.R.len; have hwo := hs2.R.one; have hr2 := hs2.R.mono (E2.le G2 G1); replace hrt := hrt.mono hle2)
 refine A0 3 ?_
 (refine D6 rfl rfl (A2o _ _ _ (A16 hg3).small hrt) rfl rfl rfl (fun v G3 hle3 hh => ?_); obtain ⟨cs3, F3, rfl, hs3, hn3⟩ := hh; obtain ⟨p4, c4, rfl, _⟩ := hs3.open; have hr3 := hs3.R.mono (E2.le G3 G2); replace hr2 := hr2.mono hle3)
 refine A0 4 ?_
 refine oS rfl rfl rfl rfl hwl hwo rfl rfl ?_ (hu := by exact D7 hwl.symm)
 refine A0 5 ?_
 refine oS rfl rfl rfl rfl rfl rfl rfl rfl ?_
 refine aP 6 rfl (qA rfl) rfl ?_
 refine B2 ?_
 refine E4 (rC rfl (A2 rfl rfl (C9 zO) hwl)) (rC rfl (A1 rfl rfl)) (rT rfl) ?_
 (exact A0E.yes hso hr2 hr3)
 refine C3 ?_
 refine sE (A4 rfl) rfl (fun b69 => ?_)
 refine sE (A4 rfl) rfl (fun b70 => ?_)
 refine sS rfl rfl rfl hul huo rfl ?_ (hu := by exact D7 hul.symm)
 refine A07 ?_
 refine E4 (rC rfl (A1 rfl rfl)) (rC rfl (A1 rfl rfl)) (rT rfl) ?_
 (exact A0E.no (hnn hE) (A1j _) (N9 _ ⟨by omega, by omega⟩))
 refine I9 ?_
 refine E4 (rC rfl (A1 rfl rfl)) (rC rfl (A1 rfl rfl)) (rT rfl) ?_
 (exact A0E.no (hno zS) (A1j _) (N9 _ ⟨by omega, by omega⟩))
def A0F (e : Tm) : Option Ty := match S4 e with | some (_, t) => some t | none => none
theorem B3b {e : Tm} (h : V7 e = false) : A0F e = none := by unfold A0F; rw [A8E h]
section
variable {ak bk : Int} {aks bks : List Ty}
theorem B3c (h : ak ≠ bk) : M5 (.mk ak aks) (.mk bk bks) = false := by rw [A1V, decide_eq_false h]; rfl
theorem B3d (h : aks.length ≠ bks.length) : M5 (.mk ak aks) (.mk bk bks) = false := by
 rw [A1V]
 cases hl : X0 aks bks with
 | false => simp
 | true => exact absurd ((A24 _ _).1 hl).1 h
theorem B3e {i : Nat} (hi : i < aks.length) (hi' : i < bks.length) (h : M5 aks[i] bks[i] = false) : M5 (.mk ak aks) (.mk bk bks) = false := by
 rw [A1V]
 cases hl : X0 aks bks with
 | false => simp
 | true => have := ((A24 _ _).1 hl).2 i hi hi'; rw [h] at this; cases this
theorem B3f (hk : ak = bk) (hl : aks.length = bks.length) (h : ∀ i, (h : i < aks.length) → (h' : i < bks.length) → M5 aks[i] bks[i] = true) : M5 (.mk ak aks) (.mk bk bks) = true := by
 rw [A1V, decide_eq_true hk, (A24 _ _).2 ⟨hl, h⟩]; rfl
end
theorem B3g : ∀ (a b : Ty) (G : IM) (ca cb : List Value), C7 G a ca → C7 G b cb → Fn Tryz.prog 60 [.agg ⟨ca⟩, .agg ⟨cb⟩] [] G (F8 (.bool (M5 a b)) G) := by
 refine Ty.ind fun ak aks ih b G ca cb hra hrb => ?_
 obtain ⟨bk, bks⟩ := b
 obtain ⟨pa, cca, ea, rfl, hak, hsla, hkla⟩ := hra.open
 obtain ⟨pb, ccb, eb, rfl, hbk, hslb, hklb⟩ := hrb.open
 simp only [Ty.k, Ty.ks] at hak hsla hkla hbk hslb hklb ⊢
 have hna := hsla.le
 have hnb := hslb.le
 have e1 := @B3c ak bk aks bks
 have e2 := @B3d ak bk aks bks
 have e3 := fun i => @B3e ak bk aks bks i
 have e4 := @B3f ak bk aks bks
 generalize M5 (.mk ak aks) (.mk bk bks) = R at e1 e2 e3 e4 ⊢
 refine D5 Tryz.func60 rfl Tryz.ntmps60 Tryz.results60 rfl ?_
 intro w0
 refine A3 ?_
 refine sE (D8 rfl rfl) rfl (fun b3 => ?_)
 refine sE (D8 rfl rfl) rfl (fun b4 => ?_)
 refine H3 ?_
 refine sB (O6 rfl rfl) rfl rfl (fun h15 => ?_) (fun h15 => ?_)
 refine Z0 ?_
 (exact ⟨rfl, by rw [e1 zV], rfl⟩)
 refine A8 ?_
 refine sB (O6 rfl rfl) rfl rfl (fun h44 => ?_) (fun h44 => ?_)
 refine K1 ?_
 (exact ⟨rfl, by rw [e2 zV], rfl⟩)
 refine K1 ?_
 refine B7 ?_
 (refine J3 (fun (i : Nat) => ⟨[(5, .int .i64 i), (2, .pointer (some ⟨b3, 0, none⟩)), (3, .pointer (some ⟨b4, 0, none⟩))], [.blk b4 [.int .i64 bk, .slice pb bks.length ccb], .blk b3 [.int .i64 ak, .slice pa aks.length cca]], G⟩) (fun i => i ≤ aks.length ∧ ∀ j, (h : j < aks.length) → (h' : j < bks.length) → j < i → M5 aks[j] bks[j] = true) (fun i => aks.length - i) 0 ?_ ?_ ?_)
 exact E3
 (exact ⟨Nat.zero_le _, fun j _ _ hj => absurd hj (Nat.not_lt_zero j)⟩)
 (rintro i ⟨hi, hall⟩)
 refine A8 ?_
 refine sB (I3 rfl rfl) rfl rfl (fun h82 => ?_) (fun h82 => ?_)
 refine A7 ?_
 refine B7 ?_
 refine tS ?_
 (obtain ⟨b, o, q0, d0, hp0, hat0, hre0, hg0⟩ := hsla.kidTy hkla (i := i) zV zV; obtain ⟨b', o', q1, d1, hp1, hat1, hre1, hg1⟩ := hslb.kidTy hklb (i := i) zV zV; subst hp0; subst hp1; have hih := ih aks[i] (List.getElem_mem zV) bks[i] G _ _ hre0 hre1; refine D3 D4 rfl ?_)
 refine E9 (i := 0) (l' := [tt,ff,ff,ff,ff,ff,ff,ff,ff,ff,ff,ff]) rfl C1 (B0 rfl) rfl zT rfl rfl ?_
 refine aL 1 rfl (B3 rfl rfl) rfl ?_
 refine aP 2 rfl (qM rfl) rfl ?_
 refine aP 3 rfl (A6 rfl rfl rfl zV) rfl ?_
 refine aL 4 rfl (A2 rfl rfl (hat0 _) rfl) rfl ?_
 refine aP 5 rfl (B0 rfl) rfl ?_
 refine aL 6 rfl (B3 rfl rfl) rfl ?_
 refine aP 7 rfl (qM rfl) rfl ?_
 refine aP 8 rfl (A6 rfl rfl rfl zV) rfl ?_
 refine aL 9 rfl (A2 rfl rfl (hat1 _) rfl) rfl ?_
 refine A0 10 ?_
 refine Q3 rfl rfl (hih) rfl rfl rfl (fun h103 => ?_) (fun h103 => ?_)
 refine aP 11 rfl (Z6 rfl) rfl ?_
 refine B4 ?_
 refine sP (H9 rfl rfl zV zV) rfl rfl ?_
 refine A3 ?_
 refine I6 (i + 1) ?_ ?_ ?_
 exact E3
 (exact ⟨by omega, fun j h h' hj => by by_cases hji : j = i; (subst hji; assumption); exact hall j h h' zV⟩)
 omega
 refine aP 11 rfl (pNf rfl) rfl ?_
 refine I9 ?_
 (exact ⟨rfl, by rw [e3 i zV zV zS], rfl⟩)
 refine I9 ?_
 (exact ⟨rfl, by rw [e4 zV zV (fun j h h' => hall j h h' zV)], rfl⟩)
theorem A8H (G : IM) (cx : Cx) (p : Option Addr) (n c : Nat) (nm : ByteArray) (t : Ty) (cells : List Value) (hx : O9 G cx p n c) (hn : n ≤ 1000) (hr : C7 G t cells) :
  Fn Tryz.prog 132 [.slice p n c, .string nm, .agg ⟨cells⟩] [] G (K9 fun G' v => ∃ p' c', v = .slice p' (n + 1) c' ∧ O9 G' (cx ++ [(nm, t)]) p' (n + 1) c') := by
 obtain ⟨k, ks⟩ := t
 obtain ⟨q, d, es0, rfl, _⟩ := hr.open
 simp only [Ty.k, Ty.ks] at hr ⊢
 obtain ⟨hx1, es, h2, h3⟩ := id hx
 have hSl : Sl G p n c 3 es.flatten := h2.1
 have h1c : ∀ u ∈ es.flatten, u.oneCell' = true := by
  intro u hu
  obtain ⟨e, he, hue⟩ := List.mem_flatten.1 hu
  exact List.all_eq_true.1 (h2.one e he) u hue
 refine D5 Tryz.func132 rfl Tryz.ntmps132 Tryz.results132 rfl ?_
 intro w0
 refine A3 ?_
 refine sE (D8 rfl rfl) rfl (fun b3 => ?_)
 refine C3 ?_
 refine D3 D4 rfl ?_
 refine E9 (i := 1) (l' := [ff,tt,ff,ff,ff,ff,ff,ff,ff]) rfl C1 (qM rfl) rfl zT rfl rfl ?_
 refine aP 3 rfl (qM rfl) rfl ?_
 refine aL 4 rfl (A1 rfl rfl) rfl ?_
 refine aP 5 rfl (K8 rfl rfl) rfl ?_
 refine J8 (j := 0) (j' := 6) zT ?_ ?_
 (refine B6 rfl (C0 rfl rfl rfl zV zQ rfl) rfl rfl ?_; rintro _ ⟨b14, rfl⟩)
 refine J8 (j := 2) (j' := 6) zT ?_ ?_
 (refine A1d rfl rfl rfl rfl rfl rfl (fun _ _ => by repeat (first | exact Sw.here | apply Sw.there)) hSl h1c (Nat.zero_le _) zQ zV rfl rfl zH (fun p4 c4 => ?_); simp only [Nat.zero_add, List.nil_append])
 refine A0 6 ?_
 (refine B6 rfl (C0 rfl rfl rfl zV zQ rfl) rfl rfl ?_; rintro _ ⟨b18, rfl⟩)
 refine A0 7 ?_
 (refine P5 rfl rfl rfl rfl rfl rfl (fun _ _ => by repeat (first | exact Sw.here | apply Sw.there)) (O1 zO) rfl zP zQ zV rfl rfl zH (fun p5 c5 => ?_))
 refine aP 8 rfl (qA rfl) rfl ?_
 refine A3 ?_
 (refine E0 (cs := es.flatten ++ [.string nm, .int .i64 k, .slice q ks.length d]) zM (fun G5 hle5 hsl5 hno5 => ?_))
 refine A3 ?_
 (exact ⟨rfl, _, _, rfl, O9.snoc (nm := nm) (t := .mk k ks) hx1 h2.len h2.all h2.one h3 hle5 ⟨_, _, rfl, hr.mono hle5⟩ hsl5⟩)
 (refine B6 rfl (C0 rfl rfl rfl zV zQ rfl) rfl rfl ?_; rintro _ ⟨b28, rfl⟩)
 refine A0 2 ?_
 (refine A1d rfl rfl rfl rfl rfl rfl (fun _ _ => by repeat (first | exact Sw.here | apply Sw.there)) hSl h1c (Nat.zero_le _) zQ zV rfl rfl zH (fun p4 c4 => ?_); simp only [Nat.zero_add, List.nil_append])
 refine A0 7 ?_
 (refine P5 rfl rfl rfl rfl rfl rfl (fun _ _ => by repeat (first | exact Sw.here | apply Sw.there)) (O1 zO) rfl zP zQ zV rfl rfl zH (fun p5 c5 => ?_))
 refine aP 8 rfl (qA rfl) rfl ?_
 refine A3 ?_
 (refine E0 (cs := es.flatten ++ [.string nm, .int .i64 k, .slice q ks.length d]) zM (fun G5 hle5 hsl5 hno5 => ?_))
 refine A3 ?_
 (exact ⟨rfl, _, _, rfl, O9.snoc (nm := nm) (t := .mk k ks) hx1 h2.len h2.all h2.one h3 hle5 ⟨_, _, rfl, hr.mono hle5⟩ hsl5⟩)
 (refine B6 rfl (C0 rfl rfl rfl zV zQ rfl) rfl rfl ?_; rintro _ ⟨b40, rfl⟩)
 refine A0 0 ?_
 (refine B6 rfl (C0 rfl rfl rfl zV zQ rfl) rfl rfl ?_; rintro _ ⟨b42, rfl⟩)
 refine A0 2 ?_
 (refine A1d rfl rfl rfl rfl rfl rfl (fun _ _ => by repeat (first | exact Sw.here | apply Sw.there)) hSl h1c (Nat.zero_le _) zQ zV rfl rfl zH (fun p4 c4 => ?_); simp only [Nat.zero_add, List.nil_append])
 refine A0 7 ?_
 (refine P5 rfl rfl rfl rfl rfl rfl (fun _ _ => by repeat (first | exact Sw.here | apply Sw.there)) (O1 zO) rfl zP zQ zV rfl rfl zH (fun p5 c5 => ?_))
 refine aP 8 rfl (qA rfl) rfl ?_
 refine A3 ?_
 (refine E0 (cs := es.flatten ++ [.string nm, .int .i64 k, .slice q ks.length d]) zM (fun G5 hle5 hsl5 hno5 => ?_))
 refine A3 ?_
 (exact ⟨rfl, _, _, rfl, O9.snoc (nm := nm) (t := .mk k ks) hx1 h2.len h2.all h2.one h3 hle5 ⟨_, _, rfl, hr.mono hle5⟩ hsl5⟩)
theorem A8I {cx : Cx} : ∀ {ks : List Tm} {i : Nat} {us : List Ty} {u : Ty} (hi : i < ks.length), S5 cx (ks.take i) = some us → O0 cx ks[i] = some u → S5 cx (ks.take (i + 1)) = some (us ++ [u])
 | [], i, us, u, hi, _, _ => by simp at hi
 | t :: ts, 0, us, u, _, h1, h2 => by
  simp only [List.take_zero, S5, Option.some.injEq] at h1
  subst h1
  simp only [List.getElem_cons_zero] at h2
  simp [S5, h2]
 | t :: ts, i + 1, us, u, hi, h1, h2 => by
  simp only [List.take_succ_cons, S5] at h1 ⊢
  split at h1
  ·cases h1
  ·rename_i a ha
   split at h1
   ·cases h1
   ·rename_i bs has
    simp only [Option.some.injEq] at h1
    subst h1
    simp only [List.getElem_cons_succ] at h2
    have := A8I (ks := ts) (i := i) (by simpa using hi) has h2
    simp only [this, List.cons_append]
theorem A8J {cx : Cx} : ∀ {ks : List Tm} {i : Nat} (hi : i < ks.length), O0 cx ks[i] = none → S5 cx ks = none
 | [], i, hi, _ => by simp at hi
 | t :: ts, 0, _, h => by simp only [List.getElem_cons_zero] at h; rw [S5, h]
 | t :: ts, i + 1, hi, h => by
  simp only [List.getElem_cons_succ] at h
  have := A8J (ks := ts) (i := i) (by simpa using hi) h
  rw [S5, this]
  cases O0 cx t <;> rfl
section
variable {cx : Cx} {k : Int} {nm : ByteArray} {num : Int} {ty fr : Ty} {lb : Int} {ks : List Tm}
theorem B3h (hk : k = 1) (h0 : ks = []) : O0 cx (.mk k nm num ty fr lb ks) = W1 cx nm := by
 subst hk h0
 rw [O0, S5]
 simp only [T8, mW1]
 cases W1 cx nm with
 | none => rfl
 | some t => simp
theorem B3i (hk : k = 2) (h0 : ks = []) : O0 cx (.mk k nm num ty fr lb ks) = some O4 := by subst hk h0; rfl
theorem B3j (hk : k = 3 ∨ k = 4) (h0 : ks = []) : O0 cx (.mk k nm num ty fr lb ks) = some T0 := by subst h0; rcases hk with rfl | rfl <;> rfl
theorem B3k {b : Tm} (hk : k = 5) (h : O0 (cx ++ [(nm, ty)]) b = none) : O0 cx (.mk k nm num ty fr lb [b]) = none := by
 subst hk; rw [O0, M6, if_pos rfl, S5, h]
theorem B3l {b : Tm} {t : Ty} (hk : k = 5) (h : O0 (cx ++ [(nm, ty)]) b = some t) : O0 cx (.mk k nm num ty fr lb [b]) = if H0 (.mk 4 [ty, t]) = true then some (.mk 4 [ty, t]) else none := by
 subst hk
 rw [O0, M6, if_pos rfl, S5, h]
 simp only [S5, T8, mW5, List.getD_cons_zero]
 cases H0 (.mk 4 [ty, t]) <;> simp
theorem B3m (hk : k ≠ 5) (h : S5 cx ks = none) : O0 cx (.mk k nm num ty fr lb ks) = none := by rw [O0, M6, if_neg hk, h]
theorem B3n {ts : List Ty} (hk : k ≠ 5) (h : S5 cx ks = some ts) : O0 cx (.mk k nm num ty fr lb ks) = T8 cx k nm ty ts := by rw [O0, M6, if_neg hk, h]
end
theorem A8K : ∀ (e : Tm) (d : Int) (cx : Cx) (G : IM) (p : Option Addr) (n c : Nat) (cells : List Value), N1 12 14 e d = true → (n : Int) ≤ d → W5 cx → O9 G cx p n c → D1 G e cells →
  Fn Tryz.prog 131 [.slice p n c, .agg ⟨cells⟩] [] G (N4 (O0 cx e) G) := by
 refine Tm.ind fun k nm num ty fr lb ks ih d cx G p n c cells hv hnd hcv hx hr => ?_
 have hr0 := hr
 have hone := hr.one
 obtain ⟨hv1, hv2, hv3, hv4⟩ := A0Q hv
 have hvk := (A0A 12 14 ks _).1 hv4
 have har := (S8.1 hv3).1
 have hop := A2r har
 obtain ⟨hta, hts⟩ := A27 hv3
 have hkr : 1 ≤ k ∧ k ≤ 14 := A37 (by rw [har]; omega)
 have hcv5 : k = 5 → W5 (cx ++ [(nm, ty)]) := fun hk => by have := A3g (k := k) (nm := nm) (ty := ty) hcv fun hk => (S8.1 hv3).2.2.2.2.2.1 (.inl hk); rwa [M6, if_pos hk] at this
 have h0 : k ≤ 4 → ks = [] := fun h => List.length_eq_zero_iff.1 (by
  have hk : k = 1 ∨ k = 2 ∨ k = 3 ∨ k = 4 := by omega
  rcases hk with rfl | rfl | rfl | rfl
  ·have : H8 1 = 0 := rfl; omega
  ·have : H8 2 = 0 := rfl; omega
  ·have : H8 3 = 0 := rfl; omega
  ·have : H8 4 = 0 := rfl; omega)
 have f1 := fun hk => @B3h cx k nm num ty fr lb ks hk (h0 zV)
 have f2 := fun hk => @B3i cx k nm num ty fr lb ks hk (h0 zV)
 have f3 := fun hk => @B3j cx k nm num ty fr lb ks hk (h0 zV)
 have f4 : ∀ (hk : k = 5) (hl : 0 < ks.length), O0 (cx ++ [(nm, ty)]) ks[0] = none → O0 cx (.mk k nm num ty fr lb ks) = none := fun hk hl h => by
  obtain ⟨b, rfl⟩ := ks1 (hop.2.2 (.inl hk)); exact B3k hk h
 have f5 : ∀ (t : Ty) (hk : k = 5) (hl : 0 < ks.length), O0 (cx ++ [(nm, ty)]) ks[0] = some t → O0 cx (.mk k nm num ty fr lb ks) = if H0 (.mk 4 [ty, t]) = true then some (.mk 4 [ty, t]) else none := fun t hk hl h => by
  obtain ⟨b, rfl⟩ := ks1 (hop.2.2 (.inl hk)); exact B3l hk h
 have f6 := @B3m cx k nm num ty fr lb ks
 have f7 := fun ts => @B3n cx k nm num ty fr lb ks ts
 generalize O0 cx (.mk k nm num ty fr lb ks) = R at f1 f2 f3 f4 f5 f6 f7 ⊢
 obtain ⟨tk, tks⟩ := ty
 obtain ⟨fk, fks⟩ := fr
 obtain ⟨pt, ct, pf, cf, q, cq, es, rfl, hk, hnum, hlb, hty, hfr, hsl, hkl⟩ := hr.open9
 have hlen : ks.length ≤ 3 := by have := A10 k; omega
 refine D5 Tryz.func131 rfl Tryz.ntmps131 Tryz.results131 rfl ?_
 intro w0
 refine A3 ?_
 refine sE (D8 rfl rfl) rfl (fun b3 => ?_)
 refine sE (A4 rfl) rfl (fun b4 => ?_)
 refine H3 ?_
 refine B7 (tS (tR (sB (qE rfl rfl) rfl rfl (fun h18 => ?_) (fun h18 => ?_))))
 refine C2 ?_
 (refine E7 rfl (B2Z G cx hcv p n c nm hx) rfl rfl (fun v G1 hle1 hh => ?_); obtain ⟨mt, mc, rfl, hmr, hma, hmu⟩ := hh; obtain ⟨p1, c1, e1, rfl, _⟩ := hmr.open)
 refine C2 ?_
 refine C5 (rC rfl (A1 rfl rfl)) (rT rfl) ?_
 (rw [f1 zV]; exact ⟨rfl, _, _, rfl, hmr, hma, hmu⟩)
 refine A7 ?_
 refine sB (qE rfl rfl) rfl rfl (fun h46 => ?_) (fun h46 => ?_)
 refine A7 ?_
 refine E5 rfl ((A0R _)) rfl rfl ?_
 refine A8 ?_
 refine C5 (rC rfl (A1 rfl rfl)) (rT rfl) ?_
 (rw [f2 zV]; exact N4.yes rfl (J2 _) (P8 zV zV))
 refine A8 ?_
 refine sB (qE rfl rfl) rfl rfl (fun h70 => ?_) (fun h70 => ?_)
 refine C2 ?_
 refine E5 rfl ((A26 _)) rfl rfl ?_
 refine A8 ?_
 refine C5 (rC rfl (A1 rfl rfl)) (rT rfl) ?_
 (rw [f3 zV]; exact N4.yes rfl (W4 _) (P8 zV zV))
 refine A9 ?_
 refine sB (qE rfl rfl) rfl rfl (fun h95 => ?_) (fun h95 => ?_)
 refine A7 ?_
 refine E5 rfl ((A26 _)) rfl rfl ?_
 refine A8 ?_
 refine C5 (rC rfl (A1 rfl rfl)) (rT rfl) ?_
 (rw [f3 zV]; exact N4.yes rfl (W4 _) (P8 zV zV))
 refine A7 ?_
 refine sB (qE rfl rfl) rfl rfl (fun h118 => ?_) (fun h118 => ?_)
 refine A9 ?_
 (have hl1 : ks.length = 1 := hop.2.2 zV; obtain ⟨b, o, e, rfl, hl, hat, hre, hgb⟩ := hsl.kidTm hkl (i := 0) zV zV; have hMore := A8H G cx p n c nm (.mk tk tks) _ hx zV hty; refine D3 D4 rfl ?_)
 refine E9 (i := 0) (l' := [tt,ff,ff,ff,ff,ff,ff,ff,ff,ff,ff,ff,ff,ff,ff,ff,ff]) rfl C1 (qM rfl) rfl zT rfl rfl ?_
 refine aP 1 rfl (B0 rfl) rfl ?_
 refine aL 2 rfl (B3 rfl rfl) rfl ?_
 refine aP 3 rfl (B0 rfl) rfl ?_
 refine aL 4 rfl (A1 rfl rfl) rfl ?_
 refine aP 6 rfl (B0 rfl) rfl ?_
 refine aL 7 rfl (B3 rfl rfl) rfl ?_
 refine aP 8 rfl (A6 (j := 0) rfl rfl rfl zV) rfl ?_
 refine aL 9 rfl (A2 rfl rfl (hat _) hl) rfl ?_
 refine J8 (j := 5) (j' := 14) zT ?_ ?_
 (refine D6 rfl rfl hMore rfl rfl rfl (fun v G1 hle1 hh => ?_); obtain ⟨pm, cm, rfl, hxm⟩ := hh; have hreM := hre.mono hle1; have hLam := ih ks[0] (List.getElem_mem zV) (d + 1) _ G1 pm (n + 1) cm _ (hvk 0 zV) zV (hcv5 zV) hxm hreM; have htyM := hty.mono hle1)
 refine J8 (j := 10) (j' := 14) zT ?_ ?_
 focus (refine D6 rfl rfl hLam rfl rfl rfl (fun v G2 hle2 hh => ?_); obtain ⟨mt, mc, rfl, hmr, hma, hmu⟩ := hh; obtain ⟨p1, c1, e1, rfl, _⟩ := hmr.open; have htyN := htyM.mono hle2; rcases hE : O0 (cx ++ [(nm, Ty.mk tk tks)]) ks[0] with _ | mt2; rotate_left; obtain rfl := hmu _ hE; rotate_left; all_goals simp only [Option.isSome])
 refine aP 11 rfl (qM rfl) rfl ?_
 refine aP 12 rfl (pX rfl rfl) rfl ?_
 refine aP 13 rfl (pX rfl rfl) rfl ?_
 refine A0 14 ?_
 (refine B6 rfl (A4 rfl) rfl rfl ?_; rintro _ ⟨b142, rfl⟩)
 refine A0 15 ?_
 refine B8 rfl ?_
 refine aP 16 rfl (qA rfl) rfl ?_
 refine Z1 ?_
 refine C5 (rC rfl (A1 rfl rfl)) (rT rfl) ?_
 (rw [f4 zV zV (by first | exact hE | assumption)]; exact N4.no rfl (N9 _ ⟨by omega, by omega⟩) (P8 zV zV))
 refine aP 11 rfl (qM rfl) rfl ?_
 refine aP 12 rfl (pX rfl rfl) rfl ?_
 refine aP 13 rfl (pX rfl rfl) rfl ?_
 refine A0 14 ?_
 (refine B6 rfl (A4 rfl) rfl rfl ?_; rintro _ ⟨b173, rfl⟩)
 refine A0 15 ?_
 refine B8 rfl ?_
 refine aP 16 rfl (qA rfl) rfl ?_
 refine R0 ?_
 (refine E7 rfl (A14 4 (.mk tk tks) _ _ _ _ (.inl rfl) hta hma htyN hmr) rfl rfl (fun v G3 hle3 hh => ?_); obtain ⟨mc2, rfl, hmr2⟩ := hh; obtain ⟨p2, c2, e2, rfl, _⟩ := hmr2.open)
 refine C2 ?_
 refine C5 (rC rfl (A1 rfl rfl)) (rT rfl) ?_
 (rw [f5 _ zV zV (by first | exact hE | assumption)]; exact N4.mk rfl hmr2 (A3T (.inl rfl) hta hma))
 (refine B6 rfl (A4 rfl) rfl rfl ?_; rintro _ ⟨b206, rfl⟩)
 refine A0 10 ?_
 focus (refine D6 rfl rfl hLam rfl rfl rfl (fun v G2 hle2 hh => ?_); obtain ⟨mt, mc, rfl, hmr, hma, hmu⟩ := hh; obtain ⟨p1, c1, e1, rfl, _⟩ := hmr.open; have htyN := htyM.mono hle2; rcases hE : O0 (cx ++ [(nm, Ty.mk tk tks)]) ks[0] with _ | mt2; rotate_left; obtain rfl := hmu _ hE; rotate_left; all_goals simp only [Option.isSome])
 refine aP 11 rfl (qM rfl) rfl ?_
 refine aP 12 rfl (pX rfl rfl) rfl ?_
 refine aP 13 rfl (pX rfl rfl) rfl ?_
 refine A0 15 ?_
 refine B8 rfl ?_
 refine aP 16 rfl (qA rfl) rfl ?_
 refine Z1 ?_
 refine C5 (rC rfl (A1 rfl rfl)) (rT rfl) ?_
 (rw [f4 zV zV (by first | exact hE | assumption)]; exact N4.no rfl (N9 _ ⟨by omega, by omega⟩) (P8 zV zV))
 refine aP 11 rfl (qM rfl) rfl ?_
 refine aP 12 rfl (pX rfl rfl) rfl ?_
 refine aP 13 rfl (pX rfl rfl) rfl ?_
 refine A0 15 ?_
 refine B8 rfl ?_
 refine aP 16 rfl (qA rfl) rfl ?_
 refine R0 ?_
 (refine E7 rfl (A14 4 (.mk tk tks) _ _ _ _ (.inl rfl) hta hma htyN hmr) rfl rfl (fun v G3 hle3 hh => ?_); obtain ⟨mc2, rfl, hmr2⟩ := hh; obtain ⟨p2, c2, e2, rfl, _⟩ := hmr2.open)
 refine C2 ?_
 refine C5 (rC rfl (A1 rfl rfl)) (rT rfl) ?_
 (rw [f5 _ zV zV (by first | exact hE | assumption)]; exact N4.mk rfl hmr2 (A3T (.inl rfl) hta hma))
 (refine B6 rfl (A4 rfl) rfl rfl ?_; rintro _ ⟨b273, rfl⟩)
 refine A0 5 ?_
 (refine D6 rfl rfl hMore rfl rfl rfl (fun v G1 hle1 hh => ?_); obtain ⟨pm, cm, rfl, hxm⟩ := hh; have hreM := hre.mono hle1; have hLam := ih ks[0] (List.getElem_mem zV) (d + 1) _ G1 pm (n + 1) cm _ (hvk 0 zV) zV (hcv5 zV) hxm hreM; have htyM := hty.mono hle1)
 refine A0 10 ?_
 focus (refine D6 rfl rfl hLam rfl rfl rfl (fun v G2 hle2 hh => ?_); obtain ⟨mt, mc, rfl, hmr, hma, hmu⟩ := hh; obtain ⟨p1, c1, e1, rfl, _⟩ := hmr.open; have htyN := htyM.mono hle2; rcases hE : O0 (cx ++ [(nm, Ty.mk tk tks)]) ks[0] with _ | mt2; rotate_left; obtain rfl := hmu _ hE; rotate_left; all_goals simp only [Option.isSome])
 refine aP 11 rfl (qM rfl) rfl ?_
 refine aP 12 rfl (pX rfl rfl) rfl ?_
 refine aP 13 rfl (pX rfl rfl) rfl ?_
 refine A0 15 ?_
 refine B8 rfl ?_
 refine aP 16 rfl (qA rfl) rfl ?_
 refine Z1 ?_
 refine C5 (rC rfl (A1 rfl rfl)) (rT rfl) ?_
 (rw [f4 zV zV (by first | exact hE | assumption)]; exact N4.no rfl (N9 _ ⟨by omega, by omega⟩) (P8 zV zV))
 refine aP 11 rfl (qM rfl) rfl ?_
 refine aP 12 rfl (pX rfl rfl) rfl ?_
 refine aP 13 rfl (pX rfl rfl) rfl ?_
 refine A0 15 ?_
 refine B8 rfl ?_
 refine aP 16 rfl (qA rfl) rfl ?_
 refine R0 ?_
 (refine E7 rfl (A14 4 (.mk tk tks) _ _ _ _ (.inl rfl) hta hma htyN hmr) rfl rfl (fun v G3 hle3 hh => ?_); obtain ⟨mc2, rfl, hmr2⟩ := hh; obtain ⟨p2, c2, e2, rfl, _⟩ := hmr2.open)
 refine C2 ?_
 refine C5 (rC rfl (A1 rfl rfl)) (rT rfl) ?_
 (rw [f5 _ zV zV (by first | exact hE | assumption)]; exact N4.mk rfl hmr2 (A3T (.inl rfl) hta hma))
 refine C2 ?_
 (refine F0 (C0 rfl rfl rfl zV zQ rfl) rfl ?_; rintro _ ⟨b351, rfl⟩)
 refine C2 ?_
 refine B7 ?_
 (refine J3 (fun (x : Nat × Option Addr × Nat × List Ty × List (List Value) × IM) => ⟨[(9, .int .i64 x.1), (8, .slice x.2.1 x.1 x.2.2.1), (3, .pointer (some ⟨b3, 0, none⟩)), (4, .pointer (some ⟨b4, 0, none⟩)), (0, .slice p n c)], [.slc x.2.1 x.2.2.1 25 2 x.1 x.2.2.2.2.1.flatten, .blk b4 [.int .i64 0, .slice none 0 0], .blk b3 [.int .i64 k, .string nm, .int .i64 num, .int .i64 tk, .slice pt tks.length ct, .int .i64 fk, .slice pf fks.length cf, .int .i64 lb, .slice q ks.length cq]], x.2.2.2.2.2⟩) (fun x => x.1 ≤ ks.length ∧ D2 G x.2.2.2.2.2 ∧ x.2.2.2.1.length = x.1 ∧ F4 x.2.2.2.2.2 x.2.2.2.1 x.2.2.2.2.1 ∧ (∀ u ∈ x.2.2.2.1, H1 u) ∧ S5 cx (ks.take x.1) = some x.2.2.2.1) (fun x => ks.length - x.1) (0, some ⟨b351, 0, none⟩, 0, [], [], G) ?_ ?_ ?_)
 (simp only [J4]; exact E3)
 (exact ⟨by simp, D2.refl _, rfl, by simp [F4], by simp, by simp [S5]⟩)
 (rintro ⟨i, pn, cn, us, es', Gi⟩ ⟨hi, hle, hlu, hst, hau, hsu⟩; simp only [] at hi hle hlu hst hau hsu ⊢; replace hsl := hsl.mono hle; replace hkl := hkl.mono hle; replace hx := hx.mono hle; replace hr0 := hr0.mono hle)
 refine A8 ?_
 refine sB (I3 rfl rfl) rfl rfl (fun h373 => ?_) (fun h373 => ?_)
 refine A7 ?_
 refine B7 ?_
 refine A7 ?_
 (obtain ⟨b, o, e, rfl, hl, hat, hre, hgb⟩ := hsl.kidTm hkl (i := i) zV zV; refine sP (A6 rfl rfl rfl zV) rfl rfl ?_)
 refine sL (A2 rfl rfl (hat _) hl) rfl rfl ?_
 focus (refine E7 rfl (ih ks[i] (List.getElem_mem zV) (d + 1) cx Gi p n c _ (hvk i zV) zV hcv hx hre) rfl rfl (fun v G2 hle2 hh => ?_); obtain ⟨u, uc, rfl, hru, hua, huu⟩ := hh; obtain ⟨p3, c3, e3, rfl, _⟩ := hru.open; rcases hE : O0 cx ks[i] with _ | u2; rotate_left; obtain rfl := huu _ hE; rotate_left; all_goals simp only [Option.isSome])
 refine B2 ?_
 refine sE (A4 rfl) rfl (fun b393 => ?_)
 refine A6q ?_
 refine C5 (rC rfl (A1 rfl rfl)) (rT rfl) ?_
 (rw [f6 zV (A8J zV hE)]; exact N4.no rfl (N9 _ ⟨by omega, by omega⟩) (P8 zV zV))
 refine B2 ?_
 refine sE (A4 rfl) rfl (fun b425 => ?_)
 refine R0 ?_
 (refine F0 (C0 rfl rfl rfl zV zQ rfl) rfl ?_; rintro _ ⟨b443, rfl⟩)
 refine A2T rfl rfl rfl rfl rfl (fun _ _ => by repeat (first | exact Sw.here | apply Sw.there)) (O1 zO) rfl zP zQ zV rfl (fun pn' cn' => ?_)
 refine A7 ?_
 refine sP (H9 rfl rfl zV zV) rfl rfl ?_
 refine A3 ?_
 refine I6 (i + 1, pn', cn', us ++ [u2], es' ++ [[.int .i64 u2.k, .slice p3 u2.ks.length c3]], G2) ?_ ?_ ?_
 (simp only [J4]; exact E3)
 (dsimp only; exact ⟨by omega, hle.trans hle2, by simp [hlu], F4.snoc (hst.mono hle2) hru, A3U hau hua, A8I zV hsu hE⟩)
 (show ks.length - (i + 1) < ks.length - i; omega)
 refine K1 ?_
 (obtain rfl : i = ks.length := zV; rw [List.take_length] at hsu; refine A4U (cs := es'.flatten) zM (fun G3 hle3 hsl3 hno3 => ?_); have hst3 := hst.mono hle3; have hRes := B25 cx k nm num (.mk tk tks) (.mk fk fks) lb ks us G3 _ pn cn es' (by rw [hlu]; exact har) zV hta (hr0.mono hle3) (by rw [hlu]; exact C8.of hsl3 (by rw [hst3.len, hlu]) hst3.all (fun e he => (hst3.each e he).2)) hst3 hau; rw [hlu] at hRes; refine E7 rfl hRes rfl rfl (fun v G4 hle4 hh => ?_); obtain ⟨mt, mc, rfl, hmr, hma, hmu⟩ := hh; obtain ⟨p1, c1, e1, rfl, _⟩ := hmr.open)
 refine A8 ?_
 refine C5 (rC rfl (A1 rfl rfl)) (rT rfl) ?_
 (rw [f7 us zV hsu]; exact ⟨rfl, _, _, rfl, hmr, hma, hmu⟩)
theorem B3o {t : Ty} (ha : H1 t) : A0m t = .mk t.k (List.replicate t.ks.length P7) := by
 obtain ⟨k, ks⟩ := t
 rw [H1] at ha
 show (if k = 4 ∨ k = 5 then Ty.mk k [P7, P7] else .mk k []) = _
 show _ = Ty.mk k (List.replicate ks.length P7)
 split
 ·rename_i h; rw [ha.1 h]; rfl
 ·rename_i h
  rw [ha.2.1 (fun e => h (.inl e)) (fun e => h (.inr e))]; rfl
theorem A8L (t : Ty) (G : IM) (cells : List Value) (ha : H1 t) (hr : C7 G t cells) : Fn Tryz.prog 177 [.agg ⟨cells⟩] [] G (A5v (A0m t) G) := by
 rw [B3o ha]
 obtain ⟨tk, tks⟩ := t
 have hsm := ha.small
 rw [Ty.small] at hsm
 obtain ⟨hsm1, _⟩ := hsm
 obtain ⟨p, c, es, rfl, hk, hsl, hkl⟩ := hr.open
 simp only [Ty.k, Ty.ks] at hk hsl hkl ⊢
 have hn := hsl.le
 refine D5 Tryz.func177 rfl Tryz.ntmps177 Tryz.results177 rfl ?_
 intro w0
 refine A3 ?_
 refine sE (D8 rfl rfl) rfl (fun b3 => ?_)
 refine sE (A4 rfl) rfl (fun b4 => ?_)
 refine A8 ?_
 refine sE (A4 rfl) rfl (fun b12 => ?_)
 refine C2 ?_
 refine B7 ?_
 (refine S7 25 2 ?_; refine J3 (fun (x : Nat × Option Addr × Nat × List (List Value)) => ⟨[(4, .int .i64 x.1), (3, .pointer (some ⟨b12, 0, none⟩)), (1, .pointer (some ⟨b3, 0, none⟩)), (2, .pointer (some ⟨b4, 0, none⟩))], [.blk b12 [.int .i64 tk, .slice x.2.1 x.1 x.2.2.1], .slc x.2.1 x.2.2.1 25 2 x.1 x.2.2.2.flatten, .blk b4 [.int .i64 0, .slice none 0 0], .blk b3 [.int .i64 tk, .slice p tks.length c]], G⟩) (fun x => x.1 ≤ tks.length ∧ F4 G (List.replicate x.1 P7) x.2.2.2) (fun x => tks.length - x.1) (0, none, 0, []) ?_ ?_ ?_)
 (simp only [J4]; exact E3)
 (exact ⟨Nat.zero_le _, rfl⟩)
 (rintro ⟨i, pn, cn, es'⟩ ⟨hi, hst⟩; simp only [] at hi hst ⊢; have hsl' := hst.len; rw [List.length_replicate] at hsl')
 refine A8 ?_
 refine sB (I3 rfl rfl) rfl rfl (fun h34 => ?_) (fun h34 => ?_)
 refine A7 ?_
 refine B7 ?_
 refine D3 D4 rfl ?_
 refine E9 (i := 0) (l' := [tt,ff,ff,ff,ff,ff,ff]) rfl C1 (B0 rfl) rfl zT rfl rfl ?_
 refine aL 1 rfl (B3 rfl rfl) rfl ?_
 refine A0 2 ?_
 refine M8 rfl rfl ((A5r _)) rfl rfl rfl ?_
 refine A0 3 ?_
 (refine B6 rfl (C0 rfl rfl rfl zV zQ rfl) rfl rfl ?_; rintro _ ⟨b48, rfl⟩)
 refine A0 4 ?_
 refine P5 rfl rfl rfl rfl rfl rfl (fun _ _ => by repeat (first | exact Sw.here | apply Sw.there)) (O1 zO) rfl zP zQ zV rfl rfl zC (fun pn' cn' => ?_)
 refine aP 5 rfl (B0 rfl) rfl ?_
 refine A0 6 ?_
 refine S2 rfl rfl rfl rfl rfl rfl rfl rfl zR zN (by rfl) ?_
 refine A9 ?_
 refine sP (H9 rfl rfl zV zV) rfl rfl ?_
 refine A3 ?_
 refine I6 (i + 1, pn', cn', es' ++ [[.int .i64 1, .slice none 0 0]]) ?_ ?_ ?_
 (simp only [J4]; exact E3)
 (dsimp only; exact ⟨by omega, by rw [List.replicate_succ']; exact F4.snoc hst (A1Y _)⟩)
 (show tks.length - (i + 1) < tks.length - i; omega)
 refine J5 ?_
 (refine E0 (cs := es'.flatten) zM (fun G2 hle2 hsl2 hno2 => ?_); obtain rfl : i = tks.length := zV)
 refine tT ?_
 refine I7 (rC rfl (A1 rfl rfl)) ?_
 (exact ⟨rfl, _, rfl, (hst.mono hle2).ty zW hsl2 hk⟩)
section
variable {k : Int} {nm : ByteArray} {num : Int} {ty fr : Ty} {lb : Int} {ks : List Tm}
end
theorem B3p (G : IM) : Fn Tryz.prog 198 [.bool true] [] G (TmP (T7 (true = true))) := by
 refine D5 Tryz.func198 rfl Tryz.ntmps198 Tryz.results198 rfl ?_
 intro w0
 refine A3 ?_
 refine sE (A4 rfl) rfl (fun b3 => ?_)
 refine R0 ?_
 refine I7 (rC rfl (A1 rfl rfl)) ?_
 (exact TmP.mk (A30 _ ⟨by decide, by decide⟩))
theorem B3q (G : IM) : Fn Tryz.prog 198 [.bool false] [] G (TmP (T7 (false = true))) := by
 refine D5 Tryz.func198 rfl Tryz.ntmps198 Tryz.results198 rfl ?_
 intro w0
 refine A3 ?_
 refine sE (A4 rfl) rfl (fun b3 => ?_)
 refine U9 ?_
 refine I7 (rC rfl (A1 rfl rfl)) ?_
 (exact TmP.mk (A30 _ ⟨by decide, by decide⟩))
theorem A8M (b : Bool) (G : IM) : Fn Tryz.prog 198 [.bool b] [] G (TmP (T7 (b = true))) := by
 cases b
 ·exact B3q G
 ·exact B3p G
theorem A4c (k : Int) (a b : Tm) (G : IM) (ca cb : List Value) (hk78 : k = 7 ∨ k = 8) (hca : 0 ≤ a.num ∧ a.num ≤ 999) (hcb : 0 ≤ b.num ∧ b.num ≤ 999) (hra : D1 G a ca) (hrb : D1 G b cb) : Fn Tryz.prog 181 [.int .i64 k, .agg ⟨ca⟩, .agg ⟨cb⟩] [] G (A1z (A1x k C6 C6 0 [a, b])) := by
 obtain ⟨ak, anm, anum, ⟨atk, atks⟩, ⟨afk, afks⟩, alb, aks⟩ := a
 obtain ⟨bk, bnm, bnum, ⟨btk, btks⟩, ⟨bfk, bfks⟩, blb, bks⟩ := b
 obtain ⟨apt, act, apf, acf, ap, ac, aes, rfl, hak, hanum, halb, haty, hafr, hasl, hakl⟩ := hra.open9
 obtain ⟨bpt, bct, bpf, bcf, bp, bc, bes, rfl, hbk, hbnum, hblb, hbty, hbfr, hbsl, hbkl⟩ := hrb.open9
 simp only [Tm.num] at hca hcb
 have hR : A1x k C6 C6 0 [Tm.mk ak anm anum (.mk atk atks) (.mk afk afks) alb aks, Tm.mk bk bnm bnum (.mk btk btks) (.mk bfk bfks) blb bks] = (if ak = 2 ∧ bk = 2 then (if k = 7 then A2s ((anum + bnum) % 1000) else T7 (anum < bnum), 1, 0) else A0d) := by
  unfold A1x; rw [if_neg zV, if_pos hk78]; rfl
 rw [hR]
 have htm : (anum + bnum).tmod 1000 = (anum + bnum) % 1000 := A74 hca hcb
 have hb : F9 ((anum + bnum) % 1000) := ⟨by omega, by omega⟩
 refine D5 Tryz.func181 rfl Tryz.ntmps181 Tryz.results181 rfl ?_
 intro w0
 refine A3 ?_
 refine sE (D8 rfl rfl) rfl (fun b3 => ?_)
 refine sE (D8 rfl rfl) rfl (fun b4 => ?_)
 refine sE (A4 rfl) rfl (fun b5 => ?_)
 refine C2 ?_
 refine sB (O6 rfl rfl) rfl rfl (fun h15 => ?_) (fun h15 => ?_)
 refine U9 ?_
 refine E4 (rC rfl (A1 rfl rfl)) (rT rfl) (rT rfl) ?_
 (exact A1z.mk (by rw [if_neg zV]; rfl) (A1j _))
 refine B2 ?_
 refine sB (O6 rfl rfl) rfl rfl (fun h39 => ?_) (fun h39 => ?_)
 refine J5 ?_
 refine E4 (rC rfl (A1 rfl rfl)) (rT rfl) (rT rfl) ?_
 (exact A1z.mk (by rw [if_neg zV]; rfl) (A1j _))
 refine H3 ?_
 refine sB (qE rfl rfl) rfl rfl (fun h66 => ?_) (fun h66 => ?_)
 refine C2 ?_
 refine sP (H9 rfl rfl zV zV) rfl rfl ?_
 refine sP (A4J rfl rfl zV) rfl rfl ?_
 (rw [htm]; refine E5 rfl (B18 _ _) rfl rfl ?_)
 refine A8 ?_
 refine E4 (rC rfl (A1 rfl rfl)) (rT rfl) (rT rfl) ?_
 (exact A1z.mk (u := A2s (HMod.hMod (anum + bnum) 1000)) (by rw [if_pos ⟨by omega, by omega⟩, if_pos zV]) (D1.put (us := []) ⟨by decide, by decide⟩ hb ⟨by decide, by decide⟩ (A2q _) (A2q _) rfl (C8.nil _ _) rfl))
 refine E8 ?_
 (refine sB (I3 rfl rfl) rfl rfl (fun h99 => ?_) (fun h99 => ?_))
 (refine E7 rfl (A8M _ _) rfl rfl (fun u G1 hle1 hh => ?_); obtain ⟨uc, rfl, hru⟩ := hh; have hul := hru.len; have huo := hru.one)
 refine sS rfl rfl rfl hul huo rfl ?_ (hu := by exact D7 hul.symm)
 refine A9 ?_
 refine E4 (rC rfl (A2 rfl rfl (C9 zO) hul)) (rT rfl) (rT rfl) ?_
 (exact A1z.mk (by rw [if_pos ⟨by omega, by omega⟩, if_neg zV]; unfold T7; rw [if_pos zV, if_pos rfl]) hru)
 (refine E7 rfl (A8M _ _) rfl rfl (fun u G1 hle1 hh => ?_); obtain ⟨uc, rfl, hru⟩ := hh; have hul := hru.len; have huo := hru.one)
 refine sS rfl rfl rfl hul huo rfl ?_ (hu := by exact D7 hul.symm)
 refine A9 ?_
 refine E4 (rC rfl (A2 rfl rfl (C9 zO) hul)) (rT rfl) (rT rfl) ?_
 (exact A1z.mk (by rw [if_pos ⟨by omega, by omega⟩, if_neg zV]; unfold T7; rw [if_neg zV, if_neg zU]) hru)
end Gw
end Go.Proofs.YtmceanphadildaaGreatDoor
