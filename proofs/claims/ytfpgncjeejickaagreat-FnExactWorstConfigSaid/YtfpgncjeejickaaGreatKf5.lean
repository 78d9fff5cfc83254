/-
  A term with its casts put in is valid, and has the type that the term has.
-/
import Derived.Test.YtfpgncjeejickaaGreatKf4
import Derived.Test.YtfpgncjeejickaaGreatKf3
import Derived.Lib.ItoaNum
import Derived.Test.YtfpgncjeejickaaGreatKf2
import Derived.Test.YtfpgncjeejickaaGreatKf1
set_option linter.unusedVariables false
set_option linter.unusedSimpArgs false
set_option maxHeartbeats 0
set_option maxRecDepth 100000
set_option synthInstance.maxSize 4000
set_option synthInstance.maxHeartbeats 0
namespace Go.Proofs.YtfpgncjeejickaaGreat
open Go Go.RowKit
namespace Gw
mutual
theorem A8v : ∀ a b : Ty, J5 a b = true → J5 b a = true
 | .mk k ks, .mk k' ks', h => by
  rw [W0] at h ⊢
  simp only [Bool.or_eq_true, Bool.and_eq_true, decide_eq_true_eq] at h ⊢
  rcases h with (h | h) | h
  ·exact .inl (.inr h)
  ·exact .inl (.inl h)
  ·exact .inr ⟨h.1.symm, A8w ks ks' h.2⟩
theorem A8w : ∀ xs ys : List Ty, O9 xs ys = true → O9 ys xs = true
 | [], [], _ => rfl
 | [], b :: ys, h => by simp [O9] at h
 | a :: xs, [], h => by simp [O9] at h
 | a :: xs, b :: ys, h => by
  simp only [O9, Bool.and_eq_true] at h ⊢
  exact ⟨A8v a b h.1, A8w xs ys h.2⟩
end
mutual
theorem A8x : ∀ a b : Ty, J5 a b = true → J5 a (T6 a b) = true ∧ J5 b (T6 a b) = true
 | .mk k ks, .mk k' ks', h => by
  rw [A2A]
  by_cases h1 : k = 1
  ·rw [if_pos h1]
   exact ⟨h, A2g _⟩
  ·rw [if_neg h1]
   by_cases h2 : k' = 1
   ·rw [if_pos h2]
    exact ⟨A2g _, A8v _ _ h⟩
   ·rw [if_neg h2]
    rw [W0] at h
    simp only [Bool.or_eq_true, Bool.and_eq_true, decide_eq_true_eq] at h
    have h3 : k = k' ∧ O9 ks ks' = true := by
     rcases h with (h | h) | h
     ·exact absurd h h1
     ·exact absurd h h2
     ·exact h
    obtain ⟨m1, m2⟩ := A8y ks ks' h3.2
    rw [W0, W0, m1, m2]
    simp [h3.1]
theorem A8y : ∀ xs ys : List Ty, O9 xs ys = true → O9 xs (S7 xs ys) = true ∧ O9 ys (S7 xs ys) = true
 | [], [], _ => ⟨rfl, rfl⟩
 | [], b :: ys, h => by simp [O9] at h
 | a :: xs, [], h => by simp [O9] at h
 | a :: xs, b :: ys, h => by
  simp only [O9, Bool.and_eq_true] at h
  obtain ⟨m1, m2⟩ := A8x a b h.1
  obtain ⟨m3, m4⟩ := A8y xs ys h.2
  simp only [S7, O9, m1, m2, m3, m4]
  exact ⟨rfl, rfl⟩
end
theorem B2V {k : Int} {a b : Ty} (hk : k = 4 ∨ k = 5) (h : F4 (.mk k [a, b]) = true) : F4 a = true ∧ F4 b = true := by
 obtain ⟨x, y, he, h1, h2⟩ := A73 hk h
 cases he
 exact ⟨h1, h2⟩
theorem B2W {k : Int} (hk : k = 4 ∨ k = 5) : F4 (.mk k [R8, R8]) = true := by rcases hk with rfl | rfl <;> decide
theorem A8z {k : Int} {t a b : Ty} (hk : k = 4 ∨ k = 5) (ht : F4 t = true) (h : R1 k t = some (a, b)) : F4 (.mk k [a, b]) = true ∧ J5 t (.mk k [a, b]) = true := by
 obtain ⟨tk, ks⟩ := t
 rw [A1o] at h
 by_cases he : tk = k
 ·subst he
  rw [if_pos rfl] at h
  obtain ⟨x, y, rfl, _, _⟩ := A73 hk ht
  cases h
  exact ⟨ht, A2g _⟩
 ·rw [if_neg he] at h
  by_cases h1 : tk = 1
  ·rw [if_pos h1] at h
   cases h
   refine ⟨B2W hk, ?_⟩
   rw [W0, h1]; rfl
  ·rw [if_neg h1] at h; cases h
structure Wt (cx : Cx) (k : Int) (nm : ByteArray) (ty : Ty) (h w : List Ty) (t : Ty) : Prop where
 len : w = [] ∨ w.length = h.length
 ok : ∀ i, (hi : i < w.length) → (hh : i < h.length) → J5 h[i] w[i] = true ∧ F4 w[i] = true
 again : k ≠ 13 → O0 cx k nm ty (if w = [] then h else w) = some (w, t)
 asT : k = 13 → w = [t]
theorem A8A {cx : Cx} {k : Int} {nm : ByteArray} {ty : Ty} {h w : List Ty} {t : Ty} (hh : ∀ a ∈ h, F4 a = true) (hty : k = 13 → F4 ty = true) (hn : D9 k = (h.length : Int)) (h14 : k ≠ 14) (hw : O0 cx k nm ty h = some (w, t)) : Wt cx k nm ty h w t := by
 have hkr := A3s (by rw [hn]; omega : 0 ≤ D9 k)
 have hkk : k = 1 ∨ k = 2 ∨ (k = 3 ∨ k = 4) ∨ k = 5 ∨ k = 6 ∨ (k = 7 ∨ k = 8) ∨ k = 9 ∨ k = 10 ∨ (k = 11 ∨ k = 12) ∨ k = 13 := by omega
 have nil : w = [] → k ≠ 13 → Wt cx k nm ty h w t := by
  rintro rfl h13
  exact ⟨.inl rfl, fun i hi => by simp at hi, fun _ => by rw [if_pos rfl]; exact hw, fun h => absurd h h13⟩
 rcases hkk with rfl | rfl | hk | rfl | rfl | hk | rfl | rfl | hk | rfl
 ·refine nil ?_ (by decide)
  rw [mW1] at hw; split at hw <;> cases hw; rfl
 ·refine nil ?_ (by decide)
  rw [mW2] at hw; cases hw; rfl
 ·refine nil ?_ (by omega)
  rw [A3l hk] at hw; cases hw; rfl
 ·refine nil ?_ (by decide)
  rw [mW5] at hw; cases hw; rfl
 ·match h, (show h.length = 2 by have : D9 6 = 2 := rfl; omega) with
  | [x, y], _ =>
  rw [mW6] at hw
  simp only [List.getD_cons_zero, List.getD_cons_succ] at hw
  split at hw
  ·rename_i a b hm
   split at hw
   ·rename_i hc
    cases hw
    obtain ⟨v1, v2⟩ := A8z (.inl rfl) (hh x (by simp)) hm
    obtain ⟨v3, v4⟩ := B2V (.inl rfl) v1
    refine ⟨.inr rfl, fun i hi hi2 => ?_, fun _ => ?_, fun h => absurd h (by decide)⟩
    ·match i, hi with
     | 0, _ => exact ⟨v2, v1⟩
     | 1, _ => exact ⟨hc, v3⟩
    ·rw [if_neg (by simp), mW6]
     simp only [List.getD_cons_zero, List.getD_cons_succ, A1o, if_true, A2g]
   ·cases hw
  ·cases hw
 ·match h, (show h.length = 2 by rcases hk with rfl | rfl <;> (first | (have : D9 7 = 2 := rfl; omega) | (have : D9 8 = 2 := rfl; omega))) with
  | [x, y], _ =>
  rw [U4 hk] at hw
  simp only [List.getD_cons_zero, List.getD_cons_succ] at hw
  split at hw
  ·rename_i hc
   cases hw
   refine ⟨.inr rfl, fun i hi hi2 => ?_, fun _ => ?_, fun h => by omega⟩
   ·match i, hi with
    | 0, _ => exact ⟨hc.1, (show F4 R9 = true by decide)⟩
    | 1, _ => exact ⟨hc.2, (show F4 R9 = true by decide)⟩
   ·rw [if_neg (by simp), U4 hk]
    simp only [List.getD_cons_zero, List.getD_cons_succ, A2g, and_self, if_true]
  ·cases hw
 ·match h, (show h.length = 3 by have : D9 9 = 3 := rfl; omega) with
  | [x, y, z], _ =>
  rw [mW9] at hw
  simp only [List.getD_cons_zero, List.getD_cons_succ] at hw
  split at hw
  ·rename_i hc
   cases hw
   obtain ⟨c1, c2⟩ := A8x y z hc.2
   have vm := A5m y z 1 hc.2 (hh y (by simp)) (hh z (by simp))
   refine ⟨.inr rfl, fun i hi hi2 => ?_, fun _ => ?_, fun h => absurd h (by decide)⟩
   ·match i, hi with
    | 0, _ => exact ⟨hc.1, (show F4 X3 = true by decide)⟩
    | 1, _ => exact ⟨c1, vm⟩
    | 2, _ => exact ⟨c2, vm⟩
   ·rw [if_neg (by simp), mW9]
    simp only [List.getD_cons_zero, List.getD_cons_succ, A2g, and_self, if_true, A71]
  ·cases hw
 ·refine nil ?_ (by decide)
  rw [A4b] at hw; cases hw; rfl
 ·match h, (show h.length = 1 by rcases hk with rfl | rfl <;> (first | (have : D9 11 = 1 := rfl; omega) | (have : D9 12 = 1 := rfl; omega))) with
  | [x], _ =>
  rw [A2L hk] at hw
  simp only [List.getD_cons_zero] at hw
  split at hw
  ·rename_i a b hm
   cases hw
   obtain ⟨v1, v2⟩ := A8z (.inr rfl) (hh x (by simp)) hm
   refine ⟨.inr rfl, fun i hi hi2 => ?_, fun _ => ?_, fun h => by omega⟩
   ·match i, hi with
    | 0, _ => exact ⟨v2, v1⟩
   ·rw [if_neg (by simp), A2L hk]
    simp only [List.getD_cons_zero, List.getD_cons_succ, A1o, if_true]
  ·cases hw
 ·match h, (show h.length = 1 by have : D9 13 = 1 := rfl; omega) with
  | [x], _ =>
  rw [A2f] at hw
  simp only [List.getD_cons_zero] at hw
  split at hw
  ·rename_i hc
   cases hw
   refine ⟨.inr rfl, fun i hi hi2 => ?_, fun h => absurd rfl h, fun _ => rfl⟩
   match i, hi with
   | 0, _ => exact ⟨hc, hty rfl⟩
  ·cases hw
theorem B2X {l : Int} (h1 : 1 ≤ l) (h2 : l ≤ 99) : A0M l = true := by
 unfold A0M
 rw [A2G.2 ⟨h1, h2⟩]; rfl
theorem B2Y {u : Tm} {a b : Ty} {l D : Int} (hu : N5 40 13 u (D + 1) = true) (hc : J5 a b = true) (ha : F4 a = true) (hb : F4 b = true) (h1 : 1 ≤ l) (h2 : l ≤ 99) (hD : D ≤ 40) : N5 40 13 (K8 u a b l) D = true := by
 unfold K8
 rw [A02 hD (by decide) (U3.2 ⟨rfl, by simp, fun _ => rfl, by simp, fun _ => rfl, fun _ => hb, by simp, fun _ => ⟨by simp [A0L, ha, hb, hc], B2X h1 h2⟩, by simp⟩)]
 simp [N6, hu]
theorem A5B {cx : Cx} : ∀ (us : List Tm) (h w : List Ty) (l D : Int), us.length = h.length → w.length = h.length → (∀ i, (hi : i < w.length) → (hh : i < h.length) → J5 h[i] w[i] = true ∧ F4 w[i] = true) → (∀ a ∈ h, F4 a = true) → X4 cx us = some h → N6 40 13 us (D + 1) = true → 0 ≤ l → (I0 us h w l).2 ≤ 99 → D ≤ 40 →
  X4 cx (I0 us h w l).1 = some w ∧ N6 40 13 (I0 us h w l).1 D = true ∧ (E7 (I0 us h w l).1 : Int) = E7 us + ((I0 us h w l).2 - l)
 | [], [], [], l, D, _, _, _, _, ht, _, _, _, _ => by simp [I0, X4, N6, E7]
 | [], a :: h, w, l, D, hl, _, _, _, _, _, _, _, _ => by simp at hl
 | u :: us, [], w, l, D, hl, _, _, _, _, _, _, _, _ => by simp at hl
 | [], [], b :: w, l, D, _, hl, _, _, _, _, _, _, _ => by simp at hl
 | u :: us, a :: h, [], l, D, _, hl, _, _, _, _, _, _, _ => by simp at hl
 | u :: us, a :: h, b :: w, l, D, h1, h2, hw, hv, ht, hs, hl, h99, hD => by
  rw [X4] at ht
  split at ht
  ·cases ht
  ·rename_i a' ha
   split at ht
   ·cases ht
   ·rename_i h' hh'
    simp only [Option.some.injEq, List.cons.injEq] at ht
    obtain ⟨rfl, rfl⟩ := ht
    rw [N6, Bool.and_eq_true] at hs
    obtain ⟨c1, c2⟩ := hw 0 (by simp) (by simp)
    have hw' : ∀ i, (hi : i < w.length) → (hh : i < h'.length) → J5 h'[i] w[i] = true ∧ F4 w[i] = true := fun i hi hh => hw (i + 1) (by simpa using hi) (by simpa using hh)
    have hv' : ∀ x ∈ h', F4 x = true := fun x hx => hv x (List.mem_cons_of_mem _ hx)
    simp only [I0] at h99 ⊢
    by_cases he : M4 a' b = true
    ·simp only [if_pos he] at h99 ⊢
     obtain ⟨i1, i2, i3⟩ := A5B us h' w l D (by simpa using h1) (by simpa using h2) hw' hv' hh' hs.2 hl h99 hD
     have hab := (A2z _ _).1 he
     subst hab
     refine ⟨by rw [X4, ha, i1], ?_, ?_⟩
     ·rw [N6, Bool.and_eq_true]; exact ⟨A5l 40 13 u (D + 1) D (by omega) hs.1, i2⟩
     ·simp only [E7]; omega
    ·simp only [if_neg he] at h99 ⊢
     obtain ⟨i1, i2, i3⟩ := A5B us h' w (l + 1) D (by simpa using h1) (by simpa using h2) hw' hv' hh' hs.2 (by omega) h99 hD
     have hlab := A04 us h' w (l + 1)
     refine ⟨by rw [X4, K8, B2l ha, i1], ?_, ?_⟩
     ·rw [N6, Bool.and_eq_true]
      exact ⟨B2Y hs.1 c1 (hv a' List.mem_cons_self) c2 (by omega) (by omega) hD, i2⟩
     ·simp only [E7, A1J]; omega
def A8B (cx : Cx) (t : Tm) (D l : Int) (u : Tm) (a : Ty) (l' : Int) : Prop := N5 40 13 u D = true ∧ A0D cx u = some a ∧ F4 a = true ∧ l ≤ l' ∧ l' + 1 ≤ l + (D1 t : Int) ∧ (D1 u : Int) ≤ D1 t + (l' - l)
theorem A5C (ks : List Tm) (ih : ∀ t ∈ ks, ∀ (d D : Int) (cx : Cx) (l : Int) (u : Tm) (a : Ty) (l' : Int), N5 12 14 t d = true → Z3 cx → 0 ≤ l → M7 cx t l = some (u, a, l') → l' ≤ 99 → D + 2 * (13 - d) ≤ 41 → A8B cx t D l u a l') :
  ∀ (d D : Int) (cx : Cx) (l : Int) (us : List Tm) (h : List Ty) (l' : Int), N6 12 14 ks d = true → Z3 cx → 0 ≤ l → M5 cx ks l = some (us, h, l') → l' ≤ 99 → D + 2 * (13 - d) ≤ 41 →
   N6 40 13 us D = true ∧ X4 cx us = some h ∧ (∀ a ∈ h, F4 a = true) ∧ l ≤ l' ∧ l' + ks.length ≤ l + (E7 ks : Int) ∧ (E7 us : Int) ≤ E7 ks + (l' - l) ∧ h.length = ks.length ∧ us.length = ks.length := by
 induction ks with
 | nil =>
  intro d D cx l us h l' _ _ _ he _ _
  simp only [M5, Option.some.injEq, Prod.mk.injEq] at he
  obtain ⟨rfl, rfl, rfl⟩ := he
  simp [N6, X4, E7]
 | cons t ts ihl =>
  intro d D cx l us h l' hs hcx hl he h99 hD
  rw [N6, Bool.and_eq_true] at hs
  rw [M5] at he
  split at he
  ·cases he
  ·rename_i u a l1 h1
   split at he
   ·cases he
   ·rename_i us' h' l2 h2
    simp only [Option.some.injEq, Prod.mk.injEq] at he
    obtain ⟨rfl, rfl, rfl⟩ := he
    have hp := B0y t
    
    have hmono : l1 ≤ l2 := by
     have : ∀ (zs : List Tm) (l : Int) us h l', M5 cx zs l = some (us, h, l') → l ≤ l' := by
      intro zs
      induction zs with
      | nil => intro l us h l' he; simp only [M5, Option.some.injEq, Prod.mk.injEq] at he; omega
      | cons z zs ihz =>
       intro l us h l' he
       rw [M5] at he
       split at he
       ·cases he
       ·rename_i u a l1 hz
        split at he
        ·cases he
        ·rename_i us' h' l2 hzs
         simp only [Option.some.injEq, Prod.mk.injEq] at he
         have := ihz _ _ _ _ hzs
         have := el_mono cx z l _ _ _ hz
         omega
     exact this ts l1 us' h' l2 h2
    obtain ⟨a1, a2, a3, a4, a5, a6⟩ := ih t List.mem_cons_self d D cx l u a l1 hs.1 hcx hl h1 (by omega) hD
    obtain ⟨b1, b2, b3, b4, b5, b6, b7, b8⟩ := ihl (fun x hx => ih x (List.mem_cons_of_mem _ hx)) d D cx l1 us' h' l2 hs.2 hcx (by omega) h2 h99 hD
    refine ⟨by rw [N6, a1, b1]; rfl, by rw [X4, a2, b2], ?_, by omega, ?_, ?_, by simp [b7], by simp [b8]⟩
    ·intro x hx
     rcases List.mem_cons.1 hx with h | h
     ·rw [h]; exact a3
     ·exact b3 x h
    ·simp only [E7, List.length_cons]; omega
    ·simp only [E7]; omega
where
 el_mono (cx : Cx) : ∀ (z : Tm) (l : Int) (u : Tm) (a : Ty) (l' : Int), M7 cx z l = some (u, a, l') → l ≤ l' := by
  intro z
  revert cx
  refine Tm.ind (C := fun z => ∀ (cx : Cx) (l : Int) (u : Tm) (a : Ty) (l' : Int), M7 cx z l = some (u, a, l') → l ≤ l') ?_ z
  intro k nm num ty fr lb ks ih cx l u a l' he
  rw [M7] at he
  have hL : ∀ (zs : List Tm), (∀ t ∈ zs, t ∈ ks) → ∀ (cx : Cx) (l : Int) us h l', M5 cx zs l = some (us, h, l') → l ≤ l' := by
   intro zs
   induction zs with
   | nil => intro _ cx l us h l' he; simp only [M5, Option.some.injEq, Prod.mk.injEq] at he; omega
   | cons z zs ihz =>
    intro hin cx l us h l' he
    rw [M5] at he
    split at he
    ·cases he
    ·rename_i u a l1 hz
     split at he
     ·cases he
     ·rename_i us' h' l2 hzs
      simp only [Option.some.injEq, Prod.mk.injEq] at he
      have := ihz (fun t ht => hin t (List.mem_cons_of_mem _ ht)) _ _ _ _ _ hzs
      have := ih z (hin z List.mem_cons_self) _ l _ _ _ hz
      omega
  split at he
  ·cases he
  ·rename_i us h l1 hk
   have h1 := hL ks (fun _ h => h) _ _ _ _ _ hk
   unfold A1p at he
   split at he
   ·cases he
   ·rename_i w t hn
    simp only [Option.some.injEq, Prod.mk.injEq] at he
    have := A04 us h w l1
    omega
theorem B2Z : ∀ (t : Tm) (d D : Int) (cx : Cx) (l : Int) (u : Tm) (a : Ty) (l' : Int), N5 12 14 t d = true → Z3 cx → 0 ≤ l → M7 cx t l = some (u, a, l') → l' ≤ 99 → D + 2 * (13 - d) ≤ 41 → A8B cx t D l u a l' := by
 refine Tm.ind fun k nm num ty fr lb ks ih d D cx l u a l' hs hcx hl he h99 hD => ?_
 obtain ⟨hd, h14, h3, h4⟩ := A0Q hs
 obtain ⟨n1, n2, n3, n4, n5, n6, n7, n8, n9⟩ := U3.1 h3
 rw [M7] at he
 split at he
 ·cases he
 ·rename_i us h l1 hL
  unfold A1p at he
  split at he
  ·cases he
  ·rename_i w t hN
   simp only [Option.some.injEq, Prod.mk.injEq] at he
   obtain ⟨hu, rfl, rfl⟩ := he
   have hlab := A04 us h w l1
   obtain ⟨b1, b2, b3, b4, b5, b6, b7, b8⟩ := A5C ks ih (d + 1) (D + 2) (O6 cx k nm ty) l us h l1 h4 (A3o hcx fun hk => n6 (.inl hk)) hl hL (by omega) (by omega)
   obtain ⟨hv, hw⟩ := A7V hN
   have hwt := A8A b3 (fun hk => n6 (.inr (.inl hk))) (by rw [b7]; exact n1) h14 hw
   
   obtain ⟨c1, c2, c3⟩ : X4 (O6 cx k nm ty) (I0 us h w l1).1 = some (if w = [] then h else w) ∧ N6 40 13 (I0 us h w l1).1 (D + 1) = true ∧ (E7 (I0 us h w l1).1 : Int) = E7 us + ((I0 us h w l1).2 - l1) := by
    rcases hwt.len with hn | hn
    ·subst hn
     rw [A0v, if_pos rfl]
     refine ⟨b2, ?_, by simp⟩
     exact A4c 40 13 us (D + 2) (D + 1) (by omega) b1
    ·by_cases hn0 : w = []
     ·subst hn0
      rw [A0v, if_pos rfl]
      refine ⟨b2, ?_, by simp⟩
      exact A4c 40 13 us (D + 2) (D + 1) (by omega) b1
     ·rw [if_neg hn0]
      exact A5B us h w l1 (D + 1) (by omega) hn hwt.ok b3 b2 (by rw [show D + 1 + 1 = D + 2 by omega]; exact b1) (by omega) h99 (by omega)
   have hlm := A1q us h w l1
   have hck : D1 (.mk k nm num ty fr lb ks) = E7 ks + 1 := Z1 ..
   refine ⟨?_, ?_, hv, by omega, by rw [hck]; omega, ?_⟩
   ·rw [← hu]
    split
    ·rename_i hk
     have hl1 : ks.length = 1 := by rw [hk] at n1; have : D9 13 = 1 := rfl; omega
     have h0 : 0 < (I0 us h w l1).1.length := by omega
     rw [getD0' h0]
     have := (A0O 40 13 _ _).1 c2 0 h0
     exact A5l 40 13 _ (D + 1) D (by omega) this
    ·rename_i hk
     rw [A02 (by omega) hk (by rw [hlm, b8]; exact h3)]
     exact c2
   ·rw [← hu]
    split
    ·rename_i hk
     have hl1 : ks.length = 1 := by rw [hk] at n1; have : D9 13 = 1 := rfl; omega
     have h0 : 0 < (I0 us h w l1).1.length := by omega
     rw [getD0' h0]
     rw [hwt.asT hk, if_neg (by simp)] at c1
     rw [O6, if_neg (by omega)] at c1
     rw [← hwt.asT hk] at c1
     obtain ⟨x, hx⟩ : ∃ x, (I0 us h w l1).1 = [x] := by
      match hm : (I0 us h w l1).1, (show (I0 us h w l1).1.length = 1 by omega) with
      | [x], _ => exact ⟨x, rfl⟩
     simp only [hx, List.getElem_cons_zero] at c1 ⊢
     obtain ⟨y, hy, he⟩ := B2j c1
     rw [hwt.asT hk] at he
     cases he; exact hy
    ·rename_i hk
     refine B2i c1 h14 hv (hwt.again hk) ?_
     by_cases hn0 : w = []
     ·rw [hn0]; rfl
     ·rw [if_neg hn0]; exact A74 w
   ·rw [← hu, hck]
    split
    ·rename_i hk
     have hl1 : ks.length = 1 := by rw [hk] at n1; have : D9 13 = 1 := rfl; omega
     have h0 : 0 < (I0 us h w l1).1.length := by omega
     rw [getD0' h0]
     have := A4P (List.getElem_mem h0)
     omega
    ·rw [Z1]; omega
where
 getD0' {us : List Tm} (h : 0 < us.length) : us.getD 0 K7 = us[0] := by rw [List.getD_eq_getElem?_getD, List.getElem?_eq_getElem h, Option.getD_some]
theorem A8C : ∀ (t : Tm) (d : Int) (cx : Cx) (l : Int) (u : Tm) (a : Ty) (l' : Int), N5 12 14 t d = true → M7 cx t l = some (u, a, l') → l' + 1 ≤ l + (D1 t : Int) := by
 refine Tm.ind fun k nm num ty fr lb ks ih d cx l u a l' hs he => ?_
 obtain ⟨hd, h14, h3, h4⟩ := A0Q hs
 obtain ⟨n1, _⟩ := U3.1 h3
 have hL : ∀ (zs : List Tm), (∀ t ∈ zs, t ∈ ks) → N6 12 14 zs (d + 1) = true → ∀ (cx : Cx) (l : Int) us h l', M5 cx zs l = some (us, h, l') → l' + zs.length ≤ l + (E7 zs : Int) ∧ us.length = zs.length := by
  intro zs
  induction zs with
  | nil => intro _ _ cx l us h l' he; simp only [M5, Option.some.injEq, Prod.mk.injEq] at he; obtain ⟨rfl, _, rfl⟩ := he; simp [E7]
  | cons z zs ihz =>
   intro hin hsz cx l us h l' he
   rw [N6, Bool.and_eq_true] at hsz
   rw [M5] at he
   split at he
   ·cases he
   ·rename_i u a l1 hz
    split at he
    ·cases he
    ·rename_i us' h' l2 hzs
     simp only [Option.some.injEq, Prod.mk.injEq] at he
     obtain ⟨rfl, rfl, rfl⟩ := he
     have h5 := ihz (fun t ht => hin t (List.mem_cons_of_mem _ ht)) hsz.2 _ _ _ _ _ hzs
     have h6 := ih z (hin z List.mem_cons_self) (d + 1) _ l _ _ _ hsz.1 hz
     simp only [E7, List.length_cons]
     exact ⟨by omega, by omega⟩
 rw [M7] at he
 split at he
 ·cases he
 ·rename_i us h l1 hk
  obtain ⟨g1, g2⟩ := hL ks (fun _ h => h) h4 _ _ _ _ _ hk
  unfold A1p at he
  split at he
  ·cases he
  ·rename_i w t hn
   simp only [Option.some.injEq, Prod.mk.injEq] at he
   have := A04 us h w l1
   have hck : D1 (.mk k nm num ty fr lb ks) = E7 ks + 1 := Z1 ..
   rw [hck]; omega
theorem A5D {e u : Tm} {t : Ty} (h : V4 e = some (u, t)) : P7 u = true ∧ A0D [] u = some t ∧ F4 t = true := by
 unfold V4 at h
 split at h
 ·rename_i hv
  obtain ⟨h1, h2⟩ := (A1m e).1 hv
  split at h
  ·rename_i u' t' l' he
   cases h
   have hl : l' ≤ 99 := by
    have := A5C.el_mono [] e 0 _ _ _ he
    have h3 : ∀ (t : Tm) (cx : Cx) (l : Int) (u : Tm) (a : Ty) (l' : Int), M7 cx t l = some (u, a, l') → l' ≤ l + 4 * (D1 t : Int) → True := fun _ _ _ _ _ _ _ _ => trivial
    exact el_lab e 1 h1 (by omega) he
   obtain ⟨g1, g2, g3, g4, g5, g6⟩ := B2Z e 1 1 [] 0 u t l' h1 A2M (by omega) he hl (by omega)
   exact ⟨(A48 u).2 ⟨g1, by omega⟩, g2, g3⟩
  ·cases h
 ·cases h
where
 el_lab (e : Tm) (d : Int) (h1 : N5 12 14 e d = true) (h2 : D1 e ≤ 30) {u : Tm} {t : Ty} {l' : Int} (he : M7 [] e 0 = some (u, t, l')) : l' ≤ 99 := by
  have := A8C e d [] 0 u t l' h1 he
  omega
def A06 (k : Int) : Bool := decide (k = 5 ∨ k = 13)
theorem A8D (t : Tm) (G : IM) (cells : List Value) (hr : A6 G t cells) : Fn Tryz.prog 112 [.agg ⟨cells⟩] [] G (E4 (.bool (A06 t.k)) G) := by
 obtain ⟨k, nm, num, ⟨tk, tks⟩, ⟨fk, fks⟩, lb, ks⟩ := t
 obtain ⟨pt, ct, pf, cf, p, c, es, rfl, hk, hnum, hlb, hty, hfr, hsl, hkl⟩ := hr.open9
 refine B4 Tryz.func112 rfl Tryz.ntmps112 Tryz.results112 rfl ?_
 intro w0
 refine tS (tR ?_)
 refine sE (C1 rfl rfl) rfl (fun b3 => ?_)
 refine C3 ?_
 refine sB (qE rfl rfl) rfl rfl (fun h11 => ?_) (fun h11 => ?_)
 refine I8 ?_
 exact ⟨rfl, by (show _ = Value.bool (decide (k = 5 ∨ k = 13)); first | rw [decide_eq_true (by omega)] | rw [decide_eq_false (by omega)]), rfl⟩
 refine J2 ?_
 refine sB (qE rfl rfl) rfl rfl (fun h26 => ?_) (fun h26 => ?_)
 refine E2 ?_
 exact ⟨rfl, by (show _ = Value.bool (decide (k = 5 ∨ k = 13)); first | rw [decide_eq_true (by omega)] | rw [decide_eq_false (by omega)]), rfl⟩
 refine E2 ?_
 exact ⟨rfl, by (show _ = Value.bool (decide (k = 5 ∨ k = 13)); first | rw [decide_eq_true (by omega)] | rw [decide_eq_false (by omega)]), rfl⟩
def A8E : ByteArray := ⟨⟨[112, 97, 105, 114]⟩⟩
def A8F : ByteArray := ⟨⟨[102, 117, 110, 99, 116, 105, 111, 110]⟩⟩
def txT : ByteArray := ⟨⟨[84]⟩⟩
def txF : ByteArray := ⟨⟨[70]⟩⟩
def A8G (n : Int) : ByteArray := ⟨(Lib.decDigits n.toNat).toArray⟩
def B20 (k num : Int) : ByteArray := if k = 2 then A8G num else if k = 3 then txT else txF
mutual
def A8H : Tm → ByteArray
 | .mk k nm num ty fr lb ks => if k = 10 ∨ (W1 (.mk k nm num ty fr lb []) = true ∧ ty.k = 5) then A8E else if k = 5 ∨ W1 (.mk k nm num ty fr lb []) = true then A8F else if k = 14 then B21 ks else B20 k num
def B21 : List Tm → ByteArray
 | [] => ⟨⟨[]⟩⟩
 | t :: _ => A8H t
end
section
variable {k : Int} {nm : ByteArray} {num : Int} {ty fr : Ty} {lb : Int} {ks : List Tm}
end
section fin
variable {P : Program} {Γ : L7} {env : M0} {hp : List A4} {G : IM}
theorem A2i {r r2 r3 : ResultVar} {post : IM → Value → List A4 → Prop} {v v2 v3 : Value} {outs : List A4} (h : V9 P Γ ⟨env, hp, G⟩ r v) (h2 : V9 P Γ ⟨env, hp, G⟩ r2 v2) (h3 : V9 P Γ ⟨env, hp, G⟩ r3 v3) (ho : A7 hp outs) (hk : post G (.tuple ⟨[v, v2, v3]⟩) outs) :
  A0h P Γ [r, r2, r3] post .ret ⟨env, hp, G⟩ := A4C (.cons h (.cons h2 (.cons h3 .nil))) ho.spec hk
end fin
def CsP (bx : Nat) (e : Tm) (a b : Ty) (l : Int) : IM → Value → List A4 → Prop := fun G' v outs => ∃ cells, v = .agg ⟨cells⟩ ∧ outs = [.blk bx [.int .i64 (if M4 a b = true then l else l + 1)]] ∧ A6 G' (if M4 a b = true then e else K8 e a b (l + 1)) cells
theorem CsP.yes {G : IM} {bx : Nat} {e : Tm} {a b : Ty} {l : Int} {cells : List Value} (h : M4 a b = true) (hr : A6 G e cells) : CsP bx e a b l G (.agg ⟨cells⟩) [.blk bx [.int .i64 l]] := ⟨cells, rfl, by rw [if_pos h], by rw [if_pos h]; exact hr⟩
theorem CsP.no {G : IM} {bx : Nat} {e : Tm} {a b : Ty} {l : Int} {cells : List Value} (h : M4 a b = false) (hr : A6 G (K8 e a b (l + 1)) cells) : CsP bx e a b l G (.agg ⟨cells⟩) [.blk bx [.int .i64 (l + 1)]] := ⟨cells, rfl, by rw [if_neg (by rw [h]; decide)], by rw [if_neg (by rw [h]; decide)]; exact hr⟩
theorem B22 (bx : Nat) (e : Tm) (a b : Ty) (l : Int) (G : IM) (ce ca cb : List Value) (hl : -1000000000000 ≤ l ∧ l ≤ 1000000000000) (hre : A6 G e ce) (hra : B6 G a ca) (hrb : B6 G b cb) :
  Fn Tryz.prog 93 [.pointer (some ⟨bx, 0, none⟩), .agg ⟨ce⟩, .agg ⟨ca⟩, .agg ⟨cb⟩] [.blk bx [.int .i64 l]] G (CsP bx e a b l) := by
 have hel := hre.len
 have heo := hre.one
 have hS := A5k a b G ca cb hra hrb
 obtain ⟨v1, v2, v3, v4, v5, v6, v7, v8, v9, rfl⟩ := T8 hel
 obtain ⟨ak, aks⟩ := a
 obtain ⟨bk, bks⟩ := b
 obtain ⟨pa, cca, ea, rfl, hka, _⟩ := hra.open
 obtain ⟨pb, ccb, eb, rfl, hkb, _⟩ := hrb.open
 refine B4 Tryz.func93 rfl Tryz.ntmps93 Tryz.results93 rfl ?_
 intro w0
 refine tS (tR ?_)
 refine sE (C1 rfl rfl) rfl (fun b3 => ?_)
 refine sE (C1 rfl rfl) rfl (fun b4 => ?_)
 refine sE (C1 rfl rfl) rfl (fun b5 => ?_)
 refine sE (A5 rfl) rfl (fun b6 => ?_)
 refine C3 ?_
 refine F0 rfl (hS) rfl rfl (fun h14 => ?_) (fun h14 => ?_)
 refine sD (nS (qT rfl (tS (tR ?_))))
 refine sL (A0 rfl rfl (A9 (by repeat first | exact mH | apply mT)) hel) rfl rfl ?_
 refine sS rfl rfl rfl hel heo rfl ?_ (hu := by exact D4 hel.symm)
 refine sD (nS (tT (rS ?_)))
 refine N9 (outs := [.blk bx [.int .i64 _]]) (rC rfl (A3 rfl rfl)) (A7.cons (by repeat (first | exact Pk.here | apply Pk.there)) A7.nil) ?_
 (exact CsP.yes (by assumption) hre)
 refine sD (nS (cF rfl (tK (nS (tS (tR (sQ (qM rfl) rfl ?_)))))))
 refine sQ (A2q rfl) rfl ?_
 refine sQ (B0 rfl) rfl (sL (B9 rfl rfl) rfl rfl ?_)
 refine sP (E8 rfl rfl (by omega) (by omega)) rfl rfl ?_
 refine sQ (A2q rfl) rfl ?_
 refine sQ (B0 rfl) rfl (J7 ?_)
 refine sD (nS (tS ?_))
 refine D5 D6 rfl ?_
 refine L3 (i := 6) (l' := [ff,ff,ff,ff,ff,ff,tt,ff,ff,ff]) rfl D0 (A0 rfl rfl (A9 (by repeat first | exact mH | apply mT)) hel) rfl (by kernel_rfl) rfl rfl ?_
 refine aL 0 rfl (A3 rfl rfl) rfl ?_
 refine aL 1 rfl (A3 rfl rfl) rfl ?_
 refine aP 2 rfl (qM rfl) rfl ?_
 refine aP 3 rfl (A2q rfl) rfl ?_
 refine aP 4 rfl (B0 rfl) rfl ?_
 refine aL 5 rfl (B9 rfl rfl) rfl ?_
 refine A2 7 ?_
 (refine E3 rfl (D7 rfl rfl rfl (by omega) (by unfold maxLen; omega) rfl) rfl rfl ?_; rintro _ ⟨b55, rfl⟩)
 refine aP 8 rfl (U1 rfl rfl) rfl ?_
 refine A2 9 ?_
 refine H0 rfl ?_
 refine C5 (nS ?_)
 (refine H7 (cs := [v1, v2, v3, v4, v5, v6, v7, v8, v9]) (by repeat (first | exact Pk.here | apply Pk.there)) (fun G2 hle2 hsl2 hno2 => ?_))
 refine tT ?_
 refine N9 (outs := [.blk bx [.int .i64 _]]) (rC rfl (A3 rfl rfl)) (A7.cons (by repeat (first | exact Pk.here | apply Pk.there)) A7.nil) ?_
 (exact CsP.no (by assumption) (A6.put (us := [e]) (es := [[v1, v2, v3, v4, v5, v6, v7, v8, v9]]) ⟨by decide, by decide⟩ ⟨by decide, by decide⟩ ⟨by omega, by omega⟩ (hrb.mono hle2) (hra.mono hle2) rfl (C4.of hsl2 rfl (by intro x hx; obtain rfl := List.mem_singleton.1 hx; rfl) (by intro x hx; obtain rfl := List.mem_singleton.1 hx; exact heo)) (by simp only [C7]; exact ⟨_, _, rfl, hre.mono hle2, rfl⟩)))
def ElP (bx : Nat) (cx : Cx) (e : Tm) (l : Int) : IM → Value → List A4 → Prop := fun G' v outs => ∃ u cu t ct l', v = .tuple ⟨[.agg ⟨cu⟩, .agg ⟨ct⟩, .bool (M7 cx e l).isSome]⟩ ∧ outs = [.blk bx [.int .i64 l']] ∧ A6 G' u cu ∧ B6 G' t ct ∧ l ≤ l' ∧ l' + 1 ≤ l + (D1 e : Int) ∧ ∀ r, M7 cx e l = some r → r = (u, t, l')
theorem ElP.no {G : IM} {bx : Nat} {cx : Cx} {e : Tm} {l l' : Int} {u : Tm} {t : Ty} {cu ct : List Value} (h : M7 cx e l = none) (hu : A6 G u cu) (ht : B6 G t ct) (h1 : l ≤ l') (h2 : l' + 1 ≤ l + (D1 e : Int)) : ElP bx cx e l G (.tuple ⟨[.agg ⟨cu⟩, .agg ⟨ct⟩, .bool false]⟩) [.blk bx [.int .i64 l']] :=
 ⟨u, cu, t, ct, l', by rw [h]; rfl, rfl, hu, ht, h1, h2, fun r hr => by rw [h] at hr; cases hr⟩
theorem ElP.yes {G : IM} {bx : Nat} {cx : Cx} {e : Tm} {l l' : Int} {u : Tm} {t : Ty} {cu ct : List Value} (h : M7 cx e l = some (u, t, l')) (hu : A6 G u cu) (ht : B6 G t ct) (h1 : l ≤ l') (h2 : l' + 1 ≤ l + (D1 e : Int)) : ElP bx cx e l G (.tuple ⟨[.agg ⟨cu⟩, .agg ⟨ct⟩, .bool true]⟩) [.blk bx [.int .i64 l']] :=
 ⟨u, cu, t, ct, l', by rw [h]; rfl, rfl, hu, ht, h1, h2, fun r hr => by rw [h] at hr; cases hr; rfl⟩
section
variable {cx : Cx} {k : Int} {nm : ByteArray} {num : Int} {ty fr : Ty} {lb : Int} {ks us : List Tm} {h : List Ty} {l l' : Int}
theorem B23 (hL : M5 (O6 cx k nm ty) ks l = none) : M7 cx (.mk k nm num ty fr lb ks) l = none := by rw [M7, hL]
theorem A5E (hL : M5 (O6 cx k nm ty) ks l = some (us, h, l')) (hn : Y9 cx k nm ty h = none) : M7 cx (.mk k nm num ty fr lb ks) l = none := by rw [M7, hL]; simp only [A1p, hn]
theorem B24 {w : List Ty} {t : Ty} (hL : M5 (O6 cx k nm ty) ks l = some (us, h, l')) (hn : Y9 cx k nm ty h = some (w, t)) (hk : k = 13) : M7 cx (.mk k nm num ty fr lb ks) l = some ((I0 us h w l').1.getD 0 K7, t, (I0 us h w l').2) := by
 rw [M7, hL]; simp only [A1p, hn, if_pos hk]
theorem A8I {w : List Ty} {t : Ty} (hL : M5 (O6 cx k nm ty) ks l = some (us, h, l')) (hn : Y9 cx k nm ty h = some (w, t)) (hk : k ≠ 13) : M7 cx (.mk k nm num ty fr lb ks) l = some (.mk k nm num ty fr lb (I0 us h w l').1, t, (I0 us h w l').2) := by
 rw [M7, hL]; simp only [A1p, hn, if_neg hk]
end
theorem A1L {t : Ty} (h : F4 t = true) : E6 t := (A34 h).1
theorem A8J {us : List Tm} (h : 0 < us.length) : us.getD 0 K7 = us[0] := by rw [List.getD_eq_getElem?_getD, List.getElem?_eq_getElem h, Option.getD_some]
theorem A8K (bx : Nat) : ∀ (e : Tm) (d : Int) (cx : Cx) (l0 : Int) (G : IM) (pc : Option Addr) (nc cc : Nat) (cells : List Value), N5 12 14 e d = true → (nc : Int) ≤ d → Z3 cx → Q4 G cx pc nc cc → A6 G e cells → 0 ≤ l0 → l0 + (D1 e : Int) ≤ 1000000000 →
  Fn Tryz.prog 46 [.pointer (some ⟨bx, 0, none⟩), .slice pc nc cc, .agg ⟨cells⟩] [.blk bx [.int .i64 l0]] G (ElP bx cx e l0) := by
 refine Tm.ind fun k nm num ty fr lb ks ih d cx l0 G pc nc cc cells hv hnd hcv hx hr hl0 hlc => ?_
 have hr0 := hr
 have hone := hr.one
 obtain ⟨hv1, hv2, hv3, hv4⟩ := A0Q hv
 have hvk := (A0O 12 14 ks _).1 hv4
 have har := (U3.1 hv3).1
 have hop := A2D har
 obtain ⟨hta, hts⟩ := A2E hv3
 have hkr : 1 ≤ k ∧ k ≤ 14 := A3s (by rw [har]; omega)
 have hcvX : Z3 (O6 cx k nm ty) := A3o hcv fun hk => (U3.1 hv3).2.2.2.2.2.1 (.inl hk)
 have hck : D1 (.mk k nm num ty fr lb ks) = E7 ks + 1 := Z1 ..
 rw [hck] at hlc
 obtain ⟨tk, tks⟩ := ty
 obtain ⟨fk, fks⟩ := fr
 obtain ⟨pt, ct, pf, cf, q, cq, es, rfl, hk, hnum, hlb, hty, hfr, hsl, hkl⟩ := hr.open9
 have hlen : ks.length ≤ 3 := by have := A1G k; omega
 obtain ⟨hx1, esx, hx2, hx3⟩ := id hx
 have hcl := B2c G pc nc cc esx hx2 (by omega)
 have hcnt0 := A3R ks
 refine B4 Tryz.func46 rfl Tryz.ntmps46 Tryz.results46 rfl ?_
 intro w0
 refine tS (tR ?_)
 refine sE (C1 rfl rfl) rfl (fun b3 => ?_)
 refine sE (A5 rfl) rfl (fun b4 => ?_)
 refine sE (A5 rfl) rfl (fun b5 => ?_)
 refine I8 ?_
 (show K2 _ _ (.seq (.region 2 _ _) (.cond (.tmp 25) _ _)) _ _; refine A3h (fun (x : Option Addr × Nat × Nat × IM) => ⟨[(9, .slice x.1 x.2.1 x.2.2.1), (1, .slice pc nc cc), (0, .pointer (some ⟨bx, 0, none⟩)), (5, .pointer (some ⟨b3, 0, none⟩)), (6, .pointer (some ⟨b4, 0, none⟩)), (7, .pointer (some ⟨b5, 0, none⟩))], [.blk b5 [.int .i64 0, .slice none 0 0], .blk b4 [.int .i64 0, .string ⟨⟨[]⟩⟩, .int .i64 0, .int .i64 0, .slice none 0 0, .int .i64 0, .slice none 0 0, .int .i64 0, .slice none 0 0], .blk b3 [.int .i64 k, .string nm, .int .i64 num, .int .i64 tk, .slice pt tks.length ct, .int .i64 fk, .slice pf fks.length cf, .int .i64 lb, .slice q ks.length cq], .blk bx [.int .i64 l0]], x.2.2.2⟩) (fun x => B7 G x.2.2.2 ∧ Q4 x.2.2.2 (O6 cx k nm (.mk tk tks)) x.1 x.2.1 x.2.2.1 ∧ x.2.1 ≤ nc + 1) ?_ ?_)
 ·refine tS (tR (sQ (B0 rfl) rfl (sL (B9 rfl rfl) rfl rfl ?_)))
  refine sB (qE rfl rfl) rfl rfl (fun h21 => ?_) (fun h21 => ?_)
  ·refine sD (nS (qT rfl ?_))
   refine D5 D6 rfl ?_
   refine J6 (i := 0) (l' := [tt,ff,ff,ff,ff,ff,ff,ff,ff,ff]) rfl D0 (qM rfl) rfl (by kernel_rfl) rfl rfl ?_
   refine aP 2 rfl (B0 rfl) rfl ?_
   refine aL 3 rfl (B9 rfl rfl) rfl ?_
   refine aP 4 rfl (B0 rfl) rfl ?_
   refine aL 5 rfl (A3 rfl rfl) rfl ?_
   refine aP 6 rfl (U1 rfl rfl) rfl ?_
   refine Q0 (j := 1) (j' := 7) (by kernel_rfl) ?_ ?_
   ·(refine A6p rfl rfl hcl rfl rfl rfl (fun v33 G33 outs33 hle33 h33 => ?_); obtain ⟨hG, p1, c1, rfl, rfl⟩ := h33; replace hG := hG.symm; subst hG)
    replace hr := hr.mono hle33
    replace hr0 := hr0.mono hle33
    replace hty := hty.mono hle33
    replace hfr := hfr.mono hle33
    replace hsl := hsl.mono hle33
    replace hkl := hkl.mono hle33
    replace hx2 := hx2.mono hle33
    refine A2 7 ?_
    (refine E3 rfl (D7 rfl rfl rfl (by omega) (by unfold maxLen; omega) rfl) rfl rfl ?_; rintro _ ⟨b35, rfl⟩)
    refine A2 8 ?_
    (refine U2 rfl rfl rfl rfl rfl rfl (fun _ _ => by repeat (first | exact Sw.here | apply Sw.there)) (N8 (by repeat first | exact mH | apply mT)) rfl (by simp [Value.oneCell']) (by unfold maxLen; omega) (by omega) rfl rfl (by repeat (first | exact C6.nil | apply C6.dep (by decide +kernel) | apply C6.blk (by decide +kernel) (by repeat (first | exact Pk.here | apply Pk.there)) (by repeat first | exact mH | apply mT))) (fun p5 c5 => ?_); refine A6k (cs := esx.flatten ++ [.string nm, .int .i64 tk, .slice pt tks.length ct]) (by repeat (first | exact Pk.here | apply Pk.there)) (fun Gf hleF hslF hnoF => ?_); have hxF := Q4.snoc (nm := nm) (t := .mk tk tks) hx1 hx2.len hx2.all hx2.one hx3 hleF ⟨_, _, rfl, hty.mono hleF⟩ hslF)
    refine aP 9 rfl (qA rfl) rfl ?_
    refine C5 ?_
    refine A1n (p5, nc + 1, c5, Gf) (Q1 (by repeat (first | exact I7.nil | refine I7.cons rfl ?_)) (by repeat (first | exact A7.refl | exact A7.nil | refine A7.cons (by repeat (first | exact Pk.here | apply Pk.there)) ?_ | apply A7.drop))) ⟨hleF, by (dsimp only; rw [O6, if_pos (by omega)]; exact hxF), by (dsimp only; omega)⟩
   ·(refine E3 rfl (D7 rfl rfl rfl (by omega) (by unfold maxLen; omega) rfl) rfl rfl ?_; rintro _ ⟨b41, rfl⟩)
    refine A2 1 ?_
    (refine A6p rfl rfl hcl rfl rfl rfl (fun v43 G43 outs43 hle43 h43 => ?_); obtain ⟨hG, p1, c1, rfl, rfl⟩ := h43; replace hG := hG.symm; subst hG)
    replace hr := hr.mono hle43
    replace hr0 := hr0.mono hle43
    replace hty := hty.mono hle43
    replace hfr := hfr.mono hle43
    replace hsl := hsl.mono hle43
    replace hkl := hkl.mono hle43
    replace hx2 := hx2.mono hle43
    refine A2 8 ?_
    (refine U2 rfl rfl rfl rfl rfl rfl (fun _ _ => by repeat (first | exact Sw.here | apply Sw.there)) (N8 (by repeat first | exact mH | apply mT)) rfl (by simp [Value.oneCell']) (by unfold maxLen; omega) (by omega) rfl rfl (by repeat (first | exact C6.nil | apply C6.dep (by decide +kernel) | apply C6.blk (by decide +kernel) (by repeat (first | exact Pk.here | apply Pk.there)) (by repeat first | exact mH | apply mT))) (fun p5 c5 => ?_); refine A6k (cs := esx.flatten ++ [.string nm, .int .i64 tk, .slice pt tks.length ct]) (by repeat (first | exact Pk.here | apply Pk.there)) (fun Gf hleF hslF hnoF => ?_); have hxF := Q4.snoc (nm := nm) (t := .mk tk tks) hx1 hx2.len hx2.all hx2.one hx3 hleF ⟨_, _, rfl, hty.mono hleF⟩ hslF)
    refine aP 9 rfl (qA rfl) rfl ?_
    refine C5 ?_
    refine A1n (p5, nc + 1, c5, Gf) (Q1 (by repeat (first | exact I7.nil | refine I7.cons rfl ?_)) (by repeat (first | exact A7.refl | exact A7.nil | refine A7.cons (by repeat (first | exact Pk.here | apply Pk.there)) ?_ | apply A7.drop))) ⟨hleF, by (dsimp only; rw [O6, if_pos (by omega)]; exact hxF), by (dsimp only; omega)⟩
  ·refine sD (nS (cF rfl (tK ?_)))
   refine A1n (pc, nc, cc, G) (Q1 (by repeat (first | exact I7.nil | refine I7.cons rfl ?_)) (by repeat (first | exact A7.refl | exact A7.nil | refine A7.cons (by repeat (first | exact Pk.here | apply Pk.there)) ?_ | apply A7.drop))) ⟨B7.refl _, by (dsimp only; rw [O6, if_neg (by omega)]; exact hx), by (dsimp only; omega)⟩
 ·(rintro ⟨p6, n6, c6, Gx⟩ ⟨hleX, hxX, hn6⟩; simp only [] at hleX hxX hn6 ⊢; replace hsl := hsl.mono hleX; replace hkl := hkl.mono hleX; replace hx := hx.mono hleX; replace hr0 := hr0.mono hleX; replace hty := hty.mono hleX; replace hfr := hfr.mono hleX)
  refine tS (tR (sL (A3 rfl rfl) rfl rfl ?_))
  refine sE (A5 rfl) rfl (fun b58 => ?_)
  refine A0Y ?_
  refine B3 ?_
  (refine S2 28 9 ?_; refine S2 25 2 ?_; refine I1 (fun (x : Nat × (Option Addr × Nat × List Tm × List (List Value)) × (Option Addr × Nat × List Ty × List (List Value)) × Int × IM) => ⟨[(40, .int .i64 x.1), (39, .int .i64 ks.length), (38, .slice q ks.length cq), (11, .slice x.2.2.1.1 x.1 x.2.2.1.2.1), (9, .slice p6 n6 c6), (1, .slice pc nc cc), (0, .pointer (some ⟨bx, 0, none⟩)), (5, .pointer (some ⟨b3, 0, none⟩)), (6, .pointer (some ⟨b4, 0, none⟩)), (7, .pointer (some ⟨b5, 0, none⟩)), (10, .pointer (some ⟨b58, 0, none⟩))], [.blk b58 [.int .i64 k, .string nm, .int .i64 num, .int .i64 tk, .slice pt tks.length ct, .int .i64 fk, .slice pf fks.length cf, .int .i64 lb, .slice x.2.1.1 x.1 x.2.1.2.1], .slc x.2.1.1 x.2.1.2.1 28 9 x.1 x.2.1.2.2.2.flatten, .slc x.2.2.1.1 x.2.2.1.2.1 25 2 x.1 x.2.2.1.2.2.2.flatten, .blk b5 [.int .i64 0, .slice none 0 0], .blk b4 [.int .i64 0, .string ⟨⟨[]⟩⟩, .int .i64 0, .int .i64 0, .slice none 0 0, .int .i64 0, .slice none 0 0, .int .i64 0, .slice none 0 0], .blk b3 [.int .i64 k, .string nm, .int .i64 num, .int .i64 tk, .slice pt tks.length ct, .int .i64 fk, .slice pf fks.length cf, .int .i64 lb, .slice q ks.length cq], .blk bx [.int .i64 x.2.2.2.1]], x.2.2.2.2⟩) (fun x => x.1 ≤ ks.length ∧ B7 Gx x.2.2.2.2 ∧ x.2.1.2.2.1.length = x.1 ∧ C7 x.2.2.2.2 x.2.1.2.2.1 x.2.1.2.2.2 ∧ x.2.2.1.2.2.1.length = x.1 ∧ C2 x.2.2.2.2 x.2.2.1.2.2.1 x.2.2.1.2.2.2 ∧ (∀ t ∈ x.2.2.1.2.2.1, E6 t) ∧ M5 (O6 cx k nm (.mk tk tks)) (ks.take x.1) l0 = some (x.2.1.2.2.1, x.2.2.1.2.2.1, x.2.2.2.1) ∧ l0 ≤ x.2.2.2.1 ∧ x.2.2.2.1 + x.1 ≤ l0 + (E7 (ks.take x.1) : Int)) (fun x => ks.length - x.1) (0, (none, 0, [], []), (none, 0, [], []), l0, Gx) ?_ ?_ ?_)
  ·(simp only [List.take_zero, A0v]; exact (Q1 (by repeat (first | exact I7.nil | refine I7.cons rfl ?_)) (by repeat (first | exact A7.refl | exact A7.nil | refine A7.cons (by repeat (first | exact Pk.here | apply Pk.there)) ?_ | apply A7.drop))))
  ·(exact ⟨by simp, B7.refl _, rfl, by simp [C7], rfl, by simp [C2], by simp, by simp [M5], Int.le_refl _, by simp [E7]⟩)
  ·(rintro ⟨i, ⟨pn, cn, us, es'⟩, ⟨pm, cm, ts, ess⟩, l, Gi⟩ ⟨hi, hle, hlu, hst, hlt, hstt, hat, hml, hl1, hl2⟩; simp only [] at hi hle hlu hst hlt hstt hat hml hl1 hl2 ⊢; replace hty := hty.mono hle; replace hfr := hfr.mono hle; replace hsl := hsl.mono hle; replace hkl := hkl.mono hle; replace hr0 := hr0.mono hle; replace hx := hx.mono hle; replace hxX := hxX.mono hle)
   refine tS (tR ?_)
   refine sB (I2 rfl rfl) rfl rfl (fun h89 => ?_) (fun h89 => ?_)
   ·refine sD (nS (tS (qT rfl (tK (nS (tS ?_))))))
    refine B3 ?_
    refine tS (tR ?_)
    (obtain ⟨b, o, e, rfl, hl, hate, hre, hgb⟩ := hsl.kidTm hkl (i := i) (by omega) (by omega); have hon := hre.one; have hsc := A0t (ks := ks) (i := i) (by omega); have hsk := A0s (ks := ks) (i := i) (by omega); refine sP (A8 rfl rfl rfl (by omega)) rfl rfl ?_)
    refine sL (A0 rfl rfl (hate _) hl) rfl rfl ?_
    refine sE (A5 rfl) rfl (fun b102 => ?_)
    refine sS rfl rfl rfl hl hon rfl ?_ (hu := by exact D4 hl.symm)
    refine sD (nS (tS (tR (sQ (qM rfl) rfl (sQ (qM rfl) rfl ?_)))))
    refine sL (A0 rfl rfl (A9 (by repeat first | exact mH | apply mT)) hl) rfl rfl ?_
    (refine A1F rfl (ih ks[i] (List.getElem_mem (by omega)) (d + 1) _ l Gi p6 n6 c6 _ (hvk i (by omega)) (by omega) hcvX hxX hre (by omega) (by omega)) (Pk.perm (by repeat (first | exact Pk.here | apply Pk.there))) rfl rfl (fun v G3 outs hle3 hh => ?_); obtain ⟨u, uc, t, tc, l3, rfl, rfl, hru, hrt, hl3, hl4, hu⟩ := hh; obtain ⟨v1, v2, v3, v4, v5, v6, v7, v8, v9, rfl⟩ := T8 hru.len; obtain ⟨p3, c3, e3, rfl, _⟩ := hrt.open; have hlu9 := hru.len; have hou9 := hru.one; rcases hE : M7 (O6 cx k nm (Ty.mk tk tks)) ks[i] l with _ | ⟨u2, t2, l2⟩; rotate_left; have hue := hu _ hE; simp only [Prod.mk.injEq] at hue; obtain ⟨rfl, rfl, rfl⟩ := hue; rotate_left)
    ·refine H8 ?_
     refine sE (A5 rfl) rfl (fun b116 => ?_)
     refine sE (A5 rfl) rfl (fun b117 => ?_)
     refine sS rfl rfl rfl hlu9 hou9 rfl ?_ (hu := by exact D4 hlu9.symm)
     refine A6o ?_
     refine A2i (outs := [.blk bx [.int .i64 _]]) (rC rfl (A3 rfl rfl)) (rC rfl (A3 rfl rfl)) (rT rfl) (A7.cons (by repeat (first | exact Pk.here | apply Pk.there)) A7.nil) ?_
     (exact ElP.no (B23 (A5o (by omega) hml hE)) (M1 _) (O4 _ ⟨by omega, by omega⟩) (by omega) (by rw [hck]; omega))
    ·refine H8 ?_
     refine sE (A5 rfl) rfl (fun b153 => ?_)
     refine sE (A5 rfl) rfl (fun b154 => ?_)
     refine sS rfl rfl rfl hlu9 hou9 rfl ?_ (hu := by exact D4 hlu9.symm)
     refine L5 ?_
     refine D5 D6 rfl ?_
     refine J6 (i := 0) (l' := [tt,ff,ff,ff,ff,ff,ff,ff,ff,ff,ff,ff]) rfl D0 (B0 rfl) rfl (by kernel_rfl) rfl rfl ?_
     refine aL 1 rfl (B9 rfl rfl) rfl ?_
     refine aL 2 rfl (A3 rfl rfl) rfl ?_
     refine aP 5 rfl (qM rfl) rfl ?_
     refine aL 6 rfl (A3 rfl rfl) rfl ?_
     refine Q0 (j := 3) (j' := 7) (by kernel_rfl) ?_ ?_
     ·(refine E3 rfl (D7 rfl rfl rfl (by omega) (by unfold maxLen; omega) rfl) rfl rfl ?_; rintro _ ⟨b177, rfl⟩)
      refine Q0 (j := 4) (j' := 7) (by kernel_rfl) ?_ ?_
      ·(refine U2 rfl rfl rfl rfl rfl rfl (fun _ _ => by repeat (first | exact Sw.here | apply Sw.there)) (N8 (by repeat first | exact mH | apply mT)) rfl (fun u hu => List.all_eq_true.1 hou9 u hu) (by unfold maxLen; omega) (by omega) rfl rfl (by repeat (first | exact C6.nil | apply C6.dep (by decide +kernel) | apply C6.im (by decide +kernel) (by assumption) (by repeat first | exact mH | apply mT) | apply C6.blk (by decide +kernel) (by repeat (first | exact Pk.here | apply Pk.there)) (by repeat first | exact mH | apply mT) | apply C6.slc (by decide +kernel) (by repeat (first | exact Pk.here | apply Pk.there)) (by repeat first | exact mH | apply mT))) (fun pn' cn' => ?_))
       refine aP 9 rfl (B0 rfl) rfl ?_
       refine A2 7 ?_
       (refine E3 rfl (D7 rfl rfl rfl (by omega) (by unfold maxLen; omega) rfl) rfl rfl ?_; rintro _ ⟨b182, rfl⟩)
       refine A2 8 ?_
       (refine U2 rfl rfl rfl rfl rfl rfl (fun _ _ => by repeat (first | exact Sw.here | apply Sw.there)) (N8 (by repeat first | exact mH | apply mT)) rfl (by simp [Value.oneCell']) (by unfold maxLen; omega) (by omega) rfl rfl (by repeat (first | exact C6.nil | apply C6.dep (by decide +kernel) | apply C6.im (by decide +kernel) (by assumption) (by repeat first | exact mH | apply mT) | apply C6.blk (by decide +kernel) (by repeat (first | exact Pk.here | apply Pk.there)) (by repeat first | exact mH | apply mT) | apply C6.slc (by decide +kernel) (by repeat (first | exact Pk.here | apply Pk.there)) (by repeat first | exact mH | apply mT))) (fun pm' cm' => ?_))
       refine A2 10 ?_
       refine oS rfl rfl rfl rfl rfl rfl rfl rfl ?_
       refine aP 11 rfl (qA rfl) rfl ?_
       refine C5 (P4 (nS (tR ?_)))
       refine sP (E8 rfl rfl (by omega) (by omega)) rfl rfl ?_
       refine sQ (qM rfl) rfl (sD ?_)
       refine I4 (i + 1, (pn', cn', us ++ [u2], es' ++ [[v1, v2, v3, v4, v5, v6, v7, v8, v9]]), (pm', cm', ts ++ [t2], ess ++ [[.int .i64 t2.k, .slice p3 t2.ks.length c3]]), l2, G3) ?_ ?_ ?_
       ·(simp only [H5]; exact C9)
       ·(dsimp only; exact ⟨by omega, hle.trans hle3, by simp [hlu], C7.snoc (hst.mono hle3) hru, by simp [hlt], C2.snoc (hstt.mono hle3) hrt, A33 hat (A1L ((A2N ks[i] (d + 1) _ l (hvk i (by omega)) hcvX).1 _ _ _ hE).2), A3p (by omega) hml hE, by omega, by omega⟩)
       ·(show ks.length - (i + 1) < ks.length - i; omega)
      ·(refine E3 rfl (D7 rfl rfl rfl (by omega) (by unfold maxLen; omega) rfl) rfl rfl ?_; rintro _ ⟨b199, rfl⟩)
       refine A2 4 ?_
       (refine U2 rfl rfl rfl rfl rfl rfl (fun _ _ => by repeat (first | exact Sw.here | apply Sw.there)) (N8 (by repeat first | exact mH | apply mT)) rfl (fun u hu => List.all_eq_true.1 hou9 u hu) (by unfold maxLen; omega) (by omega) rfl rfl (by repeat (first | exact C6.nil | apply C6.dep (by decide +kernel) | apply C6.im (by decide +kernel) (by assumption) (by repeat first | exact mH | apply mT) | apply C6.blk (by decide +kernel) (by repeat (first | exact Pk.here | apply Pk.there)) (by repeat first | exact mH | apply mT) | apply C6.slc (by decide +kernel) (by repeat (first | exact Pk.here | apply Pk.there)) (by repeat first | exact mH | apply mT))) (fun pn' cn' => ?_))
       refine aP 9 rfl (B0 rfl) rfl ?_
       refine A2 8 ?_
       (refine U2 rfl rfl rfl rfl rfl rfl (fun _ _ => by repeat (first | exact Sw.here | apply Sw.there)) (N8 (by repeat first | exact mH | apply mT)) rfl (by simp [Value.oneCell']) (by unfold maxLen; omega) (by omega) rfl rfl (by repeat (first | exact C6.nil | apply C6.dep (by decide +kernel) | apply C6.im (by decide +kernel) (by assumption) (by repeat first | exact mH | apply mT) | apply C6.blk (by decide +kernel) (by repeat (first | exact Pk.here | apply Pk.there)) (by repeat first | exact mH | apply mT) | apply C6.slc (by decide +kernel) (by repeat (first | exact Pk.here | apply Pk.there)) (by repeat first | exact mH | apply mT))) (fun pm' cm' => ?_))
       refine A2 10 ?_
       refine oS rfl rfl rfl rfl rfl rfl rfl rfl ?_
       refine aP 11 rfl (qA rfl) rfl ?_
       refine C5 (P4 (nS (tR ?_)))
       refine sP (E8 rfl rfl (by omega) (by omega)) rfl rfl ?_
       refine sQ (qM rfl) rfl (sD ?_)
       refine I4 (i + 1, (pn', cn', us ++ [u2], es' ++ [[v1, v2, v3, v4, v5, v6, v7, v8, v9]]), (pm', cm', ts ++ [t2], ess ++ [[.int .i64 t2.k, .slice p3 t2.ks.length c3]]), l2, G3) ?_ ?_ ?_
       ·(simp only [H5]; exact C9)
       ·(dsimp only; exact ⟨by omega, hle.trans hle3, by simp [hlu], C7.snoc (hst.mono hle3) hru, by simp [hlt], C2.snoc (hstt.mono hle3) hrt, A33 hat (A1L ((A2N ks[i] (d + 1) _ l (hvk i (by omega)) hcvX).1 _ _ _ hE).2), A3p (by omega) hml hE, by omega, by omega⟩)
       ·(show ks.length - (i + 1) < ks.length - i; omega)
     ·(refine E3 rfl (D7 rfl rfl rfl (by omega) (by unfold maxLen; omega) rfl) rfl rfl ?_; rintro _ ⟨b219, rfl⟩)
      refine A2 3 ?_
      (refine E3 rfl (D7 rfl rfl rfl (by omega) (by unfold maxLen; omega) rfl) rfl rfl ?_; rintro _ ⟨b221, rfl⟩)
      refine A2 4 ?_
      (refine U2 rfl rfl rfl rfl rfl rfl (fun _ _ => by repeat (first | exact Sw.here | apply Sw.there)) (N8 (by repeat first | exact mH | apply mT)) rfl (fun u hu => List.all_eq_true.1 hou9 u hu) (by unfold maxLen; omega) (by omega) rfl rfl (by repeat (first | exact C6.nil | apply C6.dep (by decide +kernel) | apply C6.im (by decide +kernel) (by assumption) (by repeat first | exact mH | apply mT) | apply C6.blk (by decide +kernel) (by repeat (first | exact Pk.here | apply Pk.there)) (by repeat first | exact mH | apply mT) | apply C6.slc (by decide +kernel) (by repeat (first | exact Pk.here | apply Pk.there)) (by repeat first | exact mH | apply mT))) (fun pn' cn' => ?_))
      refine aP 9 rfl (B0 rfl) rfl ?_
      refine A2 8 ?_
      (refine U2 rfl rfl rfl rfl rfl rfl (fun _ _ => by repeat (first | exact Sw.here | apply Sw.there)) (N8 (by repeat first | exact mH | apply mT)) rfl (by simp [Value.oneCell']) (by unfold maxLen; omega) (by omega) rfl rfl (by repeat (first | exact C6.nil | apply C6.dep (by decide +kernel) | apply C6.im (by decide +kernel) (by assumption) (by repeat first | exact mH | apply mT) | apply C6.blk (by decide +kernel) (by repeat (first | exact Pk.here | apply Pk.there)) (by repeat first | exact mH | apply mT) | apply C6.slc (by decide +kernel) (by repeat (first | exact Pk.here | apply Pk.there)) (by repeat first | exact mH | apply mT))) (fun pm' cm' => ?_))
      refine A2 10 ?_
      refine oS rfl rfl rfl rfl rfl rfl rfl rfl ?_
      refine aP 11 rfl (qA rfl) rfl ?_
      refine C5 (P4 (nS (tR ?_)))
      refine sP (E8 rfl rfl (by omega) (by omega)) rfl rfl ?_
      refine sQ (qM rfl) rfl (sD ?_)
      refine I4 (i + 1, (pn', cn', us ++ [u2], es' ++ [[v1, v2, v3, v4, v5, v6, v7, v8, v9]]), (pm', cm', ts ++ [t2], ess ++ [[.int .i64 t2.k, .slice p3 t2.ks.length c3]]), l2, G3) ?_ ?_ ?_
      ·(simp only [H5]; exact C9)
      ·(dsimp only; exact ⟨by omega, hle.trans hle3, by simp [hlu], C7.snoc (hst.mono hle3) hru, by simp [hlt], C2.snoc (hstt.mono hle3) hrt, A33 hat (A1L ((A2N ks[i] (d + 1) _ l (hvk i (by omega)) hcvX).1 _ _ _ hE).2), A3p (by omega) hml hE, by omega, by omega⟩)
      ·(show ks.length - (i + 1) < ks.length - i; omega)
   ·refine L5 ?_
    (obtain rfl : i = ks.length := (by omega); have hk14 : k ≠ 14 := hv2; rw [List.take_length] at hml hl2; refine A1X (cs := ess.flatten) (by repeat (first | exact Pk.here | apply Pk.there)) (fun G3 hle3 hsl3 hno3 => ?_); have hst3 := hstt.mono hle3; have hslU : C4 G3 pm ks.length cm 2 ess := C4.of hsl3 (by rw [hst3.len, hlt]) hst3.all (fun e he => (hst3.each e he).2); refine D2 rfl (B2a cx k nm num (.mk tk tks) (.mk fk fks) lb ks ts G3 pc nc cc _ pm ks.length cm ess (hx.mono hle3) har hlt.symm hk14 hta (hr0.mono hle3) hslU hst3 hat) rfl rfl (fun v G4 hle4 hh => ?_); obtain ⟨pw, nw, cw, ew, w, wc, wt, rfl, hnw, hslw, hstw, hrt, hw⟩ := hh; obtain ⟨p3, c3, e3, rfl, _⟩ := hrt.open; replace hst3 := hst3.mono hle4; replace hslU := hslU.mono hle4; have hle34 := hle3.trans hle4; replace hst := hst.mono hle34; replace hty := hty.mono hle34; replace hfr := hfr.mono hle34; rcases hmw : O0 cx k nm (Ty.mk tk tks) ts with _ | ⟨w2, t2⟩; rotate_left; have hwe := hw _ hmw; simp only [Prod.mk.injEq] at hwe; obtain ⟨rfl, rfl⟩ := hwe; have hwl := B2b (by rw [hlt]; exact hop) hkr hk14 hmw; have hcl2 := A04 us ts w2 l; rcases Nat.eq_zero_or_pos ks.length with h0 | h0; rotate_left; rotate_left)
    ·refine H8 ?_
     refine sE (A5 rfl) rfl (fun b260 => ?_)
     refine A6n ?_
     (refine H7 (cs := es'.flatten) (by repeat (first | exact Pk.here | apply Pk.there)) (fun G8 hle8 hsl8 hno8 => ?_); have hst8 := hst.mono hle8)
     refine tT (rS ?_)
     refine A2i (outs := [.blk bx [.int .i64 _]]) (rC rfl (A3 rfl rfl)) (rC rfl (A3 rfl rfl)) (rT rfl) (A7.cons (by repeat (first | exact Pk.here | apply Pk.there)) A7.nil) ?_
     (exact ElP.no (A5E hml (B2d hmw)) (M1 _) (O4 _ ⟨by omega, by omega⟩) (by omega) (by rw [hck]; omega))
    ·refine H8 ?_
     refine sE (A5 rfl) rfl (fun b297 => ?_)
     refine J9 ?_
     refine F0 rfl ((A3b _ _ _ hrt)) rfl rfl (fun h310 => ?_) (fun h310 => ?_)
     ·refine H3 ?_
      refine B3 ?_
      (have h0' : ks.length = 0 := h0; refine I1 (fun (_ : Nat) => ⟨[(86, .int .i64 0), (85, .int .i64 nw), (84, .slice pw nw cw), (11, .slice pm ks.length cm), (1, .slice pc nc cc), (0, .pointer (some ⟨bx, 0, none⟩)), (5, .pointer (some ⟨b3, 0, none⟩)), (6, .pointer (some ⟨b4, 0, none⟩)), (7, .pointer (some ⟨b5, 0, none⟩)), (10, .pointer (some ⟨b58, 0, none⟩)), (18, .pointer (some ⟨b297, 0, none⟩))], [.blk b297 [.int .i64 t2.k, .slice p3 t2.ks.length c3], .blk b58 [.int .i64 k, .string nm, .int .i64 num, .int .i64 tk, .slice pt tks.length ct, .int .i64 fk, .slice pf fks.length cf, .int .i64 lb, .slice pn ks.length cn], .slc pn cn 28 9 ks.length es'.flatten, .blk b5 [.int .i64 0, .slice none 0 0], .blk b4 [.int .i64 0, .string ⟨⟨[]⟩⟩, .int .i64 0, .int .i64 0, .slice none 0 0, .int .i64 0, .slice none 0 0, .int .i64 0, .slice none 0 0], .blk b3 [.int .i64 k, .string nm, .int .i64 num, .int .i64 tk, .slice pt tks.length ct, .int .i64 fk, .slice pf fks.length cf, .int .i64 lb, .slice q ks.length cq], .blk bx [.int .i64 l]], G4⟩) (fun _ => True) (fun i => i) 0 ?_ ?_ ?_)
      ·exact C9
      ·trivial
      ·(rintro (i0 : Nat) _)
       refine tS (tR ?_)
       refine sP (V1 rfl rfl (by omega)) rfl rfl ?_
       refine L5 ?_
       refine sP (I6 rfl rfl (by omega)) rfl rfl ?_
       refine sD (nS (cF rfl (tK (nS (tS ?_)))))
       refine D5 D6 rfl ?_
       refine L3 (i := 0) (l' := [tt,ff,ff,ff,ff]) rfl D0 (A3 rfl rfl) rfl (by kernel_rfl) rfl rfl ?_
       refine aL 1 rfl (A3 rfl rfl) rfl ?_
       refine A2 2 ?_
       refine oS rfl rfl rfl rfl rfl rfl rfl rfl ?_
       refine A2 3 ?_
       refine oS rfl rfl rfl rfl rfl rfl rfl rfl ?_
       refine aP 4 rfl (qA rfl) rfl ?_
       refine C5 (nS ?_)
       (refine H7 (cs := es'.flatten) (by repeat (first | exact Pk.here | apply Pk.there)) (fun G8 hle8 hsl8 hno8 => ?_); have hst8 := hst.mono hle8)
       refine tT ?_
       refine A2i (outs := [.blk bx [.int .i64 _]]) (rC rfl (A3 rfl rfl)) (rC rfl (A3 rfl rfl)) (rT rfl) (A7.cons (by repeat (first | exact Pk.here | apply Pk.there)) A7.nil) ?_
       (obtain rfl : w2 = [] := List.length_eq_zero_iff.1 (by omega); have hne : k ≠ 13 := (fun h => by have := hop.2.2 (.inr (.inr (.inr h))); omega); have hel := A8I (num := num) (fr := .mk fk fks) (lb := lb) hml (A3m hmw (b := true) (by assumption)) hne; rw [A0v] at hel; exact ElP.yes hel (A6.put hk hnum hlb (hty.mono hle8) (hfr.mono hle8) (by rw [hlu]) (C4.of hsl8 (by rw [hst8.len, hlu]) hst8.all (fun e he => (hst8.each e he).2)) hst8) (hrt.mono hle8) (by omega) (by rw [hck]; omega))
     ·refine L5 ?_
      (refine H7 (cs := es'.flatten) (by repeat (first | exact Pk.here | apply Pk.there)) (fun G8 hle8 hsl8 hno8 => ?_); have hst8 := hst.mono hle8)
      refine tT (rS ?_)
      refine A2i (outs := [.blk bx [.int .i64 _]]) (rC rfl (A3 rfl rfl)) (rC rfl (A3 rfl rfl)) (rT rfl) (A7.cons (by repeat (first | exact Pk.here | apply Pk.there)) A7.nil) ?_
      (exact ElP.no (A5E hml (A3m hmw (b := false) (by assumption))) (M1 _) (O4 _ ⟨by omega, by omega⟩) (by omega) (by rw [hck]; omega))
    ·(refine A3j (cs := es'.flatten) (by repeat (first | exact Pk.here | apply Pk.there)) h0 (fun bc C hpe hnc hcm => ?_); subst hpe; refine sQ (qM rfl) rfl ?_)
     refine J2 ?_
     refine sE (A5 rfl) rfl (fun b392 => ?_)
     refine J9 ?_
     refine F0 rfl ((A3b _ _ _ hrt)) rfl rfl (fun h405 => ?_) (fun h405 => ?_)
     ·refine H3 ?_
      refine B3 ?_
      (have h0' := h0; refine I1 (fun (x : Nat × List (List Value) × IM) => ⟨[(86, .int .i64 x.1), (85, .int .i64 nw), (84, .slice pw nw cw), (11, .slice pm ks.length cm), (1, .slice pc nc cc), (0, .pointer (some ⟨bx, 0, none⟩)), (5, .pointer (some ⟨b3, 0, none⟩)), (6, .pointer (some ⟨b4, 0, none⟩)), (7, .pointer (some ⟨b5, 0, none⟩)), (10, .pointer (some ⟨b58, 0, none⟩)), (18, .pointer (some ⟨b392, 0, none⟩))], [.blk b392 [.int .i64 t2.k, .slice p3 t2.ks.length c3], .blk b58 [.int .i64 k, .string nm, .int .i64 num, .int .i64 tk, .slice pt tks.length ct, .int .i64 fk, .slice pf fks.length cf, .int .i64 lb, .slice (some ⟨bc, 0, none⟩) ks.length cn], .blk bc (x.2.1.flatten ++ C), .blk b5 [.int .i64 0, .slice none 0 0], .blk b4 [.int .i64 0, .string ⟨⟨[]⟩⟩, .int .i64 0, .int .i64 0, .slice none 0 0, .int .i64 0, .slice none 0 0, .int .i64 0, .slice none 0 0], .blk b3 [.int .i64 k, .string nm, .int .i64 num, .int .i64 tk, .slice pt tks.length ct, .int .i64 fk, .slice pf fks.length cf, .int .i64 lb, .slice q ks.length cq], .blk bx [.int .i64 (I0 us ts (w2.take x.1) l).2]], x.2.2⟩) (fun x => x.1 ≤ nw ∧ B7 G4 x.2.2 ∧ C7 x.2.2 (I0 us ts (w2.take x.1) l).1 x.2.1) (fun x => nw - x.1) (0, es', G4) ?_ ?_ ?_)
      ·(simp only [List.take_zero, A0v]; exact (Q1 (by repeat (first | exact I7.nil | refine I7.cons rfl ?_)) (by repeat (first | exact A7.refl | exact A7.nil | refine A7.cons (by repeat (first | exact Pk.here | apply Pk.there)) ?_ | apply A7.drop))))
      ·(exact ⟨Nat.zero_le _, B7.refl _, by simp only [List.take_zero, A0v]; exact hst⟩)
      ·(rintro ⟨j, es2, G6⟩ ⟨hj, hle6, hst2⟩; simp only [] at hj hle6 hst2 ⊢; replace hslw := hslw.mono hle6; replace hstw := hstw.mono hle6; replace hslU := hslU.mono hle6; replace hst3 := hst3.mono hle6; replace hty := hty.mono hle6; replace hfr := hfr.mono hle6; replace hrt := hrt.mono hle6; have hall2 := hst2.all; have hle2s := hst2.len; rw [A1q] at hle2s)
       refine tS (tR ?_)
       refine sB (I2 rfl rfl) rfl rfl (fun h428 => ?_) (fun h428 => ?_)
       ·refine sD (nS (tS (qT rfl (tK (nS (tS ?_))))))
        refine B3 ?_
        refine tS (tR (sQ (qM rfl) rfl ?_))
        (have hjw : j < w2.length := (by omega); obtain ⟨b5w, o5w, q5, d5, hp5, hat, hrw, hgb⟩ := hslw.kidTy hstw (i := j) (by omega) (by omega); cases hp5; refine sP (A8 rfl rfl rfl (by omega)) rfl rfl ?_)
        refine sL (A0 rfl rfl (hat _) rfl) rfl rfl ?_
        refine sE (A5 rfl) rfl (fun b442 => ?_)
        refine sQ (qA rfl) rfl (J7 ?_)
        refine sD (nS ?_)
        (have hjw2 := hjw; obtain ⟨b0, o0, q0, d0, hp0, hat0, hre0, hg0⟩ := hslU.kidTy hst3 (i := j) (by omega) (by omega); cases hp0; obtain ⟨m1, m2, _⟩ := A3q us ts w2 l j hjw (by omega) (by omega); obtain ⟨m3, m4⟩ := A75 (us := us) (h := ts) (w := w2) (l := l) hjw (by omega) (by omega); obtain ⟨hE1, hE2⟩ := hst2.at2 (i := j) (by omega) (by omega); rw [m2] at hE2; have hE3 := hE2.len; have hE4 := hE2.one; have hcj := A04 us ts (w2.take j) l; refine D5 D6 rfl ?_)
        refine J6 (i := 0) (l' := [tt,ff,ff,ff,ff,ff,ff,ff,ff,ff,ff,ff,ff,ff,ff,ff,ff]) rfl D0 (B0 rfl) rfl (by kernel_rfl) rfl rfl ?_
        refine aL 1 rfl (B9 rfl rfl) rfl ?_
        refine aP 2 rfl (qM rfl) rfl ?_
        refine aP 3 rfl (qM rfl) rfl ?_
        refine aP 4 rfl (B0 rfl) rfl ?_
        refine aL 5 rfl (B9 rfl rfl) rfl ?_
        refine aP 6 rfl (qM rfl) rfl ?_
        refine aP 7 rfl (A8 (j := j) rfl rfl rfl (by omega)) rfl ?_
        refine aL 8 rfl (A0 rfl rfl (A35 (es := es2) (by repeat first | exact mH | apply mT) (by omega) hall2) hE3) rfl ?_
        refine aP 9 rfl (qM rfl) rfl ?_
        refine aP 10 rfl (qM rfl) rfl ?_
        refine aP 11 rfl (A8 (j := j) rfl rfl rfl (by omega)) rfl ?_
        refine aL 12 rfl (A0 rfl rfl (hat0 _) rfl) rfl ?_
        refine aL 13 rfl (A3 rfl rfl) rfl ?_
        refine A2 14 ?_
        (refine B1y (l' := [tt,tt,tt,tt,tt,tt,tt,tt,tt,tt,tt,tt,tt,tt,tt,ff,ff]) rfl rfl (B22 bx us[j] ts[j] w2[j] (I0 us ts (w2.take j) l).2 G6 _ _ _ (by omega) hE2 hre0 hrw) (Pk.perm (by repeat (first | exact Pk.here | apply Pk.there))) rfl rfl rfl (by repeat (first | exact C6.nil | apply C6.dep (by decide +kernel) | apply C6.im (by decide +kernel) (by assumption) (by repeat first | exact mH | apply mT) | apply C6.blk (by decide +kernel) (by repeat (first | exact Pk.here | apply Pk.there)) (by repeat first | exact mH | apply mT) | apply C6.slc (by decide +kernel) (by repeat (first | exact Pk.here | apply Pk.there)) (by repeat first | exact mH | apply mT))) (fun v G7 outs hle7 hh => ?_); obtain ⟨uc, rfl, rfl, hru⟩ := hh; rw [← m4]; have hlu9 := hru.len; have hou9 := hru.one)
        refine aP 15 rfl (A8 (j := j) rfl rfl rfl (by omega)) rfl ?_
        refine A2 16 ?_
        refine Y2 rfl rfl rfl rfl hlu9 hou9 rfl rfl (by kernel_rfl) (by repeat first | exact Sw.here | apply Sw.there) (by exact A3k (by omega) hall2 hlu9) ?_
        refine C5 (P4 (nS (tR ?_)))
        refine sP (E8 rfl rfl (by omega) (by omega)) rfl rfl ?_
        refine sQ (qM rfl) rfl (sD ?_)
        refine I4 (j + 1, es2.set j uc, G7) ?_ ?_ ?_
        ·(simp only [List.take_zero, A0v]; exact (Q1 (by repeat (first | exact I7.nil | refine I7.cons rfl ?_)) (by repeat (first | exact A7.refl | exact A7.nil | refine A7.cons (by repeat (first | exact Pk.here | apply Pk.there)) ?_ | apply A7.drop))))
        ·(dsimp only; exact ⟨by omega, hle6.trans hle7, by rw [m3]; exact C7.set (hst2.mono hle7) hru⟩)
        ·(show nw - (j + 1) < nw - j; omega)
       ·refine L5 ?_
        refine sB (qE rfl rfl) rfl rfl (fun h492 => ?_) (fun h492 => ?_)
        ·refine sD (nS (qT rfl (tS ?_)))
         (have hq13 : k = 13 := (by omega); have hl13 := hop.2.2 (.inr (.inr (.inr hq13))); have hjw : j = w2.length := (by omega); rw [hjw, List.take_length] at hst2; have hm0 := A1q us ts w2 l; obtain ⟨hE1, hE2⟩ := hst2.at2 (i := 0) (by omega) (by omega); have hE3 := hE2.len; have hE4 := hE2.one; refine D5 D6 rfl ?_)
         refine J6 (i := 0) (l' := [tt,ff,ff,ff,ff,ff,ff,ff]) rfl D0 (B0 rfl) rfl (by kernel_rfl) rfl rfl ?_
         refine aL 1 rfl (B9 rfl rfl) rfl ?_
         refine aP 2 rfl (A8 (j := 0) rfl rfl rfl (by omega)) rfl ?_
         refine aL 3 rfl (A0 rfl rfl (A35 (es := es2) (by repeat first | exact mH | apply mT) (by omega) hall2) hE3) rfl ?_
         refine aL 4 rfl (A3 rfl rfl) rfl ?_
         refine A2 5 ?_
         refine oS rfl rfl rfl rfl hE3 hE4 rfl rfl ?_ (hu := by exact D4 hE3.symm)
         refine A2 6 ?_
         refine oS rfl rfl rfl rfl rfl rfl rfl rfl ?_
         refine aP 7 rfl (qA rfl) rfl ?_
         refine C5 (nS ?_)
         (refine A1d (bs := [(bc, es2.flatten ++ C)]) (Pk.perm (by repeat (first | exact Pk.here | apply Pk.there))) (fun hn9 hd9 hle9 => ?_))
         refine tT (rS ?_)
         refine A2i (outs := [.blk bx [.int .i64 _]]) (rC rfl (A0 rfl rfl (A9 (by repeat first | exact mH | apply mT)) hE3)) (rC rfl (A3 rfl rfl)) (rT rfl) (A7.cons (by repeat (first | exact Pk.here | apply Pk.there)) A7.nil) ?_
         (have hel := B24 (num := num) (fr := .mk fk fks) (lb := lb) hml (A3m hmw (b := true) (by assumption)) hq13; rw [A8J (by omega)] at hel; rw [hjw, List.take_length]; exact ElP.yes hel (hE2.mono hle9) (hrt.mono hle9) (by omega) (by rw [hck]; omega))
        ·refine sD (nS (cF rfl (tK (nS (tS ?_)))))
         refine D5 D6 rfl ?_
         refine L3 (i := 0) (l' := [tt,ff,ff,ff,ff]) rfl D0 (A3 rfl rfl) rfl (by kernel_rfl) rfl rfl ?_
         refine aL 1 rfl (A3 rfl rfl) rfl ?_
         refine A2 2 ?_
         refine oS rfl rfl rfl rfl rfl rfl rfl rfl ?_
         refine A2 3 ?_
         refine oS rfl rfl rfl rfl rfl rfl rfl rfl ?_
         refine aP 4 rfl (qA rfl) rfl ?_
         refine C5 (nS ?_)
         (refine A1d (bs := [(bc, es2.flatten ++ C)]) (Pk.perm (by repeat (first | exact Pk.here | apply Pk.there))) (fun hn9 hd9 hle9 => ?_))
         refine tT ?_
         refine A2i (outs := [.blk bx [.int .i64 _]]) (rC rfl (A3 rfl rfl)) (rC rfl (A3 rfl rfl)) (rT rfl) (A7.cons (by repeat (first | exact Pk.here | apply Pk.there)) A7.nil) ?_
         (have hjw : j = w2.length := (by omega); rw [hjw, List.take_length] at hst2; have hst9 := hst2.mono hle9; have hel := A8I (num := num) (fr := .mk fk fks) (lb := lb) hml (A3m hmw (b := true) (by assumption)) (show k ≠ 13 by omega); rw [hjw, List.take_length]; have hm0 := A1q us ts w2 l; exact ElP.yes hel (A6.put hk hnum hlb (hty.mono hle9) (hfr.mono hle9) (by rw [hm0, hlu]) (C4.of (Sl.of_blk (A := []) (by rw [Z6 hst9.all, hst9.len, hm0, hlu]) (by omega) hcm (Wi.in hn9 List.mem_cons_self)) (by rw [hst9.len, hm0, hlu]) hst9.all (fun e he => (hst9.each e he).2)) hst9) (hrt.mono hle9) (by omega) (by rw [hck]; omega))
     ·refine J1 ?_
      refine A2i (outs := [.blk bx [.int .i64 _]]) (rC rfl (A3 rfl rfl)) (rC rfl (A3 rfl rfl)) (rT rfl) (A7.cons (by repeat (first | exact Pk.here | apply Pk.there)) A7.nil) ?_
      (exact ElP.no (A5E hml (A3m hmw (b := false) (by assumption))) (M1 _) (O4 _ ⟨by omega, by omega⟩) (by omega) (by rw [hck]; omega))
def A0T (r : Option (Tm × Ty)) : IM → Value → List A4 → Prop := J8 fun G' v => ∃ cu ct, v = .tuple ⟨[.agg ⟨cu⟩, .agg ⟨ct⟩, .bool r.isSome]⟩ ∧ A6 G' (r.getD (K7, B5)).1 cu ∧ B6 G' (r.getD (K7, B5)).2 ct
theorem A0T.no {G : IM} {r : Option (Tm × Ty)} {cu ct : List Value} (h : r = none) (hu : A6 G K7 cu) (ht : B6 G B5 ct) : A0T r G (.tuple ⟨[.agg ⟨cu⟩, .agg ⟨ct⟩, .bool false]⟩) [] := by subst h; exact ⟨rfl, cu, ct, rfl, hu, ht⟩
theorem A0T.yes {G : IM} {r : Option (Tm × Ty)} {u : Tm} {t : Ty} {cu ct : List Value} (h : r = some (u, t)) (hu : A6 G u cu) (ht : B6 G t ct) : A0T r G (.tuple ⟨[.agg ⟨cu⟩, .agg ⟨ct⟩, .bool true]⟩) [] := by subst h; exact ⟨rfl, cu, ct, rfl, hu, ht⟩
theorem A8L {e : Tm} (h : P0 e = false) : V4 e = none := by unfold V4; rw [if_neg (by rw [h]; decide)]
theorem A5F {e : Tm} (h : P0 e = true) (h2 : M7 [] e 0 = none) : V4 e = none := by unfold V4; rw [if_pos h, h2]
theorem A5G {e u : Tm} {t : Ty} {l : Int} (h : P0 e = true) (h2 : M7 [] e 0 = some (u, t, l)) : V4 e = some (u, t) := by unfold V4; rw [if_pos h, h2]
theorem B25 (e : Tm) (G : IM) (cells : List Value) (hr : A6 G e cells) : Fn Tryz.prog 12 [.agg ⟨cells⟩] [] G (A0T (V4 e)) := by
 have hRl := hr.len
 have hRo := hr.one
 have hV := A7h e G cells hr
 have hno := @A8L e
 have hnn := @A5F e
 have hso := @A5G e
 refine B4 Tryz.func12 rfl Tryz.ntmps12 Tryz.results12 rfl ?_
 intro w0
 refine tS (tR ?_)
 refine sE (C1 rfl rfl) rfl (fun b3 => ?_)
 refine sE (A5 rfl) rfl (fun b4 => ?_)
 refine sE (A5 rfl) rfl (fun b5 => ?_)
 refine sQ (qA rfl) rfl (sD (nS (tS (tS (tR ?_)))))
 refine sL (A0 rfl rfl (A9 (by repeat first | exact mH | apply mT)) hRl) rfl rfl ?_
 refine F0 rfl (hV) rfl rfl (fun h13 => ?_) (fun h13 => ?_)
 refine D8 ?_
 refine sE (C1 rfl rfl) rfl (fun b23 => ?_)
 refine sL (A0 rfl rfl (A9 (by repeat first | exact mH | apply mT)) hRl) rfl rfl ?_
 focus (have htv : P0 e = true := (by assumption); obtain ⟨hsh, hcn⟩ := (A1m e).1 htv; refine A1F rfl (A8K _ e 1 [] 0 G none 0 0 _ hsh (by omega) A2M (Q4.nil G) hr (by omega) (by omega)) (Pk.perm (by repeat (first | exact Pk.here | apply Pk.there))) rfl rfl (fun v G1 outs hle1 hh => ?_); obtain ⟨u, uc, t, tc, l3, rfl, rfl, hru, hrt, hl3, hl4, hu⟩ := hh; have hul := hru.len; have huo := hru.one; obtain ⟨p3, c3, e3, rfl, _⟩ := hrt.open; have hnn := hnn htv; have hso := @hso u t l3 htv; rcases hE : M7 [] e 0 with _ | ⟨u2, t2, l2⟩; rotate_left; have hue := hu _ hE; simp only [Prod.mk.injEq] at hue; obtain ⟨rfl, rfl, rfl⟩ := hue; have hso := hso hE; obtain ⟨hg1, hg2, hg3⟩ := A5D hso; rotate_left; simp only [Option.isSome]; rotate_left; simp only [Option.isSome])
 refine H8 ?_
 refine sE (A5 rfl) rfl (fun b30 => ?_)
 refine sE (A5 rfl) rfl (fun b31 => ?_)
 refine sS rfl rfl rfl hul huo rfl ?_ (hu := by exact D4 hul.symm)
 refine H3 ?_
 refine D5 D6 rfl ?_
 refine L3 (i := 0) (l' := [tt,ff,ff,ff,ff,ff,ff]) rfl D0 (A0 rfl rfl (A9 (by repeat first | exact mH | apply mT)) hul) rfl (by kernel_rfl) rfl rfl ?_
 refine aL 2 rfl (A3 rfl rfl) rfl ?_
 refine A2 1 ?_
 (refine E9 rfl rfl (A5e _ _ _ (A4h hg1) hru) rfl rfl rfl (fun v G2 hle2 hh => ?_); obtain ⟨cs2, F2, rfl, hs2, hn2⟩ := hh; have hwl := hs2.R.len; have hwo := hs2.R.one; have hr2 := hs2.R.mono (B2.le G2 G1); replace hrt := hrt.mono hle2)
 refine A2 3 ?_
 (refine E9 rfl rfl (A1l _ _ _ (A1L hg3).small hrt) rfl rfl rfl (fun v G3 hle3 hh => ?_); obtain ⟨cs3, F3, rfl, hs3, hn3⟩ := hh; obtain ⟨p4, c4, rfl, _⟩ := hs3.open; have hr3 := hs3.R.mono (B2.le G3 G2); replace hr2 := hr2.mono hle3)
 refine A2 4 ?_
 refine oS rfl rfl rfl rfl hwl hwo rfl rfl ?_ (hu := by exact D4 hwl.symm)
 refine A2 5 ?_
 refine oS rfl rfl rfl rfl rfl rfl rfl rfl ?_
 refine aP 6 rfl (qA rfl) rfl ?_
 refine C5 (nS (tT ?_))
 refine C8 (rC rfl (A0 rfl rfl (A9 (by repeat first | exact mH | apply mT)) hwl)) (rC rfl (A3 rfl rfl)) (rT rfl) ?_
 (exact A0T.yes hso hr2 hr3)
 refine H8 ?_
 refine sE (A5 rfl) rfl (fun b69 => ?_)
 refine sE (A5 rfl) rfl (fun b70 => ?_)
 refine sS rfl rfl rfl hul huo rfl ?_ (hu := by exact D4 hul.symm)
 refine A0Y ?_
 refine C8 (rC rfl (A3 rfl rfl)) (rC rfl (A3 rfl rfl)) (rT rfl) ?_
 (exact A0T.no (hnn hE) (M1 _) (O4 _ ⟨by omega, by omega⟩))
 refine H3 ?_
 refine C8 (rC rfl (A3 rfl rfl)) (rC rfl (A3 rfl rfl)) (rT rfl) ?_
 (exact A0T.no (hno (by assumption)) (M1 _) (O4 _ ⟨by omega, by omega⟩))
def Q8 (e : Tm) : Option Ty := match V4 e with | some (_, t) => some t | none => none
theorem B26 (e : Tm) (G : IM) (cells : List Value) (htv : P0 e = true) (hr : A6 G e cells) : Fn Tryz.prog 237 [.slice none 0 0, .agg ⟨cells⟩] [] G (W2 (Q8 e) G) := by
 have hRl := hr.len
 have hRo := hr.one
 have hnn := @A5F e htv
 have hso := fun u t l => @A5G e u t l htv
 obtain ⟨hsh, hcn⟩ := (A1m e).1 htv
 refine B4 Tryz.func237 rfl Tryz.ntmps237 Tryz.results237 rfl ?_
 intro w0
 refine tS (tR ?_)
 refine sE (C1 rfl rfl) rfl (fun b3 => ?_)
 refine sE (A5 rfl) rfl (fun b4 => ?_)
 refine E2 ?_
 refine sE (C1 rfl rfl) rfl (fun b11 => ?_)
 refine sQ (qM rfl) rfl ?_
 refine sL (A0 rfl rfl (A9 (by repeat first | exact mH | apply mT)) hRl) rfl rfl ?_
 focus (refine A1F rfl (A8K _ e 1 [] 0 G none 0 0 _ hsh (by omega) A2M (Q4.nil G) hr (by omega) (by omega)) (Pk.perm (by repeat (first | exact Pk.here | apply Pk.there))) rfl rfl (fun v G1 outs hle1 hh => ?_); obtain ⟨u, uc, t, tc, l3, rfl, rfl, hru, hrt, hl3, hl4, hu⟩ := hh; have hul := hru.len; have huo := hru.one; obtain ⟨p3, c3, e3, rfl, _⟩ := hrt.open; have hso := hso u t l3; rcases hE : M7 [] e 0 with _ | ⟨u2, t2, l2⟩; rotate_left; have hue := hu _ hE; simp only [Prod.mk.injEq] at hue; obtain ⟨rfl, rfl, rfl⟩ := hue; have hso := hso hE; rotate_left; simp only [Option.isSome]; rotate_left; simp only [Option.isSome])
 refine H8 ?_
 refine sE (A5 rfl) rfl (fun b19 => ?_)
 refine sE (A5 rfl) rfl (fun b20 => ?_)
 refine sS rfl rfl rfl hul huo rfl ?_ (hu := by exact D4 hul.symm)
 refine K1 ?_
 refine E5 (rC rfl (A3 rfl rfl)) (rT rfl) ?_
 (exact W2.yes hrt rfl (by unfold Q8; rw [hso]))
 refine H8 ?_
 refine sE (A5 rfl) rfl (fun b41 => ?_)
 refine sE (A5 rfl) rfl (fun b42 => ?_)
 refine sS rfl rfl rfl hul huo rfl ?_ (hu := by exact D4 hul.symm)
 refine K1 ?_
 refine E5 (rC rfl (A3 rfl rfl)) (rT rfl) ?_
 (exact W2.no hrt rfl (by unfold Q8; rw [hnn hE]))
theorem B27 (fid : FuncId) (us cs : List Value) (G : IM) : Fn Tryz.prog 250 [.slice none 0 0, .func (.func fid) ⟨us⟩ ⟨cs⟩] [] G (E4 (.int .i64 (-1)) G) := by
 refine B4 Tryz.func250 rfl Tryz.ntmps250 Tryz.results250 rfl ?_
 intro w0
 refine K1 ?_
 refine B3 ?_
 refine I1 (fun (_ : Nat) => ⟨[(8, .int .i64 0), (7, .int .i64 0)], [], G⟩) (fun _ => True) (fun i => i) 0 ?_ ?_ ?_
 ·exact C9
 ·trivial
 ·(rintro (i0 : Nat) _)
  refine tS (tR ?_)
  refine sP (V1 rfl rfl (by omega)) rfl rfl ?_
  refine J1 ?_
  trivial
theorem B28 (fid : FuncId) (us cs : List Value) (G : IM) : Fn Tryz.prog 246 [.slice none 0 0, .func (.func fid) ⟨us⟩ ⟨cs⟩] [] G (E4 (.bool false) G) := by
 refine B4 Tryz.func246 rfl Tryz.ntmps246 Tryz.results246 rfl ?_
 intro w0
 refine D8 ?_
 refine I3 rfl (B27 fid us cs G) rfl rfl ?_
 refine sP (A6d rfl rfl (by omega)) rfl rfl ?_
 refine sQ (qA rfl) rfl (sD (nS (tT (E1 (rT rfl) ?_))))
 (exact ⟨rfl, rfl, rfl⟩)
theorem B29 (G : IM) : Fn Tryz.prog 236 [.slice none 0 0] [] G (E4 (.bool true) G) := by
 refine B4 Tryz.func236 rfl Tryz.ntmps236 Tryz.results236 rfl ?_
 intro w0
 refine D8 ?_
 refine sP (A6c rfl rfl (by omega)) rfl rfl ?_
 refine sQ (qM rfl) rfl (sQ (qM rfl) rfl ?_)
 refine I3 rfl ((B28 _ _ _ _)) rfl rfl ?_
 refine C3 ?_
 (exact ⟨rfl, rfl, rfl⟩)
theorem A8M {e : Tm} (h : P0 e = false) : Q8 e = none := by unfold Q8; rw [A8L h]
theorem B3a {e : Tm} {t : Ty} (h : Q8 e = some t) : F4 t = true := by
 unfold Q8 at h
 split at h
 ·rename_i u t' hi; cases h; exact (A5D hi).2.2
 ·cases h
theorem B3b (e : Tm) (G : IM) (cells : List Value) (hr : A6 G e cells) : Fn Tryz.prog 205 [.slice none 0 0, .agg ⟨cells⟩] [] G (W2 (Q8 e) G) := by
 have hRl := hr.len
 have hRo := hr.one
 refine B4 Tryz.func205 rfl Tryz.ntmps205 Tryz.results205 rfl ?_
 intro w0
 refine tS (tR ?_)
 refine sE (C1 rfl rfl) rfl (fun b3 => ?_)
 refine sE (A5 rfl) rfl (fun b4 => ?_)
 refine C3 ?_
 refine I3 rfl ((B29 _)) rfl rfl ?_
 refine sQ (U0 rfl) rfl (sQ (qM rfl) rfl ?_)
 refine sL (A0 rfl rfl (A9 (by repeat first | exact mH | apply mT)) hRl) rfl rfl ?_
 refine F0 rfl ((A7h e _ _ hr)) rfl rfl (fun h16 => ?_) (fun h16 => ?_)
 refine I8 ?_
 refine sL (A0 rfl rfl (A9 (by repeat first | exact mH | apply mT)) hRl) rfl rfl ?_
 focus (refine D2 rfl (B26 e G cells (by assumption) hr) rfl rfl (fun v G1 hle1 hh => ?_); obtain ⟨cu, u, rfl, hru, hu⟩ := hh; obtain ⟨p1, c1, e1, rfl, _⟩ := hru.open; rcases hct : Q8 e with _ | u2; rotate_left; obtain rfl := hu u2 hct; have hgv := B3a hct; rotate_left; simp only [Option.isSome]; rotate_left; simp only [Option.isSome])
 refine J2 ?_
 refine sE (A5 rfl) rfl (fun b32 => ?_)
 refine S1 ?_
 (refine D2 rfl (A1l _ G1 _ (A1L hgv).small hru) rfl rfl (fun v G2 hle2 hh => ?_); obtain ⟨cs2, F2, rfl, hs2, hn2⟩ := hh; obtain ⟨p2, c2, rfl, _⟩ := hs2.open; have hr2 := hs2.R.mono (B2.le G2 G1))
 refine J7 ?_
 refine sQ (qA rfl) rfl (sD (nS (tT ?_)))
 refine E5 (rC rfl (A3 rfl rfl)) (rT rfl) ?_
 (exact W2.yes hr2 rfl (by first | exact hct | rfl))
 refine J2 ?_
 refine sE (A5 rfl) rfl (fun b61 => ?_)
 refine A0p ?_
 refine E5 (rC rfl (A3 rfl rfl)) (rT rfl) ?_
 (exact W2.no (u := B5) (O4 _ ⟨by omega, by omega⟩) rfl (by first | exact hct | rfl))
 refine L5 ?_
 refine E5 (rC rfl (A3 rfl rfl)) (rT rfl) ?_
 (exact W2.no (u := B5) (O4 _ ⟨by omega, by omega⟩) rfl (A8M (by assumption)))
theorem B3c (e : Tm) (G : IM) (cells : List Value) (hr : A6 G e cells) : Fn Tryz.prog 150 [.agg ⟨cells⟩] [] G (W2 (Q8 e) G) := by
 have hRl := hr.len
 have hRo := hr.one
 refine B4 Tryz.func150 rfl Tryz.ntmps150 Tryz.results150 rfl ?_
 intro w0
 refine tS (tR ?_)
 refine sE (C1 rfl rfl) rfl (fun b3 => ?_)
 refine sE (A5 rfl) rfl (fun b4 => ?_)
 refine sQ (qA rfl) rfl (sD (nS (tS (tR ?_))))
 refine sL (A0 rfl rfl (A9 (by repeat first | exact mH | apply mT)) hRl) rfl rfl ?_
 (refine D2 rfl (B3b e G cells hr) rfl rfl (fun v G1 hle1 hh => ?_); obtain ⟨cu, u, rfl, hru, hu⟩ := hh; obtain ⟨p1, c1, e1, rfl, _⟩ := hru.open)
 refine C3 ?_
 refine E5 (rC rfl (A3 rfl rfl)) (rT rfl) ?_
 (exact ⟨rfl, _, u, rfl, hru, hu⟩)
def A5H (e : Tm) (fuel : Int) : ByteArray × Int × Int := match V4 e with
 | none => (⟨⟨[]⟩⟩, 3, 0)
 | some (u, _) => if (A38 u fuel).2.1 = 0 then (A8H (A38 u fuel).1, 0, 0) else (⟨⟨[]⟩⟩, (A38 u fuel).2.1, (A38 u fuel).2.2)
def B41 (r : ByteArray × Int × Int) (G : IM) : IM → Value → List A4 → Prop := J8 fun _ v => v = .tuple ⟨[.string r.1, .int .i64 r.2.1, .int .i64 r.2.2]⟩
def B3d (r s : ByteArray × Int × Int) : Int := if r.2.1 = 2 then 2 else if r.2.1 ≠ 0 ∨ s.2.1 = 4 ∨ s.2.1 = 5 then 3 else if s.2.1 = 0 ∧ r.1 = s.1 then 1 else 4
def B42 (a b : Tm) (fuel : Int) : Int := if (Q8 a).isSome = true ∧ B2m a b = true ∧ R4 fuel 0 300 = true then B3d (A5H a fuel) (A5H b fuel) else 0
def gxT : GX → ByteArray
 | .n n => A8G n
 | .b b => if b = true then txT else txF
 | .p => A8E
 | .f => A8F
mutual
def I5 : Tm → List Ty
 | .mk k _ _ ty _ _ ks => (if k = 5 ∨ k = 13 then [ty] else []) ++ H2 ks
def H2 : List Tm → List Ty
 | [] => []
 | t :: ts => I5 t ++ H2 ts
end
theorem A5I : ∀ (a b : List Tm), H2 (a ++ b) = H2 a ++ H2 b
 | [], b => by simp [H2]
 | t :: a, b => by simp [H2, A5I a b]
theorem V6 {ks : List Tm} {i : Nat} (hi : i < ks.length) : H2 (ks.take (i + 1)) = H2 (ks.take i) ++ I5 ks[i] := by
 rw [List.take_succ_eq_append_getElem hi, A5I, H2, H2, List.append_nil]
mutual
theorem A4j : ∀ t : Tm, (I5 t).length ≤ D1 t
 | .mk k nm num ty fr lb ks => by
  have := A0G ks
  rw [I5, D1, List.length_append]
  split <;> simp <;> omega
theorem A0G : ∀ ts : List Tm, (H2 ts).length ≤ E7 ts
 | [] => by simp [H2]
 | t :: ts => by
  have := A4j t
  have := A0G ts
  rw [H2, E7, List.length_append]; omega
end
mutual
def W4 : Tm → List Ty → Tm
 | .mk k nm num ty fr lb ks, l => .mk k nm num (if k = 5 ∨ k = 13 then l.getD 0 B5 else ty) fr lb (P9 ks (if k = 5 ∨ k = 13 then l.drop 1 else l))
def P9 : List Tm → List Ty → List Tm
 | [], _ => []
 | t :: ts, l => W4 t l :: P9 ts (l.drop (I5 t).length)
end
theorem A2j : ∀ (ts : List Tm) (l : List Ty), (P9 ts l).length = ts.length
 | [], _ => rfl
 | t :: ts, l => by rw [P9, List.length_cons, A2j ts, List.length_cons]
theorem A8N : ∀ (a b : List Tm) (l : List Ty), P9 (a ++ b) l = P9 a l ++ P9 b (l.drop (H2 a).length)
 | [], b, l => by simp [P9, H2]
 | t :: a, b, l => by simp [P9, H2, A8N a b, List.drop_drop]
theorem A3t {ks : List Tm} {i : Nat} (hi : i < ks.length) (l : List Ty) : P9 (ks.take (i + 1)) l = P9 (ks.take i) l ++ [W4 ks[i] (l.drop (H2 (ks.take i)).length)] := by
 rw [List.take_succ_eq_append_getElem hi, A8N, P9, P9]
def R6 (mask : Nat) : Nat → List Ty → List Ty
 | _, [] => []
 | i, t :: ts => (if (mask / 2 ^ i) % 2 = 1 then .mk 1 [] else t) :: R6 mask (i + 1) ts
theorem A2k (mask : Nat) : ∀ (l : List Ty) (i : Nat), (R6 mask i l).length = l.length
 | [], _ => rfl
 | t :: ts, i => by rw [R6, List.length_cons, A2k mask ts, List.length_cons]
theorem A8O (mask : Nat) : ∀ (a b : List Ty) (j : Nat), R6 mask j (a ++ b) = R6 mask j a ++ R6 mask (j + a.length) b
 | [], b, j => by simp [R6]
 | t :: a, b, j => by rw [List.cons_append, R6, A8O mask a b (j + 1), R6, List.cons_append, List.length_cons, show j + 1 + a.length = j + (a.length + 1) from by omega]
theorem A8P {α : Type} : ∀ (A : List α) (x y : α) (B : List α) (i : Nat), A.length = i → (A ++ x :: B).set i y = A ++ y :: B
 | [], x, y, B, i, h => by subst h; rfl
 | a :: A, x, y, B, i, h => by
  subst h
  rw [List.cons_append, List.length_cons, List.set_cons_succ, A8P A x y B _ rfl, List.cons_append]
theorem A8Q (mask : Nat) (L : List Ty) (i : Nat) (hi : i < L.length) :
  R6 mask 0 (L.take (i + 1)) ++ L.drop (i + 1) = if (mask / 2 ^ i) % 2 = 1 then (R6 mask 0 (L.take i) ++ L.drop i).set i (.mk 1 []) else R6 mask 0 (L.take i) ++ L.drop i := by
 have hl : (R6 mask 0 (L.take i)).length = i := by rw [A2k, List.length_take]; omega
 rw [List.take_succ_eq_append_getElem hi, A8O, List.drop_eq_getElem_cons hi, List.length_take, show 0 + min i L.length = i from by omega, R6, R6]
 split
 ·rw [A8P _ _ _ _ _ hl]; simp
 ·simp
theorem A3u (mask : Nat) : ∀ (l : List Ty) (j : Nat) (u : Ty), u ∈ R6 mask j l → u = .mk 1 [] ∨ u ∈ l
 | [], j, u, h => by simp [R6] at h
 | t :: l, j, u, h => by
  rw [R6] at h
  rcases List.mem_cons.1 h with h | h
  ·split at h
   ·exact .inl h
   ·exact .inr (by rw [h]; simp)
  ·rcases A3u mask l (j + 1) u h with h | h
   ·exact .inl h
   ·exact .inr (List.mem_cons_of_mem _ h)
def X7 (e : Tm) (mask : Nat) : Tm := W4 e (R6 mask 0 (I5 e))
def A3v (e : Tm) : List Tm := (List.range (2 ^ (I5 e).length)).map (X7 e)
theorem A3w {ks : List Tm} {i : Nat} (hi : i < ks.length) : (H2 (ks.take i)).length + (I5 ks[i]).length ≤ (H2 ks).length := by
 have h : ks = ks.take (i + 1) ++ ks.drop (i + 1) := (List.take_append_drop _ _).symm
 conv => rhs; rw [h]
 rw [A5I, V6 hi]
 simp only [List.length_append]; omega
section cap
variable {P : Program} {Γ : L7} {env : M0} {hp : List A4} {G : IM} {K : Po} {ops : Array Oper} {rest : List Oper}
theorem St.slc_cap {a : Act} {w : World} {p : Option Addr} {c el sz n : Nat} {cs : List Value} {hp' : List A4} (hs : St Γ ⟨env, hp, G⟩ a w) (hk : Pk hp (.slc p c el sz n cs) hp') : n ≤ c := by
 have hown : R7 [.slc p c el sz n cs] G w := hs.res.own.of_mem hk.perm
 obtain ⟨hl, h⟩ := hown.ok _ List.mem_cons_self
 rcases h with ⟨hv, hn⟩ | ⟨g, cap, cur, hv, _, hg, hnc, hcm, hsz, ht⟩
 ·omega
 ·cases hv; exact hnc
theorem A8R {p : Option Addr} {c el sz n : Nat} {cs : List Value} {hp' : List A4} (hk : Pk hp (.slc p c el sz n cs) hp') (h : n ≤ c → E0 P Γ ops rest K ⟨env, hp, G⟩) : E0 P Γ ops rest K ⟨env, hp, G⟩ :=
 ⟨fun a w hs => (h (hs.slc_cap hk)).run a w hs⟩
end cap
theorem C2.append {G : IM} : ∀ {a b : List Ty} {es fs : List (List Value)}, C2 G a es → C2 G b fs → C2 G (a ++ b) (es ++ fs)
 | [], b, es, fs, h, h2 => by simp only [C2] at h; subst h; simpa using h2
 | t :: a, b, es, fs, h, h2 => by
  simp only [C2] at h
  obtain ⟨x, r, rfl, h3, h4⟩ := h
  simp only [List.cons_append, C2]
  exact ⟨x, r ++ fs, rfl, h3, C2.append h4 h2⟩
theorem C2.ones {G : IM} {ts : List Ty} {es : List (List Value)} (h : C2 G ts es) : ∀ u ∈ es.flatten, u.oneCell' = true := by
 intro u hu
 obtain ⟨e, he, hue⟩ := List.mem_flatten.1 hu
 exact List.all_eq_true.1 (h.each e he).2 u hue
theorem C2.one1 {G : IM} {t : Ty} {c : List Value} (h : B6 G t c) : C2 G [t] [c] := by
 simp only [C2]; exact ⟨c, [], rfl, h, rfl⟩
def X8 (ts : List Ty) : IM → Value → List A4 → Prop := fun G' v outs => ∃ p c es, v = .slice p ts.length c ∧ outs = [.slc p c 25 2 ts.length es.flatten] ∧ C2 G' ts es
theorem X8.mk {ts : List Ty} {n : Nat} {G' : IM} {p : Option Addr} {c : Nat} {es : List (List Value)} (hn : ts.length = n) (hr : C2 G' ts es) : X8 ts G' (.slice p n c) [.slc p c 25 2 n es.flatten] := by
 subst hn
 exact ⟨p, c, es, rfl, rfl, hr⟩
theorem A8S : ∀ (t : Tm) (G : IM) (cells : List Value), t.small → D1 t ≤ 4000000 → A6 G t cells → Fn Tryz.prog 75 [.agg ⟨cells⟩] [] G (X8 (I5 t)) := by
 refine Tm.ind fun k nm num ty fr lb ks ih G cells hts hcnt hr => ?_
 have hT := A8D _ G cells hr
 have hone := hr.one
 simp only [Tm.small] at hts
 obtain ⟨_, hty', _, hsm, hks⟩ := hts
 have hcy : A06 k = true → I5 (.mk k nm num ty fr lb ks) = [ty] ++ H2 ks := fun h => by rw [I5, if_pos (of_decide_eq_true h)]
 have hcn : A06 k = false → I5 (.mk k nm num ty fr lb ks) = [] ++ H2 ks := fun h => by rw [I5, if_neg (of_decide_eq_false h)]
 rw [D1] at hcnt
 obtain ⟨tk, tks⟩ := ty
 obtain ⟨fk, fks⟩ := fr
 have hT' : Fn Tryz.prog 112 _ [] G (E4 (.bool (A06 k)) G) := hT
 obtain ⟨pt, ct, pf, cf, q, cq, ek, rfl, hk, hnum, hlb, hty, hfr, hsl, hkl⟩ := hr.open9
 have hn := hsl.le
 refine B4 Tryz.func75 rfl Tryz.ntmps75 Tryz.results75 rfl ?_
 intro w0
 refine tS (tR ?_)
 refine sE (C1 rfl rfl) rfl (fun b3 => ?_)
 refine J9 ?_
 refine F0 rfl (hT') rfl rfl (fun h16 => ?_) (fun h16 => ?_)
 refine sD (nS (qT rfl ?_))
 (show K2 _ _ (.region 3 ..) _ _; refine S2 25 2 ?_; refine tR ?_)
 refine J2 ?_
 (refine D2 rfl (A1l (.mk tk tks) G _ hty' hty) rfl rfl (fun v G1 hle1 hh => ?_); obtain ⟨cs1, F1, rfl, hs1, hn1⟩ := hh; have hr1 := hs1.R.mono (B2.le _ _); obtain ⟨p1, c1, rfl, _⟩ := hs1.open)
 (refine K6 (D7 rfl rfl rfl (by omega) (by unfold maxLen; omega) rfl) rfl ?_; rintro _ ⟨b25, rfl⟩)
 (refine Z5 rfl rfl rfl rfl rfl (fun _ _ => by repeat (first | exact Sw.here | apply Sw.there)) (N8 (by repeat first | exact mH | apply mT)) rfl (by simp [Value.oneCell']) (by unfold maxLen; omega) (by omega) rfl (fun pn0 cn0 => ?_))
 refine J9 ?_
 refine B3 ?_
 (have h14 := hcy (by assumption); have hinit := C2.one1 hr1; refine I1 (fun (x : Nat × Nat × Option Addr × Nat × List (List Value) × IM) => ⟨[(17, .int .i64 x.1), (16, .int .i64 ks.length), (15, .slice q ks.length cq), (3, .slice x.2.2.1 x.2.1 x.2.2.2.1)], [.slc x.2.2.1 x.2.2.2.1 25 2 x.2.1 x.2.2.2.2.1.flatten], x.2.2.2.2.2⟩) (fun x => x.1 ≤ ks.length ∧ B7 G x.2.2.2.2.2 ∧ C2 x.2.2.2.2.2 ([Ty.mk tk tks] ++ H2 (ks.take x.1)) x.2.2.2.2.1 ∧ ([Ty.mk tk tks] ++ H2 (ks.take x.1)).length = x.2.1) (fun x => ks.length - x.1) (0, 1, pn0, cn0, [[.int .i64 tk, .slice p1 tks.length c1]], G1) ?_ ?_ ?_)
 (simp only [H5]; exact C9)
 (exact ⟨Nat.zero_le _, hle1, (by show C2 G1 ([Ty.mk tk tks] ++ H2 (ks.take 0)) _; rw [List.take_zero, H2, List.append_nil]; exact hinit), by simp [H2]⟩)
 (rintro ⟨(i : Nat), (m : Nat), pn, cn, es, Gi⟩ ⟨hi, hle, hst, hlen⟩; simp only [] at hi hle hst hlen ⊢; replace hsl := hsl.mono hle; replace hkl := hkl.mono hle; have hb1 := A0G (ks.take i); have hb2 := A0G ks; simp only [List.length_append, List.length_singleton, List.length_nil] at hlen)
 refine tS (tR ?_)
 refine sB (I2 rfl rfl) rfl rfl (fun h46 => ?_) (fun h46 => ?_)
 refine sD (nS (tS (qT rfl (tK (nS (tS ?_))))))
 refine B3 ?_
 refine tS (tR ?_)
 (obtain ⟨b, o, e, rfl, hl, hat, hre, hgb⟩ := hsl.kidTm hkl (i := i) (by omega) (by omega); have hone9 := hre.one; have hsc := A0t (ks := ks) (i := i) (by omega); have hsk := A0s (ks := ks) (i := i) (by omega); refine sP (A8 rfl rfl rfl (by omega)) rfl rfl ?_)
 refine sL (A0 rfl rfl (hat _) hl) rfl rfl ?_
 refine sE (A5 rfl) rfl (fun b59 => ?_)
 refine sS rfl rfl rfl hl hone9 rfl ?_ (hu := by exact D4 hl.symm)
 refine sD (nS (tR (sQ (qM rfl) rfl ?_)))
 refine sL (A0 rfl rfl (A9 (by repeat first | exact mH | apply mT)) hl) rfl rfl ?_
 (refine Y0 rfl (ih ks[i] (List.getElem_mem (by omega)) _ _ (Tm.smallL_mem hks _ (List.getElem_mem (by omega))) (by omega) hre) rfl rfl (fun v G3 outs hle3 hh => ?_); obtain ⟨p3, c3, e3, rfl, rfl, hr3⟩ := hh; have hlk := A4j ks[i]; refine A1X (cs := e3.flatten) Pk.here (fun G4 hle4 hsl4 hno4 => ?_); refine A8R (cs := es.flatten) (by repeat (first | exact Pk.here | apply Pk.there)) (fun hcap => ?_))
 (refine A3d rfl rfl rfl rfl rfl (fun _ _ => by repeat (first | exact Sw.here | apply Sw.there)) hsl4 hr3.ones hcap (by unfold maxLen; omega) (by omega) rfl (fun p4 c4 => ?_))
 refine sQ (qA rfl) rfl (sD (P4 (nS (tR ?_))))
 refine sP (E8 rfl rfl (by omega) (by omega)) rfl rfl ?_
 refine sQ (qM rfl) rfl (sD ?_)
 (have hap := C2.append (hst.mono (hle3.trans hle4)) (hr3.mono hle4); refine I4 (i + 1, m + (I5 ks[i]).length, p4, c4, es ++ e3, G4) (by simp only [List.flatten_append]; exact (Q1 (by repeat (first | exact I7.nil | refine I7.cons rfl ?_)) (by repeat (first | exact A7.refl | exact A7.nil | refine A7.cons (by repeat (first | exact Pk.here | apply Pk.there)) ?_ | apply A7.drop)))) ?_ ?_)
 (dsimp only; exact ⟨by omega, hle.trans (hle3.trans hle4), by rw [V6 (by omega), ← List.append_assoc]; exact hap, by rw [V6 (by omega)]; simp only [List.length_append, List.length_singleton, List.length_nil]; omega⟩)
 (show ks.length - (i + 1) < ks.length - i; omega)
 refine H3 ?_
 (obtain rfl : i = ks.length := (by omega))
 refine tT ?_
 refine N9 (outs := [.slc pn cn 25 2 m es.flatten]) (rT rfl) (A7.cons (by repeat (first | exact Pk.here | apply Pk.there)) A7.nil) ?_
 (rw [h14]; rw [List.take_length] at hst hlen; exact X8.mk (by simp only [List.length_append, List.length_singleton, List.length_nil]; omega) hst)
 refine L5 ?_
 refine B3 ?_
 (have h14 := hcn (by assumption); refine S2 25 2 ?_; refine I1 (fun (x : Nat × Nat × Option Addr × Nat × List (List Value) × IM) => ⟨[(17, .int .i64 x.1), (16, .int .i64 ks.length), (15, .slice q ks.length cq), (3, .slice x.2.2.1 x.2.1 x.2.2.2.1)], [.slc x.2.2.1 x.2.2.2.1 25 2 x.2.1 x.2.2.2.2.1.flatten], x.2.2.2.2.2⟩) (fun x => x.1 ≤ ks.length ∧ B7 G x.2.2.2.2.2 ∧ C2 x.2.2.2.2.2 ([] ++ H2 (ks.take x.1)) x.2.2.2.2.1 ∧ ([] ++ H2 (ks.take x.1)).length = x.2.1) (fun x => ks.length - x.1) (0, 0, none, 0, [], G) ?_ ?_ ?_)
 (simp only [H5]; exact C9)
 (exact ⟨Nat.zero_le _, B7.refl _, by simp [H2, C2], by simp [H2]⟩)
 (rintro ⟨(i : Nat), (m : Nat), pn, cn, es, Gi⟩ ⟨hi, hle, hst, hlen⟩; simp only [] at hi hle hst hlen ⊢; replace hsl := hsl.mono hle; replace hkl := hkl.mono hle; have hb1 := A0G (ks.take i); have hb2 := A0G ks; simp only [List.length_append, List.length_singleton, List.length_nil] at hlen)
 refine tS (tR ?_)
 refine sB (I2 rfl rfl) rfl rfl (fun h119 => ?_) (fun h119 => ?_)
 refine sD (nS (tS (qT rfl (tK (nS (tS ?_))))))
 refine B3 ?_
 refine tS (tR ?_)
 (obtain ⟨b, o, e, rfl, hl, hat, hre, hgb⟩ := hsl.kidTm hkl (i := i) (by omega) (by omega); have hone9 := hre.one; have hsc := A0t (ks := ks) (i := i) (by omega); have hsk := A0s (ks := ks) (i := i) (by omega); refine sP (A8 rfl rfl rfl (by omega)) rfl rfl ?_)
 refine sL (A0 rfl rfl (hat _) hl) rfl rfl ?_
 refine sE (A5 rfl) rfl (fun b132 => ?_)
 refine sS rfl rfl rfl hl hone9 rfl ?_ (hu := by exact D4 hl.symm)
 refine sD (nS (tR (sQ (qM rfl) rfl ?_)))
 refine sL (A0 rfl rfl (A9 (by repeat first | exact mH | apply mT)) hl) rfl rfl ?_
 (refine Y0 rfl (ih ks[i] (List.getElem_mem (by omega)) _ _ (Tm.smallL_mem hks _ (List.getElem_mem (by omega))) (by omega) hre) rfl rfl (fun v G3 outs hle3 hh => ?_); obtain ⟨p3, c3, e3, rfl, rfl, hr3⟩ := hh; have hlk := A4j ks[i]; refine A1X (cs := e3.flatten) Pk.here (fun G4 hle4 hsl4 hno4 => ?_); refine A8R (cs := es.flatten) (by repeat (first | exact Pk.here | apply Pk.there)) (fun hcap => ?_))
 (refine A3d rfl rfl rfl rfl rfl (fun _ _ => by repeat (first | exact Sw.here | apply Sw.there)) hsl4 hr3.ones hcap (by unfold maxLen; omega) (by omega) rfl (fun p4 c4 => ?_))
 refine sQ (qA rfl) rfl (sD (P4 (nS (tR ?_))))
 refine sP (E8 rfl rfl (by omega) (by omega)) rfl rfl ?_
 refine sQ (qM rfl) rfl (sD ?_)
 (have hap := C2.append (hst.mono (hle3.trans hle4)) (hr3.mono hle4); refine I4 (i + 1, m + (I5 ks[i]).length, p4, c4, es ++ e3, G4) (by simp only [List.flatten_append]; exact (Q1 (by repeat (first | exact I7.nil | refine I7.cons rfl ?_)) (by repeat (first | exact A7.refl | exact A7.nil | refine A7.cons (by repeat (first | exact Pk.here | apply Pk.there)) ?_ | apply A7.drop)))) ?_ ?_)
 (dsimp only; exact ⟨by omega, hle.trans (hle3.trans hle4), by rw [V6 (by omega), ← List.append_assoc]; exact hap, by rw [V6 (by omega)]; simp only [List.length_append, List.length_singleton, List.length_nil]; omega⟩)
 (show ks.length - (i + 1) < ks.length - i; omega)
 refine H3 ?_
 (obtain rfl : i = ks.length := (by omega))
 refine tT ?_
 refine N9 (outs := [.slc pn cn 25 2 m es.flatten]) (rT rfl) (A7.cons (by repeat (first | exact Pk.here | apply Pk.there)) A7.nil) ?_
 (rw [h14]; rw [List.take_length] at hst hlen; exact X8.mk (by simp only [List.length_append, List.length_singleton, List.length_nil]; omega) hst)
theorem A8T {sz : Nat} : ∀ {es : List (List Value)} (l : Nat), (∀ e ∈ es, e.length = sz) → es.flatten.drop (l * sz) = (es.drop l).flatten
 | [], l, _ => by simp
 | e :: es, 0, _ => by simp
 | e :: es, l + 1, h => by
  rw [List.flatten_cons, List.drop_succ_cons, ← A8T l (fun x hx => h x (List.mem_cons_of_mem _ hx)), Nat.add_mul, Nat.one_mul]
  have he := h e List.mem_cons_self
  rw [List.drop_append, List.drop_eq_nil_of_le (by omega), List.nil_append]
  congr 1; omega
theorem C4.from2 {G : IM} {b o n c l sz : Nat} {es : List (List Value)} (h : C4 G (some ⟨b, o, none⟩) n c sz es) (hl : l ≤ n) : C4 G (some ⟨b, if c = l then o else o + l * sz, none⟩) (n - l) (c - l) sz (es.drop l) := by
 have h1 := h.sl.from hl
 rw [A8T l h.all] at h1
 exact C4.of h1 (by rw [List.length_drop, h.len]) (fun e he => h.all e (List.mem_of_mem_drop he)) (fun e he => h.one e (List.mem_of_mem_drop he))
theorem C2.drop {G : IM} : ∀ {l : List Ty} {es : List (List Value)} (n : Nat), C2 G l es → C2 G (l.drop n) (es.drop n)
 | [], es, n, h => by simp only [C2] at h; subst h; simp [C2]
 | t :: l, es, 0, h => by simpa using h
 | t :: l, es, n + 1, h => by
  simp only [C2] at h
  obtain ⟨a, r, rfl, h1, h2⟩ := h
  simpa using C2.drop n h2
def RtP (u : Tm) (l : List Ty) : IM → Value → List A4 → Prop := fun G' v outs => outs = [] ∧ ∃ cu p c el, v = .tuple ⟨[.agg ⟨cu⟩, .slice p l.length c]⟩ ∧ A6 G' u cu ∧ C4 G' p l.length c 2 el ∧ C2 G' l el
theorem RtP.mk {G' : IM} {k : Int} {nm : ByteArray} {num : Int} {ty fr : Ty} {lb : Int} {ks : List Tm} {tk fk : Int} {pt pf : Option Addr} {nt ct nf cf : Nat} {p q : Option Addr} {m c cq n : Nat} {es el : List (List Value)} {l : List Ty}
  (hk : H1 k) (hnum : H1 num) (hlb : H1 lb) (hty : B6 G' ty [.int .i64 tk, .slice pt nt ct]) (hfr : B6 G' fr [.int .i64 fk, .slice pf nf cf]) (hm : m = ks.length) (hs : Sl G' p m c 9 es.flatten) (hr : C7 G' ks es)
  (hn : n = l.length) (hq : C4 G' q n cq 2 el) (hl : C2 G' l el) :
  RtP (.mk k nm num ty fr lb ks) l G' (.tuple ⟨[.agg ⟨[.int .i64 k, .string nm, .int .i64 num, .int .i64 tk, .slice pt nt ct, .int .i64 fk, .slice pf nf cf, .int .i64 lb, .slice p m c]⟩, .slice q n cq]⟩) [] := by
 subst hm hn
 refine ⟨rfl, _, q, cq, el, rfl, ?_, hq, hl⟩
 simp only [A6]
 exact ⟨_, _, p, c, es, rfl, hk, hnum, hlb, hty, hfr, C4.of hs hr.len hr.all (fun e he => by obtain ⟨j, hj⟩ := List.getElem?_of_mem he; exact (hr.inv hj K7).2.one), hr⟩
theorem B3e : ∀ (t : Tm) (l : List Ty) (G : IM) (cells : List Value) (p : Option Addr) (c : Nat) (el : List (List Value)), (I5 t).length ≤ l.length → (∀ u ∈ l, u.small) → D1 t ≤ 4000000 → A6 G t cells → C4 G p l.length c 2 el → C2 G l el →
  Fn Tryz.prog 113 [.agg ⟨cells⟩, .slice p l.length c] [] G (RtP (W4 t l) (l.drop (I5 t).length)) := by
 refine Tm.ind fun k nm num ty fr lb ks ih l G cells p c el hlen hsm hcnt hr hse hel => ?_
 have hT := A8D _ G cells hr
 have hone := hr.one
 have hcy : A06 k = true → I5 (.mk k nm num ty fr lb ks) = [ty] ++ H2 ks := fun h => by rw [I5, if_pos (of_decide_eq_true h)]
 have hcn : A06 k = false → I5 (.mk k nm num ty fr lb ks) = [] ++ H2 ks := fun h => by rw [I5, if_neg (of_decide_eq_false h)]
 have hwy : A06 k = true → W4 (.mk k nm num ty fr lb ks) l = .mk k nm num (l.getD 0 B5) fr lb (P9 ks (l.drop 1)) := fun h => by rw [W4, if_pos (of_decide_eq_true h), if_pos (of_decide_eq_true h)]
 have hwn : A06 k = false → W4 (.mk k nm num ty fr lb ks) l = .mk k nm num ty fr lb (P9 ks l) := fun h => by rw [W4, if_neg (of_decide_eq_false h), if_neg (of_decide_eq_false h)]
 rw [D1] at hcnt
 obtain ⟨tk, tks⟩ := ty
 obtain ⟨fk, fks⟩ := fr
 have hT' : Fn Tryz.prog 112 _ [] G (E4 (.bool (A06 k)) G) := hT
 obtain ⟨pt, ct, pf, cf, q, cq, ek, rfl, hk, hnum, hlb, hty, hfr, hsl, hkl⟩ := hr.open9
 have hn := hsl.le
 have hkn := A3R ks
 refine B4 Tryz.func113 rfl Tryz.ntmps113 Tryz.results113 rfl ?_
 intro w0
 refine tS (tR ?_)
 refine sE (C1 rfl rfl) rfl (fun b3 => ?_)
 refine sE (A5 rfl) rfl (fun b4 => ?_)
 refine E2 ?_
 refine sE (A5 rfl) rfl (fun b11 => ?_)
 refine K1 ?_
 refine F0 rfl (hT') rfl rfl (fun h25 => ?_) (fun h25 => ?_)
 refine sD (nS (qT rfl ?_))
 (have hL1 := hcy (by assumption); have h1 : 1 + (H2 ks).length ≤ l.length := (by rw [hL1] at hlen; simp only [List.length_append, List.length_singleton] at hlen; omega); obtain ⟨b0, o0, p20, c20, rfl, hat0, hre0, hgb0⟩ := hse.kidTy hel (i := 0) (by omega) (by omega); obtain ⟨T0, hT0⟩ : ∃ T, T = l[0]'(by omega) := ⟨_, rfl⟩; have hs0 := hsm _ (List.getElem_mem (show 0 < l.length by omega)); rw [← hT0] at hre0 hat0 hs0; have hO := A1l T0 G _ hs0 hre0; refine D5 D6 rfl ?_)
 refine J6 (i := 0) (l' := [tt,ff,ff,ff,ff,ff,ff,ff,ff]) rfl D0 (qM rfl) rfl (by kernel_rfl) rfl rfl ?_
 refine aP 1 rfl (A8 (j := 0) rfl rfl rfl (by omega)) rfl ?_
 refine aL 2 rfl (A0 rfl rfl (hat0 _) rfl) rfl ?_
 refine aP 4 rfl (qM rfl) rfl ?_
 refine aP 5 rfl (B1V (l := 1) rfl rfl rfl (by omega)) rfl ?_
 refine A2 3 ?_
 (refine E9 rfl rfl hO rfl rfl rfl (fun v G1 hle1 hh => ?_); obtain ⟨cs1, F1, rfl, hs1, hn1⟩ := hh; have hr1 := hs1.R.mono (B2.le _ _); obtain ⟨p1, c1, rfl, _⟩ := hs1.open)
 refine aP 6 rfl (B0 rfl) rfl ?_
 refine A2 7 ?_
 refine H0 rfl ?_
 refine aP 8 rfl (qA rfl) rfl ?_
 refine F8 ?_
 refine B3 ?_
 (have hL2 := hcy (by assumption); have hW2 := hwy (by assumption); have hse1 := (hse.from2 (l := 1) (by omega)).mono hle1; have hel1 := (hel.drop 1).mono hle1; refine S2 28 9 ?_; refine I1 (fun (x : Nat × Option Addr × Nat × List (List Value) × Option Addr × Nat × Nat × List (List Value) × IM) => ⟨[(25, .int .i64 x.1), (24, .int .i64 ks.length), (23, .slice q ks.length cq), (1, .slice x.2.2.2.2.1 x.2.2.2.2.2.1 x.2.2.2.2.2.2.1), (6, .pointer (some ⟨b11, 0, none⟩)), (4, .pointer (some ⟨b4, 0, none⟩))], [.blk b11 [.int .i64 k, .string nm, .int .i64 num, .int .i64 T0.k, .slice p1 T0.ks.length c1, .int .i64 fk, .slice pf fks.length cf, .int .i64 lb, .slice x.2.1 x.1 x.2.2.1], .slc x.2.1 x.2.2.1 28 9 x.1 x.2.2.2.1.flatten, .blk b4 [.int .i64 0, .string ⟨⟨[]⟩⟩, .int .i64 0, .int .i64 0, .slice none 0 0, .int .i64 0, .slice none 0 0, .int .i64 0, .slice none 0 0]], x.2.2.2.2.2.2.2.2⟩) (fun x => x.1 ≤ ks.length ∧ B7 G1 x.2.2.2.2.2.2.2.2 ∧ C7 x.2.2.2.2.2.2.2.2 (P9 (ks.take x.1) (l.drop 1)) x.2.2.2.1 ∧ x.2.2.2.2.2.1 = ((l.drop 1).drop (H2 (ks.take x.1)).length).length ∧ C4 x.2.2.2.2.2.2.2.2 x.2.2.2.2.1 x.2.2.2.2.2.1 x.2.2.2.2.2.2.1 2 x.2.2.2.2.2.2.2.1 ∧ C2 x.2.2.2.2.2.2.2.2 ((l.drop 1).drop (H2 (ks.take x.1)).length) x.2.2.2.2.2.2.2.1) (fun x => ks.length - x.1) (0, none, 0, [], some ⟨b0, if c = 1 then o0 else o0 + 1 * 2, none⟩, l.length - 1, c - 1, el.drop 1, G1) ?_ ?_ ?_)
 (simp only [H5]; exact C9)
 (exact ⟨Nat.zero_le _, B7.refl _, by simp [P9, C7], by simp [H2], by simpa using hse1, by simpa [H2] using hel1⟩)
 (rintro ⟨(i : Nat), pn, cn, es, pl, nl, cl, eL, Gi⟩ ⟨hi, hle, hst, hnl, hsL, heL⟩; simp only [] at hi hle hst hnl hsL heL ⊢)
 refine tS (tR ?_)
 refine sB (I2 rfl rfl) rfl rfl (fun h59 => ?_) (fun h59 => ?_)
 refine sD (nS (tS (qT rfl (tK (nS (tS ?_))))))
 refine B3 ?_
 refine tS (tR ?_)
 (obtain ⟨b, o, e, rfl, hl, hat, hre, hgb⟩ := (hsl.mono (by first | exact hle | exact hle1.trans hle)).kidTm (hkl.mono (by first | exact hle | exact hle1.trans hle)) (i := i) (by omega) (by omega); have hone9 := hre.one; have hsc := A0t (ks := ks) (i := i) (by omega); have hsk := A0s (ks := ks) (i := i) (by omega); have hts1 := A3w (ks := ks) (i := i) (by omega); refine sP (A8 rfl rfl rfl (by omega)) rfl rfl ?_)
 refine sL (A0 rfl rfl (hat _) hl) rfl rfl ?_
 refine sE (A5 rfl) rfl (fun b72 => ?_)
 refine sS rfl rfl rfl hl hone9 rfl ?_ (hu := by exact D4 hl.symm)
 refine sD (nS (tS (tR ?_)))
 refine sL (A0 rfl rfl (A9 (by repeat first | exact mH | apply mT)) hl) rfl rfl ?_
 refine sQ (qM rfl) rfl ?_
 (subst hnl; refine Y0 rfl (ih ks[i] (List.getElem_mem (by omega)) _ _ _ _ _ _ (by simp only [List.length_drop]; rw [hL2] at hlen; simp only [List.length_append, List.length_singleton, List.length_nil] at hlen; omega) (fun u hu => hsm u (by first | exact List.mem_of_mem_drop hu | exact List.mem_of_mem_drop (List.mem_of_mem_drop hu))) (by omega) hre hsL heL) rfl rfl (fun v G3 outs hle3 hh => ?_); obtain ⟨rfl, cu, p3, c3, e3, rfl, hru, hs3, hr3⟩ := hh; have hsn := C7.snoc (hst.mono hle3) hru; obtain ⟨u1, u2, u3, u4, u5, u6, u7, u8, u9, rfl⟩ : ∃ u1 u2 u3 u4 u5 u6 u7 u8 u9, cu = [u1, u2, u3, u4, u5, u6, u7, u8, u9] := (by obtain ⟨_, _, _, _, _, _, _, _, _, rfl, _⟩ := hru.open; exact ⟨_, _, _, _, _, _, _, _, _, rfl⟩); have huo := hru.one)
 refine J2 ?_
 refine sE (A5 rfl) rfl (fun b84 => ?_)
 refine sS rfl rfl rfl rfl huo rfl ?_
 refine C3 ?_
 (refine K6 (D7 rfl rfl rfl (by omega) (by unfold maxLen; omega) rfl) rfl ?_; rintro _ ⟨b93, rfl⟩)
 (refine Z5 rfl rfl rfl rfl rfl (fun _ _ => by repeat (first | exact Sw.here | apply Sw.there)) (N8 (by repeat first | exact mH | apply mT)) rfl (fun u hu => List.all_eq_true.1 huo u hu) (by unfold maxLen; omega) (by omega) rfl (fun p4 c4 => ?_))
 refine D3 ?_
 refine sP (E8 rfl rfl (by omega) (by omega)) rfl rfl ?_
 refine sQ (qM rfl) rfl (sD ?_)
 (rw [← A3t (by omega)] at hsn; refine I4 (i + 1, p4, c4, es ++ [[u1, u2, u3, u4, u5, u6, u7, u8, u9]], p3, _, c3, e3, G3) (by simp only [List.flatten_append, List.flatten_cons, List.flatten_nil, List.append_nil]; exact (Q1 (by repeat (first | exact I7.nil | refine I7.cons rfl ?_)) (by repeat (first | exact A7.refl | exact A7.nil | refine A7.cons (by repeat (first | exact Pk.here | apply Pk.there)) ?_ | apply A7.drop)))) ?_ ?_)
 (dsimp only; exact ⟨by omega, hle.trans hle3, hsn, by rw [V6 (by omega), List.length_append]; simp only [List.length_drop]; omega, by simpa only [V6 (show i < ks.length by omega), List.length_append, List.drop_drop] using hs3, by simpa only [V6 (show i < ks.length by omega), List.length_append, List.drop_drop, Nat.add_assoc] using hr3⟩)
 (show ks.length - (i + 1) < ks.length - i; omega)
 refine S1 ?_
 (refine H7 (cs := es.flatten) (by repeat (first | exact Pk.here | apply Pk.there)) (fun G5 hle5 hsl5 hno5 => ?_); obtain rfl : i = ks.length := (by omega); rw [List.take_length] at hst hnl heL)
 refine tT ?_
 refine E5 (rC rfl (A3 rfl rfl)) (rT rfl) ?_
 (rw [hW2, hL2]; exact RtP.mk hk hnum hlb (by first | (rw [List.getD_eq_getElem?_getD, List.getElem?_eq_getElem (by omega), Option.getD_some, ← hT0]; exact hr1.mono (hle.trans hle5)) | exact hty.mono (hle.trans hle5) | (rw [List.getD_eq_getElem?_getD, List.getElem?_eq_getElem (by omega), Option.getD_some, ← hT0]; exact hr1.mono (hle.trans hle5))) (hfr.mono (by first | exact hle.trans hle5 | exact hle1.trans (hle.trans hle5))) (by rw [A2j]) hsl5 (hst.mono hle5) (by simp only [List.length_append, List.length_singleton, List.length_nil, List.length_drop] at hnl ⊢; omega) (hsL.mono hle5) (by simpa [List.drop_drop, Nat.add_comm] using heL.mono hle5))
 refine L5 ?_
 refine B3 ?_
 (have hL2 := hcn (by assumption); have hW2 := hwn (by assumption); refine S2 28 9 ?_; refine I1 (fun (x : Nat × Option Addr × Nat × List (List Value) × Option Addr × Nat × Nat × List (List Value) × IM) => ⟨[(25, .int .i64 x.1), (24, .int .i64 ks.length), (23, .slice q ks.length cq), (1, .slice x.2.2.2.2.1 x.2.2.2.2.2.1 x.2.2.2.2.2.2.1), (6, .pointer (some ⟨b11, 0, none⟩)), (4, .pointer (some ⟨b4, 0, none⟩))], [.blk b11 [.int .i64 k, .string nm, .int .i64 num, .int .i64 tk, .slice pt tks.length ct, .int .i64 fk, .slice pf fks.length cf, .int .i64 lb, .slice x.2.1 x.1 x.2.2.1], .slc x.2.1 x.2.2.1 28 9 x.1 x.2.2.2.1.flatten, .blk b4 [.int .i64 0, .string ⟨⟨[]⟩⟩, .int .i64 0, .int .i64 0, .slice none 0 0, .int .i64 0, .slice none 0 0, .int .i64 0, .slice none 0 0]], x.2.2.2.2.2.2.2.2⟩) (fun x => x.1 ≤ ks.length ∧ B7 G x.2.2.2.2.2.2.2.2 ∧ C7 x.2.2.2.2.2.2.2.2 (P9 (ks.take x.1) l) x.2.2.2.1 ∧ x.2.2.2.2.2.1 = (l.drop (H2 (ks.take x.1)).length).length ∧ C4 x.2.2.2.2.2.2.2.2 x.2.2.2.2.1 x.2.2.2.2.2.1 x.2.2.2.2.2.2.1 2 x.2.2.2.2.2.2.2.1 ∧ C2 x.2.2.2.2.2.2.2.2 (l.drop (H2 (ks.take x.1)).length) x.2.2.2.2.2.2.2.1) (fun x => ks.length - x.1) (0, none, 0, [], p, l.length, c, el, G) ?_ ?_ ?_)
 (simp only [H5]; exact C9)
 (exact ⟨Nat.zero_le _, B7.refl _, by simp [P9, C7], by simp [H2], hse, by simpa [H2] using hel⟩)
 (rintro ⟨(i : Nat), pn, cn, es, pl, nl, cl, eL, Gi⟩ ⟨hi, hle, hst, hnl, hsL, heL⟩; simp only [] at hi hle hst hnl hsL heL ⊢)
 refine tS (tR ?_)
 refine sB (I2 rfl rfl) rfl rfl (fun h151 => ?_) (fun h151 => ?_)
 refine sD (nS (tS (qT rfl (tK (nS (tS ?_))))))
 refine B3 ?_
 refine tS (tR ?_)
 (obtain ⟨b, o, e, rfl, hl, hat, hre, hgb⟩ := (hsl.mono (by first | exact hle | exact hle1.trans hle)).kidTm (hkl.mono (by first | exact hle | exact hle1.trans hle)) (i := i) (by omega) (by omega); have hone9 := hre.one; have hsc := A0t (ks := ks) (i := i) (by omega); have hsk := A0s (ks := ks) (i := i) (by omega); have hts1 := A3w (ks := ks) (i := i) (by omega); refine sP (A8 rfl rfl rfl (by omega)) rfl rfl ?_)
 refine sL (A0 rfl rfl (hat _) hl) rfl rfl ?_
 refine sE (A5 rfl) rfl (fun b164 => ?_)
 refine sS rfl rfl rfl hl hone9 rfl ?_ (hu := by exact D4 hl.symm)
 refine sD (nS (tS (tR ?_)))
 refine sL (A0 rfl rfl (A9 (by repeat first | exact mH | apply mT)) hl) rfl rfl ?_
 refine sQ (qM rfl) rfl ?_
 (subst hnl; refine Y0 rfl (ih ks[i] (List.getElem_mem (by omega)) _ _ _ _ _ _ (by simp only [List.length_drop]; rw [hL2] at hlen; simp only [List.length_append, List.length_singleton, List.length_nil] at hlen; omega) (fun u hu => hsm u (by first | exact List.mem_of_mem_drop hu | exact List.mem_of_mem_drop (List.mem_of_mem_drop hu))) (by omega) hre hsL heL) rfl rfl (fun v G3 outs hle3 hh => ?_); obtain ⟨rfl, cu, p3, c3, e3, rfl, hru, hs3, hr3⟩ := hh; have hsn := C7.snoc (hst.mono hle3) hru; obtain ⟨u1, u2, u3, u4, u5, u6, u7, u8, u9, rfl⟩ : ∃ u1 u2 u3 u4 u5 u6 u7 u8 u9, cu = [u1, u2, u3, u4, u5, u6, u7, u8, u9] := (by obtain ⟨_, _, _, _, _, _, _, _, _, rfl, _⟩ := hru.open; exact ⟨_, _, _, _, _, _, _, _, _, rfl⟩); have huo := hru.one)
 refine J2 ?_
 refine sE (A5 rfl) rfl (fun b176 => ?_)
 refine sS rfl rfl rfl rfl huo rfl ?_
 refine C3 ?_
 (refine K6 (D7 rfl rfl rfl (by omega) (by unfold maxLen; omega) rfl) rfl ?_; rintro _ ⟨b185, rfl⟩)
 (refine Z5 rfl rfl rfl rfl rfl (fun _ _ => by repeat (first | exact Sw.here | apply Sw.there)) (N8 (by repeat first | exact mH | apply mT)) rfl (fun u hu => List.all_eq_true.1 huo u hu) (by unfold maxLen; omega) (by omega) rfl (fun p4 c4 => ?_))
 refine D3 ?_
 refine sP (E8 rfl rfl (by omega) (by omega)) rfl rfl ?_
 refine sQ (qM rfl) rfl (sD ?_)
 (rw [← A3t (by omega)] at hsn; refine I4 (i + 1, p4, c4, es ++ [[u1, u2, u3, u4, u5, u6, u7, u8, u9]], p3, _, c3, e3, G3) (by simp only [List.flatten_append, List.flatten_cons, List.flatten_nil, List.append_nil]; exact (Q1 (by repeat (first | exact I7.nil | refine I7.cons rfl ?_)) (by repeat (first | exact A7.refl | exact A7.nil | refine A7.cons (by repeat (first | exact Pk.here | apply Pk.there)) ?_ | apply A7.drop)))) ?_ ?_)
 (dsimp only; exact ⟨by omega, hle.trans hle3, hsn, by rw [V6 (by omega), List.length_append]; simp only [List.length_drop]; omega, by simpa only [V6 (show i < ks.length by omega), List.length_append, List.drop_drop] using hs3, by simpa only [V6 (show i < ks.length by omega), List.length_append, List.drop_drop, Nat.add_assoc] using hr3⟩)
 (show ks.length - (i + 1) < ks.length - i; omega)
 refine S1 ?_
 (refine H7 (cs := es.flatten) (by repeat (first | exact Pk.here | apply Pk.there)) (fun G5 hle5 hsl5 hno5 => ?_); obtain rfl : i = ks.length := (by omega); rw [List.take_length] at hst hnl heL)
 refine tT ?_
 refine E5 (rC rfl (A3 rfl rfl)) (rT rfl) ?_
 (rw [hW2, hL2]; exact RtP.mk hk hnum hlb (by first | (rw [List.getD_eq_getElem?_getD, List.getElem?_eq_getElem (by omega), Option.getD_some, ← hT0]; exact hr1.mono (hle.trans hle5)) | exact hty.mono (hle.trans hle5) | (rw [List.getD_eq_getElem?_getD, List.getElem?_eq_getElem (by omega), Option.getD_some, ← hT0]; exact hr1.mono (hle.trans hle5))) (hfr.mono (by first | exact hle.trans hle5 | exact hle1.trans (hle.trans hle5))) (by rw [A2j]) hsl5 (hst.mono hle5) (by simp only [List.length_append, List.length_singleton, List.length_nil, List.length_drop] at hnl ⊢; omega) (hsL.mono hle5) (by simpa [List.drop_drop, Nat.add_comm] using heL.mono hle5))
section bits
variable {P : Program} {Γ : L7} {env : M0} {hp : List A4} {G : IM} {ty : TypeId}
theorem A8U {x y : Operand} {t t' : TypeId} {m i : Nat} (hx : evo env x = some (.int .i64 (m : Int))) (hy : evo env y = some (.int .i64 (i : Int))) (hi : i ≤ 63) :
  I9 P Γ ⟨env, hp, G⟩ (.binOp .shr t x y t') ty (.int .i64 ((m / 2 ^ i : Nat) : Int)) := by
 refine ⟨fun a _ hs _ _ _ _ w => ?_⟩
 have h1 : min ((i : Int)).toNat (IntKind.bits .i64) = i := by
  have : IntKind.bits .i64 = 64 := rfl
  rw [this, Int.toNat_natCast]; omega
 have h2 : ¬ ((i : Int) < 0) := by omega
 simp only [execOp, eqGuard, binOp, Op.shift, (hs.evo hx : a.eval x = _), (hs.evo hy : a.eval y = _), h1, if_neg h2]
 have h3 : (m : Int).fdiv (2 ^ i) = ((m / 2 ^ i : Nat) : Int) := by
  rw [Int.fdiv_eq_ediv_of_nonneg _ (Int.le_of_lt (Int.pow_pos (by decide)))]
  norm_cast
 rw [h3]; rfl
theorem A8V {x y : Operand} {t t' : TypeId} {m : Nat} (hx : evo env x = some (.int .i64 (m : Int))) (hy : evo env y = some (.int .i64 1)) :
  I9 P Γ ⟨env, hp, G⟩ (.binOp .and t x y t') ty (.int .i64 ((m % 2 : Nat) : Int)) := by
 refine ⟨fun a _ hs _ _ _ _ w => ?_⟩
 have h1 : (BitVec.ofInt (IntKind.bits .i64) (m : Int) &&& BitVec.ofInt (IntKind.bits .i64) 1).toNat = m % 2 := by
  have hb : IntKind.bits .i64 = 64 := rfl
  rw [hb, BitVec.toNat_and]
  have e1 : (BitVec.ofInt 64 (m : Int)).toNat = m % 2 ^ 64 := by rw [BitVec.ofInt_natCast, BitVec.toNat_ofNat]
  have e2 : (BitVec.ofInt 64 1).toNat = 1 := rfl
  rw [e1, e2, Nat.and_one_is_mod]; omega
 have h2 : IntKind.wrap .i64 ((m % 2 : Nat) : Int) = ((m % 2 : Nat) : Int) := A1Q _ rfl (by omega) (by omega)
 simp only [execOp, eqGuard, binOp, Op.intBits, (hs.evo hx : a.eval x = _), (hs.evo hy : a.eval y = _), ne_eq, not_true_eq_false, if_false, h1, h2]
 rfl
theorem A5J {x y : Operand} {t t' : TypeId} {n : Nat} (hx : evo env x = some (.int .i64 1)) (hy : evo env y = some (.int .i64 (n : Int))) (hn : n ≤ 62) :
  I9 P Γ ⟨env, hp, G⟩ (.binOp .shl t x y t') ty (.int .i64 ((2 ^ n : Nat) : Int)) := by
 refine ⟨fun a _ hs _ _ _ _ w => ?_⟩
 have h1 : min ((n : Int)).toNat (IntKind.bits .i64) = n := by
  have : IntKind.bits .i64 = 64 := rfl
  rw [this, Int.toNat_natCast]; omega
 have h2 : ¬ ((n : Int) < 0) := by omega
 have hp : (2 : Nat) ^ n ≤ 2 ^ 62 := Nat.pow_le_pow_right (by decide) hn
 have h3 : (1 : Int) * 2 ^ n = ((2 ^ n : Nat) : Int) := by push_cast; rw [Int.one_mul]
 have h4 : IntKind.wrap .i64 ((2 ^ n : Nat) : Int) = ((2 ^ n : Nat) : Int) := A1Q _ rfl (Int.le_trans (by decide) (Int.natCast_nonneg _)) (Int.le_trans (Int.ofNat_le.2 hp) (by decide))
 simp only [execOp, eqGuard, binOp, Op.shift, (hs.evo hx : a.eval x = _), (hs.evo hy : a.eval y = _), h1, if_neg h2, h3, h4]
 rfl
end bits
theorem B3f {cs vs cs' C : List Value} {o : Nat} (h : O5 cs o vs = some cs') : cs' ++ C = (cs ++ C).take o ++ vs ++ (cs ++ C).drop (o + vs.length) := by
 obtain ⟨h1, h2⟩ := A1S h
 rw [h1, List.take_append_of_le_length (by omega), List.drop_append_of_le_length (by omega)]
 simp
section wr
variable {P : Program} {Γ : L7} {env : M0} {hp : List A4} {G : IM} {ty : TypeId} {K : Po} {ops : Array Oper} {rest : List Oper}
theorem B3g {d : Option Nat} {x y : Operand} {t : TypeId} {i : L0} [hI : H6 P t i] {b o c el sz n : Nat} {v : Value} {vs cs cs' : List Value} {hp' : List A4}
  (hx : evo env x = some (.pointer (some ⟨b, o, none⟩))) (hy : evo env y = some v) (hv : v.cells = ⟨vs⟩) (hsz : vs.length = i.size) (h1 : vs.all (·.oneCell') = true)
  (hu : O5 cs o vs = some cs') (hm : Sw hp (.slc (some ⟨b, 0, none⟩) c el sz n cs) (.slc (some ⟨b, 0, none⟩) c el sz n cs') hp') (hd : dok Γ.n d = true) :
  U6 P Γ ⟨env, hp, G⟩ d (.store t x y) ty [b] (fun σ' => σ' = ⟨dpu d undef env, hp', G⟩) := by
 refine ⟨fun a w hs pos af gd Q next hn => ?_⟩
 obtain ⟨rest, p1, p2⟩ := hm.perm
 have hown : R7 [.slc (some ⟨b, 0, none⟩) c el sz n cs] G w := hs.res.own.of_mem p1
 obtain ⟨hl, h⟩ := hown.ok _ List.mem_cons_self
 rcases h with ⟨hv', _⟩ | ⟨g, cap, cur, hv', hbg, hg, hnc, hcm, hcs, ht⟩
 ·cases hv'
 cases hv'
 obtain ⟨u1, u2⟩ := A1S hu
 have hcur : cur.toList = cs ++ cur.toList.drop (n * sz) := by
  conv => lhs; rw [← List.take_append_drop (n * sz) cur.toList, ht]
 have hlen : cs.length ≤ cur.size := by
  rw [hl, hcs]; exact Nat.mul_le_mul_right _ hnc
 have hst := run_storeCells_at P b o el vs 0 cur w hg (by omega) (by simpa using h1)
 obtain ⟨cur', hcur'⟩ : ∃ l : List Value, l = cs' ++ cur.toList.drop (n * sz) := ⟨_, rfl⟩
 have hcc : cur.toList.take (o + 0) ++ vs ++ cur.toList.drop (o + 0 + vs.length) = cur' := by
  rw [hcur', Nat.add_zero, B3f hu, ← hcur]
 rw [hcc] at hst
 have hl' : cs'.length = cs.length := by rw [u1]; simp; omega
 have hsz' : cur'.length = cur.size := by
  have := congrArg List.length hcur
  rw [hcur', List.length_append, hl']
  simpa using this.symm
 obtain ⟨inf, g1, g2, _⟩ := hI.info
 have hrun : (execOp a.eval ⟨d, .store t x y, ty, pos, af, gd⟩).run P w = .ok .skip (w.setRow b cur'.toArray) := by
  simp [execOp, Instr.storeAt, Instr.sureAddr, (hs.evo hx : a.eval x = _), (hs.evo hy : a.eval y = _), storeVar, sizeOf, typeInfo, g1, g2, hv, hsz, hst]
 simp only [Oper.wp, hrun, Oper.upon]
 have hr' : O3 [.slc (some ⟨b, 0, none⟩) c el sz n cs] G w [.slc (some ⟨b, 0, none⟩) c el sz n cs'] G (w.setRow b cur'.toArray) := by
  refine ⟨⟨?_, ?_, by simp [Fp, A4.fp, H4], ?_⟩, ⟨rfl, rfl, rfl, by simp [World.setRow], fun k _ hk => setRow_other w b k _ (by rintro rfl; simp [Fp, A4.fp, H4] at hk)⟩, B7.refl _, fun _ _ h => .inl h, ?_, fun b l h h0 => absurd h (by rw [h0]; simp)⟩
  ·intro k l hg'
   obtain ⟨e', f', h'⟩ := hown.inn k l hg'
   refine ⟨e', f', ?_⟩
   rw [setRow_other w b k _ ?_]
   ·exact h'
   ·rintro rfl
    have := hown.disj k (by simp [Fp, A4.fp, H4])
    rw [this] at hg'; cases hg'
  ·intro x hx
   simp at hx; subst hx
   refine ⟨by rw [hl', hl], .inr ⟨b, _, cur'.toArray, rfl, hbg, setRow_heap w b cur cur'.toArray el (0, 0) hg, hnc, hcm, by rw [List.size_toArray, hsz', hcs], ?_⟩⟩
   rw [hcur', List.take_left' (by rw [hl', hl])]
  ·intro k hk
   exact hown.disj k (by simpa [Fp, A4.fp, H4] using hk)
  ·intro k hk
   exact .inr (by simpa [Fp, A4.fp, H4] using hk)
 exact hn _ _ _ (hs.step p1 hr' p2 hd) (by simpa [Fp, A4.fp, H4] using hr'.ext) rfl
variable {pos : String} {af : Array Edge} {gd : Option (Nat × Bool)}
theorem A8W {c el sz n : Nat} {cs vs : List Value} {x y : Operand} {t : TypeId} {i : L0} [hI : H6 P t i] {bb o : Nat} {v : Value} {cs' : List Value} {hp' : List A4}
  (hx : evo env x = some (.pointer (some ⟨bb, o, none⟩))) (hy : evo env y = some v) (hv : v.cells = ⟨vs⟩) (hsz : vs.length = i.size) (h1 : vs.all (·.oneCell') = true)
  (hw : K3 ops env gd = some true) (hsw : Sw hp (.slc (some ⟨bb, 0, none⟩) c el sz n cs) (.slc (some ⟨bb, 0, none⟩) c el sz n cs') hp') (hu : O5 cs o vs = some cs')
  (k : E0 P Γ ops rest K ⟨env, hp', G⟩) : E0 P Γ ops (⟨none, .store t x y, ty, pos, af, gd⟩ :: rest) K ⟨env, hp, G⟩ :=
 K6 (B3g hx hy hv hsz h1 hu hsw rfl) hw (by rintro _ rfl; exact k)
theorem St.slc_ptT {p : Option Addr} {c el sz n : Nat} {cs : List Value} {a : Act} {w : World} (hs : St Γ ⟨env, hp, G⟩ a w) (hm : A4.slc p c el sz n cs ∈ hp) :
  (p = none ∧ n = 0 ∧ c = 0) ∨ ∃ g, p = some ⟨g, 0, none⟩ ∧ n ≤ c := by
 obtain ⟨_, h⟩ := hs.res.own.ok _ hm
 rcases h with ⟨hv, hn⟩ | ⟨g, cap, cur, hv, _, _, hnc, _⟩
 ·cases hv; exact .inl ⟨rfl, hn, rfl⟩
 ·cases hv; exact .inr ⟨g, rfl, hnc⟩
end wr
theorem A8X {es : List (List Value)} {i sz : Nat} {vs : List Value} (hi : i < es.length) (ha : ∀ e ∈ es, e.length = sz) (hv : vs.length = sz) : O5 es.flatten (0 + i * sz) vs = some (es.set i vs).flatten := by
 have h1 : es.flatten = (es.take i).flatten ++ (es[i] ++ (es.drop (i + 1)).flatten) := by
  conv => lhs; rw [← List.take_append_drop i es, List.drop_eq_getElem_cons hi]
  rw [List.flatten_append, List.flatten_cons]
 have h2 : (es.set i vs).flatten = (es.take i).flatten ++ (vs ++ (es.drop (i + 1)).flatten) := by rw [List.set_eq_take_append_cons_drop, if_pos hi, List.flatten_append, List.flatten_cons]
 have hA : ((es.take i).flatten).length = 0 + i * sz := by rw [Z6 (fun e he => ha e (List.mem_of_mem_take he)), List.length_take, Nat.min_eq_left (by omega)]; omega
 rw [h1, h2]
 exact A24 hA (by rw [ha _ (List.getElem_mem hi), hv])
theorem C2.set {G : IM} : ∀ {l : List Ty} {es : List (List Value)} (i : Nat) {u : Ty} {c : List Value}, C2 G l es → B6 G u c → C2 G (l.set i u) (es.set i c)
 | [], es, i, u, c, h, _ => by simp only [C2] at h; subst h; simp [C2]
 | t :: l, es, 0, u, c, h, h2 => by
  simp only [C2] at h
  obtain ⟨a, r, rfl, _, h3⟩ := h
  simp only [List.set_cons_zero, C2]
  exact ⟨c, r, rfl, h2, h3⟩
 | t :: l, es, i + 1, u, c, h, h2 => by
  simp only [C2] at h
  obtain ⟨a, r, rfl, h4, h3⟩ := h
  simp only [List.set_cons_succ, C2]
  exact ⟨a, _, rfl, h4, C2.set i h3 h2⟩
mutual
theorem A4k : ∀ t : Tm, t.small → ∀ u ∈ I5 t, u.small
 | .mk k nm num ty fr lb ks, h, u, hu => by
  simp only [Tm.small] at h
  rw [I5] at hu
  rcases List.mem_append.1 hu with hu | hu
  ·split at hu
   ·simp only [List.mem_singleton] at hu; subst hu; exact h.2.1
   ·cases hu
  ·exact A8Y ks h.2.2.2.2 u hu
theorem A8Y : ∀ ts : List Tm, Tm.smallL ts → ∀ u ∈ H2 ts, u.small
 | [], _, u, hu => by simp [H2] at hu
 | t :: ts, h, u, hu => by
  simp only [Tm.smallL] at h
  rw [H2] at hu
  rcases List.mem_append.1 hu with hu | hu
  ·exact A4k t h.1 u hu
  ·exact A8Y ts h.2 u hu
end
theorem A5K : (Ty.mk 1 []).small := by simp [Ty.small, Ty.smallL]
theorem A4l (G : IM) : B6 G (.mk 1 []) [.int .i64 1, .slice none 0 0] := by
 simp only [B6]; exact ⟨none, 0, [], rfl, ⟨by decide, by decide⟩, C4.nil G 2, by simp [C2]⟩
theorem B3h (t : Tm) (m : Nat) (G : IM) (cells : List Value) (hts : t.small) (hcnt : D1 t ≤ 4000000) (h6 : (I5 t).length ≤ 60) (hm : m ≤ 4294967296) (hr : A6 G t cells) :
  Fn Tryz.prog 76 [.agg ⟨cells⟩, .int .i64 (m : Int)] [] G (J8 fun G' v => ∃ cu, v = .agg ⟨cu⟩ ∧ A6 G' (X7 t m) cu) := by
 have hlen9 := hr.len
 have hone9 := hr.one
 have hTy := A8S t G cells hts hcnt hr
 have hst0 := A4k t hts
 obtain ⟨L, hL⟩ : ∃ L, I5 t = L := ⟨_, rfl⟩
 have hB : X7 t m = W4 t (R6 m 0 L) := by unfold X7; rw [hL]
 have hml := A2k m L 0
 have hRt := fun G cells p c el hr => B3e t (R6 m 0 L) G cells p c el (Nat.le_of_eq (by rw [hL, hml])) (fun u hu => by rcases A3u m L 0 u hu with rfl | hu; exact A5K; exact hst0 u (by rw [hL]; exact hu)) hcnt hr
 rw [hml] at hRt
 rw [hL] at hTy h6
 refine B4 Tryz.func76 rfl Tryz.ntmps76 Tryz.results76 rfl ?_
 intro w0
 refine tS (tR ?_)
 refine sE (C1 rfl rfl) rfl (fun b3 => ?_)
 refine sE (A5 rfl) rfl (fun b4 => ?_)
 refine sD (nS (tS (tR ?_)))
 refine sL (A0 rfl rfl (A9 (by repeat first | exact mH | apply mT)) hlen9) rfl rfl ?_
 (refine Y0 rfl hTy rfl rfl (fun v G1 outs hle1 hh => ?_); obtain ⟨p, c, es0, rfl, rfl, hr1⟩ := hh; have hel := hr1.len)
 refine F8 ?_
 refine B3 ?_
 (refine A6j (fun a w hs => hs.slc_ptT (p := p) (c := c) (el := 25) (sz := 2) (n := L.length) (cs := es0.flatten) (by repeat first | exact mH | apply mT)) (fun hq => ?_); refine I1 (fun (x : Nat × List (List Value)) => ⟨[(13, .int .i64 x.1), (12, .int .i64 L.length), (5, .slice p L.length c), (1, .int .i64 (m : Int)), (2, .pointer (some ⟨b3, 0, none⟩)), (4, .pointer (some ⟨b4, 0, none⟩))], [.slc p c 25 2 L.length x.2.flatten, .blk b4 [.int .i64 0, .string ⟨⟨[]⟩⟩, .int .i64 0, .int .i64 0, .slice none 0 0, .int .i64 0, .slice none 0 0, .int .i64 0, .slice none 0 0], .blk b3 cells], G1⟩) (fun x => x.1 ≤ L.length ∧ C2 G1 (R6 m 0 (L.take x.1) ++ L.drop x.1) x.2) (fun x => L.length - x.1) (0, es0) ?_ ?_ ?_)
 (simp only [H5]; exact C9)
 (exact ⟨Nat.zero_le _, by simpa [R6] using hr1⟩)
 (rintro ⟨(i : Nat), es⟩ ⟨hi, hst⟩; simp only [] at hi hst ⊢; have hesl : es.length = L.length := (by have h0 := hst.len; simp only [List.length_append, A2k, List.length_take, List.length_drop] at h0; omega); have hstep := A8Q m L i)
 refine tS (tR ?_)
 refine sB (I2 rfl rfl) rfl rfl (fun h29 => ?_) (fun h29 => ?_)
 refine sD (nS (tS (qT rfl (tK (nS (tS ?_))))))
 refine B3 ?_
 refine I8 ?_
 refine sP (A8U rfl rfl (by omega)) rfl rfl ?_
 refine sQ (A8V rfl rfl) rfl (sB (qE rfl rfl) rfl rfl (fun h50 => ?_) (fun h50 => ?_))
 refine sD (nS (qT rfl (tR (sQ (qM rfl) rfl (sQ (qM rfl) rfl ?_)))))
 refine I3 rfl (A00 1 _) rfl rfl ?_
 (obtain ⟨g, rfl, hgc⟩ := hq.resolve_left (by omega); refine sP (A8 (j := i) rfl rfl rfl (by omega)) rfl rfl ?_)
 refine A8W rfl rfl rfl rfl rfl rfl (by repeat first | exact Sw.here | apply Sw.there) (A8X (by omega) (fun e he => (hst.each e he).1) rfl) ?_
 refine sD (P4 (nS (tR ?_)))
 refine sP (E8 rfl rfl (by omega) (by omega)) rfl rfl ?_
 refine sQ (qM rfl) rfl (sD ?_)
 (rw [if_pos (by omega)] at hstep; refine I4 (i + 1, es.set i [.int .i64 1, .slice none 0 0]) ?_ ?_ ?_)
 (simp only [H5]; exact C9)
 (dsimp only; exact ⟨by omega, by rw [hstep (by omega)]; first | exact hst.set i (A4l _) | exact hst⟩)
 (show L.length - (i + 1) < L.length - i; omega)
 refine sD (nS (cF rfl (tK (P4 (nS (tR ?_))))))
 refine sP (E8 rfl rfl (by omega) (by omega)) rfl rfl ?_
 refine sQ (qM rfl) rfl (sD ?_)
 (rw [if_neg (by omega)] at hstep; refine I4 (i + 1, es) ?_ ?_ ?_)
 (simp only [H5]; exact C9)
 (dsimp only; exact ⟨by omega, by rw [hstep (by omega)]; first | exact hst.set i (A4l _) | exact hst⟩)
 (show L.length - (i + 1) < L.length - i; omega)
 refine F8 ?_
 refine sL (A0 rfl rfl (A9 (by repeat first | exact mH | apply mT)) hlen9) rfl rfl ?_
 refine sQ (qM rfl) rfl ?_
 (obtain rfl : i = L.length := (by omega); rw [List.take_length, List.drop_length, List.append_nil] at hst; refine A1X (cs := es.flatten) (by repeat (first | exact Pk.here | apply Pk.there)) (fun G2 hle2 hsl2 hno2 => ?_); refine Y0 rfl (hRt G2 cells p c es ((hr.mono hle1).mono hle2) (C4.of hsl2 hesl hst.all (fun e he => (hst.each e he).2)) (hst.mono hle2)) rfl rfl (fun v G3 outs hle3 hh => ?_); obtain ⟨rfl, cu, p3, c3, e3, rfl, hru, hs3, hr3⟩ := hh; rw [← hB] at hru; have hul := hru.len; have huo := hru.one)
 refine J2 ?_
 refine sE (A5 rfl) rfl (fun b102 => ?_)
 refine sS rfl rfl rfl hul huo rfl ?_ (hu := by exact D4 hul.symm)
 refine sQ (qA rfl) rfl (sD (nS (tS (tR ?_))))
 refine sL (A0 rfl rfl (A9 (by repeat first | exact mH | apply mT)) hul) rfl rfl ?_
 refine sS rfl rfl rfl hul huo rfl ?_ (hu := by exact D4 hul.symm)
 refine sD (nS (tT ?_))
 refine E1 (rC rfl (A0 rfl rfl (A9 (by repeat first | exact mH | apply mT)) hul)) ?_
 (exact ⟨rfl, cu, rfl, hru⟩)
def W5 (e : Tm) : Option (List Tm) := if (Q8 e).isSome = true ∧ (I5 e).length ≤ 6 then some (A3v e) else none
def CfP (r : Option (List Tm)) : IM → Value → List A4 → Prop := fun G' v outs => outs = [] ∧ ∃ p c es, v = .tuple ⟨[.slice p (r.getD []).length c, .bool r.isSome]⟩ ∧ C4 G' p (r.getD []).length c 9 es ∧ C7 G' (r.getD []) es
theorem A8Z {r : Option (List Tm)} {G' : IM} (h : r = none) : CfP r G' (.tuple ⟨[.slice none 0 0, .bool false]⟩) [] := by
 subst h; exact ⟨rfl, none, 0, [], rfl, C4.nil G' 9, by simp [C7]⟩
theorem B3i {r : Option (List Tm)} {l : List Tm} {G' : IM} {p : Option Addr} {n c : Nat} {es : List (List Value)} (h : r = some l) (hn : n = l.length) (hs : Sl G' p n c 9 es.flatten) (hr : C7 G' l es) : CfP r G' (.tuple ⟨[.slice p n c, .bool true]⟩) [] := by
 subst h hn
 exact ⟨rfl, p, c, es, rfl, C4.of hs hr.len hr.all (fun e he => by obtain ⟨j, hj⟩ := List.getElem?_of_mem he; exact (hr.inv hj K7).2.one), hr⟩
theorem A80 {α : Type} (f : Nat → α) (i : Nat) : (List.range (i + 1)).map f = (List.range i).map f ++ [f i] := by rw [List.range_succ, List.map_append]; rfl
theorem B3j (t : Tm) (G : IM) (cells : List Value) (hts : t.small) (hcnt : D1 t ≤ 4000000) (hr : A6 G t cells) :
  Fn Tryz.prog 105 [.agg ⟨cells⟩] [] G (CfP (W5 t)) := by
 have hlen9 := hr.len
 have hone9 := hr.one
 obtain ⟨L, hL⟩ : ∃ L, (I5 t).length = L := ⟨_, rfl⟩
 have hno : ¬ ((Q8 t).isSome = true ∧ L ≤ 6) → W5 t = none := fun h => by unfold W5; rw [hL, if_neg h]
 have hyes : (Q8 t).isSome = true ∧ L ≤ 6 → W5 t = some ((List.range (2 ^ L)).map (X7 t)) := fun h => by unfold W5; rw [hL, if_pos h]; unfold A3v; rw [hL]
 have hLb := A4j t
 generalize W5 t = R at *
 have hTy := fun G hr => A8S t G cells hts hcnt hr
 refine B4 Tryz.func105 rfl Tryz.ntmps105 Tryz.results105 rfl ?_
 intro w0
 refine tS (tR ?_)
 refine sE (C1 rfl rfl) rfl (fun b3 => ?_)
 refine C3 ?_
 refine sL (A0 rfl rfl (A9 (by repeat first | exact mH | apply mT)) hlen9) rfl rfl ?_
 (refine D2 rfl (B3c t G cells hr) rfl rfl (fun v1 G1 hle1 hh => ?_); obtain ⟨ct, u, rfl, hru, _⟩ := hh; obtain ⟨qt, dt, et2, rfl, _⟩ := hru.open; have hr1 := hr.mono hle1; generalize (Q8 t).isSome = A1 at *; cases A1)
 refine J2 ?_
 refine sE (A5 rfl) rfl (fun b16 => ?_)
 refine A22 ?_
 refine E5 (rT rfl) (rT rfl) ?_
 (exact A8Z (hno (fun hc => by first | exact Bool.noConfusion hc.1 | omega)))
 refine J2 ?_
 refine sE (A5 rfl) rfl (fun b47 => ?_)
 refine D8 ?_
 refine sL (A0 rfl rfl (A9 (by repeat first | exact mH | apply mT)) hlen9) rfl rfl ?_
 (refine Y0 rfl (hTy _ hr1) rfl rfl (fun v2 G2 outs hle2 hh => ?_); obtain ⟨p2, c2, es2, rfl, rfl, hr2⟩ := hh; rw [hL]; have hr3 := hr1.mono hle2)
 refine sQ (pLn rfl rfl) rfl ?_
 refine sB (A0W rfl rfl) rfl rfl (fun h60 => ?_) (fun h60 => ?_)
 refine J9 ?_
 refine E5 (rT rfl) (rT rfl) ?_
 (exact A8Z (hno (fun hc => by first | exact Bool.noConfusion hc.1 | omega)))
 refine L5 ?_
 refine sL (A0 rfl rfl (A9 (by repeat first | exact mH | apply mT)) hlen9) rfl rfl ?_
 (refine Y0 rfl (hTy _ hr3) rfl rfl (fun v3 G3 outs hle3 hh => ?_); obtain ⟨p4, c4, es4, rfl, rfl, hr4⟩ := hh; rw [hL]; have hr5 := hr3.mono hle3)
 refine sQ (pLn rfl rfl) rfl ?_
 refine sP (A5J rfl rfl (by omega)) rfl rfl ?_
 refine sQ (qM rfl) rfl (sD (nS ?_))
 refine B3 ?_
 (have hp64 : 2 ^ L ≤ 2 ^ 6 := Nat.pow_le_pow_right (by decide) (by omega); have hyy := hyes ⟨rfl, by omega⟩; generalize 2 ^ L = M at *; refine S2 28 9 ?_; refine I1 (fun (x : Nat × Option Addr × Nat × List (List Value) × IM) => ⟨[(25, .int .i64 x.1), (24, .int .i64 M), (6, .slice x.2.1 x.1 x.2.2.1), (1, .pointer (some ⟨b3, 0, none⟩))], [.slc x.2.1 x.2.2.1 28 9 x.1 x.2.2.2.1.flatten, .blk b3 cells], x.2.2.2.2⟩) (fun x => x.1 ≤ M ∧ B7 G3 x.2.2.2.2 ∧ C7 x.2.2.2.2 ((List.range x.1).map (X7 t)) x.2.2.2.1) (fun x => M - x.1) (0, none, 0, [], G3) ?_ ?_ ?_)
 (simp only [H5]; exact C9)
 (exact ⟨Nat.zero_le _, B7.refl _, by simp [C7]⟩)
 (rintro ⟨(i : Nat), pn, cn, es, Gi⟩ ⟨hi, hle, hst⟩; simp only [] at hi hle hst ⊢; have hr6 := hr5.mono hle)
 refine tS (tR ?_)
 refine sB (I2 rfl rfl) rfl rfl (fun h103 => ?_) (fun h103 => ?_)
 refine sD (nS (tS (qT rfl (tK (nS (tS ?_))))))
 refine B3 ?_
 refine D3 ?_
 refine sL (A0 rfl rfl (A9 (by repeat first | exact mH | apply mT)) hlen9) rfl rfl ?_
 refine sQ (qM rfl) rfl ?_
 (refine D2 rfl (B3h t i Gi cells hts hcnt (by omega) (by omega) hr6) rfl rfl (fun v7 G7 hle7 hh => ?_); obtain ⟨cu, rfl, hru7⟩ := hh; have hsn := C7.snoc (hst.mono hle7) hru7; have huo := hru7.one; obtain ⟨u1, u2, u3, u4, u5, u6, u7, u8, u9, rfl⟩ : ∃ u1 u2 u3 u4 u5 u6 u7 u8 u9, cu = [u1, u2, u3, u4, u5, u6, u7, u8, u9] := (by obtain ⟨_, _, _, _, _, _, _, _, _, rfl, _⟩ := hru7.open; exact ⟨_, _, _, _, _, _, _, _, _, rfl⟩))
 (refine K6 (D7 rfl rfl rfl (by omega) (by unfold maxLen; omega) rfl) rfl ?_; rintro _ ⟨b123, rfl⟩)
 (refine Z5 rfl rfl rfl rfl rfl (fun _ _ => by repeat (first | exact Sw.here | apply Sw.there)) (N8 (by repeat first | exact mH | apply mT)) rfl (fun u hu => List.all_eq_true.1 huo u hu) (by unfold maxLen; omega) (by omega) rfl (fun p8 c8 => ?_))
 refine sQ (qA rfl) rfl (sD (P4 (nS (tR ?_))))
 refine sP (E8 rfl rfl (by omega) (by omega)) rfl rfl ?_
 refine sQ (qM rfl) rfl (sD ?_)
 (refine I4 (i + 1, p8, c8, es ++ [[u1, u2, u3, u4, u5, u6, u7, u8, u9]], G7) (by simp only [List.flatten_append, List.flatten_cons, List.flatten_nil, List.append_nil]; exact (Q1 (by repeat (first | exact I7.nil | refine I7.cons rfl ?_)) (by repeat (first | exact A7.refl | exact A7.nil | refine A7.cons (by repeat (first | exact Pk.here | apply Pk.there)) ?_ | apply A7.drop)))) ?_ ?_)
 (dsimp only; exact ⟨by omega, hle.trans hle7, by rw [A80]; exact hsn⟩)
 (show M - (i + 1) < M - i; omega)
 refine J1 ?_
 (refine H7 (cs := es.flatten) (by repeat (first | exact Pk.here | apply Pk.there)) (fun G9 hle9 hsl9 hno9 => ?_); obtain rfl : i = M := (by omega))
 refine tT ?_
 refine E5 (rT rfl) (rT rfl) ?_
 (exact B3i hyy (by simp) hsl9 (hst.mono hle9))
def MsP (r : Option (List Int)) (e : A4) (G : IM) : IM → Value → List A4 → Prop := fun G' v outs => outs = [e] ∧ ∃ p c, v = .tuple ⟨[.slice p (r.getD []).length c, .bool r.isSome]⟩ ∧ SP1 (B2 G' G) (r.getD []) p c
theorem MsP.mk {o : Option (List Tm)} {f : Tm → Int} {r : Option (List Int)} {e : A4} {G G' : IM} {p : Option Addr} {n c : Nat} (hr : r = o.map (List.map f)) (hn : n = (o.getD []).length) (hs : SP1 (B2 G' G) ((o.getD []).map f) p c) : MsP r e G G' (.tuple ⟨[.slice p n c, .bool o.isSome]⟩) [e] := by
 subst hr hn
 refine ⟨rfl, p, c, ?_, ?_⟩
 ·cases o <;> simp
 ·cases o with
  | none => simpa using hs
  | some l => simpa using hs
theorem B3k (t : Tm) (f : Tm → Int) (fid : FuncId) [B1 Tryz.prog fid] (us cs : List Value) (ent : A4) (G : IM) (cells : List Value) (hts : t.small) (hcnt : D1 t ≤ 4000000) (hr : A6 G t cells)
  (hq : ∀ (x : Tm) (G' : IM) (xc : List Value), B7 G G' → x ∈ (W5 t).getD [] → A6 G' x xc → Fn Tryz.prog fid (us ++ [.agg ⟨xc⟩] ++ cs) [ent] G' (fun _ v outs => outs = [ent] ∧ v = .int .i64 (f x))) :
  Fn Tryz.prog 65 [.agg ⟨cells⟩, .func (.func fid) ⟨us⟩ ⟨cs⟩] [ent] G (MsP ((W5 t).map (List.map f)) ent G) := by
 have hlen9 := hr.len
 have hone9 := hr.one
 have hC := B3j t G cells hts hcnt hr
 obtain ⟨R, hR⟩ : ∃ R, (W5 t).map (List.map f) = R := ⟨_, rfl⟩
 rw [hR]
 have hk64 : ((W5 t).getD []).length ≤ 64 := by
  unfold W5
  split
  ·rename_i h
   have : 2 ^ (I5 t).length ≤ 2 ^ 6 := Nat.pow_le_pow_right (by decide) h.2
   simp only [Option.getD_some, A3v, List.length_map, List.length_range]; omega
  ·simp
 generalize W5 t = C at *
 obtain ⟨l, hl⟩ : ∃ l, C.getD [] = l := ⟨_, rfl⟩
 refine B4 Tryz.func65 rfl Tryz.ntmps65 Tryz.results65 rfl ?_
 intro w0
 refine tS (tR ?_)
 refine sE (C1 rfl rfl) rfl (fun b3 => ?_)
 refine sQ (qA rfl) rfl (sQ (qA rfl) rfl (sD (nS (tS (tR ?_)))))
 refine sL (A0 rfl rfl (A9 (by repeat first | exact mH | apply mT)) (by assumption)) rfl rfl ?_
 (refine Y0 rfl hC rfl rfl (fun v1 G1 outs hle1 hh => ?_); obtain ⟨rfl, p1, c1, e1, rfl, hs1, hr1⟩ := hh; rw [hl] at hs1 hr1 hk64 hq ⊢)
 refine A0b ?_
 refine B3 ?_
 (refine S2 3 1 ?_; refine I1 (fun (x : Nat × Option Addr × Nat × IM) => ⟨[(18, .int .i64 x.1), (17, .int .i64 l.length), (16, .slice p1 l.length c1), (8, .slice x.2.1 x.1 x.2.2.1), (7, .bool C.isSome), (1, .func (.func fid) ⟨us⟩ ⟨cs⟩)], [.slc x.2.1 x.2.2.1 3 1 x.1 (N3 ((l.take x.1).map f)), ent], x.2.2.2⟩) (fun x => x.1 ≤ l.length ∧ B7 G1 x.2.2.2) (fun x => l.length - x.1) (0, none, 0, G1) ?_ ?_ ?_)
 (simp only [H5]; exact C9)
 (exact ⟨Nat.zero_le _, B7.refl _⟩)
 (rintro ⟨(i : Nat), pn, cn, Gi⟩ ⟨hi, hle⟩; simp only [] at hi hle ⊢)
 refine tS (tR ?_)
 refine sB (I2 rfl rfl) rfl rfl (fun h39 => ?_) (fun h39 => ?_)
 refine sD (nS (tS (qT rfl (tK (nS (tS ?_))))))
 refine B3 ?_
 refine tS (tR ?_)
 (obtain ⟨b, o, e, rfl, hel, hat, hre, hgb⟩ := (hs1.mono hle).kidTm (hr1.mono hle) (i := i) (by omega) (by omega); have heo := hre.one; refine sP (A8 rfl rfl rfl (by omega)) rfl rfl ?_)
 refine sL (A0 rfl rfl (hat _) hel) rfl rfl ?_
 refine sE (A5 rfl) rfl (fun b52 => ?_)
 refine sS rfl rfl rfl hel heo rfl ?_ (hu := by exact D4 hel.symm)
 refine sD (nS (tR (sQ (qM rfl) rfl (sQ (qM rfl) rfl ?_))))
 refine sL (A0 rfl rfl (A9 (by repeat first | exact mH | apply mT)) hel) rfl rfl ?_
 (refine K6 (A3F rfl rfl (hq l[i] Gi e (hle1.trans hle) (List.getElem_mem (by omega)) hre) (Pk.perm (by repeat (first | exact Pk.here | apply Pk.there))) rfl) rfl ?_; rintro _ ⟨v, G7, outs, rfl, hle7, rfl, rfl⟩)
 (refine K6 (D7 rfl rfl rfl (by omega) (by unfold maxLen; omega) rfl) rfl ?_; rintro _ ⟨b61, rfl⟩)
 (refine Z5 rfl rfl rfl rfl rfl (fun _ _ => by repeat (first | exact Sw.here | apply Sw.there)) (N8 (by repeat first | exact mH | apply mT)) rfl (by simp [Value.oneCell']) (by unfold maxLen; omega) (by omega) rfl (fun p8 c8 => ?_))
 refine sQ (qA rfl) rfl (sD (P4 (nS (tR ?_))))
 refine sP (E8 rfl rfl (by omega) (by omega)) rfl rfl ?_
 refine sQ (qM rfl) rfl (sD ?_)
 (refine I4 (i + 1, p8, c8, G7) (by rw [List.take_succ_eq_append_getElem (by omega), List.map_append, List.map_cons, List.map_nil, A6E]; exact (Q1 (by repeat (first | exact I7.nil | refine I7.cons rfl ?_)) (by repeat (first | exact A7.refl | exact A7.nil | refine A7.cons (by repeat (first | exact Pk.here | apply Pk.there)) ?_ | apply A7.drop)))) ?_ ?_)
 (dsimp only; exact ⟨by omega, hle.trans hle7⟩)
 (show l.length - (i + 1) < l.length - i; omega)
 refine S1 ?_
 (obtain rfl : i = l.length := (by omega); rw [List.take_length]; refine H7 (cs := N3 (l.map f)) (by repeat (first | exact Pk.here | apply Pk.there)) (fun G9 hle9 hsl9 hno9 => ?_))
 refine tT ?_
 refine B0a (outs := [ent]) (rT rfl) (rT rfl) (A7.cons (by repeat (first | exact Pk.here | apply Pk.there)) A7.nil) ?_
 (exact MsP.mk hR.symm (by rw [hl]) (by rw [hl]; exact ⟨by rw [List.length_map]; exact hsl9.dif (fun b hb => (hno9 b hb).1) (hle1.trans hle), fun b hb => A4Q (hle1.trans hle) (hno9 b hb)⟩))
def IsP (l : List Int) (b : Bool) (G : IM) : IM → Value → List A4 → Prop := J8 fun G' v => ∃ p c, v = .tuple ⟨[.slice p l.length c, .bool b]⟩ ∧ SP1 (B2 G' G) l p c
theorem IsP.mk {l l' : List Int} {b b' : Bool} {n : Nat} {G G' : IM} {p : Option Addr} {c : Nat} (hl : l = l') (hb : b = b') (hn : n = l.length) (h : SP1 (B2 G' G) l p c) : IsP l' b' G G' (.tuple ⟨[.slice p n c, .bool b]⟩) [] := by
 subst hl hb hn; exact ⟨rfl, p, c, rfl, h⟩
theorem A5L {l l' : List Int} {b b' : Bool} {G G' : IM} {v : Value} (hl : l = l') (hb : b = b')
  (hh : ∃ p c, v = .tuple ⟨[.slice p l.length c, .bool b]⟩ ∧ SP1 (B2 G' G) l p c) :
  ∃ p c, v = .tuple ⟨[.slice p l'.length c, .bool b']⟩ ∧ SP1 (B2 G' G) l' p c := by subst hl hb; exact hh
def mB : Nat → Nat
 | 0 => 200
 | n + 1 => 3 * mB n + 200
def B3l (n : Nat) (depth : Int) (t : Ty) : Prop := Y8 4 t ∧ (n : Int) - 1000 ≤ depth ∧ depth ≤ 1000 ∧ ((depth ≤ 1 ∧ Y8 n t) ∨ (2 ≤ depth ∧ depth + 3 ≤ n))
def B43 (br : Nat) (pb : Option Addr) (nb cb : Nat) (bs : List UInt8) (n : Nat) : Prop := ∀ (depth : Int) (t : Ty) (p : Nat) (G : IM) (pc : Option Addr) (nc cc : Nat) (cells : List Value), B3l n depth t → (n : Int) - 1000 ≤ depth → depth ≤ 1000 → nc + n ≤ 40 → GCx G pc nc cc → B6 G t cells → Sl G pb nb cb 1 (A7G bs) → p + mB n < 1099511627776 →
 Fn Tryz.prog 151 [.pointer (some ⟨br, 0, none⟩), .slice pc nc cc, .agg ⟨cells⟩, .int .i64 depth] [rd br pb nb cb p] G
  (B1L br pb nb cb p (mB n) (fun G' v => ∃ e cells, v = .agg ⟨cells⟩ ∧ A6 G' e cells ∧ e.small ∧ D1 e ≤ mB n))
structure B44 {ι : Type} (S : ι → Sy) (φ : ι → Prop) (K : Po) (e : Exit) (σ : Sy) : Prop where
 run : match e with
  | .normal => ∃ i, φ i ∧ Sub σ (S i)
  | e => K e σ
section cut
variable {P : Program} {Γ : L7} {K : Po} {σ : Sy} {ι : Type}
end cut
def O2 (o : Option Ty) (G : IM) : IM → Value → List A4 → Prop := J8 fun G' v => ∃ t cells, v = .tuple ⟨[.agg ⟨cells⟩, .bool o.isSome]⟩ ∧ B6 G' t cells ∧ E6 t ∧ ∀ u, o = some u → u = t
theorem O2.yes {G G' : IM} {o : Option Ty} {t : Ty} {cells : List Value} (h : o = some t) (hr : B6 G' t cells) (ha : E6 t) : O2 o G G' (.tuple ⟨[.agg ⟨cells⟩, .bool true]⟩) [] := by
 subst h; exact ⟨rfl, t, cells, rfl, hr, ha, fun u h => (by cases h; rfl)⟩
theorem O2.no {G G' : IM} {o : Option Ty} {t : Ty} {cells : List Value} (h : o = none) (hr : B6 G' t cells) (ha : E6 t) : O2 o G G' (.tuple ⟨[.agg ⟨cells⟩, .bool false]⟩) [] := by
 subst h; exact ⟨rfl, t, cells, rfl, hr, ha, fun u h => (by cases h)⟩
theorem O2.mk {G G' : IM} {o : Option Ty} {b : Bool} {t : Ty} {cells : List Value} (h : o = if b = true then some t else none) (hr : B6 G' t cells) (ha : E6 t) : O2 o G G' (.tuple ⟨[.agg ⟨cells⟩, .bool b]⟩) [] := by
 cases b
 ·exact O2.no h hr ha
 ·exact O2.yes h hr ha
theorem A5M {t : Ty} (h : F4 t = true) : E6 t := (A34 h).1
theorem A2l (k : Int) (a b : Ty) (G : IM) (ca cb : List Value) (hk : k = 4 ∨ k = 5) (ha : E6 a) (hb : E6 b) (hra : B6 G a ca) (hrb : B6 G b cb) :
  Fn Tryz.prog 200 [.int .i64 k, .agg ⟨ca⟩, .agg ⟨cb⟩] [] G (J8 fun G' v => ∃ cells, v = .tuple ⟨[.agg ⟨cells⟩, .bool (F4 (.mk k [a, b]))]⟩ ∧ B6 G' (.mk k [a, b]) cells) := by
 obtain ⟨ak, aks⟩ := a
 obtain ⟨bk, bks⟩ := b
 obtain ⟨pa, cca, ea, rfl, _⟩ := hra.open
 obtain ⟨pb, ccb, eb, rfl, _⟩ := hrb.open
 have hki : H1 k := ⟨by omega, by omega⟩
 refine B4 Tryz.func200 rfl Tryz.ntmps200 Tryz.results200 rfl ?_
 intro w0
 refine tS (tR ?_)
 refine sE (C1 rfl rfl) rfl (fun b3 => ?_)
 refine sE (C1 rfl rfl) rfl (fun b4 => ?_)
 refine sE (A5 rfl) rfl (fun b5 => ?_)
 refine sQ (qA rfl) rfl (sD (nS (tS ?_)))
 refine D5 D6 rfl ?_
 refine J6 (i := 0) (l' := [tt,ff,ff,ff,ff,ff,ff,ff,ff]) rfl D0 (qM rfl) rfl (by kernel_rfl) rfl rfl ?_
 refine aL 1 rfl (A3 rfl rfl) rfl ?_
 refine aL 3 rfl (A3 rfl rfl) rfl ?_
 refine Q0 (j := 2) (j' := 7) (by kernel_rfl) ?_ ?_
 (refine E9 rfl rfl (P6 _ G _ ha.small hra) rfl rfl rfl (fun v G1 hle1 hh => ?_); obtain ⟨cs1, F1, rfl, hs1, hn1⟩ := hh; obtain ⟨p1, c1, rfl, _⟩ := hs1.open; have hC2 := P6 _ G1 _ hb.small (hrb.mono hle1))
 refine Q0 (j := 4) (j' := 7) (by kernel_rfl) ?_ ?_
 (refine E9 rfl rfl hC2 rfl rfl rfl (fun v G2 hle2 hh => ?_); obtain ⟨cs2, F2, rfl, hs2, hn2⟩ := hh; obtain ⟨p2, c2, rfl, _⟩ := hs2.open; have hr1 := hs1.R.mono ((B2.le G1 G).trans hle2); have hr2 := hs2.R.mono (B2.le G2 G1))
 refine Q0 (j := 5) (j' := 7) (by kernel_rfl) ?_ ?_
 (refine E3 rfl (D7 rfl rfl rfl (by omega) (by unfold maxLen; omega) rfl) rfl rfl ?_; rintro _ ⟨b19, rfl⟩)
 refine aP 6 rfl (U1 rfl rfl) rfl ?_
 refine A2 7 ?_
 (refine E3 rfl (A5 rfl) rfl rfl ?_; rintro _ ⟨b22, rfl⟩)
 refine A2 8 ?_
 refine H0 rfl ?_
 refine C5 (nS (tS ?_))
 (have hr1' := hr1; refine A2v (by repeat (first | exact Pk.here | apply Pk.there)) (fun G5 hle5 hsl5 hno5 => ?_); have hRT : B6 G5 (.mk k [.mk ak aks, .mk bk bks]) _ := C2.ty (ts := [.mk ak aks, .mk bk bks]) (es := [[.int .i64 ak, .slice p1 aks.length c1], [.int .i64 bk, .slice p2 bks.length c2]]) ⟨_, _, rfl, hr1.mono hle5, _, _, rfl, hr2.mono hle5, rfl⟩ rfl hsl5 hki; have hV := A1D _ G5 _ hRT; refine D5 D6 rfl ?_)
 refine L3 (i := 0) (l' := [tt,ff,ff,ff,ff]) rfl D0 (A3 rfl rfl) rfl (by kernel_rfl) rfl rfl ?_
 refine aL 1 rfl (A3 rfl rfl) rfl ?_
 refine A2 2 ?_
 refine M6 rfl rfl (hV) rfl rfl rfl ?_
 refine A2 3 ?_
 refine H0 rfl ?_
 refine aP 4 rfl (qA rfl) rfl ?_
 refine C5 (nS (tT ?_))
 refine E5 (rC rfl (A3 rfl rfl)) (rT rfl) ?_
 (exact ⟨rfl, _, rfl, hRT⟩)
 (refine E3 rfl (A5 rfl) rfl rfl ?_; rintro _ ⟨b41, rfl⟩)
 refine A2 5 ?_
 (refine E3 rfl (D7 rfl rfl rfl (by omega) (by unfold maxLen; omega) rfl) rfl rfl ?_; rintro _ ⟨b43, rfl⟩)
 refine aP 6 rfl (U1 rfl rfl) rfl ?_
 refine A2 8 ?_
 refine H0 rfl ?_
 refine C5 (nS (tS ?_))
 (have hr1' := hr1; refine A2v (by repeat (first | exact Pk.here | apply Pk.there)) (fun G5 hle5 hsl5 hno5 => ?_); have hRT : B6 G5 (.mk k [.mk ak aks, .mk bk bks]) _ := C2.ty (ts := [.mk ak aks, .mk bk bks]) (es := [[.int .i64 ak, .slice p1 aks.length c1], [.int .i64 bk, .slice p2 bks.length c2]]) ⟨_, _, rfl, hr1.mono hle5, _, _, rfl, hr2.mono hle5, rfl⟩ rfl hsl5 hki; have hV := A1D _ G5 _ hRT; refine D5 D6 rfl ?_)
 refine L3 (i := 0) (l' := [tt,ff,ff,ff,ff]) rfl D0 (A3 rfl rfl) rfl (by kernel_rfl) rfl rfl ?_
 refine aL 1 rfl (A3 rfl rfl) rfl ?_
 refine A2 2 ?_
 refine M6 rfl rfl (hV) rfl rfl rfl ?_
 refine A2 3 ?_
 refine H0 rfl ?_
 refine aP 4 rfl (qA rfl) rfl ?_
 refine C5 (nS (tT ?_))
 refine E5 (rC rfl (A3 rfl rfl)) (rT rfl) ?_
 (exact ⟨rfl, _, rfl, hRT⟩)
 (refine E3 rfl (A5 rfl) rfl rfl ?_; rintro _ ⟨b63, rfl⟩)
 refine A2 4 ?_
 (refine E9 rfl rfl hC2 rfl rfl rfl (fun v G2 hle2 hh => ?_); obtain ⟨cs2, F2, rfl, hs2, hn2⟩ := hh; obtain ⟨p2, c2, rfl, _⟩ := hs2.open; have hr1 := hs1.R.mono ((B2.le G1 G).trans hle2); have hr2 := hs2.R.mono (B2.le G2 G1))
 refine A2 5 ?_
 (refine E3 rfl (D7 rfl rfl rfl (by omega) (by unfold maxLen; omega) rfl) rfl rfl ?_; rintro _ ⟨b67, rfl⟩)
 refine aP 6 rfl (U1 rfl rfl) rfl ?_
 refine A2 8 ?_
 refine H0 rfl ?_
 refine C5 (nS (tS ?_))
 (have hr1' := hr1; refine A2v (by repeat (first | exact Pk.here | apply Pk.there)) (fun G5 hle5 hsl5 hno5 => ?_); have hRT : B6 G5 (.mk k [.mk ak aks, .mk bk bks]) _ := C2.ty (ts := [.mk ak aks, .mk bk bks]) (es := [[.int .i64 ak, .slice p1 aks.length c1], [.int .i64 bk, .slice p2 bks.length c2]]) ⟨_, _, rfl, hr1.mono hle5, _, _, rfl, hr2.mono hle5, rfl⟩ rfl hsl5 hki; have hV := A1D _ G5 _ hRT; refine D5 D6 rfl ?_)
 refine L3 (i := 0) (l' := [tt,ff,ff,ff,ff]) rfl D0 (A3 rfl rfl) rfl (by kernel_rfl) rfl rfl ?_
 refine aL 1 rfl (A3 rfl rfl) rfl ?_
 refine A2 2 ?_
 refine M6 rfl rfl (hV) rfl rfl rfl ?_
 refine A2 3 ?_
 refine H0 rfl ?_
 refine aP 4 rfl (qA rfl) rfl ?_
 refine C5 (nS (tT ?_))
 refine E5 (rC rfl (A3 rfl rfl)) (rT rfl) ?_
 (exact ⟨rfl, _, rfl, hRT⟩)
 (refine E3 rfl (A5 rfl) rfl rfl ?_; rintro _ ⟨b87, rfl⟩)
 refine A2 2 ?_
 (refine E9 rfl rfl (P6 _ G _ ha.small hra) rfl rfl rfl (fun v G1 hle1 hh => ?_); obtain ⟨cs1, F1, rfl, hs1, hn1⟩ := hh; obtain ⟨p1, c1, rfl, _⟩ := hs1.open; have hC2 := P6 _ G1 _ hb.small (hrb.mono hle1))
 refine A2 4 ?_
 (refine E9 rfl rfl hC2 rfl rfl rfl (fun v G2 hle2 hh => ?_); obtain ⟨cs2, F2, rfl, hs2, hn2⟩ := hh; obtain ⟨p2, c2, rfl, _⟩ := hs2.open; have hr1 := hs1.R.mono ((B2.le G1 G).trans hle2); have hr2 := hs2.R.mono (B2.le G2 G1))
 refine A2 5 ?_
 (refine E3 rfl (D7 rfl rfl rfl (by omega) (by unfold maxLen; omega) rfl) rfl rfl ?_; rintro _ ⟨b93, rfl⟩)
 refine aP 6 rfl (U1 rfl rfl) rfl ?_
 refine A2 8 ?_
 refine H0 rfl ?_
 refine C5 (nS (tS ?_))
 (have hr1' := hr1; refine A2v (by repeat (first | exact Pk.here | apply Pk.there)) (fun G5 hle5 hsl5 hno5 => ?_); have hRT : B6 G5 (.mk k [.mk ak aks, .mk bk bks]) _ := C2.ty (ts := [.mk ak aks, .mk bk bks]) (es := [[.int .i64 ak, .slice p1 aks.length c1], [.int .i64 bk, .slice p2 bks.length c2]]) ⟨_, _, rfl, hr1.mono hle5, _, _, rfl, hr2.mono hle5, rfl⟩ rfl hsl5 hki; have hV := A1D _ G5 _ hRT; refine D5 D6 rfl ?_)
 refine L3 (i := 0) (l' := [tt,ff,ff,ff,ff]) rfl D0 (A3 rfl rfl) rfl (by kernel_rfl) rfl rfl ?_
 refine aL 1 rfl (A3 rfl rfl) rfl ?_
 refine A2 2 ?_
 refine M6 rfl rfl (hV) rfl rfl rfl ?_
 refine A2 3 ?_
 refine H0 rfl ?_
 refine aP 4 rfl (qA rfl) rfl ?_
 refine C5 (nS (tT ?_))
 refine E5 (rC rfl (A3 rfl rfl)) (rT rfl) ?_
 (exact ⟨rfl, _, rfl, hRT⟩)
theorem A2R (k : Int) (t : Ty) (G : IM) (cells : List Value) (hk : k = 4 ∨ k = 5) (ha : E6 t) (hr : B6 G t cells) :
  Fn Tryz.prog 202 [.int .i64 k, .agg ⟨cells⟩] [] G (A7S k t G) := by
 obtain ⟨tk, ks⟩ := t
 have ha2 := ha
 rw [E6] at ha2
 have hkid := ha.kid
 obtain ⟨p, c, es, rfl, htk, hsl, hkl⟩ := hr.open
 simp only [Ty.k, Ty.ks] at htk hsl hkl ⊢
 refine B4 Tryz.func202 rfl Tryz.ntmps202 Tryz.results202 rfl ?_
 intro w0
 refine tS (tR ?_)
 refine sE (C1 rfl rfl) rfl (fun b3 => ?_)
 refine sE (A5 rfl) rfl (fun b4 => ?_)
 refine sE (A5 rfl) rfl (fun b5 => ?_)
 refine D3 ?_
 refine sB (qE rfl rfl) rfl rfl (fun h14 => ?_) (fun h14 => ?_)
 refine sD (nS (qT rfl (tS (tR ?_))))
 refine I3 rfl ((A31 _)) rfl rfl ?_
 refine I3 rfl ((A31 _)) rfl rfl ?_
 refine J7 ?_
 refine J7 ?_
 refine sQ (qA rfl) rfl (sD (nS (tT (rS ?_))))
 refine C8 (rC rfl (A3 rfl rfl)) (rC rfl (A3 rfl rfl)) (rT rfl) ?_
 (refine ⟨rfl, _, _, _, _, ?_, A19 _, A19 _, A3Z, A3Z, ?_⟩ <;> rw [A1o, if_neg (by omega), if_pos (by omega)] <;> first | rfl | (intro p hp; cases hp; rfl))
 refine F8 ?_
 refine sB (N7 rfl rfl) rfl rfl (fun h42 => ?_) (fun h42 => ?_)
 refine L5 ?_
 refine C8 (rC rfl (A3 rfl rfl)) (rC rfl (A3 rfl rfl)) (rT rfl) ?_
 (refine ⟨rfl, B5, _, B5, _, ?_, O4 _ ⟨by omega, by omega⟩, O4 _ ⟨by omega, by omega⟩, S8 (by omega) (by omega), S8 (by omega) (by omega), ?_⟩ <;> rw [A1o, if_neg (by omega), if_neg (by omega)] <;> first | rfl | (intro p hp; cases hp))
 refine sD (nS (cF rfl (tK (nS (tS ?_)))))
 (have hlen : ks.length = 2 := ha2.1 (by omega); obtain ⟨b, o, q0, d0, hp0, hat0, hre0, hg0⟩ := hsl.kidTy hkl (i := 0) (by omega) (by omega); obtain ⟨b', o', q1, d1, hp1, hat1, hre1, hg1⟩ := hsl.kidTy hkl (i := 1) (by omega) (by omega); subst hp0; cases hp1; have hC1 := P6 _ G _ (hkid _ (List.getElem_mem (by omega))).small hre0; refine D5 D6 rfl ?_)
 refine J6 (i := 0) (l' := [tt,ff,ff,ff,ff,ff,ff,ff,ff,ff,ff,ff,ff]) rfl D0 (B0 rfl) rfl (by kernel_rfl) rfl rfl ?_
 refine aL 1 rfl (B9 rfl rfl) rfl ?_
 refine aP 2 rfl (A8 (j := 0) rfl rfl rfl (by omega)) rfl ?_
 refine aL 3 rfl (A0 rfl rfl (hat0 _) rfl) rfl ?_
 refine aP 5 rfl (B0 rfl) rfl ?_
 refine aL 6 rfl (B9 rfl rfl) rfl ?_
 refine aP 7 rfl (A8 (j := 1) rfl rfl rfl (by omega)) rfl ?_
 refine aL 8 rfl (A0 rfl rfl (hat1 _) rfl) rfl ?_
 refine A2 4 ?_
 (refine E9 rfl rfl hC1 rfl rfl rfl (fun v G1 hle1 hh => ?_); obtain ⟨cs1, F1, rfl, hs1, hn1⟩ := hh; obtain ⟨p1, c1, rfl, _⟩ := hs1.open; have hC2 := P6 _ G1 _ (hkid _ (List.getElem_mem (by omega))).small (hre1.mono hle1))
 refine A2 9 ?_
 (refine E9 rfl rfl hC2 rfl rfl rfl (fun v G2 hle2 hh => ?_); obtain ⟨cs2, F2, rfl, hs2, hn2⟩ := hh; obtain ⟨p2, c2, rfl, _⟩ := hs2.open; have hr1 := hs1.R.mono ((B2.le G1 G).trans hle2); have hr2 := hs2.R.mono (B2.le G2 G1))
 refine A2 10 ?_
 refine H0 rfl ?_
 refine A2 11 ?_
 refine Y2 rfl rfl rfl rfl rfl rfl rfl rfl (by decide +kernel) (by repeat first | exact Sw.here | apply Sw.there) (by rfl) ?_
 refine aP 12 rfl (qA rfl) rfl ?_
 refine C5 (nS (tT ?_))
 refine C8 (rC rfl (A3 rfl rfl)) (rC rfl (A3 rfl rfl)) (rT rfl) ?_
 (refine ⟨rfl, _, _, _, _, ?_, hr1, hr2, hkid _ (List.getElem_mem (by omega)), hkid _ (List.getElem_mem (by omega)), ?_⟩ <;> rw [A1o, if_pos (by omega)] <;> first | rfl | (intro p hp; cases hp; simp [hlen]))
theorem B3m (G : IM) (cx : Cx) (hv : Z3 cx) (p : Option Addr) (n c : Nat) (nm : ByteArray) (hx : Q4 G cx p n c) :
  Fn Tryz.prog 197 [.slice p n c, .string nm] [] G (O2 (A0C cx nm) G) := by
 have hn := hx.le
 refine B4 Tryz.func197 rfl Tryz.ntmps197 Tryz.results197 rfl ?_
 intro w0
 refine tS (tR ?_)
 refine sE (A5 rfl) rfl (fun b3 => ?_)
 refine D3 ?_
 refine sP (W8 rfl rfl (by omega) (by omega)) rfl rfl ?_
 refine sQ (qA rfl) rfl (sD (nS ?_))
 refine B3 ?_
 (refine I1 (fun (i : Nat) => ⟨[(6, .int .i64 ((i : Int) - 1)), (0, .slice p n c), (1, .string nm), (4, .pointer (some ⟨b3, 0, none⟩))], [.blk b3 [.int .i64 0, .slice none 0 0]], G⟩) (fun i => i ≤ n ∧ A0C cx nm = A0l cx nm i) (fun i => i) n ?_ ?_ ?_)
 exact C9
 (exact ⟨Nat.le_refl _, by unfold A0C; rw [hx.1]⟩)
 (rintro i ⟨hi, hlk⟩)
 refine tS (tS (tR (sQ (qM rfl) rfl ?_)))
 refine sB (A0X rfl rfl) rfl rfl (fun h25 => ?_) (fun h25 => ?_)
 refine sD (nS (qT rfl (tK (nS (tS ?_)))))
 (show K2 _ _ (.block 1 _) _ _; obtain ⟨j, rfl⟩ : ∃ j, i = j + 1 := ⟨i - 1, by omega⟩; rw [show ((j + 1 : Nat) : Int) - 1 = (j : Int) from by omega]; obtain ⟨b, o, nm1, t1, q1, d1, hcx, rfl, hat, hr1, hgb⟩ := hx.get (i := j) (by omega); have ha1 := A5M (hv _ (List.mem_of_getElem? hcx)); refine B3 ?_)
 refine tS (tR (sQ (qM rfl) rfl (sQ (qM rfl) rfl ?_)))
 refine sP (A8 rfl rfl rfl (by omega)) rfl rfl ?_
 refine sQ (qF rfl) rfl ?_
 refine sL (A0g rfl rfl ((hat _).sub (j := 0) rfl)) rfl rfl ?_
 refine sQ (qM rfl) rfl ?_
 refine sB (A1R rfl rfl) rfl rfl (fun h41 => ?_) (fun h41 => ?_)
 refine C3 ?_
 refine sP (A8 rfl rfl rfl (by omega)) rfl rfl ?_
 refine sQ (qF rfl) rfl ?_
 refine sL (A0 rfl rfl (hat _).drop rfl) rfl rfl ?_
 (refine D2 rfl (P6 _ G _ ha1.small hr1) rfl rfl (fun v G1 hle1 hh => ?_); obtain ⟨cs1, F1, rfl, hs1', hn1⟩ := hh; obtain ⟨p1, c1, rfl, _⟩ := hs1'.open; have hrr := hs1'.R.mono (B2.le G1 G))
 refine I8 ?_
 refine E5 (rC rfl (A3 rfl rfl)) (rT rfl) ?_
 (exact O2.yes (by rw [hlk]; exact A7y hcx (by assumption)) hrr ha1)
 refine D3 ?_
 refine sP (W8 rfl rfl (by omega) (by omega)) rfl rfl ?_
 refine sQ (qA rfl) rfl (sD ?_)
 refine I4 j ?_ ?_ ?_
 exact C9
 (exact ⟨by omega, by rw [hlk]; exact A7z hcx (by assumption)⟩)
 (show _ < _ + 1; omega)
 refine J1 ?_
 refine E5 (rC rfl (A3 rfl rfl)) (rT rfl) ?_
 (obtain rfl : i = 0 := (by omega); exact O2.no (by rw [hlk]; rfl) (O4 _ ⟨by omega, by omega⟩) (S8 (by omega) (by omega)))
end Gw
end Go.Proofs.YtfpgncjeejickaaGreat
