/-
  A term with its casts put in is valid, and has the type that the term has.
-/
import Derived.Test.YtbdacdnffkhgeaaGreatDoorKz514
import Derived.Test.YtbdacdnffkhgeaaGreatDoorKz515
import Derived.Test.YtbdacdnffkhgeaaGreatDoorKz512
import Derived.Test.YtbdacdnffkhgeaaGreatDoorKz513
import Derived.Lib.ItoaNum
set_option linter.unusedVariables false
set_option linter.unusedSimpArgs false
set_option maxHeartbeats 0
set_option maxRecDepth 100000
set_option synthInstance.maxSize 4000
set_option synthInstance.maxHeartbeats 0
namespace Go.Proofs.YtbdacdnffkhgeaaGreatDoor
open Go Go.RowKit
namespace Gw
theorem y115 {p : Prop} (h : p := by
  refine A2 8 ?_
  refine C9 rfl ?_
  refine C1 ?_
  (have hr1' := hr1; refine A2c zD0 (fun G5 hle5 hsl5 hno5 => ?_); have hRT : C7 G5 (.mk k [.mk ak aks, .mk bk bks]) _ := D9.ty (ts := [.mk ak aks, .mk bk bks]) (es := [[.int .i64 ak, .slice p1 aks.length c1], [.int .i64 bk, .slice p2 bks.length c2]]) ⟨_, _, rfl, hr1.mono hle5, _, _, rfl, hr2.mono hle5, rfl⟩ rfl hsl5 hki; have hV := A3y _ G5 _ hRT; refine D3 D4 rfl ?_)
  refine J3 (i := 0) (l' := [tt,ff,ff,ff,ff]) rfl C8 (A3 rfl rfl) rfl zP0 rfl rfl ?_
  refine aL 1 rfl (A3 rfl rfl) rfl ?_
  refine A2 2 ?_
  refine T2 rfl rfl (hV) rfl rfl rfl ?_
  refine A2 3 ?_
  refine C9 rfl ?_
  refine aP 4 rfl (qA rfl) rfl ?_
  refine C1 ?_
  refine H3 (rC rfl (A3 rfl rfl)) (rT rfl) ?_
  (exact ⟨rfl, _, rfl, hRT⟩)
) : p := h
mutual
theorem B08 : ∀ a b : Ty, N6 a b = true → N6 b a = true
 | .mk k ks, .mk k' ks', h => by
  rw [V9] at h ⊢
  simp only [Bool.or_eq_true, Bool.and_eq_true, decide_eq_true_eq] at h ⊢
  rcases h with (h | h) | h
  ·exact .inl (.inr h)
  ·exact .inl (.inl h)
  ·exact .inr ⟨h.1.symm, B09 ks ks' h.2⟩
theorem B09 : ∀ xs ys : List Ty, P7 xs ys = true → P7 ys xs = true
 | [], [], _ => rfl
 | [], b :: ys, h => by simp [P7] at h
 | a :: xs, [], h => by simp [P7] at h
 | a :: xs, b :: ys, h => by
  simp only [P7, Bool.and_eq_true] at h ⊢
  exact ⟨B08 a b h.1, B09 xs ys h.2⟩
end
mutual
theorem B1a : ∀ a b : Ty, N6 a b = true → N6 a (Y2 a b) = true ∧ N6 b (Y2 a b) = true
 | .mk k ks, .mk k' ks', h => by
  rw [A10]
  by_cases h1 : k = 1
  ·rw [if_pos h1]
   exact ⟨h, A3J _⟩
  ·rw [if_neg h1]
   by_cases h2 : k' = 1
   ·rw [if_pos h2]
    exact ⟨A3J _, B08 _ _ h⟩
   ·rw [if_neg h2]
    rw [V9] at h
    simp only [Bool.or_eq_true, Bool.and_eq_true, decide_eq_true_eq] at h
    have h3 : k = k' ∧ P7 ks ks' = true := by
     rcases h with (h | h) | h
     ·exact absurd h h1
     ·exact absurd h h2
     ·exact h
    obtain ⟨m1, m2⟩ := B1b ks ks' h3.2
    rw [V9, V9, m1, m2]
    simp [h3.1]
theorem B1b : ∀ xs ys : List Ty, P7 xs ys = true → P7 xs (W2 xs ys) = true ∧ P7 ys (W2 xs ys) = true
 | [], [], _ => ⟨rfl, rfl⟩
 | [], b :: ys, h => by simp [P7] at h
 | a :: xs, [], h => by simp [P7] at h
 | a :: xs, b :: ys, h => by
  simp only [P7, Bool.and_eq_true] at h
  obtain ⟨m1, m2⟩ := B1a a b h.1
  obtain ⟨m3, m4⟩ := B1b xs ys h.2
  simp only [W2, P7, m1, m2, m3, m4]
  exact ⟨rfl, rfl⟩
end
theorem B6A {k : Int} {a b : Ty} (hk : k = 4 ∨ k = 5) (h : H9 (.mk k [a, b]) = true) : H9 a = true ∧ H9 b = true := by
 obtain ⟨x, y, he, h1, h2⟩ := A6a hk h
 cases he
 exact ⟨h1, h2⟩
theorem B6B {k : Int} (hk : k = 4 ∨ k = 5) : H9 (.mk k [S0, S0]) = true := by rcases hk with rfl | rfl <;> decide
theorem B1c {k : Int} {t a b : Ty} (hk : k = 4 ∨ k = 5) (ht : H9 t = true) (h : U5 k t = some (a, b)) : H9 (.mk k [a, b]) = true ∧ N6 t (.mk k [a, b]) = true := by
 obtain ⟨tk, ks⟩ := t
 rw [A2S] at h
 by_cases he : tk = k
 ·subst he
  rw [if_pos rfl] at h
  obtain ⟨x, y, rfl, _, _⟩ := A6a hk ht
  cases h
  exact ⟨ht, A3J _⟩
 ·rw [if_neg he] at h
  by_cases h1 : tk = 1
  ·rw [if_pos h1] at h
   cases h
   refine ⟨B6B hk, ?_⟩
   rw [V9, h1]; rfl
  ·rw [if_neg h1] at h; cases h
structure Wt (cx : Cx) (k : Int) (nm : ByteArray) (ty : Ty) (h w : List Ty) (t : Ty) : Prop where
 len : w = [] ∨ w.length = h.length
 ok : ∀ i, (hi : i < w.length) → (hh : i < h.length) → N6 h[i] w[i] = true ∧ H9 w[i] = true
 again : k ≠ 13 → P8 cx k nm ty (if w = [] then h else w) = some (w, t)
 asT : k = 13 → w = [t]
theorem B1d {cx : Cx} {k : Int} {nm : ByteArray} {ty : Ty} {h w : List Ty} {t : Ty} (hh : ∀ a ∈ h, H9 a = true) (hty : k = 13 → H9 ty = true) (hn : E8 k = (h.length : Int)) (h14 : k ≠ 14) (hw : P8 cx k nm ty h = some (w, t)) : Wt cx k nm ty h w t := by
 have hkr := A6j (by rw [hn]; omega : 0 ≤ E8 k)
 have hkk : k = 1 ∨ k = 2 ∨ (k = 3 ∨ k = 4) ∨ k = 5 ∨ k = 6 ∨ (k = 7 ∨ k = 8) ∨ k = 9 ∨ k = 10 ∨ (k = 11 ∨ k = 12) ∨ k = 13 := by omega
 have nil : w = [] → k ≠ 13 → Wt cx k nm ty h w t := by
  rintro rfl h13
  exact ⟨.inl rfl, fun i hi => by simp at hi, fun _ => by rw [if_pos rfl]; exact hw, fun h => absurd h h13⟩
 rcases hkk with rfl | rfl | hk | rfl | rfl | hk | rfl | rfl | hk | rfl
 ·refine nil ?_ zQ0
  rw [mW1] at hw; split at hw <;> cases hw; rfl
 ·refine nil ?_ zQ0
  rw [mW2] at hw; cases hw; rfl
 ·refine nil ?_ zR0
  rw [A58 hk] at hw; cases hw; rfl
 ·refine nil ?_ zQ0
  rw [mW5] at hw; cases hw; rfl
 ·match h, (show h.length = 2 by have : E8 6 = 2 := rfl; omega) with
  | [x, y], _ =>
  rw [mW6] at hw
  simp only [List.getD_cons_zero, List.getD_cons_succ] at hw
  split at hw
  ·rename_i a b hm
   split at hw
   ·rename_i hc
    cases hw
    obtain ⟨v1, v2⟩ := B1c (.inl rfl) (hh x zS0) hm
    obtain ⟨v3, v4⟩ := B6A (.inl rfl) v1
    refine ⟨.inr rfl, fun i hi hi2 => ?_, fun _ => ?_, fun h => absurd h zQ0⟩
    ·match i, hi with
     | 0, _ => exact ⟨v2, v1⟩
     | 1, _ => exact ⟨hc, v3⟩
    ·rw [if_neg zS0, mW6]
     simp only [List.getD_cons_zero, List.getD_cons_succ, A2S, if_true, A3J]
   ·cases hw
  ·cases hw
 ·match h, (show h.length = 2 by rcases hk with rfl | rfl <;> (first | (have : E8 7 = 2 := rfl; omega) | (have : E8 8 = 2 := rfl; omega))) with
  | [x, y], _ =>
  rw [A0j hk] at hw
  simp only [List.getD_cons_zero, List.getD_cons_succ] at hw
  split at hw
  ·rename_i hc
   cases hw
   refine ⟨.inr rfl, fun i hi hi2 => ?_, fun _ => ?_, fun h => by omega⟩
   ·match i, hi with
    | 0, _ => exact ⟨hc.1, (show H9 W7 = true by decide)⟩
    | 1, _ => exact ⟨hc.2, (show H9 W7 = true by decide)⟩
   ·rw [if_neg zS0, A0j hk]
    simp only [List.getD_cons_zero, List.getD_cons_succ, A3J, and_self, if_true]
  ·cases hw
 ·match h, (show h.length = 3 by have : E8 9 = 3 := rfl; omega) with
  | [x, y, z], _ =>
  rw [mW9] at hw
  simp only [List.getD_cons_zero, List.getD_cons_succ] at hw
  split at hw
  ·rename_i hc
   cases hw
   obtain ⟨c1, c2⟩ := B1a y z hc.2
   have vm := A7M y z 1 hc.2 (hh y zS0) (hh z zS0)
   refine ⟨.inr rfl, fun i hi hi2 => ?_, fun _ => ?_, fun h => absurd h zQ0⟩
   ·match i, hi with
    | 0, _ => exact ⟨hc.1, (show H9 A0v = true by decide)⟩
    | 1, _ => exact ⟨c1, vm⟩
    | 2, _ => exact ⟨c2, vm⟩
   ·rw [if_neg zS0, mW9]
    simp only [List.getD_cons_zero, List.getD_cons_succ, A3J, and_self, if_true, A7O]
  ·cases hw
 ·refine nil ?_ zQ0
  rw [A7K] at hw; cases hw; rfl
 ·match h, (show h.length = 1 by rcases hk with rfl | rfl <;> (first | (have : E8 11 = 1 := rfl; omega) | (have : E8 12 = 1 := rfl; omega))) with
  | [x], _ =>
  rw [A44 hk] at hw
  simp only [List.getD_cons_zero] at hw
  split at hw
  ·rename_i a b hm
   cases hw
   obtain ⟨v1, v2⟩ := B1c (.inr rfl) (hh x zS0) hm
   refine ⟨.inr rfl, fun i hi hi2 => ?_, fun _ => ?_, fun h => by omega⟩
   ·match i, hi with
    | 0, _ => exact ⟨v2, v1⟩
   ·rw [if_neg zS0, A44 hk]
    simp only [List.getD_cons_zero, List.getD_cons_succ, A2S, if_true]
  ·cases hw
 ·match h, (show h.length = 1 by have : E8 13 = 1 := rfl; omega) with
  | [x], _ =>
  rw [A4c] at hw
  simp only [List.getD_cons_zero] at hw
  split at hw
  ·rename_i hc
   cases hw
   refine ⟨.inr rfl, fun i hi hi2 => ?_, fun h => absurd rfl h, fun _ => rfl⟩
   match i, hi with
   | 0, _ => exact ⟨hc, hty rfl⟩
  ·cases hw
theorem B6C {l : Int} (h1 : 1 ≤ l) (h2 : l ≤ 99) : A2K l = true := by
 unfold A2K
 rw [A4Y.2 ⟨h1, h2⟩]; rfl
theorem B6D {u : Tm} {a b : Ty} {l D : Int} (hu : L6 40 13 u (D + 1) = true) (hc : N6 a b = true) (ha : H9 a = true) (hb : H9 b = true) (h1 : 1 ≤ l) (h2 : l ≤ 99) (hD : D ≤ 40) : L6 40 13 (S5 u a b l) D = true := by
 unfold S5
 rw [A23 hD zQ0 (X5.2 ⟨rfl, by simp, fun _ => rfl, by simp, fun _ => rfl, fun _ => hb, by simp, fun _ => ⟨by simp [A2f, ha, hb, hc], B6C h1 h2⟩, by simp⟩)]
 simp [I2, hu]
theorem A7Z {cx : Cx} : ∀ (us : List Tm) (h w : List Ty) (l D : Int), us.length = h.length → w.length = h.length → (∀ i, (hi : i < w.length) → (hh : i < h.length) → N6 h[i] w[i] = true ∧ H9 w[i] = true) → (∀ a ∈ h, H9 a = true) → A0D cx us = some h → I2 40 13 us (D + 1) = true → 0 ≤ l → (I5 us h w l).2 ≤ 99 → D ≤ 40 →
  A0D cx (I5 us h w l).1 = some w ∧ I2 40 13 (I5 us h w l).1 D = true ∧ (H0 (I5 us h w l).1 : Int) = H0 us + ((I5 us h w l).2 - l)
 | [], [], [], l, D, _, _, _, _, ht, _, _, _, _ => by simp [I5, A0D, I2, H0]
 | [], a :: h, w, l, D, hl, _, _, _, _, _, _, _, _ => by simp at hl
 | u :: us, [], w, l, D, hl, _, _, _, _, _, _, _, _ => by simp at hl
 | [], [], b :: w, l, D, _, hl, _, _, _, _, _, _, _ => by simp at hl
 | u :: us, a :: h, [], l, D, _, hl, _, _, _, _, _, _, _ => by simp at hl
 | u :: us, a :: h, b :: w, l, D, h1, h2, hw, hv, ht, hs, hl, h99, hD => by
  rw [A0D] at ht
  split at ht
  ·cases ht
  ·rename_i a' ha
   split at ht
   ·cases ht
   ·rename_i h' hh'
    simp only [Option.some.injEq, List.cons.injEq] at ht
    obtain ⟨rfl, rfl⟩ := ht
    rw [I2, Bool.and_eq_true] at hs
    obtain ⟨c1, c2⟩ := hw 0 zS0 zS0
    have hw' : ∀ i, (hi : i < w.length) → (hh : i < h'.length) → N6 h'[i] w[i] = true ∧ H9 w[i] = true := fun i hi hh => hw (i + 1) (by simpa using hi) (by simpa using hh)
    have hv' : ∀ x ∈ h', H9 x = true := fun x hx => hv x (List.mem_cons_of_mem _ hx)
    simp only [I5] at h99 ⊢
    by_cases he : T3 a' b = true
    ·simp only [if_pos he] at h99 ⊢
     obtain ⟨i1, i2, i3⟩ := A7Z us h' w l D (by simpa using h1) (by simpa using h2) hw' hv' hh' hs.2 hl h99 hD
     have hab := (A2l _ _).1 he
     subst hab
     refine ⟨by rw [A0D, ha, i1], ?_, ?_⟩
     ·rw [I2, Bool.and_eq_true]; exact ⟨A7L 40 13 u (D + 1) D zR0 hs.1, i2⟩
     ·simp only [H0]; omega
    ·simp only [if_neg he] at h99 ⊢
     obtain ⟨i1, i2, i3⟩ := A7Z us h' w (l + 1) D (by simpa using h1) (by simpa using h2) hw' hv' hh' hs.2 zR0 h99 hD
     have hlab := A3b us h' w (l + 1)
     refine ⟨by rw [A0D, S5, B5I ha, i1], ?_, ?_⟩
     ·rw [I2, Bool.and_eq_true]
      exact ⟨B6D hs.1 c1 (hv a' List.mem_cons_self) c2 zR0 zR0 hD, i2⟩
     ·simp only [H0, B45]; omega
def B1e (cx : Cx) (t : Tm) (D l : Int) (u : Tm) (a : Ty) (l' : Int) : Prop := L6 40 13 u D = true ∧ A1H cx u = some a ∧ H9 a = true ∧ l ≤ l' ∧ l' + 1 ≤ l + (E4 t : Int) ∧ (E4 u : Int) ≤ E4 t + (l' - l)
theorem B1f (ks : List Tm) (ih : ∀ t ∈ ks, ∀ (d D : Int) (cx : Cx) (l : Int) (u : Tm) (a : Ty) (l' : Int), L6 12 14 t d = true → cxV cx → 0 ≤ l → P4 cx t l = some (u, a, l') → l' ≤ 99 → D + 2 * (13 - d) ≤ 41 → B1e cx t D l u a l') :
  ∀ (d D : Int) (cx : Cx) (l : Int) (us : List Tm) (h : List Ty) (l' : Int), I2 12 14 ks d = true → cxV cx → 0 ≤ l → O8 cx ks l = some (us, h, l') → l' ≤ 99 → D + 2 * (13 - d) ≤ 41 →
   I2 40 13 us D = true ∧ A0D cx us = some h ∧ (∀ a ∈ h, H9 a = true) ∧ l ≤ l' ∧ l' + ks.length ≤ l + (H0 ks : Int) ∧ (H0 us : Int) ≤ H0 ks + (l' - l) ∧ h.length = ks.length ∧ us.length = ks.length := by
 induction ks with
 | nil =>
  intro d D cx l us h l' _ _ _ he _ _
  simp only [O8, Option.some.injEq, Prod.mk.injEq] at he
  obtain ⟨rfl, rfl, rfl⟩ := he
  simp [I2, A0D, H0]
 | cons t ts ihl =>
  intro d D cx l us h l' hs hcx hl he h99 hD
  rw [I2, Bool.and_eq_true] at hs
  rw [O8] at he
  split at he
  ·cases he
  ·rename_i u a l1 h1
   split at he
   ·cases he
   ·rename_i us' h' l2 h2
    simp only [Option.some.injEq, Prod.mk.injEq] at he
    obtain ⟨rfl, rfl, rfl⟩ := he
    have hp := B3D t
    
    have hmono : l1 ≤ l2 := by
     have : ∀ (zs : List Tm) (l : Int) us h l', O8 cx zs l = some (us, h, l') → l ≤ l' := by
      intro zs
      induction zs with
      | nil => intro l us h l' he; simp only [O8, Option.some.injEq, Prod.mk.injEq] at he; omega
      | cons z zs ihz =>
       intro l us h l' he
       rw [O8] at he
       split at he
       ·cases he
       ·rename_i u a l1 hz
        split at he
        ·cases he
        ·rename_i us' h' l2 hzs
         simp only [Option.some.injEq, Prod.mk.injEq] at he
         have := ihz _ _ _ _ hzs
         have := el_mono cx z l _ _ _ hz
         omega
     exact this ts l1 us' h' l2 h2
    obtain ⟨a1, a2, a3, a4, a5, a6⟩ := ih t List.mem_cons_self d D cx l u a l1 hs.1 hcx hl h1 zR0 hD
    obtain ⟨b1, b2, b3, b4, b5, b6, b7, b8⟩ := ihl (fun x hx => ih x (List.mem_cons_of_mem _ hx)) d D cx l1 us' h' l2 hs.2 hcx zR0 h2 h99 hD
    refine ⟨by rw [I2, a1, b1]; rfl, by rw [A0D, a2, b2], ?_, by omega, ?_, ?_, by simp [b7], by simp [b8]⟩
    ·intro x hx
     rcases List.mem_cons.1 hx with h | h
     ·rw [h]; exact a3
     ·exact b3 x h
    ·simp only [H0, List.length_cons]; omega
    ·simp only [H0]; omega
where
 el_mono (cx : Cx) : ∀ (z : Tm) (l : Int) (u : Tm) (a : Ty) (l' : Int), P4 cx z l = some (u, a, l') → l ≤ l' := by
  intro z
  revert cx
  refine Tm.ind (C := fun z => ∀ (cx : Cx) (l : Int) (u : Tm) (a : Ty) (l' : Int), P4 cx z l = some (u, a, l') → l ≤ l') ?_ z
  intro k nm num ty fr lb ks ih cx l u a l' he
  rw [P4] at he
  have hL : ∀ (zs : List Tm), (∀ t ∈ zs, t ∈ ks) → ∀ (cx : Cx) (l : Int) us h l', O8 cx zs l = some (us, h, l') → l ≤ l' := by
   intro zs
   induction zs with
   | nil => intro _ cx l us h l' he; simp only [O8, Option.some.injEq, Prod.mk.injEq] at he; omega
   | cons z zs ihz =>
    intro hin cx l us h l' he
    rw [O8] at he
    split at he
    ·cases he
    ·rename_i u a l1 hz
     split at he
     ·cases he
     ·rename_i us' h' l2 hzs
      simp only [Option.some.injEq, Prod.mk.injEq] at he
      have := ihz (fun t ht => hin t (List.mem_cons_of_mem _ ht)) _ _ _ _ _ hzs
      have := ih z (hin z List.mem_cons_self) _ l _ _ _ hz
      omega
  split at he
  ·cases he
  ·rename_i us h l1 hk
   have h1 := hL ks (fun _ h => h) _ _ _ _ _ hk
   unfold T9 at he
   split at he
   ·cases he
   ·rename_i w t hn
    simp only [Option.some.injEq, Prod.mk.injEq] at he
    have := A3b us h w l1
    omega
theorem B6E : ∀ (t : Tm) (d D : Int) (cx : Cx) (l : Int) (u : Tm) (a : Ty) (l' : Int), L6 12 14 t d = true → cxV cx → 0 ≤ l → P4 cx t l = some (u, a, l') → l' ≤ 99 → D + 2 * (13 - d) ≤ 41 → B1e cx t D l u a l' := by
 refine Tm.ind fun k nm num ty fr lb ks ih d D cx l u a l' hs hcx hl he h99 hD => ?_
 obtain ⟨hd, h14, h3, h4⟩ := A0b hs
 obtain ⟨n1, n2, n3, n4, n5, n6, n7, n8, n9⟩ := X5.1 h3
 rw [P4] at he
 split at he
 ·cases he
 ·rename_i us h l1 hL
  unfold T9 at he
  split at he
  ·cases he
  ·rename_i w t hN
   simp only [Option.some.injEq, Prod.mk.injEq] at he
   obtain ⟨hu, rfl, rfl⟩ := he
   have hlab := A3b us h w l1
   obtain ⟨b1, b2, b3, b4, b5, b6, b7, b8⟩ := B1f ks ih (d + 1) (D + 2) (R5 cx k nm ty) l us h l1 h4 (A47 hcx fun hk => n6 (.inl hk)) hl hL zR0 zR0
   obtain ⟨hv, hw⟩ := B0v hN
   have hwt := B1d b3 (fun hk => n6 (.inr (.inl hk))) (by rw [b7]; exact n1) h14 hw
   
   obtain ⟨c1, c2, c3⟩ : A0D (R5 cx k nm ty) (I5 us h w l1).1 = some (if w = [] then h else w) ∧ I2 40 13 (I5 us h w l1).1 (D + 1) = true ∧ (H0 (I5 us h w l1).1 : Int) = H0 us + ((I5 us h w l1).2 - l1) := by
    rcases hwt.len with hn | hn
    ·subst hn
     rw [A0y, if_pos rfl]
     refine ⟨b2, ?_, by simp⟩
     exact A59 40 13 us (D + 2) (D + 1) zR0 b1
    ·by_cases hn0 : w = []
     ·subst hn0
      rw [A0y, if_pos rfl]
      refine ⟨b2, ?_, by simp⟩
      exact A59 40 13 us (D + 2) (D + 1) zR0 b1
     ·rw [if_neg hn0]
      exact A7Z us h w l1 (D + 1) zR0 hn hwt.ok b3 b2 (by rw [show D + 1 + 1 = D + 2 by omega]; exact b1) zR0 h99 zR0
   have hlm := A4e us h w l1
   have hck : E4 (.mk k nm num ty fr lb ks) = H0 ks + 1 := A0p ..
   refine ⟨?_, ?_, hv, by omega, by rw [hck]; omega, ?_⟩
   ·rw [← hu]
    split
    ·rename_i hk
     have hl1 : ks.length = 1 := by rw [hk] at n1; have : E8 13 = 1 := rfl; omega
     have h0 : 0 < (I5 us h w l1).1.length := by omega
     rw [getD0' h0]
     have := (A2N 40 13 _ _).1 c2 0 h0
     exact A7L 40 13 _ (D + 1) D zR0 this
    ·rename_i hk
     rw [A23 zR0 hk (by rw [hlm, b8]; exact h3)]
     exact c2
   ·rw [← hu]
    split
    ·rename_i hk
     have hl1 : ks.length = 1 := by rw [hk] at n1; have : E8 13 = 1 := rfl; omega
     have h0 : 0 < (I5 us h w l1).1.length := by omega
     rw [getD0' h0]
     rw [hwt.asT hk, if_neg zS0] at c1
     rw [R5, if_neg zR0] at c1
     rw [← hwt.asT hk] at c1
     obtain ⟨x, hx⟩ : ∃ x, (I5 us h w l1).1 = [x] := by
      match hm : (I5 us h w l1).1, (show (I5 us h w l1).1.length = 1 by omega) with
      | [x], _ => exact ⟨x, rfl⟩
     simp only [hx, List.getElem_cons_zero] at c1 ⊢
     obtain ⟨y, hy, he⟩ := B5F c1
     rw [hwt.asT hk] at he
     cases he; exact hy
    ·rename_i hk
     refine B5E c1 h14 hv (hwt.again hk) ?_
     by_cases hn0 : w = []
     ·rw [hn0]; rfl
     ·rw [if_neg hn0]; exact B0C w
   ·rw [← hu, hck]
    split
    ·rename_i hk
     have hl1 : ks.length = 1 := by rw [hk] at n1; have : E8 13 = 1 := rfl; omega
     have h0 : 0 < (I5 us h w l1).1.length := by omega
     rw [getD0' h0]
     have := A89 (List.getElem_mem h0)
     omega
    ·rw [A0p]; omega
where
 getD0' {us : List Tm} (h : 0 < us.length) : us.getD 0 I8 = us[0] := by rw [List.getD_eq_getElem?_getD, List.getElem?_eq_getElem h, Option.getD_some]
theorem B6F : ∀ (t : Tm) (d : Int) (cx : Cx) (l : Int) (u : Tm) (a : Ty) (l' : Int), L6 12 14 t d = true → P4 cx t l = some (u, a, l') → l' + 1 ≤ l + (E4 t : Int) := by
 refine Tm.ind fun k nm num ty fr lb ks ih d cx l u a l' hs he => ?_
 obtain ⟨hd, h14, h3, h4⟩ := A0b hs
 obtain ⟨n1, _⟩ := X5.1 h3
 have hL : ∀ (zs : List Tm), (∀ t ∈ zs, t ∈ ks) → I2 12 14 zs (d + 1) = true → ∀ (cx : Cx) (l : Int) us h l', O8 cx zs l = some (us, h, l') → l' + zs.length ≤ l + (H0 zs : Int) ∧ us.length = zs.length := by
  intro zs
  induction zs with
  | nil => intro _ _ cx l us h l' he; simp only [O8, Option.some.injEq, Prod.mk.injEq] at he; obtain ⟨rfl, _, rfl⟩ := he; simp [H0]
  | cons z zs ihz =>
   intro hin hsz cx l us h l' he
   rw [I2, Bool.and_eq_true] at hsz
   rw [O8] at he
   split at he
   ·cases he
   ·rename_i u a l1 hz
    split at he
    ·cases he
    ·rename_i us' h' l2 hzs
     simp only [Option.some.injEq, Prod.mk.injEq] at he
     obtain ⟨rfl, rfl, rfl⟩ := he
     have h5 := ihz (fun t ht => hin t (List.mem_cons_of_mem _ ht)) hsz.2 _ _ _ _ _ hzs
     have h6 := ih z (hin z List.mem_cons_self) (d + 1) _ l _ _ _ hsz.1 hz
     simp only [H0, List.length_cons]
     exact ⟨by omega, by omega⟩
 rw [P4] at he
 split at he
 ·cases he
 ·rename_i us h l1 hk
  obtain ⟨g1, g2⟩ := hL ks (fun _ h => h) h4 _ _ _ _ _ hk
  unfold T9 at he
  split at he
  ·cases he
  ·rename_i w t hn
   simp only [Option.some.injEq, Prod.mk.injEq] at he
   have := A3b us h w l1
   have hck : E4 (.mk k nm num ty fr lb ks) = H0 ks + 1 := A0p ..
   rw [hck]; omega
theorem A70 {e u : Tm} {t : Ty} (h : X7 e = some (u, t)) : O9 u = true ∧ A1H [] u = some t ∧ H9 t = true := by
 unfold X7 at h
 split at h
 ·rename_i hv
  obtain ⟨h1, h2⟩ := (V2 e).1 hv
  split at h
  ·rename_i u' t' l' he
   cases h
   have hl : l' ≤ 99 := by
    have := B1f.el_mono [] e 0 _ _ _ he
    have h3 : ∀ (t : Tm) (cx : Cx) (l : Int) (u : Tm) (a : Ty) (l' : Int), P4 cx t l = some (u, a, l') → l' ≤ l + 4 * (E4 t : Int) → True := fun _ _ _ _ _ _ _ _ => trivial
    exact el_lab e 1 h1 zR0 he
   obtain ⟨g1, g2, g3, g4, g5, g6⟩ := B6E e 1 1 [] 0 u t l' h1 A4d zR0 he hl zR0
   exact ⟨(A33 u).2 ⟨g1, by omega⟩, g2, g3⟩
  ·cases h
 ·cases h
where
 el_lab (e : Tm) (d : Int) (h1 : L6 12 14 e d = true) (h2 : E4 e ≤ 30) {u : Tm} {t : Ty} {l' : Int} (he : P4 [] e 0 = some (u, t, l')) : l' ≤ 99 := by
  have := B6F e d [] 0 u t l' h1 he
  omega
def A71 : ByteArray := ⟨⟨[112, 97, 105, 114]⟩⟩
def A72 : ByteArray := ⟨⟨[102, 117, 110, 99, 116, 105, 111, 110]⟩⟩
def txT : ByteArray := ⟨⟨[84]⟩⟩
def txF : ByteArray := ⟨⟨[70]⟩⟩
def B1g (n : Int) : ByteArray := ⟨(Lib.decDigits n.toNat).toArray⟩
def A4k (k num : Int) : ByteArray := if k = 2 then B1g num else if k = 3 then txT else txF
mutual
def A0e : Tm → ByteArray
 | .mk k nm num ty fr lb ks => if k = 10 ∨ (prx (.mk k nm num ty fr lb []) = true ∧ ty.k = 5) then A71 else if k = 5 ∨ prx (.mk k nm num ty fr lb []) = true then A72 else if k = 14 then B6G ks else A4k k num
def B6G : List Tm → ByteArray
 | [] => ⟨⟨[]⟩⟩
 | t :: _ => A0e t
end
section
variable {k : Int} {nm : ByteArray} {num : Int} {ty fr : Ty} {lb : Int} {ks : List Tm}
theorem B6H (h : k = 10 ∨ (prx (.mk k nm num ty fr lb ks) = true ∧ ty.k = 5)) : A0e (.mk k nm num ty fr lb ks) = A71 := by
 rw [A0e]
 exact if_pos h
theorem B6I (h : ¬(k = 10 ∨ (prx (.mk k nm num ty fr lb ks) = true ∧ ty.k = 5))) (h2 : k = 5 ∨ prx (.mk k nm num ty fr lb ks) = true) : A0e (.mk k nm num ty fr lb ks) = A72 := by
 rw [A0e]
 exact (if_neg h).trans (if_pos h2)
theorem B1h (h : prx (.mk k nm num ty fr lb ks) = false) (hk : k = 14) (h0 : 0 < ks.length) : A0e (.mk k nm num ty fr lb ks) = A0e ks[0] := by
 rw [A0e, if_neg (by rintro (h1 | h1); omega; exact Bool.noConfusion (h1.1.symm.trans h)), if_neg (by rintro (h1 | h1); omega; exact Bool.noConfusion (h1.symm.trans h)), if_pos hk]
 cases ks with
 | nil => simp at h0
 | cons t ts => rfl
theorem B6J (h : prx (.mk k nm num ty fr lb ks) = false) (hk : k ≠ 14) (h10 : k ≠ 10) (h5 : k ≠ 5) : A0e (.mk k nm num ty fr lb ks) = A4k k num := by
 rw [A0e, if_neg (by rintro (h1 | h1); omega; exact Bool.noConfusion (h1.1.symm.trans h)), if_neg (by rintro (h1 | h1); omega; exact Bool.noConfusion (h1.symm.trans h)), if_neg hk]
end
section fin
variable {P : Program} {Γ : N7} {env : O6} {hp : List A7} {G : IM}
theorem A3f {r r2 r3 : ResultVar} {post : IM → Value → List A7 → Prop} {v v2 v3 : Value} {outs : List A7} (h : A0s P Γ ⟨env, hp, G⟩ r v) (h2 : A0s P Γ ⟨env, hp, G⟩ r2 v2) (h3 : A0s P Γ ⟨env, hp, G⟩ r3 v3) (ho : A0 hp outs) (hk : post G (.tuple ⟨[v, v2, v3]⟩) outs) :
  A06 P Γ [r, r2, r3] post .ret ⟨env, hp, G⟩ := A6Q (.cons h (.cons h2 (.cons h3 .nil))) ho.spec hk
end fin
def CsP (bx : Nat) (e : Tm) (a b : Ty) (l : Int) : IM → Value → List A7 → Prop := fun G' v outs => ∃ cells, v = .agg ⟨cells⟩ ∧ outs = [.blk bx [.int .i64 (if T3 a b = true then l else l + 1)]] ∧ B7 G' (if T3 a b = true then e else S5 e a b (l + 1)) cells
theorem CsP.yes {G : IM} {bx : Nat} {e : Tm} {a b : Ty} {l : Int} {cells : List Value} (h : T3 a b = true) (hr : B7 G e cells) : CsP bx e a b l G (.agg ⟨cells⟩) [.blk bx [.int .i64 l]] := ⟨cells, rfl, by rw [if_pos h], by rw [if_pos h]; exact hr⟩
theorem CsP.no {G : IM} {bx : Nat} {e : Tm} {a b : Ty} {l : Int} {cells : List Value} (h : T3 a b = false) (hr : B7 G (S5 e a b (l + 1)) cells) : CsP bx e a b l G (.agg ⟨cells⟩) [.blk bx [.int .i64 (l + 1)]] := ⟨cells, rfl, by rw [if_neg (by rw [h]; decide)], by rw [if_neg (by rw [h]; decide)]; exact hr⟩
theorem B6K (bx : Nat) (e : Tm) (a b : Ty) (l : Int) (G : IM) (ce ca cb : List Value) (hl : -1000000000000 ≤ l ∧ l ≤ 1000000000000) (hre : B7 G e ce) (hra : C7 G a ca) (hrb : C7 G b cb) :
  Fn Tryz.prog 96 [.pointer (some ⟨bx, 0, none⟩), .agg ⟨ce⟩, .agg ⟨ca⟩, .agg ⟨cb⟩] [.blk bx [.int .i64 l]] G (CsP bx e a b l) := by
 have hel := hre.len
 have heo := hre.one
 have hS := A7D a b G ca cb hra hrb
 obtain ⟨v1, v2, v3, v4, v5, v6, v7, v8, v9, rfl⟩ := nine hel
 obtain ⟨ak, aks⟩ := a
 obtain ⟨bk, bks⟩ := b
 obtain ⟨pa, cca, ea, rfl, hka, _⟩ := hra.open
 obtain ⟨pb, ccb, eb, rfl, hkb, _⟩ := hrb.open
 refine C0 Tryz.func96 rfl Tryz.ntmps96 Tryz.results96 rfl ?_
 intro w0
 refine A4 ?_
 refine sE (B6 rfl rfl) rfl (fun b3 => ?_)
 refine sE (B6 rfl rfl) rfl (fun b4 => ?_)
 refine sE (B6 rfl rfl) rfl (fun b5 => ?_)
 refine sE (A6 rfl) rfl (fun b6 => ?_)
 refine B0 ?_
 refine J5 rfl (hS) rfl rfl (fun h14 => ?_) (fun h14 => ?_)
 refine A8 ?_
 refine sL (A5 rfl rfl (B3 zI0) hel) rfl rfl ?_
 refine sS rfl rfl rfl hel heo rfl ?_ (hu := by exact C6 hel.symm)
 refine B5 ?_
 refine H8 (outs := [.blk bx [.int .i64 _]]) (rC rfl (A3 rfl rfl)) (A0.cons zD0 A0.nil) ?_
 (exact CsP.yes zO0 hre)
 refine E1 ?_
 refine sQ (K6 rfl) rfl ?_
 refine A4 ?_
 refine sP (K0 rfl rfl zR0 zR0) rfl rfl ?_
 refine sQ (K6 rfl) rfl ?_
 refine A8 ?_
 refine D3 D4 rfl ?_
 refine J3 (i := 6) (l' := [ff,ff,ff,ff,ff,ff,tt,ff,ff,ff]) rfl C8 (A5 rfl rfl (B3 zI0) hel) rfl zP0 rfl rfl ?_
 refine aL 0 rfl (A3 rfl rfl) rfl ?_
 refine aL 1 rfl (A3 rfl rfl) rfl ?_
 refine aP 2 rfl (qM rfl) rfl ?_
 refine aP 3 rfl (K6 rfl) rfl ?_
 refine aP 4 rfl (C3 rfl) rfl ?_
 refine aL 5 rfl (F0 rfl rfl) rfl ?_
 refine A2 7 ?_
 (refine D2 rfl (D1 rfl rfl rfl zR0 zL0 rfl) rfl rfl ?_; rintro _ ⟨b55, rfl⟩)
 refine aP 8 rfl (pBd rfl rfl) rfl ?_
 refine A2 9 ?_
 refine C9 rfl ?_
 refine A4 ?_
 (refine J6 (cs := [v1, v2, v3, v4, v5, v6, v7, v8, v9]) zD0 (fun G2 hle2 hsl2 hno2 => ?_))
 refine tT ?_
 refine H8 (outs := [.blk bx [.int .i64 _]]) (rC rfl (A3 rfl rfl)) (A0.cons zD0 A0.nil) ?_
 (exact CsP.no zO0 (B7.put (us := [e]) (es := [[v1, v2, v3, v4, v5, v6, v7, v8, v9]]) ⟨by decide, by decide⟩ ⟨by decide, by decide⟩ ⟨by omega, by omega⟩ (hrb.mono hle2) (hra.mono hle2) rfl (D7.of hsl2 rfl (by intro x hx; obtain rfl := List.mem_singleton.1 hx; rfl) (by intro x hx; obtain rfl := List.mem_singleton.1 hx; exact heo)) (by simp only [F9]; exact ⟨_, _, rfl, hre.mono hle2, rfl⟩)))
def ElP (bx : Nat) (cx : Cx) (e : Tm) (l : Int) : IM → Value → List A7 → Prop := fun G' v outs => ∃ u cu t ct l', v = .tuple ⟨[.agg ⟨cu⟩, .agg ⟨ct⟩, .bool (P4 cx e l).isSome]⟩ ∧ outs = [.blk bx [.int .i64 l']] ∧ B7 G' u cu ∧ C7 G' t ct ∧ l ≤ l' ∧ l' + 1 ≤ l + (E4 e : Int) ∧ ∀ r, P4 cx e l = some r → r = (u, t, l')
theorem ElP.no {G : IM} {bx : Nat} {cx : Cx} {e : Tm} {l l' : Int} {u : Tm} {t : Ty} {cu ct : List Value} (h : P4 cx e l = none) (hu : B7 G u cu) (ht : C7 G t ct) (h1 : l ≤ l') (h2 : l' + 1 ≤ l + (E4 e : Int)) : ElP bx cx e l G (.tuple ⟨[.agg ⟨cu⟩, .agg ⟨ct⟩, .bool false]⟩) [.blk bx [.int .i64 l']] :=
 ⟨u, cu, t, ct, l', by rw [h]; rfl, rfl, hu, ht, h1, h2, fun r hr => by rw [h] at hr; cases hr⟩
theorem ElP.yes {G : IM} {bx : Nat} {cx : Cx} {e : Tm} {l l' : Int} {u : Tm} {t : Ty} {cu ct : List Value} (h : P4 cx e l = some (u, t, l')) (hu : B7 G u cu) (ht : C7 G t ct) (h1 : l ≤ l') (h2 : l' + 1 ≤ l + (E4 e : Int)) : ElP bx cx e l G (.tuple ⟨[.agg ⟨cu⟩, .agg ⟨ct⟩, .bool true]⟩) [.blk bx [.int .i64 l']] :=
 ⟨u, cu, t, ct, l', by rw [h]; rfl, rfl, hu, ht, h1, h2, fun r hr => by rw [h] at hr; cases hr; rfl⟩
section
variable {cx : Cx} {k : Int} {nm : ByteArray} {num : Int} {ty fr : Ty} {lb : Int} {ks us : List Tm} {h : List Ty} {l l' : Int}
theorem B6L (hL : O8 (R5 cx k nm ty) ks l = none) : P4 cx (.mk k nm num ty fr lb ks) l = none := by rw [P4, hL]
theorem A73 (hL : O8 (R5 cx k nm ty) ks l = some (us, h, l')) (hn : A0N cx k nm ty h = none) : P4 cx (.mk k nm num ty fr lb ks) l = none := by rw [P4, hL]; simp only [T9, hn]
theorem B6M {w : List Ty} {t : Ty} (hL : O8 (R5 cx k nm ty) ks l = some (us, h, l')) (hn : A0N cx k nm ty h = some (w, t)) (hk : k = 13) : P4 cx (.mk k nm num ty fr lb ks) l = some ((I5 us h w l').1.getD 0 I8, t, (I5 us h w l').2) := by
 rw [P4, hL]; simp only [T9, hn, if_pos hk]
theorem B1i {w : List Ty} {t : Ty} (hL : O8 (R5 cx k nm ty) ks l = some (us, h, l')) (hn : A0N cx k nm ty h = some (w, t)) (hk : k ≠ 13) : P4 cx (.mk k nm num ty fr lb ks) l = some (.mk k nm num ty fr lb (I5 us h w l').1, t, (I5 us h w l').2) := by
 rw [P4, hL]; simp only [T9, hn, if_neg hk]
end
theorem A5d {t : Ty} (h : H9 t = true) : I4 t := (A2R h).1
theorem B6N {us : List Tm} (h : 0 < us.length) : us.getD 0 I8 = us[0] := by rw [List.getD_eq_getElem?_getD, List.getElem?_eq_getElem h, Option.getD_some]
theorem B1j (bx : Nat) : ∀ (e : Tm) (d : Int) (cx : Cx) (l0 : Int) (G : IM) (pc : Option Addr) (nc cc : Nat) (cells : List Value), L6 12 14 e d = true → (nc : Int) ≤ d → cxV cx → W8 G cx pc nc cc → B7 G e cells → 0 ≤ l0 → l0 + (E4 e : Int) ≤ 1000000000 →
  Fn Tryz.prog 62 [.pointer (some ⟨bx, 0, none⟩), .slice pc nc cc, .agg ⟨cells⟩] [.blk bx [.int .i64 l0]] G (ElP bx cx e l0) := by
 refine Tm.ind fun k nm num ty fr lb ks ih d cx l0 G pc nc cc cells hv hnd hcv hx hr hl0 hlc => ?_
 have hr0 := hr
 have hone := hr.one
 obtain ⟨hv1, hv2, hv3, hv4⟩ := A0b hv
 have hvk := (A2N 12 14 ks _).1 hv4
 have har := (X5.1 hv3).1
 have hop := A50 har
 obtain ⟨hta, hts⟩ := A51 hv3
 have hkr : 1 ≤ k ∧ k ≤ 14 := A6j (by rw [har]; omega)
 have hcvX : cxV (R5 cx k nm ty) := A47 hcv fun hk => (X5.1 hv3).2.2.2.2.2.1 (.inl hk)
 have hck : E4 (.mk k nm num ty fr lb ks) = H0 ks + 1 := A0p ..
 rw [hck] at hlc
 obtain ⟨tk, tks⟩ := ty
 obtain ⟨fk, fks⟩ := fr
 obtain ⟨pt, ct, pf, cf, q, cq, es, rfl, hk, hnum, hlb, hty, hfr, hsl, hkl⟩ := hr.open9
 have hlen : ks.length ≤ 3 := by have := A27 k; omega
 obtain ⟨hx1, esx, hx2, hx3⟩ := id hx
 have hcl := B5y G pc nc cc esx hx2 zR0
 have hcnt0 := A30 ks
 refine C0 Tryz.func62 rfl Tryz.ntmps62 Tryz.results62 rfl ?_
 intro w0
 refine A4 ?_
 refine sE (B6 rfl rfl) rfl (fun b3 => ?_)
 refine sE (A6 rfl) rfl (fun b4 => ?_)
 refine sE (A6 rfl) rfl (fun b5 => ?_)
 refine J2 ?_
 (show L3 _ _ (.seq (.region 2 _ _) (.cond (.tmp 25) _ _)) _ _; refine A0V (fun (x : Option Addr × Nat × Nat × IM) => ⟨[(9, .slice x.1 x.2.1 x.2.2.1), (1, .slice pc nc cc), (0, .pointer (some ⟨bx, 0, none⟩)), (5, .pointer (some ⟨b3, 0, none⟩)), (6, .pointer (some ⟨b4, 0, none⟩)), (7, .pointer (some ⟨b5, 0, none⟩))], [.blk b5 [.int .i64 0, .slice none 0 0], .blk b4 [.int .i64 0, .string ⟨⟨[]⟩⟩, .int .i64 0, .int .i64 0, .slice none 0 0, .int .i64 0, .slice none 0 0, .int .i64 0, .slice none 0 0], .blk b3 [.int .i64 k, .string nm, .int .i64 num, .int .i64 tk, .slice pt tks.length ct, .int .i64 fk, .slice pf fks.length cf, .int .i64 lb, .slice q ks.length cq], .blk bx [.int .i64 l0]], x.2.2.2⟩) (fun x => B9 G x.2.2.2 ∧ W8 x.2.2.2 (R5 cx k nm (.mk tk tks)) x.1 x.2.1 x.2.2.1 ∧ x.2.1 ≤ nc + 1) ?_ ?_)
 ·refine B5 ?_
  refine sB (qE rfl rfl) rfl rfl (fun h21 => ?_) (fun h21 => ?_)
  ·refine C1 ?_
   refine D3 D4 rfl ?_
   refine J4 (i := 0) (l' := [tt,ff,ff,ff,ff,ff,ff,ff,ff,ff]) rfl C8 (qM rfl) rfl zP0 rfl rfl ?_
   refine aP 2 rfl (C3 rfl) rfl ?_
   refine aL 3 rfl (F0 rfl rfl) rfl ?_
   refine aP 4 rfl (C3 rfl) rfl ?_
   refine aL 5 rfl (A3 rfl rfl) rfl ?_
   refine aP 6 rfl (pBd rfl rfl) rfl ?_
   refine P6 (j := 1) (j' := 7) zP0 ?_ ?_
   ·(refine A8V rfl rfl hcl rfl rfl rfl (fun v33 G33 outs33 hle33 h33 => ?_); obtain ⟨hG, p1, c1, rfl, rfl⟩ := h33; replace hG := hG.symm; subst hG)
    replace hr := hr.mono hle33
    replace hr0 := hr0.mono hle33
    replace hty := hty.mono hle33
    replace hfr := hfr.mono hle33
    replace hsl := hsl.mono hle33
    replace hkl := hkl.mono hle33
    replace hx2 := hx2.mono hle33
    refine A2 7 ?_
    (refine D2 rfl (D1 rfl rfl rfl zR0 zL0 rfl) rfl rfl ?_; rintro _ ⟨b35, rfl⟩)
    refine A2 8 ?_
    (refine P0 rfl rfl rfl rfl rfl rfl (fun _ _ => by repeat (first | exact Sw.here | apply Sw.there)) (K4 zI0) rfl zK0 zL0 zR0 rfl rfl zR (fun p5 c5 => ?_); refine A0t (cs := esx.flatten ++ [.string nm, .int .i64 tk, .slice pt tks.length ct]) zD0 (fun Gf hleF hslF hnoF => ?_); have hxF := W8.snoc (nm := nm) (t := .mk tk tks) hx1 hx2.len hx2.all hx2.one hx3 hleF ⟨_, _, rfl, hty.mono hleF⟩ hslF)
    refine aP 9 rfl (qA rfl) rfl ?_
    refine Y4 ?_
    refine O7 (p5, nc + 1, c5, Gf) (I6 zC0 zV) ⟨hleF, by (dsimp only; rw [R5, if_pos zR0]; exact hxF), by (dsimp only; omega)⟩
   ·(refine D2 rfl (D1 rfl rfl rfl zR0 zL0 rfl) rfl rfl ?_; rintro _ ⟨b41, rfl⟩)
    refine A2 1 ?_
    (refine A8V rfl rfl hcl rfl rfl rfl (fun v43 G43 outs43 hle43 h43 => ?_); obtain ⟨hG, p1, c1, rfl, rfl⟩ := h43; replace hG := hG.symm; subst hG)
    replace hr := hr.mono hle43
    replace hr0 := hr0.mono hle43
    replace hty := hty.mono hle43
    replace hfr := hfr.mono hle43
    replace hsl := hsl.mono hle43
    replace hkl := hkl.mono hle43
    replace hx2 := hx2.mono hle43
    refine A2 8 ?_
    (refine P0 rfl rfl rfl rfl rfl rfl (fun _ _ => by repeat (first | exact Sw.here | apply Sw.there)) (K4 zI0) rfl zK0 zL0 zR0 rfl rfl zR (fun p5 c5 => ?_); refine A0t (cs := esx.flatten ++ [.string nm, .int .i64 tk, .slice pt tks.length ct]) zD0 (fun Gf hleF hslF hnoF => ?_); have hxF := W8.snoc (nm := nm) (t := .mk tk tks) hx1 hx2.len hx2.all hx2.one hx3 hleF ⟨_, _, rfl, hty.mono hleF⟩ hslF)
    refine aP 9 rfl (qA rfl) rfl ?_
    refine Y4 ?_
    refine O7 (p5, nc + 1, c5, Gf) (I6 zC0 zV) ⟨hleF, by (dsimp only; rw [R5, if_pos zR0]; exact hxF), by (dsimp only; omega)⟩
  ·refine B5 ?_
   refine O7 (pc, nc, cc, G) (I6 zC0 zV) ⟨B9.refl _, by (dsimp only; rw [R5, if_neg zR0]; exact hx), by (dsimp only; omega)⟩
 ·(rintro ⟨p6, n6, c6, Gx⟩ ⟨hleX, hxX, hn6⟩; simp only [] at hleX hxX hn6 ⊢; replace hsl := hsl.mono hleX; replace hkl := hkl.mono hleX; replace hx := hx.mono hleX; replace hr0 := hr0.mono hleX; replace hty := hty.mono hleX; replace hfr := hfr.mono hleX)
  refine C1 ?_
  refine sE (A6 rfl) rfl (fun b58 => ?_)
  refine A2d ?_
  refine C2 ?_
  (refine X1 28 9 ?_; refine X1 25 2 ?_; refine L8 (fun (x : Nat × (Option Addr × Nat × List Tm × List (List Value)) × (Option Addr × Nat × List Ty × List (List Value)) × Int × IM) => ⟨[(40, .int .i64 x.1), (39, .int .i64 ks.length), (38, .slice q ks.length cq), (11, .slice x.2.2.1.1 x.1 x.2.2.1.2.1), (9, .slice p6 n6 c6), (1, .slice pc nc cc), (0, .pointer (some ⟨bx, 0, none⟩)), (5, .pointer (some ⟨b3, 0, none⟩)), (6, .pointer (some ⟨b4, 0, none⟩)), (7, .pointer (some ⟨b5, 0, none⟩)), (10, .pointer (some ⟨b58, 0, none⟩))], [.blk b58 [.int .i64 k, .string nm, .int .i64 num, .int .i64 tk, .slice pt tks.length ct, .int .i64 fk, .slice pf fks.length cf, .int .i64 lb, .slice x.2.1.1 x.1 x.2.1.2.1], .slc x.2.1.1 x.2.1.2.1 28 9 x.1 x.2.1.2.2.2.flatten, .slc x.2.2.1.1 x.2.2.1.2.1 25 2 x.1 x.2.2.1.2.2.2.flatten, .blk b5 [.int .i64 0, .slice none 0 0], .blk b4 [.int .i64 0, .string ⟨⟨[]⟩⟩, .int .i64 0, .int .i64 0, .slice none 0 0, .int .i64 0, .slice none 0 0, .int .i64 0, .slice none 0 0], .blk b3 [.int .i64 k, .string nm, .int .i64 num, .int .i64 tk, .slice pt tks.length ct, .int .i64 fk, .slice pf fks.length cf, .int .i64 lb, .slice q ks.length cq], .blk bx [.int .i64 x.2.2.2.1]], x.2.2.2.2⟩) (fun x => x.1 ≤ ks.length ∧ B9 Gx x.2.2.2.2 ∧ x.2.1.2.2.1.length = x.1 ∧ F9 x.2.2.2.2 x.2.1.2.2.1 x.2.1.2.2.2 ∧ x.2.2.1.2.2.1.length = x.1 ∧ D9 x.2.2.2.2 x.2.2.1.2.2.1 x.2.2.1.2.2.2 ∧ (∀ t ∈ x.2.2.1.2.2.1, I4 t) ∧ O8 (R5 cx k nm (.mk tk tks)) (ks.take x.1) l0 = some (x.2.1.2.2.1, x.2.2.1.2.2.1, x.2.2.2.1) ∧ l0 ≤ x.2.2.2.1 ∧ x.2.2.2.1 + x.1 ≤ l0 + (H0 (ks.take x.1) : Int)) (fun x => ks.length - x.1) (0, (none, 0, [], []), (none, 0, [], []), l0, Gx) ?_ ?_ ?_)
  ·(simp only [List.take_zero, A0y]; exact (I6 zC0 zV))
  ·(exact ⟨by simp, B9.refl _, rfl, by simp [F9], rfl, by simp [D9], by simp, by simp [O8], Int.le_refl _, by simp [H0]⟩)
  ·(rintro ⟨i, ⟨pn, cn, us, es'⟩, ⟨pm, cm, ts, ess⟩, l, Gi⟩ ⟨hi, hle, hlu, hst, hlt, hstt, hat, hml, hl1, hl2⟩; simp only [] at hi hle hlu hst hlt hstt hat hml hl1 hl2 ⊢; replace hty := hty.mono hle; replace hfr := hfr.mono hle; replace hsl := hsl.mono hle; replace hkl := hkl.mono hle; replace hr0 := hr0.mono hle; replace hx := hx.mono hle; replace hxX := hxX.mono hle)
   refine A4 ?_
   refine sB (N5 rfl rfl) rfl rfl (fun h89 => ?_) (fun h89 => ?_)
   ·refine B0 ?_
    refine C2 ?_
    refine A4 ?_
    (obtain ⟨b, o, e, rfl, hl, hate, hre, hgb⟩ := hsl.kidTm hkl (i := i) zR0 zR0; have hon := hre.one; have hsc := A1A (ks := ks) (i := i) zR0; have hsk := A1z (ks := ks) (i := i) zR0; refine sP (B8 rfl rfl rfl zR0) rfl rfl ?_)
    refine sL (A5 rfl rfl (hate _) hl) rfl rfl ?_
    refine sE (A6 rfl) rfl (fun b102 => ?_)
    refine sS rfl rfl rfl hl hon rfl ?_ (hu := by exact C6 hl.symm)
    refine A9 ?_
    refine sL (A5 rfl rfl (B3 zI0) hl) rfl rfl ?_
    (refine L5 rfl (ih ks[i] (List.getElem_mem zR0) (d + 1) _ l Gi p6 n6 c6 _ (hvk i zR0) zR0 hcvX hxX hre zR0 zR0) (Pk.perm zD0) rfl rfl (fun v G3 outs hle3 hh => ?_); obtain ⟨u, uc, t, tc, l3, rfl, rfl, hru, hrt, hl3, hl4, hu⟩ := hh; obtain ⟨v1, v2, v3, v4, v5, v6, v7, v8, v9, rfl⟩ := nine hru.len; obtain ⟨p3, c3, e3, rfl, _⟩ := hrt.open; have hlu9 := hru.len; have hou9 := hru.one; rcases hE : P4 (R5 cx k nm (Ty.mk tk tks)) ks[i] l with _ | ⟨u2, t2, l2⟩; rotate_left; have hue := hu _ hE; simp only [Prod.mk.injEq] at hue; obtain ⟨rfl, rfl, rfl⟩ := hue; rotate_left)
    ·refine B5 ?_
     refine sE (A6 rfl) rfl (fun b116 => ?_)
     refine sE (A6 rfl) rfl (fun b117 => ?_)
     refine sS rfl rfl rfl hlu9 hou9 rfl ?_ (hu := by exact C6 hlu9.symm)
     refine A3V ?_
     refine A3f (outs := [.blk bx [.int .i64 _]]) (rC rfl (A3 rfl rfl)) (rC rfl (A3 rfl rfl)) (rT rfl) (A0.cons zD0 A0.nil) ?_
     (exact ElP.no (B6L (B0E zR0 hml hE)) (R7 _) (L9 _ ⟨by omega, by omega⟩) zR0 (by rw [hck]; omega))
    ·refine B5 ?_
     refine sE (A6 rfl) rfl (fun b153 => ?_)
     refine sE (A6 rfl) rfl (fun b154 => ?_)
     refine sS rfl rfl rfl hlu9 hou9 rfl ?_ (hu := by exact C6 hlu9.symm)
     refine M8 ?_
     refine D3 D4 rfl ?_
     refine J4 (i := 0) (l' := [tt,ff,ff,ff,ff,ff,ff,ff,ff,ff,ff,ff]) rfl C8 (C3 rfl) rfl zP0 rfl rfl ?_
     refine aL 1 rfl (F0 rfl rfl) rfl ?_
     refine aL 2 rfl (A3 rfl rfl) rfl ?_
     refine aP 5 rfl (qM rfl) rfl ?_
     refine aL 6 rfl (A3 rfl rfl) rfl ?_
     refine P6 (j := 3) (j' := 7) zP0 ?_ ?_
     ·(refine D2 rfl (D1 rfl rfl rfl zR0 zL0 rfl) rfl rfl ?_; rintro _ ⟨b177, rfl⟩)
      refine P6 (j := 4) (j' := 7) zP0 ?_ ?_
      ·(refine P0 rfl rfl rfl rfl rfl rfl (fun _ _ => by repeat (first | exact Sw.here | apply Sw.there)) (K4 zI0) rfl (fun u hu => List.all_eq_true.1 hou9 u hu) zL0 zR0 rfl rfl zC (fun pn' cn' => ?_))
       refine aP 9 rfl (C3 rfl) rfl ?_
       refine A2 7 ?_
       (refine D2 rfl (D1 rfl rfl rfl zR0 zL0 rfl) rfl rfl ?_; rintro _ ⟨b182, rfl⟩)
       refine A2 8 ?_
       (refine P0 rfl rfl rfl rfl rfl rfl (fun _ _ => by repeat (first | exact Sw.here | apply Sw.there)) (K4 zI0) rfl zK0 zL0 zR0 rfl rfl zC (fun pm' cm' => ?_))
       refine A2 10 ?_
       refine oS rfl rfl rfl rfl rfl rfl rfl rfl ?_
       refine aP 11 rfl (qA rfl) rfl ?_
       refine B5 ?_
       refine sP (K0 rfl rfl zR0 zR0) rfl rfl ?_
       refine A4 ?_
       refine J7 (i + 1, (pn', cn', us ++ [u2], es' ++ [[v1, v2, v3, v4, v5, v6, v7, v8, v9]]), (pm', cm', ts ++ [t2], ess ++ [[.int .i64 t2.k, .slice p3 t2.ks.length c3]]), l2, G3) ?_ ?_ ?_
       ·(simp only [I9]; exact F8)
       ·(dsimp only; exact ⟨by omega, hle.trans hle3, by simp [hlu], F9.snoc (hst.mono hle3) hru, by simp [hlt], D9.snoc (hstt.mono hle3) hrt, A36 hat (A5d ((A48 ks[i] (d + 1) _ l (hvk i zR0) hcvX).1 _ _ _ hE).2), A6b zR0 hml hE, by omega, by omega⟩)
       ·(show ks.length - (i + 1) < ks.length - i; omega)
      ·(refine D2 rfl (D1 rfl rfl rfl zR0 zL0 rfl) rfl rfl ?_; rintro _ ⟨b199, rfl⟩)
       refine A2 4 ?_
       (refine P0 rfl rfl rfl rfl rfl rfl (fun _ _ => by repeat (first | exact Sw.here | apply Sw.there)) (K4 zI0) rfl (fun u hu => List.all_eq_true.1 hou9 u hu) zL0 zR0 rfl rfl zC (fun pn' cn' => ?_))
       refine aP 9 rfl (C3 rfl) rfl ?_
       refine A2 8 ?_
       (refine P0 rfl rfl rfl rfl rfl rfl (fun _ _ => by repeat (first | exact Sw.here | apply Sw.there)) (K4 zI0) rfl zK0 zL0 zR0 rfl rfl zC (fun pm' cm' => ?_))
       refine A2 10 ?_
       refine oS rfl rfl rfl rfl rfl rfl rfl rfl ?_
       refine aP 11 rfl (qA rfl) rfl ?_
       refine B5 ?_
       refine sP (K0 rfl rfl zR0 zR0) rfl rfl ?_
       refine A4 ?_
       refine J7 (i + 1, (pn', cn', us ++ [u2], es' ++ [[v1, v2, v3, v4, v5, v6, v7, v8, v9]]), (pm', cm', ts ++ [t2], ess ++ [[.int .i64 t2.k, .slice p3 t2.ks.length c3]]), l2, G3) ?_ ?_ ?_
       ·(simp only [I9]; exact F8)
       ·(dsimp only; exact ⟨by omega, hle.trans hle3, by simp [hlu], F9.snoc (hst.mono hle3) hru, by simp [hlt], D9.snoc (hstt.mono hle3) hrt, A36 hat (A5d ((A48 ks[i] (d + 1) _ l (hvk i zR0) hcvX).1 _ _ _ hE).2), A6b zR0 hml hE, by omega, by omega⟩)
       ·(show ks.length - (i + 1) < ks.length - i; omega)
     ·(refine D2 rfl (D1 rfl rfl rfl zR0 zL0 rfl) rfl rfl ?_; rintro _ ⟨b219, rfl⟩)
      refine A2 3 ?_
      (refine D2 rfl (D1 rfl rfl rfl zR0 zL0 rfl) rfl rfl ?_; rintro _ ⟨b221, rfl⟩)
      refine A2 4 ?_
      (refine P0 rfl rfl rfl rfl rfl rfl (fun _ _ => by repeat (first | exact Sw.here | apply Sw.there)) (K4 zI0) rfl (fun u hu => List.all_eq_true.1 hou9 u hu) zL0 zR0 rfl rfl zC (fun pn' cn' => ?_))
      refine aP 9 rfl (C3 rfl) rfl ?_
      refine A2 8 ?_
      (refine P0 rfl rfl rfl rfl rfl rfl (fun _ _ => by repeat (first | exact Sw.here | apply Sw.there)) (K4 zI0) rfl zK0 zL0 zR0 rfl rfl zC (fun pm' cm' => ?_))
      refine A2 10 ?_
      refine oS rfl rfl rfl rfl rfl rfl rfl rfl ?_
      refine aP 11 rfl (qA rfl) rfl ?_
      refine B5 ?_
      refine sP (K0 rfl rfl zR0 zR0) rfl rfl ?_
      refine A4 ?_
      refine J7 (i + 1, (pn', cn', us ++ [u2], es' ++ [[v1, v2, v3, v4, v5, v6, v7, v8, v9]]), (pm', cm', ts ++ [t2], ess ++ [[.int .i64 t2.k, .slice p3 t2.ks.length c3]]), l2, G3) ?_ ?_ ?_
      ·(simp only [I9]; exact F8)
      ·(dsimp only; exact ⟨by omega, hle.trans hle3, by simp [hlu], F9.snoc (hst.mono hle3) hru, by simp [hlt], D9.snoc (hstt.mono hle3) hrt, A36 hat (A5d ((A48 ks[i] (d + 1) _ l (hvk i zR0) hcvX).1 _ _ _ hE).2), A6b zR0 hml hE, by omega, by omega⟩)
      ·(show ks.length - (i + 1) < ks.length - i; omega)
   ·refine M8 ?_
    (obtain rfl : i = ks.length := zR0; have hk14 : k ≠ 14 := hv2; rw [List.take_length] at hml hl2; refine X9 (cs := ess.flatten) zD0 (fun G3 hle3 hsl3 hno3 => ?_); have hst3 := hstt.mono hle3; have hslU : D7 G3 pm ks.length cm 2 ess := D7.of hsl3 (by rw [hst3.len, hlt]) hst3.all (fun e he => (hst3.each e he).2); refine F4 rfl (B5w cx k nm num (.mk tk tks) (.mk fk fks) lb ks ts G3 pc nc cc _ pm ks.length cm ess (hx.mono hle3) har hlt.symm hk14 hta (hr0.mono hle3) hslU hst3 hat) rfl rfl (fun v G4 hle4 hh => ?_); obtain ⟨pw, nw, cw, ew, w, wc, wt, rfl, hnw, hslw, hstw, hrt, hw⟩ := hh; obtain ⟨p3, c3, e3, rfl, _⟩ := hrt.open; replace hst3 := hst3.mono hle4; replace hslU := hslU.mono hle4; have hle34 := hle3.trans hle4; replace hst := hst.mono hle34; replace hty := hty.mono hle34; replace hfr := hfr.mono hle34; rcases hmw : P8 cx k nm (Ty.mk tk tks) ts with _ | ⟨w2, t2⟩; rotate_left; have hwe := hw _ hmw; simp only [Prod.mk.injEq] at hwe; obtain ⟨rfl, rfl⟩ := hwe; have hwl := B5x (by rw [hlt]; exact hop) hkr hk14 hmw; have hcl2 := A3b us ts w2 l; rcases Nat.eq_zero_or_pos ks.length with h0 | h0; rotate_left; rotate_left)
    ·refine B5 ?_
     refine sE (A6 rfl) rfl (fun b260 => ?_)
     refine A5C ?_
     (refine J6 (cs := es'.flatten) zD0 (fun G8 hle8 hsl8 hno8 => ?_); have hst8 := hst.mono hle8)
     refine A4 ?_
     refine A3f (outs := [.blk bx [.int .i64 _]]) (rC rfl (A3 rfl rfl)) (rC rfl (A3 rfl rfl)) (rT rfl) (A0.cons zD0 A0.nil) ?_
     (exact ElP.no (A73 hml (B5z hmw)) (R7 _) (L9 _ ⟨by omega, by omega⟩) zR0 (by rw [hck]; omega))
    ·refine B5 ?_
     refine sE (A6 rfl) rfl (fun b297 => ?_)
     refine O3 ?_
     refine J5 rfl ((A4J _ _ _ hrt)) rfl rfl (fun h310 => ?_) (fun h310 => ?_)
     ·refine J0 ?_
      refine C2 ?_
      (have h0' : ks.length = 0 := h0; refine L8 (fun (_ : Nat) => ⟨[(86, .int .i64 0), (85, .int .i64 nw), (84, .slice pw nw cw), (11, .slice pm ks.length cm), (1, .slice pc nc cc), (0, .pointer (some ⟨bx, 0, none⟩)), (5, .pointer (some ⟨b3, 0, none⟩)), (6, .pointer (some ⟨b4, 0, none⟩)), (7, .pointer (some ⟨b5, 0, none⟩)), (10, .pointer (some ⟨b58, 0, none⟩)), (18, .pointer (some ⟨b297, 0, none⟩))], [.blk b297 [.int .i64 t2.k, .slice p3 t2.ks.length c3], .blk b58 [.int .i64 k, .string nm, .int .i64 num, .int .i64 tk, .slice pt tks.length ct, .int .i64 fk, .slice pf fks.length cf, .int .i64 lb, .slice pn ks.length cn], .slc pn cn 28 9 ks.length es'.flatten, .blk b5 [.int .i64 0, .slice none 0 0], .blk b4 [.int .i64 0, .string ⟨⟨[]⟩⟩, .int .i64 0, .int .i64 0, .slice none 0 0, .int .i64 0, .slice none 0 0, .int .i64 0, .slice none 0 0], .blk b3 [.int .i64 k, .string nm, .int .i64 num, .int .i64 tk, .slice pt tks.length ct, .int .i64 fk, .slice pf fks.length cf, .int .i64 lb, .slice q ks.length cq], .blk bx [.int .i64 l]], G4⟩) (fun _ => True) (fun i => i) 0 ?_ ?_ ?_)
      ·exact F8
      ·trivial
      ·(rintro (i0 : Nat) _)
       refine A4 ?_
       refine sP (A1U rfl rfl zR0) rfl rfl ?_
       refine M8 ?_
       refine sP (D0 rfl rfl zR0) rfl rfl ?_
       refine A9 ?_
       refine D3 D4 rfl ?_
       refine J3 (i := 0) (l' := [tt,ff,ff,ff,ff]) rfl C8 (A3 rfl rfl) rfl zP0 rfl rfl ?_
       refine aL 1 rfl (A3 rfl rfl) rfl ?_
       refine A2 2 ?_
       refine oS rfl rfl rfl rfl rfl rfl rfl rfl ?_
       refine A2 3 ?_
       refine oS rfl rfl rfl rfl rfl rfl rfl rfl ?_
       refine aP 4 rfl (qA rfl) rfl ?_
       refine A4 ?_
       (refine J6 (cs := es'.flatten) zD0 (fun G8 hle8 hsl8 hno8 => ?_); have hst8 := hst.mono hle8)
       refine tT ?_
       refine A3f (outs := [.blk bx [.int .i64 _]]) (rC rfl (A3 rfl rfl)) (rC rfl (A3 rfl rfl)) (rT rfl) (A0.cons zD0 A0.nil) ?_
       (obtain rfl : w2 = [] := List.length_eq_zero_iff.1 zR0; have hne : k ≠ 13 := (fun h => by have := hop.2.2 (.inr (.inr (.inr h))); omega); have hel := B1i (num := num) (fr := .mk fk fks) (lb := lb) hml (A45 hmw (b := true) zO0) hne; rw [A0y] at hel; exact ElP.yes hel (B7.put hk hnum hlb (hty.mono hle8) (hfr.mono hle8) (by rw [hlu]) (D7.of hsl8 (by rw [hst8.len, hlu]) hst8.all (fun e he => (hst8.each e he).2)) hst8) (hrt.mono hle8) zR0 (by rw [hck]; omega))
     ·refine M8 ?_
      (refine J6 (cs := es'.flatten) zD0 (fun G8 hle8 hsl8 hno8 => ?_); have hst8 := hst.mono hle8)
      refine A4 ?_
      refine A3f (outs := [.blk bx [.int .i64 _]]) (rC rfl (A3 rfl rfl)) (rC rfl (A3 rfl rfl)) (rT rfl) (A0.cons zD0 A0.nil) ?_
      (exact ElP.no (A73 hml (A45 hmw (b := false) zO0)) (R7 _) (L9 _ ⟨by omega, by omega⟩) zR0 (by rw [hck]; omega))
    ·(refine A4T (cs := es'.flatten) zD0 h0 (fun bc C hpe hnc hcm => ?_); subst hpe; refine sQ (qM rfl) rfl ?_)
     refine C1 ?_
     refine sE (A6 rfl) rfl (fun b392 => ?_)
     refine O3 ?_
     refine J5 rfl ((A4J _ _ _ hrt)) rfl rfl (fun h405 => ?_) (fun h405 => ?_)
     ·refine J0 ?_
      refine C2 ?_
      (have h0' := h0; refine L8 (fun (x : Nat × List (List Value) × IM) => ⟨[(86, .int .i64 x.1), (85, .int .i64 nw), (84, .slice pw nw cw), (11, .slice pm ks.length cm), (1, .slice pc nc cc), (0, .pointer (some ⟨bx, 0, none⟩)), (5, .pointer (some ⟨b3, 0, none⟩)), (6, .pointer (some ⟨b4, 0, none⟩)), (7, .pointer (some ⟨b5, 0, none⟩)), (10, .pointer (some ⟨b58, 0, none⟩)), (18, .pointer (some ⟨b392, 0, none⟩))], [.blk b392 [.int .i64 t2.k, .slice p3 t2.ks.length c3], .blk b58 [.int .i64 k, .string nm, .int .i64 num, .int .i64 tk, .slice pt tks.length ct, .int .i64 fk, .slice pf fks.length cf, .int .i64 lb, .slice (some ⟨bc, 0, none⟩) ks.length cn], .blk bc (x.2.1.flatten ++ C), .blk b5 [.int .i64 0, .slice none 0 0], .blk b4 [.int .i64 0, .string ⟨⟨[]⟩⟩, .int .i64 0, .int .i64 0, .slice none 0 0, .int .i64 0, .slice none 0 0, .int .i64 0, .slice none 0 0], .blk b3 [.int .i64 k, .string nm, .int .i64 num, .int .i64 tk, .slice pt tks.length ct, .int .i64 fk, .slice pf fks.length cf, .int .i64 lb, .slice q ks.length cq], .blk bx [.int .i64 (I5 us ts (w2.take x.1) l).2]], x.2.2⟩) (fun x => x.1 ≤ nw ∧ B9 G4 x.2.2 ∧ F9 x.2.2 (I5 us ts (w2.take x.1) l).1 x.2.1) (fun x => nw - x.1) (0, es', G4) ?_ ?_ ?_)
      ·(simp only [List.take_zero, A0y]; exact (I6 zC0 zV))
      ·(exact ⟨Nat.zero_le _, B9.refl _, by simp only [List.take_zero, A0y]; exact hst⟩)
      ·(rintro ⟨j, es2, G6⟩ ⟨hj, hle6, hst2⟩; simp only [] at hj hle6 hst2 ⊢; replace hslw := hslw.mono hle6; replace hstw := hstw.mono hle6; replace hslU := hslU.mono hle6; replace hst3 := hst3.mono hle6; replace hty := hty.mono hle6; replace hfr := hfr.mono hle6; replace hrt := hrt.mono hle6; have hall2 := hst2.all; have hle2s := hst2.len; rw [A4e] at hle2s)
       refine A4 ?_
       refine sB (N5 rfl rfl) rfl rfl (fun h428 => ?_) (fun h428 => ?_)
       ·refine B0 ?_
        refine C2 ?_
        refine C1 ?_
        (have hjw : j < w2.length := zR0; obtain ⟨b5w, o5w, q5, d5, hp5, hat, hrw, hgb⟩ := hslw.kidTy hstw (i := j) zR0 zR0; cases hp5; refine sP (B8 rfl rfl rfl zR0) rfl rfl ?_)
        refine sL (A5 rfl rfl (hat _) rfl) rfl rfl ?_
        refine sE (A6 rfl) rfl (fun b442 => ?_)
        refine B5 ?_
        (have hjw2 := hjw; obtain ⟨b0, o0, q0, d0, hp0, hat0, hre0, hg0⟩ := hslU.kidTy hst3 (i := j) zR0 zR0; cases hp0; obtain ⟨m1, m2, _⟩ := A6c us ts w2 l j hjw zR0 zR0; obtain ⟨m3, m4⟩ := B5J (us := us) (h := ts) (w := w2) (l := l) hjw zR0 zR0; obtain ⟨hE1, hE2⟩ := hst2.at2 (i := j) zR0 zR0; rw [m2] at hE2; have hE3 := hE2.len; have hE4 := hE2.one; have hcj := A3b us ts (w2.take j) l; refine D3 D4 rfl ?_)
        refine J4 (i := 0) (l' := [tt,ff,ff,ff,ff,ff,ff,ff,ff,ff,ff,ff,ff,ff,ff,ff,ff]) rfl C8 (C3 rfl) rfl zP0 rfl rfl ?_
        refine aL 1 rfl (F0 rfl rfl) rfl ?_
        refine aP 2 rfl (qM rfl) rfl ?_
        refine aP 3 rfl (qM rfl) rfl ?_
        refine aP 4 rfl (C3 rfl) rfl ?_
        refine aL 5 rfl (F0 rfl rfl) rfl ?_
        refine aP 6 rfl (qM rfl) rfl ?_
        refine aP 7 rfl (B8 (j := j) rfl rfl rfl zR0) rfl ?_
        refine aL 8 rfl (A5 rfl rfl (A95 (es := es2) zI0 zR0 hall2) hE3) rfl ?_
        refine aP 9 rfl (qM rfl) rfl ?_
        refine aP 10 rfl (qM rfl) rfl ?_
        refine aP 11 rfl (B8 (j := j) rfl rfl rfl zR0) rfl ?_
        refine aL 12 rfl (A5 rfl rfl (hat0 _) rfl) rfl ?_
        refine aL 13 rfl (A3 rfl rfl) rfl ?_
        refine A2 14 ?_
        (refine A0M (l' := [tt,tt,tt,tt,tt,tt,tt,tt,tt,tt,tt,tt,tt,tt,tt,ff,ff]) rfl rfl (B6K bx us[j] ts[j] w2[j] (I5 us ts (w2.take j) l).2 G6 _ _ _ zR0 hE2 hre0 hrw) (Pk.perm zD0) rfl rfl rfl zC (fun v G7 outs hle7 hh => ?_); obtain ⟨uc, rfl, rfl, hru⟩ := hh; rw [← m4]; have hlu9 := hru.len; have hou9 := hru.one)
        refine aP 15 rfl (B8 (j := j) rfl rfl rfl zR0) rfl ?_
        refine A2 16 ?_
        refine T7 rfl rfl rfl rfl hlu9 hou9 rfl rfl zP0 zF0 (by exact A4U zR0 hall2 hlu9) ?_
        refine B5 ?_
        refine sP (K0 rfl rfl zR0 zR0) rfl rfl ?_
        refine A4 ?_
        refine J7 (j + 1, es2.set j uc, G7) ?_ ?_ ?_
        ·(simp only [List.take_zero, A0y]; exact (I6 zC0 zV))
        ·(dsimp only; exact ⟨by omega, hle6.trans hle7, by rw [m3]; exact F9.set (hst2.mono hle7) hru⟩)
        ·(show nw - (j + 1) < nw - j; omega)
       ·refine M8 ?_
        refine sB (qE rfl rfl) rfl rfl (fun h492 => ?_) (fun h492 => ?_)
        ·refine B5 ?_
         (have hq13 : k = 13 := zR0; have hl13 := hop.2.2 (.inr (.inr (.inr hq13))); have hjw : j = w2.length := zR0; rw [hjw, List.take_length] at hst2; have hm0 := A4e us ts w2 l; obtain ⟨hE1, hE2⟩ := hst2.at2 (i := 0) zR0 zR0; have hE3 := hE2.len; have hE4 := hE2.one; refine D3 D4 rfl ?_)
         refine J4 (i := 0) (l' := [tt,ff,ff,ff,ff,ff,ff,ff]) rfl C8 (C3 rfl) rfl zP0 rfl rfl ?_
         refine aL 1 rfl (F0 rfl rfl) rfl ?_
         refine aP 2 rfl (B8 (j := 0) rfl rfl rfl zR0) rfl ?_
         refine aL 3 rfl (A5 rfl rfl (A95 (es := es2) zI0 zR0 hall2) hE3) rfl ?_
         refine aL 4 rfl (A3 rfl rfl) rfl ?_
         refine A2 5 ?_
         refine oS rfl rfl rfl rfl hE3 hE4 rfl rfl ?_ (hu := by exact C6 hE3.symm)
         refine A2 6 ?_
         refine oS rfl rfl rfl rfl rfl rfl rfl rfl ?_
         refine aP 7 rfl (qA rfl) rfl ?_
         refine A4 ?_
         (refine A5D (bs := [(bc, es2.flatten ++ C)]) (Pk.perm zD0) (fun hn9 hd9 hle9 => ?_))
         refine A4 ?_
         refine A3f (outs := [.blk bx [.int .i64 _]]) (rC rfl (A5 rfl rfl (B3 zI0) hE3)) (rC rfl (A3 rfl rfl)) (rT rfl) (A0.cons zD0 A0.nil) ?_
         (have hel := B6M (num := num) (fr := .mk fk fks) (lb := lb) hml (A45 hmw (b := true) zO0) hq13; rw [B6N zR0] at hel; rw [hjw, List.take_length]; exact ElP.yes hel (hE2.mono hle9) (hrt.mono hle9) zR0 (by rw [hck]; omega))
        ·refine A9 ?_
         refine D3 D4 rfl ?_
         refine J3 (i := 0) (l' := [tt,ff,ff,ff,ff]) rfl C8 (A3 rfl rfl) rfl zP0 rfl rfl ?_
         refine aL 1 rfl (A3 rfl rfl) rfl ?_
         refine A2 2 ?_
         refine oS rfl rfl rfl rfl rfl rfl rfl rfl ?_
         refine A2 3 ?_
         refine oS rfl rfl rfl rfl rfl rfl rfl rfl ?_
         refine aP 4 rfl (qA rfl) rfl ?_
         refine A4 ?_
         (refine A5D (bs := [(bc, es2.flatten ++ C)]) (Pk.perm zD0) (fun hn9 hd9 hle9 => ?_))
         refine tT ?_
         refine A3f (outs := [.blk bx [.int .i64 _]]) (rC rfl (A3 rfl rfl)) (rC rfl (A3 rfl rfl)) (rT rfl) (A0.cons zD0 A0.nil) ?_
         (have hjw : j = w2.length := zR0; rw [hjw, List.take_length] at hst2; have hst9 := hst2.mono hle9; have hel := B1i (num := num) (fr := .mk fk fks) (lb := lb) hml (A45 hmw (b := true) zO0) (show k ≠ 13 by omega); rw [hjw, List.take_length]; have hm0 := A4e us ts w2 l; exact ElP.yes hel (B7.put hk hnum hlb (hty.mono hle9) (hfr.mono hle9) (by rw [hm0, hlu]) (D7.of (Sl.of_blk (A := []) (by rw [A1y hst9.all, hst9.len, hm0, hlu]) zR0 hcm (Wi.in hn9 List.mem_cons_self)) (by rw [hst9.len, hm0, hlu]) hst9.all (fun e he => (hst9.each e he).2)) hst9) (hrt.mono hle9) zR0 (by rw [hck]; omega))
     ·refine N3 ?_
      refine A3f (outs := [.blk bx [.int .i64 _]]) (rC rfl (A3 rfl rfl)) (rC rfl (A3 rfl rfl)) (rT rfl) (A0.cons zD0 A0.nil) ?_
      (exact ElP.no (A73 hml (A45 hmw (b := false) zO0)) (R7 _) (L9 _ ⟨by omega, by omega⟩) zR0 (by rw [hck]; omega))
def A3g (r : Option (Tm × Ty)) : IM → Value → List A7 → Prop := N8 fun G' v => ∃ cu ct, v = .tuple ⟨[.agg ⟨cu⟩, .agg ⟨ct⟩, .bool r.isSome]⟩ ∧ B7 G' (r.getD (I8, B4)).1 cu ∧ C7 G' (r.getD (I8, B4)).2 ct
theorem A3g.no {G : IM} {r : Option (Tm × Ty)} {cu ct : List Value} (h : r = none) (hu : B7 G I8 cu) (ht : C7 G B4 ct) : A3g r G (.tuple ⟨[.agg ⟨cu⟩, .agg ⟨ct⟩, .bool false]⟩) [] := by subst h; exact ⟨rfl, cu, ct, rfl, hu, ht⟩
theorem A3g.yes {G : IM} {r : Option (Tm × Ty)} {u : Tm} {t : Ty} {cu ct : List Value} (h : r = some (u, t)) (hu : B7 G u cu) (ht : C7 G t ct) : A3g r G (.tuple ⟨[.agg ⟨cu⟩, .agg ⟨ct⟩, .bool true]⟩) [] := by subst h; exact ⟨rfl, cu, ct, rfl, hu, ht⟩
theorem B1k {e : Tm} (h : M3 e = false) : X7 e = none := by unfold X7; rw [if_neg (by rw [h]; decide)]
theorem A74 {e : Tm} (h : M3 e = true) (h2 : P4 [] e 0 = none) : X7 e = none := by unfold X7; rw [if_pos h, h2]
theorem A75 {e u : Tm} {t : Ty} {l : Int} (h : M3 e = true) (h2 : P4 [] e 0 = some (u, t, l)) : X7 e = some (u, t) := by unfold X7; rw [if_pos h, h2]
theorem B6O (e : Tm) (G : IM) (cells : List Value) (hr : B7 G e cells) : Fn Tryz.prog 32 [.agg ⟨cells⟩] [] G (A3g (X7 e)) := by
 have hRl := hr.len
 have hRo := hr.one
 have hV := A5R e G cells hr
 have hno := @B1k e
 have hnn := @A74 e
 have hso := @A75 e
 refine C0 Tryz.func32 rfl Tryz.ntmps32 Tryz.results32 rfl ?_
 intro w0
 refine A4 ?_
 refine sE (B6 rfl rfl) rfl (fun b3 => ?_)
 refine sE (A6 rfl) rfl (fun b4 => ?_)
 refine sE (A6 rfl) rfl (fun b5 => ?_)
 refine A9 ?_
 refine sL (A5 rfl rfl (B3 zI0) hRl) rfl rfl ?_
 refine J5 rfl (hV) rfl rfl (fun h13 => ?_) (fun h13 => ?_)
 refine E7 ?_
 refine sE (B6 rfl rfl) rfl (fun b23 => ?_)
 refine sL (A5 rfl rfl (B3 zI0) hRl) rfl rfl ?_
 focus (have htv : M3 e = true := zO0; obtain ⟨hsh, hcn⟩ := (V2 e).1 htv; refine L5 rfl (B1j _ e 1 [] 0 G none 0 0 _ hsh zR0 A4d (W8.nil G) hr zR0 zR0) (Pk.perm zD0) rfl rfl (fun v G1 outs hle1 hh => ?_); obtain ⟨u, uc, t, tc, l3, rfl, rfl, hru, hrt, hl3, hl4, hu⟩ := hh; have hul := hru.len; have huo := hru.one; obtain ⟨p3, c3, e3, rfl, _⟩ := hrt.open; have hnn := hnn htv; have hso := @hso u t l3 htv; rcases hE : P4 [] e 0 with _ | ⟨u2, t2, l2⟩; rotate_left; have hue := hu _ hE; simp only [Prod.mk.injEq] at hue; obtain ⟨rfl, rfl, rfl⟩ := hue; have hso := hso hE; obtain ⟨hg1, hg2, hg3⟩ := A70 hso; rotate_left; simp only [Option.isSome]; rotate_left; simp only [Option.isSome])
 refine B5 ?_
 refine sE (A6 rfl) rfl (fun b30 => ?_)
 refine sE (A6 rfl) rfl (fun b31 => ?_)
 refine sS rfl rfl rfl hul huo rfl ?_ (hu := by exact C6 hul.symm)
 refine J0 ?_
 refine D3 D4 rfl ?_
 refine J3 (i := 0) (l' := [tt,ff,ff,ff,ff,ff,ff]) rfl C8 (A5 rfl rfl (B3 zI0) hul) rfl zP0 rfl rfl ?_
 refine aL 2 rfl (A3 rfl rfl) rfl ?_
 refine A2 1 ?_
 (refine H1 rfl rfl (A32 _ _ _ (A5c hg1) hru) rfl rfl rfl (fun v G2 hle2 hh => ?_); obtain ⟨cs2, F2, rfl, hs2, hn2⟩ := hh; have hwl := hs2.R.len; have hwo := hs2.R.one; have hr2 := hs2.R.mono (E0.le G2 G1); replace hrt := hrt.mono hle2)
 refine A2 3 ?_
 (refine H1 rfl rfl (A21 _ _ _ (A5d hg3).small hrt) rfl rfl rfl (fun v G3 hle3 hh => ?_); obtain ⟨cs3, F3, rfl, hs3, hn3⟩ := hh; obtain ⟨p4, c4, rfl, _⟩ := hs3.open; have hr3 := hs3.R.mono (E0.le G3 G2); replace hr2 := hr2.mono hle3)
 refine A2 4 ?_
 refine oS rfl rfl rfl rfl hwl hwo rfl rfl ?_ (hu := by exact C6 hwl.symm)
 refine A2 5 ?_
 refine oS rfl rfl rfl rfl rfl rfl rfl rfl ?_
 refine aP 6 rfl (qA rfl) rfl ?_
 refine C1 ?_
 refine E9 (rC rfl (A5 rfl rfl (B3 zI0) hwl)) (rC rfl (A3 rfl rfl)) (rT rfl) ?_
 (exact A3g.yes hso hr2 hr3)
 refine B5 ?_
 refine sE (A6 rfl) rfl (fun b69 => ?_)
 refine sE (A6 rfl) rfl (fun b70 => ?_)
 refine sS rfl rfl rfl hul huo rfl ?_ (hu := by exact C6 hul.symm)
 refine A2d ?_
 refine E9 (rC rfl (A3 rfl rfl)) (rC rfl (A3 rfl rfl)) (rT rfl) ?_
 (exact A3g.no (hnn hE) (R7 _) (L9 _ ⟨by omega, by omega⟩))
 refine J0 ?_
 refine E9 (rC rfl (A3 rfl rfl)) (rC rfl (A3 rfl rfl)) (rT rfl) ?_
 (exact A3g.no (hno zO0) (R7 _) (L9 _ ⟨by omega, by omega⟩))
def U7 (e : Tm) : Option Ty := match X7 e with | some (_, t) => some t | none => none
theorem B6P (e : Tm) (G : IM) (cells : List Value) (htv : M3 e = true) (hr : B7 G e cells) : Fn Tryz.prog 82 [.slice none 0 0, .agg ⟨cells⟩] [] G (A0x (U7 e) G) := by
 have hRl := hr.len
 have hRo := hr.one
 have hnn := @A74 e htv
 have hso := fun u t l => @A75 e u t l htv
 obtain ⟨hsh, hcn⟩ := (V2 e).1 htv
 refine C0 Tryz.func82 rfl Tryz.ntmps82 Tryz.results82 rfl ?_
 intro w0
 refine A4 ?_
 refine sE (B6 rfl rfl) rfl (fun b3 => ?_)
 refine sE (A6 rfl) rfl (fun b4 => ?_)
 refine A9 ?_
 refine sE (B6 rfl rfl) rfl (fun b11 => ?_)
 refine D8 ?_
 refine sL (A5 rfl rfl (B3 zI0) hRl) rfl rfl ?_
 focus (refine L5 rfl (B1j _ e 1 [] 0 G none 0 0 _ hsh zR0 A4d (W8.nil G) hr zR0 zR0) (Pk.perm zD0) rfl rfl (fun v G1 outs hle1 hh => ?_); obtain ⟨u, uc, t, tc, l3, rfl, rfl, hru, hrt, hl3, hl4, hu⟩ := hh; have hul := hru.len; have huo := hru.one; obtain ⟨p3, c3, e3, rfl, _⟩ := hrt.open; have hso := hso u t l3; rcases hE : P4 [] e 0 with _ | ⟨u2, t2, l2⟩; rotate_left; have hue := hu _ hE; simp only [Prod.mk.injEq] at hue; obtain ⟨rfl, rfl, rfl⟩ := hue; have hso := hso hE; rotate_left; simp only [Option.isSome]; rotate_left; simp only [Option.isSome])
 refine B5 ?_
 refine sE (A6 rfl) rfl (fun b19 => ?_)
 refine sE (A6 rfl) rfl (fun b20 => ?_)
 refine sS rfl rfl rfl hul huo rfl ?_ (hu := by exact C6 hul.symm)
 refine N0 ?_
 refine H3 (rC rfl (A3 rfl rfl)) (rT rfl) ?_
 (exact A0x.yes hrt rfl (by unfold U7; rw [hso]))
 refine B5 ?_
 refine sE (A6 rfl) rfl (fun b41 => ?_)
 refine sE (A6 rfl) rfl (fun b42 => ?_)
 refine sS rfl rfl rfl hul huo rfl ?_ (hu := by exact C6 hul.symm)
 refine N0 ?_
 refine H3 (rC rfl (A3 rfl rfl)) (rT rfl) ?_
 (exact A0x.no hrt rfl (by unfold U7; rw [hnn hE]))
theorem B6Q (fid : FuncId) (us cs : List Value) (G : IM) : Fn Tryz.prog 139 [.slice none 0 0, .func (.func fid) ⟨us⟩ ⟨cs⟩] [] G (K7 (.int .i64 (-1)) G) := by
 refine C0 Tryz.func139 rfl Tryz.ntmps139 Tryz.results139 rfl ?_
 intro w0
 refine N0 ?_
 refine C2 ?_
 refine L8 (fun (_ : Nat) => ⟨[(8, .int .i64 0), (7, .int .i64 0)], [], G⟩) (fun _ => True) (fun i => i) 0 ?_ ?_ ?_
 ·exact F8
 ·trivial
 ·(rintro (i0 : Nat) _)
  refine A4 ?_
  refine sP (A1U rfl rfl zR0) rfl rfl ?_
  refine N3 ?_
  trivial
theorem B6R (fid : FuncId) (us cs : List Value) (G : IM) : Fn Tryz.prog 118 [.slice none 0 0, .func (.func fid) ⟨us⟩ ⟨cs⟩] [] G (K7 (.bool false) G) := by
 refine C0 Tryz.func118 rfl Tryz.ntmps118 Tryz.results118 rfl ?_
 intro w0
 refine E7 ?_
 refine H4 rfl (B6Q fid us cs G) rfl rfl ?_
 refine sP (B3d rfl rfl zR0) rfl rfl ?_
 refine A8 ?_
 (exact ⟨rfl, rfl, rfl⟩)
theorem B6S (G : IM) : Fn Tryz.prog 81 [.slice none 0 0] [] G (K7 (.bool true) G) := by
 refine C0 Tryz.func81 rfl Tryz.ntmps81 Tryz.results81 rfl ?_
 intro w0
 refine E7 ?_
 refine sP (A8M rfl rfl zR0) rfl rfl ?_
 refine A4 ?_
 refine H4 rfl ((B6R _ _ _ _)) rfl rfl ?_
 refine B0 ?_
 (exact ⟨rfl, rfl, rfl⟩)
theorem B1l {e : Tm} (h : M3 e = false) : U7 e = none := by unfold U7; rw [B1k h]
theorem B6T {e : Tm} {t : Ty} (h : U7 e = some t) : H9 t = true := by
 unfold U7 at h
 split at h
 ·rename_i u t' hi; cases h; exact (A70 hi).2.2
 ·cases h
theorem B6U (e : Tm) (G : IM) (cells : List Value) (hr : B7 G e cells) : Fn Tryz.prog 46 [.slice none 0 0, .agg ⟨cells⟩] [] G (A0x (U7 e) G) := by
 have hRl := hr.len
 have hRo := hr.one
 refine C0 Tryz.func46 rfl Tryz.ntmps46 Tryz.results46 rfl ?_
 intro w0
 refine A4 ?_
 refine sE (B6 rfl rfl) rfl (fun b3 => ?_)
 refine sE (A6 rfl) rfl (fun b4 => ?_)
 refine B0 ?_
 refine H4 rfl ((B6S _)) rfl rfl ?_
 refine A4 ?_
 refine sL (A5 rfl rfl (B3 zI0) hRl) rfl rfl ?_
 refine J5 rfl ((A5R e _ _ hr)) rfl rfl (fun h16 => ?_) (fun h16 => ?_)
 refine J2 ?_
 refine sL (A5 rfl rfl (B3 zI0) hRl) rfl rfl ?_
 focus (refine F4 rfl (B6P e G cells zO0 hr) rfl rfl (fun v G1 hle1 hh => ?_); obtain ⟨cu, u, rfl, hru, hu⟩ := hh; obtain ⟨p1, c1, e1, rfl, _⟩ := hru.open; rcases hct : U7 e with _ | u2; rotate_left; obtain rfl := hu u2 hct; have hgv := B6T hct; rotate_left; simp only [Option.isSome]; rotate_left; simp only [Option.isSome])
 refine C1 ?_
 refine sE (A6 rfl) rfl (fun b32 => ?_)
 refine V0 ?_
 (refine F4 rfl (A21 _ G1 _ (A5d hgv).small hru) rfl rfl (fun v G2 hle2 hh => ?_); obtain ⟨cs2, F2, rfl, hs2, hn2⟩ := hh; obtain ⟨p2, c2, rfl, _⟩ := hs2.open; have hr2 := hs2.R.mono (E0.le G2 G1))
 refine A8 ?_
 refine H3 (rC rfl (A3 rfl rfl)) (rT rfl) ?_
 (exact A0x.yes hr2 rfl (by first | exact hct | rfl))
 refine C1 ?_
 refine sE (A6 rfl) rfl (fun b61 => ?_)
 refine Z0 ?_
 refine H3 (rC rfl (A3 rfl rfl)) (rT rfl) ?_
 (exact A0x.no (u := B4) (L9 _ ⟨by omega, by omega⟩) rfl (by first | exact hct | rfl))
 refine M8 ?_
 refine H3 (rC rfl (A3 rfl rfl)) (rT rfl) ?_
 (exact A0x.no (u := B4) (L9 _ ⟨by omega, by omega⟩) rfl (B1l zO0))
theorem B6V (e : Tm) (G : IM) (cells : List Value) (hr : B7 G e cells) : Fn Tryz.prog 18 [.agg ⟨cells⟩] [] G (A0x (U7 e) G) := by
 have hRl := hr.len
 have hRo := hr.one
 refine C0 Tryz.func18 rfl Tryz.ntmps18 Tryz.results18 rfl ?_
 intro w0
 refine A4 ?_
 refine sE (B6 rfl rfl) rfl (fun b3 => ?_)
 refine sE (A6 rfl) rfl (fun b4 => ?_)
 refine A8 ?_
 refine sL (A5 rfl rfl (B3 zI0) hRl) rfl rfl ?_
 (refine F4 rfl (B6U e G cells hr) rfl rfl (fun v G1 hle1 hh => ?_); obtain ⟨cu, u, rfl, hru, hu⟩ := hh; obtain ⟨p1, c1, e1, rfl, _⟩ := hru.open)
 refine B0 ?_
 refine H3 (rC rfl (A3 rfl rfl)) (rT rfl) ?_
 (exact ⟨rfl, _, u, rfl, hru, hu⟩)
def A0Z (e : Tm) (fuel : Int) : ByteArray × Int × Int := match X7 e with
 | none => (⟨⟨[]⟩⟩, 3, 0)
 | some (u, _) => if (Y3 u fuel).2.1 = 0 then (A0e (Y3 u fuel).1, 0, 0) else (⟨⟨[]⟩⟩, (Y3 u fuel).2.1, (Y3 u fuel).2.2)
def B1m (r : ByteArray × Int × Int) (G : IM) : IM → Value → List A7 → Prop := N8 fun _ v => v = .tuple ⟨[.string r.1, .int .i64 r.2.1, .int .i64 r.2.2]⟩
theorem B6W {e : Tm} {fuel : Int} (h : X7 e = none) : A0Z e fuel = (⟨⟨[]⟩⟩, 3, 0) := by unfold A0Z; rw [h]
theorem B1n {e u : Tm} {t : Ty} {fuel : Int} (h : X7 e = some (u, t)) (h0 : (Y3 u fuel).2.1 = 0) : A0Z e fuel = (A0e (Y3 u fuel).1, 0, 0) := by unfold A0Z; rw [h]; simp only [h0, if_true]
theorem A76 {e u : Tm} {t : Ty} {fuel : Int} (h : X7 e = some (u, t)) (h0 : (Y3 u fuel).2.1 ≠ 0) : A0Z e fuel = (⟨⟨[]⟩⟩, (Y3 u fuel).2.1, (Y3 u fuel).2.2) := by unfold A0Z; rw [h]; simp only [if_neg h0]
theorem B1o : ∀ (n : Nat) (e : Tm), (S3 n e).2.1 = 0 → O9 (S3 n e).1 = true ∧ H7 (S3 n e).1 = true ∧ (S3 n e).2.2.1 = 0
 | 0, e, h => by rw [A7W] at h ⊢; exact stepv e h
 | n + 1, e, h => by
  by_cases h1 : (L7 e).2.1 = 1
  ·rw [A7X h1] at h ⊢; exact B1o n _ h
  ·rw [A7Y h1] at h ⊢; exact stepv e h
where
 stepv (e : Tm) (h : (L7 e).2.1 = 0) : O9 (L7 e).1 = true ∧ H7 (L7 e).1 = true ∧ (L7 e).2.2 = 0 := by
  cases h1 : O9 e with
  | false => rw [B00 h1] at h; simp at h
  | true =>
   cases h2 : H7 e with
   | true => rw [A6k h1 h2]; exact ⟨h1, h2, rfl⟩
   | false =>
    by_cases h3 : (K3 e).2.1 = 1
    ·cases h4 : O9 (K3 e).1 with
     | false => rw [A6l h1 h2 h3 h4] at h; simp at h
     | true => rw [A6m h1 h2 h3 h4] at h; simp at h
    ·rw [B01 h1 h2 h3] at h
     exact absurd h (stp_ne0 e)
 stp_ne0 : ∀ (e : Tm), (K3 e).2.1 ≠ 0 := by
  refine Tm.ind fun k nm num ty fr lb ks ih => ?_
  rw [K3]
  cases hL : Y8 (if k = 9 then 1 else ks.length) ks with
  | none => exact red_ne0 k ty fr lb ks
  | some p =>
   obtain ⟨us, c, l⟩ := p
   have := stpL_ne0 ks ih _ us c l hL
   simp only
   by_cases hc : c = 1
   ·rw [if_pos hc]; simp
   ·rw [if_neg hc]; exact this
 red_ne0 (k : Int) (ty fr : Ty) (lb : Int) (ks : List Tm) : (A0w k ty fr lb ks).2.1 ≠ 0 := by
  unfold A0w Z6
  repeat' split
  all_goals simp
 stpL_ne0 (ks : List Tm) (ih : ∀ t ∈ ks, (K3 t).2.1 ≠ 0) : ∀ (n : Nat) us c l, Y8 n ks = some (us, c, l) → c ≠ 0 := by
  induction ks with
  | nil => intro n us c l h; cases n <;> simp [Y8] at h
  | cons t ts iht =>
   intro n us c l h
   cases n with
   | zero => simp [Y8] at h
   | succ n =>
    rw [A6i] at h
    by_cases hv : H7 t = true
    ·rw [if_pos hv] at h
     split at h
     ·rename_i us' c' l' h'
      simp only [Option.some.injEq, Prod.mk.injEq] at h
      obtain ⟨_, rfl, _⟩ := h
      exact iht (fun u hu => ih u (List.mem_cons_of_mem _ hu)) n _ _ _ h'
     ·cases h
    ·rw [if_neg hv] at h
     simp only [Option.some.injEq, Prod.mk.injEq] at h
     obtain ⟨_, rfl, _⟩ := h
     exact ih t List.mem_cons_self
theorem B6X {e : Tm} {fuel : Int} (h : (Y3 e fuel).2.1 = 0) : O9 (Y3 e fuel).1 = true ∧ H7 (Y3 e fuel).1 = true ∧ (Y3 e fuel).2.2 = 0 := by
 cases hf : V1 fuel 0 300 with
 | false => rw [B05 hf] at h; simp at h
 | true =>
  by_cases h1 : (S3 fuel.toNat e).2.1 = 1
  ·rw [B06 hf h1] at h; simp at h
  ·rw [B07 hf h1] at h ⊢; exact B1o _ _ h
def B6Y (r s : ByteArray × Int × Int) : Int := if r.2.1 = 2 then 2 else if r.2.1 ≠ 0 ∨ s.2.1 = 4 ∨ s.2.1 = 5 then 3 else if s.2.1 = 0 ∧ r.1 = s.1 then 1 else 4
def B9E (a b : Tm) (fuel : Int) : Int := if (U7 a).isSome = true ∧ A6d a b = true ∧ V1 fuel 0 300 = true then B6Y (A0Z a fuel) (A0Z b fuel) else 0
def gxT : GX → ByteArray
 | .n n => B1g n
 | .b b => if b = true then txT else txF
 | .p => A71
 | .f => A72
theorem A6o {v : GE} (h : GV v) : A0e v.tm = gxT v.tx := by
 induction h with
 | num => rfl
 | @tru b => cases b <;> rfl
 | lam => rfl
 | pair _ _ _ _ => rfl
 | pf _ _ => rfl
 | pp _ _ => rfl
 | @inj A l e hv hg i =>
  rw [GE.tm, B1h (h0 := by simp)]
  ·exact i
  ·rw [A4g]
   refine decide_eq_false ?_
   rintro ⟨_, _, h | h⟩ <;> simp [GT.ty, Ty.k] at h
  ·rfl
theorem B6Z {a : Tm} (h : (U7 a).isSome = true) : ∃ u t, X7 a = some (u, t) := by
 unfold U7 at h
 split at h
 ·exact ⟨_, _, by assumption⟩
 ·cases h
theorem B60 {a u : Tm} {t : Ty} (h : X7 a = some (u, t)) : U7 a = some t := by unfold U7; rw [h]
def B9F (e : Tm) : Option (List Tm) := if (U7 e).isSome = true ∧ (K8 e).length ≤ 6 then some (B4Y e) else none
def CfP (r : Option (List Tm)) : IM → Value → List A7 → Prop := fun G' v outs => outs = [] ∧ ∃ p c es, v = .tuple ⟨[.slice p (r.getD []).length c, .bool r.isSome]⟩ ∧ D7 G' p (r.getD []).length c 9 es ∧ F9 G' (r.getD []) es
def pAt (t : Tm) (label : Int) (l : List Int) : Bool := match tAt t l with
 | some x => decide (x.k = 14 ∧ x.lb = label)
 | none => false
def A77 (t : Tm) (label : Int) : List Int × Bool := match (B3E t).find? (pAt t label) with
 | some l => (l, true)
 | none => ([], false)
def SP1 (G : IM) (l : List Int) (p : Option Addr) (c : Nat) : Prop := Sl G p l.length c 1 (A5I l) ∧ ∀ b ∈ K5 p, G b ≠ none
def CpP (t : Tm) (label : Int) (G : IM) : IM → Value → List A7 → Prop := N8 fun G' v => ∃ p c, v = .tuple ⟨[.slice p (A77 t label).1.length c, .bool (A77 t label).2]⟩ ∧ SP1 (E0 G' G) (A77 t label).1 p c
def MsP (r : Option (List Int)) (e : A7) (G : IM) : IM → Value → List A7 → Prop := fun G' v outs => outs = [e] ∧ ∃ p c, v = .tuple ⟨[.slice p (r.getD []).length c, .bool r.isSome]⟩ ∧ SP1 (E0 G' G) (r.getD []) p c
def IsP (l : List Int) (b : Bool) (G : IM) : IM → Value → List A7 → Prop := N8 fun G' v => ∃ p c, v = .tuple ⟨[.slice p l.length c, .bool b]⟩ ∧ SP1 (E0 G' G) l p c
theorem B7.nine {G : IM} {t : Tm} {cells : List Value} (h : B7 G t cells) : ∃ v1 v2 v3 v4 v5 v6 v7 v8 v9, cells = [v1, v2, v3, v4, v5, v6, v7, v8, v9] := by
 obtain ⟨_, _, _, _, _, _, _, _, _, rfl, _⟩ := h.open
 exact ⟨_, _, _, _, _, _, _, _, _, rfl⟩
theorem A5e {G : IM} {e : Tm} {ce : List Value} {k : Int} {nm : ByteArray} {tk : Int} {tks : List Ty} {q p : Option Addr} {d c : Nat} (hk : H6 k) (ht : C7 G (.mk tk tks) [.int .i64 tk, .slice q tks.length d]) (h1 : B7 G e ce) (hs : Sl G p 1 c 9 ce) :
  B7 G (.mk k nm 0 (.mk tk tks) B4 0 [e]) [.int .i64 k, .string nm, .int .i64 0, .int .i64 tk, .slice q tks.length d, .int .i64 0, .slice none 0 0, .int .i64 0, .slice p 1 c] := by
 obtain ⟨a1, a2⟩ := B4V h1 hs
 exact B7.of9 (ks := [e]) hk ⟨by omega, by omega⟩ ⟨by omega, by omega⟩ ht (L9 _ ⟨by omega, by omega⟩) a1 a2
theorem A5f {G : IM} {e f : Tm} {ce cf : List Value} {k : Int} {nm : ByteArray} {p : Option Addr} {c : Nat} (hk : H6 k) (h1 : B7 G e ce) (h2 : B7 G f cf) (hs : Sl G p 2 c 9 (ce ++ cf)) :
  B7 G (.mk k nm 0 B4 B4 0 [e, f]) [.int .i64 k, .string nm, .int .i64 0, .int .i64 0, .slice none 0 0, .int .i64 0, .slice none 0 0, .int .i64 0, .slice p 2 c] := by
 have hL : F9 G [e, f] [ce, cf] := by simp only [F9]; exact ⟨ce, [cf], rfl, h1, cf, [], rfl, h2, rfl⟩
 exact B7.of9 (ks := [e, f]) hk ⟨by omega, by omega⟩ ⟨by omega, by omega⟩ (L9 _ ⟨by omega, by omega⟩) (L9 _ ⟨by omega, by omega⟩)
  (D7.of (by simpa using hs) rfl hL.all (fun x hx => by obtain ⟨q, hq⟩ := List.getElem?_of_mem hx; exact (hL.inv hq I8).2.one)) hL
theorem B61 {G : IM} {e f g : Tm} {ce cf cg : List Value} {k : Int} {nm : ByteArray} {p : Option Addr} {c : Nat} (hk : H6 k) (h1 : B7 G e ce) (h2 : B7 G f cf) (h3 : B7 G g cg) (hs : Sl G p 3 c 9 (ce ++ (cf ++ cg))) :
  B7 G (.mk k nm 0 B4 B4 0 [e, f, g]) [.int .i64 k, .string nm, .int .i64 0, .int .i64 0, .slice none 0 0, .int .i64 0, .slice none 0 0, .int .i64 0, .slice p 3 c] := by
 have hL : F9 G [e, f, g] [ce, cf, cg] := by simp only [F9]; exact ⟨ce, [cf, cg], rfl, h1, cf, [cg], rfl, h2, cg, [], rfl, h3, rfl⟩
 exact B7.of9 (ks := [e, f, g]) hk ⟨by omega, by omega⟩ ⟨by omega, by omega⟩ (L9 _ ⟨by omega, by omega⟩) (L9 _ ⟨by omega, by omega⟩)
  (D7.of (by simpa using hs) rfl hL.all (fun x hx => by obtain ⟨q, hq⟩ := List.getElem?_of_mem hx; exact (hL.inv hq I8).2.one)) hL
def mB : Nat → Nat
 | 0 => 200
 | n + 1 => 3 * mB n + 200
theorem A2u (n : Nat) : 200 ≤ mB n := by cases n <;> simp only [mB] <;> omega
def A2v (n : Nat) (depth : Int) (t : Ty) : Prop := T8 4 t ∧ (n : Int) - 1000 ≤ depth ∧ depth ≤ 1000 ∧ ((depth ≤ 1 ∧ T8 n t) ∨ (2 ≤ depth ∧ depth + 3 ≤ n))
theorem A2v.sub {n : Nat} {depth : Int} {t t' : Ty} (h : A2v (n + 1) depth t) (hd : 1 < depth) (h4 : T8 4 t') : A2v n (depth - 1) t' := by
 obtain ⟨h1, h2, h3, h5⟩ := h
 refine ⟨h4, by omega, by omega, ?_⟩
 rcases h5 with ⟨h5, _⟩ | ⟨h5, h6⟩
 ·omega
 ·by_cases h7 : 3 ≤ depth
  ·exact .inr ⟨by omega, by omega⟩
  ·exact .inl ⟨by omega, h4.le zR0⟩
theorem A2v.kid {n : Nat} {depth : Int} {k : Int} {ks : List Ty} {t' : Ty} (h : A2v (n + 1) depth (.mk k ks)) (ht : t' ∈ ks) : A2v n (depth - 1) t' := by
 have h4 : T8 4 t' := (A7g h.1 ht).up
 by_cases hd : 1 < depth
 ·exact h.sub hd h4
 ·obtain ⟨h1, h2, h3, h5⟩ := h
  refine ⟨h4, by omega, by omega, .inl ⟨by omega, ?_⟩⟩
  rcases h5 with ⟨_, h5⟩ | ⟨h5, _⟩
  ·exact A7g h5 ht
  ·omega
theorem A2v.pos {n : Nat} {depth : Int} {k : Int} {ks : List Ty} (h : A2v n depth (.mk k ks)) (hd : 1 < depth ∨ k = 4 ∨ k = 5) : ∃ m, n = m + 1 := by
 cases n with
 | succ m => exact ⟨m, rfl⟩
 | zero =>
  obtain ⟨h1, h2, h3, h5⟩ := h
  rcases h5 with ⟨h5, h6⟩ | ⟨h5, h6⟩
  ·have := h6.2
   omega
  ·omega
theorem T1 : B4.small := by simp [B4, Ty.small, Ty.smallL]
theorem R1 {k : Int} {nm : ByteArray} {num : Int} (h : nm.size ≤ 1) : (Tm.mk k nm num B4 B4 0 []).small := by
 simp only [Tm.small, Tm.smallL]; exact ⟨by omega, T1, T1, by simp, trivial⟩
theorem O0 {k : Int} {nm : ByteArray} {num : Int} {ty : Ty} {a : Tm} (h : nm.size ≤ 1) (ht : ty.small) (ha : a.small) : (Tm.mk k nm num ty B4 0 [a]).small := by
 simp only [Tm.small, Tm.smallL]; exact ⟨by omega, ht, T1, by simp, ha, trivial⟩
theorem W3 {k : Int} {nm : ByteArray} {num : Int} {a b : Tm} (h : nm.size ≤ 1) (ha : a.small) (hb : b.small) : (Tm.mk k nm num B4 B4 0 [a, b]).small := by
 simp only [Tm.small, Tm.smallL]; exact ⟨by omega, T1, T1, by simp, ha, hb, trivial⟩
theorem A1h {k : Int} {nm : ByteArray} {num : Int} {a b c : Tm} (h : nm.size ≤ 1) (ha : a.small) (hb : b.small) (hc : c.small) : (Tm.mk k nm num B4 B4 0 [a, b, c]).small := by
 simp only [Tm.small, Tm.smallL]; exact ⟨by omega, T1, T1, by simp, ha, hb, hc, trivial⟩
theorem A1i : (Ty.mk 1 []).small := by simp [Ty.small, Ty.smallL]
def B1p (br : Nat) (pb : Option Addr) (nb cb : Nat) (bs : List UInt8) (n : Nat) : Prop := ∀ (depth : Int) (t : Ty) (p : Nat) (G : IM) (pc : Option Addr) (nc cc : Nat) (cells : List Value), A2v n depth t → (n : Int) - 1000 ≤ depth → depth ≤ 1000 → nc + n ≤ 40 → GCx G pc nc cc → C7 G t cells → Sl G pb nb cb 1 (R4 bs) → p + mB n < 1099511627776 →
 Fn Tryz.prog 76 [.pointer (some ⟨br, 0, none⟩), .slice pc nc cc, .agg ⟨cells⟩, .int .i64 depth] [rd br pb nb cb p] G
  (A1o br pb nb cb p (mB n) (fun G' v => ∃ e cells, v = .agg ⟨cells⟩ ∧ B7 G' e cells ∧ e.small ∧ E4 e ≤ mB n))
theorem B1q (br : Nat) (pb : Option Addr) (nb cb : Nat) (bs : List UInt8) (hnb : nb ≤ 2000) (m : Nat) (hM : B1p br pb nb cb bs m) (depth : Int) (a t : Ty) (p : Nat) (G : IM) (pc : Option Addr) (nc cc : Nat) (ca cells : List Value)
  (hfu : A2v m depth t) (hd0 : (m : Int) - 1000 ≤ depth) (hd1 : depth ≤ 1000) (hnc : nc + 1 + m ≤ 40) (hx : GCx G pc nc cc) (hra : C7 G a ca) (haa : I4 a ∧ M4 a ≤ 30) (hrt : C7 G t cells) (hb : Sl G pb nb cb 1 (R4 bs)) (hp : p + 1 + mB m < 1099511627776) :
  Fn Tryz.prog 108 [.pointer (some ⟨br, 0, none⟩), .slice pc nc cc, .agg ⟨ca⟩, .agg ⟨cells⟩, .int .i64 depth] [rd br pb nb cb p] G
   (A1o br pb nb cb p (1 + mB m) (fun G' v => ∃ e cells, v = .agg ⟨cells⟩ ∧ B7 G' e cells ∧ e.small ∧ E4 e ≤ 1 + mB m)) := by
 obtain ⟨ak, aks⟩ := a
 obtain ⟨tk, tks⟩ := t
 obtain ⟨pa, cca, ea, rfl, _⟩ := hra.open
 obtain ⟨pt, cct, et, rfl, _⟩ := hrt.open
 simp only [Ty.k, Ty.ks] at hra hrt ⊢
 refine C0 Tryz.func108 rfl Tryz.ntmps108 Tryz.results108 rfl ?_
 intro w0
 refine A4 ?_
 refine sE (B6 rfl rfl) rfl (fun b3 => ?_)
 refine sE (B6 rfl rfl) rfl (fun b4 => ?_)
 refine sE (A6 rfl) rfl (fun b5 => ?_)
 refine A8 ?_
 (refine J8 (D1 rfl rfl rfl zR0 zL0 rfl) rfl ?_; rintro _ ⟨b11, rfl⟩)
 (refine X9 zD0 (fun G4 hle4 hsl4 _ => ?_); refine L5 rfl (A7h G4 br pb nb cb p bs _ _ _ _ (hb.mono hle4) hnb zR0 hsl4 zQ0) (Pk.perm zD0) rfl rfl (fun v G5 outs hle5 hh => ?_); obtain ⟨rfl, rfl, hv⟩ := hh; obtain ⟨nm, rfl, hnm⟩ : ∃ nm : ByteArray, v = .string nm ∧ nm.size ≤ 1 := (by simp only [List.mem_cons, List.not_mem_nil, or_false] at hv; rcases hv with rfl | rfl | rfl | rfl <;> exact ⟨_, rfl, by decide⟩); replace hra := hra.mono hle4; replace hx := hx.mono hle4; replace hb := hb.mono hle4; replace hrt := hrt.mono hle4;)
 refine B5 ?_
 refine D3 D4 rfl ?_
 refine J4 (i := 0) (l' := [tt,ff,ff,ff,ff,ff,ff,ff,ff,ff,ff,ff,ff,ff]) rfl C8 (qM rfl) rfl zP0 rfl rfl ?_
 refine aL 1 rfl (A3 rfl rfl) rfl ?_
 refine aP 3 rfl (qM rfl) rfl ?_
 refine aP 4 rfl (qM rfl) rfl ?_
 refine aP 5 rfl (qM rfl) rfl ?_
 refine aL 6 rfl (A3 rfl rfl) rfl ?_
 refine aL 8 rfl (A3 rfl rfl) rfl ?_
 refine aP 9 rfl (qM rfl) rfl ?_
 refine A2 2 ?_
 (refine H1 rfl rfl (Z9 _ _ _ haa.1.small hra) rfl rfl rfl (fun v G6 hle6 hh => ?_); obtain ⟨cs1, F1, rfl, hs1, hn1⟩ := hh; obtain ⟨p1, c1, rfl, _⟩ := hs1.open; have hr1 := hs1.R.mono (E0.le G6 _); replace hra := hra.mono hle6; replace hx := hx.mono hle6; replace hb := hb.mono hle6; replace hrt := hrt.mono hle6;)
 refine A2 7 ?_
 (refine H1 rfl rfl (B4P _ pc nc cc nm (.mk ak aks) _ hx zR0 hra haa.1 haa.2 hnm) rfl rfl rfl (fun v G7 hle7 hh => ?_); obtain ⟨pm, cm, rfl, hxm⟩ := hh; replace hr1 := hr1.mono hle7; replace hx := hx.mono hle7; replace hb := hb.mono hle7; replace hrt := hrt.mono hle7; have hcall := hM depth (.mk tk tks) (p + 1) _ pm (nc + 1) cm _ hfu hd0 hd1 zR0 hxm hrt hb zR0)
 refine A2 10 ?_
 (refine A0M (l' := [tt,tt,tt,tt,tt,tt,tt,tt,tt,tt,tt,ff,ff,ff]) rfl rfl hcall (Pk.perm zD0) rfl rfl rfl zR (fun v G8 outs hle8 hh => ?_); obtain ⟨p8, hp81, hp82, rfl, e8, c8, rfl, hr8, hs8, hc8⟩ := hh; obtain ⟨a1, a2, a3, a4, a5, a6, a7, a8, a9, rfl⟩ := hr8.nine; replace hr1 := hr1.mono hle8)
 refine A2 11 ?_
 (refine D2 rfl (D1 rfl rfl rfl zR0 zL0 rfl) rfl rfl ?_; rintro _ ⟨b33, rfl⟩)
 refine aP 12 rfl (pBd rfl rfl) rfl ?_
 refine A2 13 ?_
 refine T7 rfl rfl rfl rfl rfl rfl rfl rfl zM0 zF0 (by rfl) ?_
 refine A4 ?_
 (refine J6 (cs := [a1, a2, a3, a4, a5, a6, a7, a8, a9]) zD0 (fun G9 hle9 hsl9 hno9 => ?_); have hN := A5e (k := 5) (nm := nm) ⟨by omega, by omega⟩ (hr1.mono hle9) (hr8.mono hle9) hsl9)
 refine tT ?_
 refine H8 (outs := [rd br pb nb cb p8]) (rC rfl (A3 rfl rfl)) zS ?_
 (exact ⟨p8, by omega, by omega, rfl, _, _, rfl, hN, O0 hnm haa.1.small hs8, by simp only [E4, H0]; omega⟩)
structure A5g {ι : Type} (S : ι → Sy) (φ : ι → Prop) (K : Po) (e : Exit) (σ : Sy) : Prop where
 run : match e with
  | .normal => ∃ i, φ i ∧ Sub σ (S i)
  | e => K e σ
section cut
variable {P : Program} {Γ : N7} {K : Po} {σ : Sy} {ι : Type}
theorem B1r {c y : Code} (S : ι → Sy) (φ : ι → Prop) (h : L3 P Γ c (A5g S φ K) σ) (k : ∀ i, φ i → L3 P Γ y K (S i)) : L3 P Γ c (A1Q P Γ y K) σ := by
 refine A6H h ?_
 rintro e σ ⟨hk⟩
 cases e with
 | normal => obtain ⟨i, hi, hs⟩ := hk; exact ⟨A8z hs (k i hi)⟩
 | _ => exact ⟨hk⟩
theorem A5h {S : ι → Sy} {φ : ι → Prop} {σ : Sy} (i : ι) (hs : Sub σ (S i)) (h : φ i) : A5g S φ K .normal σ := ⟨⟨i, h, hs⟩⟩
theorem A1O {S : ι → Sy} {φ : ι → Prop} {σ : Sy} (h : K .ret σ) : A5g S φ K .ret σ := ⟨h⟩
theorem B62 {S : ι → Sy} {φ : ι → Prop} (h : A0J K) : A0J (A5g S φ K) := fun c σ hk => h c σ hk.run
instance npC6 {S : ι → Sy} {φ : ι → Prop} [h : NpC K] : NpC (A5g S φ K) := ⟨B62 h.h⟩
end cut
theorem A3h (G : IM) (nm : ByteArray) (num : Int) {k : Int} (hk : H6 k) (hn : H6 num) : B7 G (.mk k nm num B4 B4 0 []) [.int .i64 k, .string nm, .int .i64 num, .int .i64 0, .slice none 0 0, .int .i64 0, .slice none 0 0, .int .i64 0, .slice none 0 0] := A2P hk hn
theorem C7.kidsM {G : IM} {k : Int} {ks : List Ty} {q : Option Addr} {c : Nat} (h : C7 G (.mk k ks) [.int .i64 k, .slice q ks.length c]) : ∃ es, D7 G q ks.length c 2 es ∧ D9 G ks es := by
 obtain ⟨q', c', es, he, _, h1, h2⟩ := h.open
 cases he
 exact ⟨es, h1, h2⟩
theorem B63 (br : Nat) (pb : Option Addr) (nb cb : Nat) (bs : List UInt8) (hnb : nb ≤ 2000) : ∀ n, B1p br pb nb cb bs n := by
 refine fun n => Nat.strongRecOn n fun n ih depth t p G pc nc cc cells hfu hd0 hd1 hnc hx hrt hb hp => ?_
 have hge := A2u n
 have har := hfu.1.ar
 have hszt := A5T hfu.1
 have hnn := A1X t
 have hncl := hx.le
 obtain ⟨k, ks⟩ := t
 obtain ⟨q, c, es, rfl, hk, _, _⟩ := hrt.open
 simp only [Ty.k, Ty.ks] at hk hrt ⊢
 have hsz30 : M4 (.mk k ks) ≤ 30 := hszt
 have hops : k = 4 ∨ k = 5 → ks.length = 2 := by have h2 := har; rw [I4] at h2; exact h2.1
 refine C0 Tryz.func76 rfl Tryz.ntmps76 Tryz.results76 rfl ?_
 intro w0
 refine A4 ?_
 refine sE (B6 rfl rfl) rfl (fun b3 => ?_)
 refine sE (A6 rfl) rfl (fun b4 => ?_)
 refine B0 ?_
 refine sP (Q7 rfl rfl zR0 zR0) rfl rfl ?_
 refine C1 ?_
 refine C2 ?_
 (refine L8 (fun (x : Nat × Nat × IM) => ⟨(9, .int .i64 ((x.1 : Int) - 1)) :: [(0, .pointer (some ⟨br, 0, none⟩)), (1, .slice pc nc cc), (3, .int .i64 depth), (6, .pointer (some ⟨b3, 0, none⟩)), (8, .pointer (some ⟨b4, 0, none⟩))], [rd br pb nb cb x.2.1, .blk b4 [.int .i64 0, .string ⟨⟨[]⟩⟩, .int .i64 0, .int .i64 0, .slice none 0 0, .int .i64 0, .slice none 0 0, .int .i64 0, .slice none 0 0], .blk b3 [.int .i64 k, .slice q ks.length c]], x.2.2⟩) (fun x => x.1 ≤ nc ∧ B9 G x.2.2 ∧ p ≤ x.2.1 ∧ x.2.1 + x.1 ≤ p + nc) (fun x => x.1) (nc, p, G) ?_ ?_ ?_)
 (simp only [I9]; exact F8)
 (exact ⟨Nat.le_refl _, B9.refl _, Nat.le_refl _, Nat.le_refl _⟩)
 (rintro ⟨(i : Nat), (p1 : Nat), G1⟩ ⟨hi, hleL, hpL, hpL2⟩; simp only [] at hi hleL hpL hpL2 ⊢; replace hx := hx.mono hleL; replace hb := hb.mono hleL; replace hrt := hrt.mono hleL;)
 refine B5 ?_
 refine sB (A1w rfl rfl) rfl rfl (fun h25 => ?_) (fun h25 => ?_)
 refine A9 ?_
 (show L3 _ _ (.block 1 ..) _ _; obtain ⟨j, rfl⟩ : ∃ j, i = j + 1 := ⟨i - 1, by omega⟩; rw [show ((j + 1 : Nat) : Int) - 1 = (j : Int) from by omega]; obtain ⟨b, o, nm1, t1, qq1, dd1, rfl, hat, hr1, ha1, hs1, hgb, hns1⟩ := hx.get (i := j) zR0; refine C2 ?_)
 refine A8 ?_
 refine sP (B8 (j := j) rfl rfl rfl zR0) rfl rfl ?_
 refine D8 ?_
 refine sL (I7 rfl rfl ((hat _).sub (j := 0) rfl)) rfl rfl ?_
 (refine F4 rfl (B4O _ _ nc cc nm1 hx) rfl rfl (fun v G2 hle2 hh => ?_); obtain ⟨ts, tcs, xs, rfl, hrs, has, hss⟩ := hh; obtain ⟨ps, cs, ess, rfl, _⟩ := hrs.open; obtain ⟨b, o, nm1, t1, qq1, dd1, hpp, hat, hr1, ha1, hs1, hgb, hns1⟩ := (hx.mono hle2).get (i := j) zR0; cases hpp; replace hx := hx.mono hle2; replace hb := hb.mono hle2; replace hrt := hrt.mono hle2;)
 refine C1 ?_
 refine sE (A6 rfl) rfl (fun b45 => ?_)
 refine B0 ?_
 (have hinloop := hrs; refine L5 rfl (A0C _ br pb nb cb (p1) bs 3 hb hnb zR0) (Pk.perm zD0) rfl rfl (fun v Gp outs hle53 hh => ?_); obtain ⟨rfl, rfl, j53, rfl, hj53, hk53⟩ := hh; have hinl := hj53)
 replace hrs := hrs.mono hle53
 replace hr1 := hr1.mono hle53
 replace hb := hb.mono hle53
 replace hrt := hrt.mono hle53
 replace hinloop := hinloop.mono hle53
 refine sB (qE rfl rfl) rfl rfl (fun h54 => ?_) (fun h54 => ?_)
 refine A4 ?_
 refine J5 rfl ((A3y ts _ _ hrs)) rfl rfl (fun h57 => ?_) (fun h57 => ?_)
 refine B5 ?_
 refine J5 rfl ((A2Q ts (.mk k ks) _ _ _ has har hrs hrt)) rfl rfl (fun h62 => ?_) (fun h62 => ?_)
 refine E1 ?_
 refine sP (B8 (j := j) rfl rfl rfl zR0) rfl rfl ?_
 refine D8 ?_
 refine sL (I7 rfl rfl ((hat _).sub (j := 0) rfl)) rfl rfl ?_
 refine J2 ?_
 refine H8 (outs := [rd br pb nb cb (p1 + 1)]) (rC rfl (A3 rfl rfl)) zS ?_
 (exact ⟨(p1 + 1), by omega, by omega, rfl, _, _, rfl, A3h _ _ _ ⟨by omega, by omega⟩ (by first | exact ⟨by omega, by omega⟩ | exact hkn), by first | exact R1 (by first | assumption | decide) | exact A1h zQ0 zO0 zO0 zO0 | exact W3 zQ0 zO0 zO0 | exact O0 zQ0 T1 zO0 | exact O0 zQ0 har.small zO0 | exact O0 zQ0 T1 (W3 zQ0 zO0 (R1 zQ0)) | exact O0 zQ0 A1i (R1 zQ0) | assumption, by simp only [E4, H0]; omega⟩)
 refine E7 ?_
 refine sP (Q7 rfl rfl zR0 zR0) rfl rfl ?_
 refine A4 ?_
 (have hinloop := hrs; refine J7 (j, p1 + 1, Gp) ?_ ?_ ?_)
 (simp only [I9]; exact F8)
 (dsimp only; exact ⟨by omega, hleL.trans hle2, by omega, by omega⟩)
 (show _ < _ + 1; omega)
 refine M8 ?_
 refine sP (Q7 rfl rfl zR0 zR0) rfl rfl ?_
 refine A4 ?_
 (have hinloop := hrs; refine J7 (j, p1 + 1, Gp) ?_ ?_ ?_)
 (simp only [I9]; exact F8)
 (dsimp only; exact ⟨by omega, hleL.trans hle2, by omega, by omega⟩)
 (show _ < _ + 1; omega)
 refine V0 ?_
 refine sP (Q7 rfl rfl zR0 zR0) rfl rfl ?_
 refine A4 ?_
 (have hinloop := hrs; refine J7 (j, p1 + 1, Gp) ?_ ?_ ?_)
 (simp only [I9]; exact F8)
 (dsimp only; exact ⟨by omega, hleL.trans hle2, by omega, by omega⟩)
 (show _ < _ + 1; omega)
 refine J2 ?_
 (show L3 _ _ (.region 7 ..) _ _; refine A0V (fun (x : Bool) => ⟨(49, .bool x) :: [(0, .pointer (some ⟨br, 0, none⟩)), (1, .slice pc nc cc), (3, .int .i64 depth), (6, .pointer (some ⟨b3, 0, none⟩)), (8, .pointer (some ⟨b4, 0, none⟩))], [rd br pb nb cb p1, .blk b4 [.int .i64 0, .string ⟨⟨[]⟩⟩, .int .i64 0, .int .i64 0, .slice none 0 0, .int .i64 0, .slice none 0 0, .int .i64 0, .slice none 0 0], .blk b3 [.int .i64 k, .slice q ks.length c]], G1⟩) (fun x => x = true → 1 < depth) ?_ ?_)
 refine A4 ?_
 refine sB (A0K rfl rfl) rfl rfl (fun h160 => ?_) (fun h160 => ?_)
 refine sD ?_
 refine O7 true (I6 zC0 zV) (fun _ => by omega)
 refine sD ?_
 refine O7 false (I6 zC0 zV) (fun h => absurd h zQ0)
 (rintro (x49 : Bool) hx49)
 (show L3 _ _ (.cond (.tmp 49) _ _) _ _; refine B1r (fun (x : Nat × IM) => ⟨[(0, .pointer (some ⟨br, 0, none⟩)), (1, .slice pc nc cc), (3, .int .i64 depth), (6, .pointer (some ⟨b3, 0, none⟩)), (8, .pointer (some ⟨b4, 0, none⟩))], [rd br pb nb cb x.1, .blk b4 [.int .i64 0, .string ⟨⟨[]⟩⟩, .int .i64 0, .int .i64 0, .slice none 0 0, .int .i64 0, .slice none 0 0, .int .i64 0, .slice none 0 0], .blk b3 [.int .i64 k, .slice q ks.length c]], x.2⟩) (fun x => B9 G1 x.2 ∧ p1 ≤ x.1 ∧ x.1 ≤ p1 + 1) (A5r rfl (fun hxt => ?_) (fun hxf => ?_)) ?_)
 refine C1 ?_
 (have hx49b := hx49 hxt; refine L5 rfl (A0C _ br pb nb cb (p1) bs 9 hb hnb zR0) (Pk.perm zD0) rfl rfl (fun v Gp outs hle170 hh => ?_); obtain ⟨rfl, rfl, j170, rfl, hj170, hk170⟩ := hh; have hpk9 := hj170)
 replace hb := hb.mono hle170
 replace hrt := hrt.mono hle170
 refine A4 ?_
 refine C2 (tS (tR (sB (qE rfl rfl) rfl rfl (fun h176 => ?_) (fun h176 => ?_))))
 refine A8 ?_
 (obtain ⟨m, rfl⟩ := hfu.pos (.inl zR0); have hmB : mB (m + 1) = 3 * mB m + 200 := rfl; have hgm := A2u m; refine D3 D4 rfl ?_)
 refine J3 (i := 0) (l' := [tt,ff,ff,ff,ff,ff,ff,ff,ff,ff,ff,ff,ff]) rfl C8 (A3 rfl rfl) rfl zP0 rfl rfl ?_
 refine aP 2 rfl (qM rfl) rfl ?_
 refine aP 3 rfl (qM rfl) rfl ?_
 refine aP 4 rfl (qM rfl) rfl ?_
 refine aL 5 rfl (A3 rfl rfl) rfl ?_
 refine aP 7 rfl (qM rfl) rfl ?_
 refine aP 8 rfl (Q7 rfl rfl zR0 zR0) rfl ?_
 refine A2 1 ?_
 (refine H1 rfl rfl (Z9 _ _ _ har.small hrt) rfl rfl rfl (fun v G6 hle6 hh => ?_); obtain ⟨cs1, F1, rfl, hs1, hn1⟩ := hh; obtain ⟨pz, cz, rfl, _⟩ := hs1.open; have hrz := hs1.R.mono (E0.le G6 _); replace hx := hx.mono hle6; replace hb := hb.mono hle6; replace hrt := hrt.mono hle6;)
 refine A2 6 ?_
 (have hcall := A7y br pb nb cb bs hnb (.mk k ks) (p1 + 1) _ _ har hrt hb zR0; refine A0M (l' := [tt,tt,tt,tt,tt,tt,tt,tt,tt,ff,ff,ff,ff]) rfl rfl hcall (Pk.perm zD0) rfl rfl rfl zE (fun v Gn outs hleA hh => ?_); obtain ⟨pA, hpA1, hpA2, rfl, uA, cuA, rfl, hruA, huaA, husA, huhA⟩ := hh; obtain ⟨quA, duA, euA, rfl, _⟩ := hruA.open; replace hrz := hrz.mono hleA; replace hx := hx.mono hleA; replace hb := hb.mono hleA; replace hrt := hrt.mono hleA;)
 refine A2 9 ?_
 (have hcall := ih m zR0 (depth - 1) uA pA _ pc nc cc _ (hfu.sub zR0 (huhA 4 hfu.1)) zR0 zR0 zR0 hx hruA hb zR0; refine A0M (l' := [tt,tt,tt,tt,tt,tt,tt,tt,tt,tt,ff,ff,ff]) rfl rfl hcall (Pk.perm zD0) rfl rfl rfl zE (fun v Gn outs hlea hh => ?_); obtain ⟨pa, hpa1, hpa2, rfl, ea, ca, rfl, hra, hsma, hca⟩ := hh; obtain ⟨a1, a2, a3, a4, a5, a6, a7, a8, a9, rfl⟩ := hra.nine; replace hrz := hrz.mono hlea; replace hx := hx.mono hlea; replace hb := hb.mono hlea; replace hrt := hrt.mono hlea;)
 refine A2 10 ?_
 (refine D2 rfl (D1 rfl rfl rfl zR0 zL0 rfl) rfl rfl ?_; rintro _ ⟨b197, rfl⟩)
 refine aP 11 rfl (pBd rfl rfl) rfl ?_
 refine A2 12 ?_
 refine T7 rfl rfl rfl rfl rfl rfl rfl rfl zM0 zF0 (by rfl) ?_
 refine A4 ?_
 (refine J6 (cs := [a1, a2, a3, a4, a5, a6, a7, a8, a9]) zD0 (fun G9 hle9 hsl9 hno9 => ?_); have hN := A5e (k := 13) (nm := ⟨⟨[]⟩⟩) ⟨by omega, by omega⟩ (hrz.mono hle9) (hra.mono hle9) hsl9)
 refine A4 ?_
 refine A1O ?_
 refine H8 (outs := [rd br pb nb cb pa]) (rC rfl (A3 rfl rfl)) zS ?_
 (exact ⟨pa, by omega, by omega, rfl, _, _, rfl, hN, by first | exact R1 (by first | assumption | decide) | exact A1h zQ0 zO0 zO0 zO0 | exact W3 zQ0 zO0 zO0 | exact O0 zQ0 T1 zO0 | exact O0 zQ0 har.small zO0 | exact O0 zQ0 T1 (W3 zQ0 zO0 (R1 zQ0)) | exact O0 zQ0 A1i (R1 zQ0) | assumption, by simp only [E4, H0]; omega⟩)
 refine A9 ?_
 refine sB (qE rfl rfl) rfl rfl (fun h215 => ?_) (fun h215 => ?_)
 refine A8 ?_
 (obtain ⟨m, rfl⟩ := hfu.pos (.inl zR0); have hmB : mB (m + 1) = 3 * mB m + 200 := rfl; have hgm := A2u m; refine D3 D4 rfl ?_)
 refine J4 (i := 0) (l' := [tt,ff,ff,ff,ff,ff,ff,ff,ff,ff,ff,ff,ff,ff,ff,ff,ff,ff,ff,ff,ff]) rfl C8 (qM rfl) rfl zP0 rfl rfl ?_
 refine aP 1 rfl (qM rfl) rfl ?_
 refine aP 3 rfl (qM rfl) rfl ?_
 refine aP 4 rfl (Q7 rfl rfl zR0 zR0) rfl ?_
 refine aP 6 rfl (qM rfl) rfl ?_
 refine aP 7 rfl (qM rfl) rfl ?_
 refine aL 8 rfl (A3 rfl rfl) rfl ?_
 refine aP 9 rfl (qM rfl) rfl ?_
 refine aP 10 rfl (Q7 rfl rfl zR0 zR0) rfl ?_
 refine aP 12 rfl (qM rfl) rfl ?_
 refine aP 13 rfl (qM rfl) rfl ?_
 refine aL 14 rfl (A3 rfl rfl) rfl ?_
 refine aP 15 rfl (qM rfl) rfl ?_
 refine aP 16 rfl (Q7 rfl rfl zR0 zR0) rfl ?_
 refine A2 2 ?_
 refine T2 rfl rfl ((A4X _)) rfl rfl rfl ?_
 refine A2 5 ?_
 (have hcall := ih m zR0 (depth - 1) (.mk 3 []) (p1 + 1) _ pc nc cc _ (hfu.sub zR0 (A31 4 zQ0 zQ0)) zR0 zR0 zR0 hx (L9 _ ⟨by omega, by omega⟩) hb zR0; refine A0M (l' := [tt,tt,tt,tt,tt,tt,tt,tt,tt,tt,tt,ff,tt,tt,tt,tt,tt,ff,ff,ff,ff]) rfl rfl hcall (Pk.perm zD0) rfl rfl rfl zE (fun v Gn outs hlef hh => ?_); obtain ⟨pf, hpf1, hpf2, rfl, ef, cf, rfl, hrf, hsmf, hcf⟩ := hh; obtain ⟨f1, f2, f3, f4, f5, f6, f7, f8, f9, rfl⟩ := hrf.nine; replace hx := hx.mono hlef; replace hb := hb.mono hlef; replace hrt := hrt.mono hlef;)
 refine A2 11 ?_
 (have hcall := ih m zR0 (depth - 1) (.mk k ks) pf _ pc nc cc _ (hfu.sub zR0 hfu.1) zR0 zR0 zR0 hx hrt hb zR0; refine A0M (l' := [tt,tt,tt,tt,tt,tt,tt,tt,tt,tt,tt,tt,tt,tt,tt,tt,tt,ff,ff,ff,ff]) rfl rfl hcall (Pk.perm zD0) rfl rfl rfl zE (fun v Gn outs hleg hh => ?_); obtain ⟨pg, hpg1, hpg2, rfl, eg, cg, rfl, hrg, hsmg, hcg⟩ := hh; obtain ⟨g1, g2, g3, g4, g5, g6, g7, g8, g9, rfl⟩ := hrg.nine; replace hrf := hrf.mono hleg; replace hx := hx.mono hleg; replace hb := hb.mono hleg; replace hrt := hrt.mono hleg;)
 refine A2 17 ?_
 (have hcall := ih m zR0 (depth - 1) (.mk k ks) pg _ pc nc cc _ (hfu.sub zR0 hfu.1) zR0 zR0 zR0 hx hrt hb zR0; refine A0M (l' := [tt,tt,tt,tt,tt,tt,tt,tt,tt,tt,tt,tt,tt,tt,tt,tt,tt,tt,ff,ff,ff]) rfl rfl hcall (Pk.perm zD0) rfl rfl rfl zE (fun v Gn outs hlei hh => ?_); obtain ⟨pi, hpi1, hpi2, rfl, ei, ci, rfl, hri, hsmi, hci⟩ := hh; obtain ⟨i1, i2, i3, i4, i5, i6, i7, i8, i9, rfl⟩ := hri.nine; replace hrf := hrf.mono hlei; replace hrg := hrg.mono hlei; replace hx := hx.mono hlei; replace hb := hb.mono hlei; replace hrt := hrt.mono hlei;)
 refine A2 18 ?_
 (refine D2 rfl (D1 rfl rfl rfl zR0 zL0 rfl) rfl rfl ?_; rintro _ ⟨b245, rfl⟩)
 refine A2 19 ?_
 refine T2 rfl rfl ((A3C _ _ _ _ _)) rfl rfl rfl ?_
 refine A2 20 ?_
 refine T7 rfl rfl rfl rfl rfl rfl rfl rfl zM0 zF0 (by rfl) ?_
 refine A4 ?_
 (refine J6 (cs := [f1, f2, f3, f4, f5, f6, f7, f8, f9] ++ ([g1, g2, g3, g4, g5, g6, g7, g8, g9] ++ [i1, i2, i3, i4, i5, i6, i7, i8, i9])) zD0 (fun G9 hle9 hsl9 hno9 => ?_); have hN := B61 (k := 9) (nm := ⟨⟨[]⟩⟩) ⟨by omega, by omega⟩ (hrf.mono hle9) (hrg.mono hle9) (hri.mono hle9) hsl9)
 refine A4 ?_
 refine A1O ?_
 refine H8 (outs := [rd br pb nb cb pi]) (rC rfl (A3 rfl rfl)) zS ?_
 (exact ⟨pi, by omega, by omega, rfl, _, _, rfl, hN, by first | exact R1 (by first | assumption | decide) | exact A1h zQ0 zO0 zO0 zO0 | exact W3 zQ0 zO0 zO0 | exact O0 zQ0 T1 zO0 | exact O0 zQ0 har.small zO0 | exact O0 zQ0 T1 (W3 zQ0 zO0 (R1 zQ0)) | exact O0 zQ0 A1i (R1 zQ0) | assumption, by simp only [E4, H0]; omega⟩)
 refine A9 ?_
 refine sB (qE rfl rfl) rfl rfl (fun h264 => ?_) (fun h264 => ?_)
 refine B0 ?_
 (have hcall := A4N br pb nb cb bs hnb 0 (p1 + 1) _ zR0 hb (by have : dB (0 + 1) ≤ 6 := zQ0; omega); refine L5 rfl hcall (Pk.perm zD0) rfl rfl (fun v Gn outs hleD hh => ?_); obtain ⟨pD, hpD1, hpD2, rfl, uD, cuD, rfl, hruD, husD, huhD⟩ := hh; have huaD := huhD.ar; obtain ⟨quD, duD, euD, rfl, _⟩ := hruD.open; have hdBD : dB (0 + 1) ≤ 6 := zQ0; replace hx := hx.mono hleD; replace hb := hb.mono hleD; replace hrt := hrt.mono hleD;)
 refine sE (A6 rfl) rfl (fun b273 => ?_)
 refine B5 ?_
 (obtain ⟨m, rfl⟩ := hfu.pos (.inl zR0); have hmB : mB (m + 1) = 3 * mB m + 200 := rfl; have hgm := A2u m; refine D3 D4 rfl ?_)
 refine J4 (i := 0) (l' := [tt,ff,ff,ff,ff,ff,ff,ff,ff,ff,ff,ff,ff,ff,ff,ff,ff,ff]) rfl C8 (qM rfl) rfl zP0 rfl rfl ?_
 refine aP 1 rfl (qM rfl) rfl ?_
 refine aL 2 rfl (A3 rfl rfl) rfl ?_
 refine aL 3 rfl (A3 rfl rfl) rfl ?_
 refine aP 4 rfl (qM rfl) rfl ?_
 refine aP 5 rfl (Q7 rfl rfl zR0 zR0) rfl ?_
 refine aP 7 rfl (qM rfl) rfl ?_
 refine aP 8 rfl (qM rfl) rfl ?_
 refine aP 9 rfl (qM rfl) rfl ?_
 refine aL 10 rfl (A3 rfl rfl) rfl ?_
 refine aP 12 rfl (qM rfl) rfl ?_
 refine aP 13 rfl (Q7 rfl rfl zR0 zR0) rfl ?_
 refine A2 6 ?_
 (have hcall := B1q br pb nb cb bs hnb m (ih m zR0) (depth - 1) uD (.mk k ks) (pD) _ pc nc cc _ _ (hfu.sub zR0 hfu.1) zR0 zR0 zR0 hx hruD ⟨huaD, by omega⟩ hrt hb zR0; refine A0M (l' := [tt,tt,tt,tt,tt,tt,tt,tt,tt,tt,tt,ff,tt,tt,ff,ff,ff,ff]) rfl rfl hcall (Pk.perm zD0) rfl rfl rfl zE (fun v Gn outs hlel hh => ?_); obtain ⟨pl, hpl1, hpl2, rfl, el, cl, rfl, hrl, hsml, hcl⟩ := hh; obtain ⟨l1, l2, l3, l4, l5, l6, l7, l8, l9, rfl⟩ := hrl.nine; replace hruD := hruD.mono hlel; replace hx := hx.mono hlel; replace hb := hb.mono hlel; replace hrt := hrt.mono hlel;)
 refine A2 11 ?_
 (have hcall := A7y br pb nb cb bs hnb uD (pl) _ _ huaD hruD hb zR0; refine A0M (l' := [tt,tt,tt,tt,tt,tt,tt,tt,tt,tt,tt,tt,tt,tt,ff,ff,ff,ff]) rfl rfl hcall (Pk.perm zD0) rfl rfl rfl zE (fun v Gn outs hleE hh => ?_); obtain ⟨pE, hpE1, hpE2, rfl, uE, cuE, rfl, hruE, huaE, husE, huhE⟩ := hh; obtain ⟨quE, duE, euE, rfl, _⟩ := hruE.open; replace hrl := hrl.mono hleE; replace hx := hx.mono hleE; replace hb := hb.mono hleE; replace hrt := hrt.mono hleE;)
 refine A2 14 ?_
 (have hcall := ih m zR0 (depth - 1) uE pE _ pc nc cc _ (hfu.sub zR0 (huhE 4 (huhD.le zR0))) zR0 zR0 zR0 hx hruE hb zR0; refine A0M (l' := [tt,tt,tt,tt,tt,tt,tt,tt,tt,tt,tt,tt,tt,tt,tt,ff,ff,ff]) rfl rfl hcall (Pk.perm zD0) rfl rfl rfl zE (fun v Gn outs hled hh => ?_); obtain ⟨pd, hpd1, hpd2, rfl, ed, cd, rfl, hrd, hsmd, hcd⟩ := hh; obtain ⟨d1, d2, d3, d4, d5, d6, d7, d8, d9, rfl⟩ := hrd.nine; replace hrl := hrl.mono hled; replace hx := hx.mono hled; replace hb := hb.mono hled; replace hrt := hrt.mono hled;)
 refine A2 15 ?_
 (refine D2 rfl (D1 rfl rfl rfl zR0 zL0 rfl) rfl rfl ?_; rintro _ ⟨b298, rfl⟩)
 refine A2 16 ?_
 refine T2 rfl rfl ((A3C _ _ _ _ _)) rfl rfl rfl ?_
 refine A2 17 ?_
 refine T7 rfl rfl rfl rfl rfl rfl rfl rfl zM0 zF0 (by rfl) ?_
 refine A4 ?_
 (refine J6 (cs := [l1, l2, l3, l4, l5, l6, l7, l8, l9] ++ [d1, d2, d3, d4, d5, d6, d7, d8, d9]) zD0 (fun G9 hle9 hsl9 hno9 => ?_); have hN := A5f (k := 6) (nm := ⟨⟨[]⟩⟩) ⟨by omega, by omega⟩ (hrl.mono hle9) (hrd.mono hle9) hsl9)
 refine A4 ?_
 refine A1O ?_
 refine H8 (outs := [rd br pb nb cb pd]) (rC rfl (A3 rfl rfl)) zS ?_
 (exact ⟨pd, by omega, by omega, rfl, _, _, rfl, hN, by first | exact R1 (by first | assumption | decide) | exact A1h zQ0 zO0 zO0 zO0 | exact W3 zQ0 zO0 zO0 | exact O0 zQ0 T1 zO0 | exact O0 zQ0 har.small zO0 | exact O0 zQ0 T1 (W3 zQ0 zO0 (R1 zQ0)) | exact O0 zQ0 A1i (R1 zQ0) | assumption, by simp only [E4, H0]; omega⟩)
 refine A9 ?_
 refine sB (qE rfl rfl) rfl rfl (fun h317 => ?_) (fun h317 => ?_)
 refine J2 ?_
 refine sP (Q7 rfl rfl zR0 zR0) rfl rfl ?_
 (have hpkq := hpk9; obtain ⟨m, rfl⟩ := hfu.pos (.inl zR0); have hmB : mB (m + 1) = 3 * mB m + 200 := rfl; have hgm := A2u m; have hcall := ih m zR0 (depth - 1) (.mk k ks) (p1 + 1) _ pc nc cc _ (hfu.sub zR0 hfu.1) zR0 zR0 zR0 hx hrt hb zR0; refine L5 rfl hcall (Pk.perm zD0) rfl rfl (fun v Gn outs hleh hh => ?_); obtain ⟨ph, hph1, hph2, rfl, eh, ch, rfl, hrh, hsmh, hch⟩ := hh; obtain ⟨h1, h2, h3, h4, h5, h6, h7, h8, h9, rfl⟩ := hrh.nine; replace hx := hx.mono hleh; replace hb := hb.mono hleh; replace hrt := hrt.mono hleh;)
 refine H4 rfl ((A35 _ _)) rfl rfl ?_
 (refine J8 (D1 rfl rfl rfl zR0 zL0 rfl) rfl ?_; rintro _ ⟨b331, rfl⟩)
 refine H4 rfl ((A3C _ _ _ _ _)) rfl rfl ?_
 (refine J8 (D1 rfl rfl rfl zR0 zL0 rfl) rfl ?_; rintro _ ⟨b333, rfl⟩)
 refine H4 rfl ((A3C _ _ _ _ _)) rfl rfl ?_
 refine C1 ?_
 (refine J6 (cs := [h1, h2, h3, h4, h5, h6, h7, h8, h9] ++ [.int .i64 2, .string ⟨⟨[]⟩⟩, .int .i64 1, .int .i64 0, .slice none 0 0, .int .i64 0, .slice none 0 0, .int .i64 0, .slice none 0 0]) zD0 (fun G8 hle8 hsl8 hno8 => ?_); have hNi := A5f (k := 10) (nm := ⟨⟨[]⟩⟩) ⟨by omega, by omega⟩ (hrh.mono hle8) (A3h G8 ⟨⟨[]⟩⟩ 1 (k := 2) ⟨by omega, by omega⟩ ⟨by omega, by omega⟩) hsl8; refine J6 zD0 (fun G9 hle9 hsl9 hno9 => ?_); have hN := A5e (k := 11) (nm := ⟨⟨[]⟩⟩) ⟨by omega, by omega⟩ (L9 G9 (k := 0) ⟨by omega, by omega⟩) (hNi.mono hle9) hsl9)
 refine A4 ?_
 refine A1O ?_
 refine H8 (outs := [rd br pb nb cb ph]) (rC rfl (A3 rfl rfl)) zS ?_
 (exact ⟨ph, by omega, by omega, rfl, _, _, rfl, hN, by first | exact R1 (by first | assumption | decide) | exact A1h zQ0 zO0 zO0 zO0 | exact W3 zQ0 zO0 zO0 | exact O0 zQ0 T1 zO0 | exact O0 zQ0 har.small zO0 | exact O0 zQ0 T1 (W3 zQ0 zO0 (R1 zQ0)) | exact O0 zQ0 A1i (R1 zQ0) | assumption, by simp only [E4, H0]; omega⟩)
 refine A9 ?_
 refine A5h (p1 + 1, Gp) (I6 zC0 zV) ⟨B9.refl _, by dsimp only; omega, by dsimp only; omega⟩
 refine tK ?_
 refine A5h (p1, G1) (I6 zC0 zV) ⟨B9.refl _, by dsimp only; omega, by dsimp only; omega⟩
 (rintro ⟨(p2 : Nat), G2⟩ ⟨hle2c, hp2a, hp2b⟩; simp only [] at hle2c hp2a hp2b ⊢; have hcut1 := hp2a; replace hx := hx.mono hle2c; replace hb := hb.mono hle2c; replace hrt := hrt.mono hle2c;)
 refine B0 ?_
 (show L3 _ _ (.block 3 ..) _ _; refine B1r (fun (x : Nat × IM) => ⟨[(0, .pointer (some ⟨br, 0, none⟩)), (1, .slice pc nc cc), (3, .int .i64 depth), (6, .pointer (some ⟨b3, 0, none⟩)), (8, .pointer (some ⟨b4, 0, none⟩))], [rd br pb nb cb x.1, .blk b4 [.int .i64 0, .string ⟨⟨[]⟩⟩, .int .i64 0, .int .i64 0, .slice none 0 0, .int .i64 0, .slice none 0 0, .int .i64 0, .slice none 0 0], .blk b3 [.int .i64 k, .slice q ks.length c]], x.2⟩) (fun x => B9 G2 x.2 ∧ p2 ≤ x.1 ∧ x.1 ≤ p2 + 2) ?_ ?_)
 refine C2 (tS (tR (sB (qE rfl rfl) rfl rfl (fun h365 => ?_) (fun h365 => ?_))))
 refine E1 ?_
 refine sB (A0K rfl rfl) rfl rfl (fun h374 => ?_) (fun h374 => ?_)
 refine A4 ?_
 (have hkk3 : k = 3 := zR0; refine L5 rfl (A0C _ br pb nb cb (p2) bs 2 hb hnb zR0) (Pk.perm zD0) rfl rfl (fun v Gp outs hle377 hh => ?_); obtain ⟨rfl, rfl, j377, rfl, hj377, hk377⟩ := hh; have hpk22 := hj377)
 replace hb := hb.mono hle377
 replace hrt := hrt.mono hle377
 refine sB (qE rfl rfl) rfl rfl (fun h378 => ?_) (fun h378 => ?_)
 refine E1 ?_
 refine H4 rfl ((A1I _)) rfl rfl ?_
 refine D8 ?_
 refine sP (Q7 rfl rfl zR0 zR0) rfl rfl ?_
 (have hkk3q := hkk3; obtain ⟨m, rfl⟩ := hfu.pos (.inl zR0); have hmB : mB (m + 1) = 3 * mB m + 200 := rfl; have hgm := A2u m; have hcall := ih m zR0 (depth - 1) (.mk 2 []) (p2 + 1) _ pc nc cc _ (hfu.sub zR0 (A31 4 zQ0 zQ0)) zR0 zR0 zR0 hx (L9 _ ⟨by omega, by omega⟩) hb zR0; refine L5 rfl hcall (Pk.perm zD0) rfl rfl (fun v Gn outs hlen hh => ?_); obtain ⟨pn, hpn1, hpn2, rfl, en, cn, rfl, hrn, hsmn, hcn⟩ := hh; obtain ⟨n1, n2, n3, n4, n5, n6, n7, n8, n9, rfl⟩ := hrn.nine; replace hx := hx.mono hlen; replace hb := hb.mono hlen; replace hrt := hrt.mono hlen;)
 refine A4 ?_
 refine H4 rfl ((A1I _)) rfl rfl ?_
 refine D8 ?_
 refine sP (Q7 rfl rfl zR0 zR0) rfl rfl ?_
 (have hcall := ih m zR0 (depth - 1) (.mk 2 []) pn _ pc nc cc _ (hfu.sub zR0 (A31 4 zQ0 zQ0)) zR0 zR0 zR0 hx (L9 _ ⟨by omega, by omega⟩) hb zR0; refine L5 rfl hcall (Pk.perm zD0) rfl rfl (fun v Gn outs hleo hh => ?_); obtain ⟨po, hpo1, hpo2, rfl, eo, co, rfl, hro, hsmo, hco⟩ := hh; obtain ⟨o1, o2, o3, o4, o5, o6, o7, o8, o9, rfl⟩ := hro.nine; replace hrn := hrn.mono hleo; replace hx := hx.mono hleo; replace hb := hb.mono hleo; replace hrt := hrt.mono hleo;)
 (refine J8 (D1 rfl rfl rfl zR0 zL0 rfl) rfl ?_; rintro _ ⟨b397, rfl⟩)
 refine H4 rfl ((A3C _ _ _ _ _)) rfl rfl ?_
 refine C1 ?_
 (refine J6 (cs := [n1, n2, n3, n4, n5, n6, n7, n8, n9] ++ [o1, o2, o3, o4, o5, o6, o7, o8, o9]) zD0 (fun G9 hle9 hsl9 hno9 => ?_); have hN := A5f (k := 8) (nm := ⟨⟨[]⟩⟩) ⟨by omega, by omega⟩ (hrn.mono hle9) (hro.mono hle9) hsl9)
 refine C1 ?_
 refine A1O ?_
 refine H8 (outs := [rd br pb nb cb po]) (rC rfl (A3 rfl rfl)) zS ?_
 (exact ⟨po, by omega, by omega, rfl, _, _, rfl, hN, by first | exact R1 (by first | assumption | decide) | exact A1h zQ0 zO0 zO0 zO0 | exact W3 zQ0 zO0 zO0 | exact O0 zQ0 T1 zO0 | exact O0 zQ0 har.small zO0 | exact O0 zQ0 T1 (W3 zQ0 zO0 (R1 zQ0)) | exact O0 zQ0 A1i (R1 zQ0) | assumption, by simp only [E4, H0]; omega⟩)
 refine M8 ?_
 refine A1O ?_
 refine H8 (outs := [rd br pb nb cb (p2 + 1)]) (rC rfl (A3 rfl rfl)) zS ?_
 (exact ⟨(p2 + 1), by omega, by omega, rfl, _, _, rfl, A3h _ _ _ ⟨by omega, by omega⟩ (by first | exact ⟨by omega, by omega⟩ | exact hkn), by first | exact R1 (by first | assumption | decide) | exact A1h zQ0 zO0 zO0 zO0 | exact W3 zQ0 zO0 zO0 | exact O0 zQ0 T1 zO0 | exact O0 zQ0 har.small zO0 | exact O0 zQ0 T1 (W3 zQ0 zO0 (R1 zQ0)) | exact O0 zQ0 A1i (R1 zQ0) | assumption, by simp only [E4, H0]; omega⟩)
 refine Z8 ?_
 refine A1O ?_
 refine H8 (outs := [rd br pb nb cb p2]) (rC rfl (A3 rfl rfl)) zS ?_
 (exact ⟨p2, by omega, by omega, rfl, _, _, rfl, A3h _ _ _ ⟨by omega, by omega⟩ (by first | exact ⟨by omega, by omega⟩ | exact hkn), by first | exact R1 (by first | assumption | decide) | exact A1h zQ0 zO0 zO0 zO0 | exact W3 zQ0 zO0 zO0 | exact O0 zQ0 T1 zO0 | exact O0 zQ0 har.small zO0 | exact O0 zQ0 T1 (W3 zQ0 zO0 (R1 zQ0)) | exact O0 zQ0 A1i (R1 zQ0) | assumption, by simp only [E4, H0]; omega⟩)
 refine A9 ?_
 refine sB (qE rfl rfl) rfl rfl (fun h453 => ?_) (fun h453 => ?_)
 refine A8 ?_
 (have hk45 : k = 4 ∨ k = 5 := zR0; have hl2 := hops hk45; obtain ⟨m, rfl⟩ := hfu.pos (.inr hk45); have hmB : mB (m + 1) = 3 * mB m + 200 := rfl; have hgm := A2u m; obtain ⟨es9, hsl, hkl⟩ := hrt.kidsM; obtain ⟨b0, o0, q0, d0, hp0, hat0, hre0, hg0⟩ := hsl.kidTy hkl (i := 0) zR0 zR0; obtain ⟨b1, o1, q1, d1, hp1, hat1, hre1, hg1⟩ := hsl.kidTy hkl (i := 1) zR0 zR0; cases hp0; cases hp1; have hmem0 := List.getElem_mem (l := ks) (n := 0) zR0; have hmem1 := List.getElem_mem (l := ks) (n := 1) zR0; refine D3 D4 rfl ?_)
 refine J4 (i := 0) (l' := [tt,ff,ff,ff,ff,ff,ff,ff,ff,ff,ff,ff,ff,ff]) rfl C8 (qM rfl) rfl zP0 rfl rfl ?_
 refine aP 1 rfl (qM rfl) rfl ?_
 refine aP 2 rfl (C3 rfl) rfl ?_
 refine aL 3 rfl (F0 rfl rfl) rfl ?_
 refine aP 4 rfl (B8 (j := 0) rfl rfl rfl zR0) rfl ?_
 refine aL 5 rfl (A5 rfl rfl (hat0 _) rfl) rfl ?_
 refine aP 6 rfl (C3 rfl) rfl ?_
 refine aL 7 rfl (F0 rfl rfl) rfl ?_
 refine aP 8 rfl (B8 (j := 1) rfl rfl rfl zR0) rfl ?_
 refine aL 9 rfl (A5 rfl rfl (hat1 _) rfl) rfl ?_
 refine aP 10 rfl (qM rfl) rfl ?_
 refine aP 11 rfl (Q7 rfl rfl zR0 zR0) rfl ?_
 refine A2 12 ?_
 (have hcall := B1q br pb nb cb bs hnb m (ih m zR0) (depth - 1) ks[0] ks[1] (p2) _ pc nc cc _ _ (hfu.kid hmem1) zR0 zR0 zR0 hx hre0 ⟨har.kid _ hmem0, by have := B4M (k := k) hmem0; omega⟩ hre1 hb zR0; refine A0M (l' := [tt,tt,tt,tt,tt,tt,tt,tt,tt,tt,tt,tt,tt,ff]) rfl rfl hcall (Pk.perm zD0) rfl rfl rfl zE (fun v Gn outs hlek hh => ?_); obtain ⟨pk, hpk1, hpk2, rfl, ek, ck, rfl, hrk, hsmk, hck⟩ := hh; obtain ⟨k1, k2, k3, k4, k5, k6, k7, k8, k9, rfl⟩ := hrk.nine; replace hx := hx.mono hlek; replace hb := hb.mono hlek; replace hrt := hrt.mono hlek;)
 refine A2 13 ?_
 refine T7 rfl rfl rfl rfl rfl hrk.one rfl rfl zP0 zF0 (by rfl) ?_
 refine B5 ?_
 refine A1O ?_
 refine H8 (outs := [rd br pb nb cb pk]) (rC rfl (A3 rfl rfl)) zS ?_
 (exact ⟨pk, by omega, by omega, rfl, _, _, rfl, hrk, hsmk, by omega⟩)
 refine A9 ?_
 refine sB (qE rfl rfl) rfl rfl (fun h489 => ?_) (fun h489 => ?_)
 refine A8 ?_
 (have hk45 : k = 4 ∨ k = 5 := zR0; have hl2 := hops hk45; obtain ⟨m, rfl⟩ := hfu.pos (.inr hk45); have hmB : mB (m + 1) = 3 * mB m + 200 := rfl; have hgm := A2u m; obtain ⟨es9, hsl, hkl⟩ := hrt.kidsM; obtain ⟨b0, o0, q0, d0, hp0, hat0, hre0, hg0⟩ := hsl.kidTy hkl (i := 0) zR0 zR0; obtain ⟨b1, o1, q1, d1, hp1, hat1, hre1, hg1⟩ := hsl.kidTy hkl (i := 1) zR0 zR0; cases hp0; cases hp1; have hmem0 := List.getElem_mem (l := ks) (n := 0) zR0; have hmem1 := List.getElem_mem (l := ks) (n := 1) zR0; refine D3 D4 rfl ?_)
 refine J4 (i := 0) (l' := [tt,ff,ff,ff,ff,ff,ff,ff,ff,ff,ff,ff,ff,ff,ff,ff,ff,ff,ff,ff,ff]) rfl C8 (qM rfl) rfl zP0 rfl rfl ?_
 refine aP 1 rfl (qM rfl) rfl ?_
 refine aP 2 rfl (C3 rfl) rfl ?_
 refine aL 3 rfl (F0 rfl rfl) rfl ?_
 refine aP 4 rfl (B8 (j := 0) rfl rfl rfl zR0) rfl ?_
 refine aL 5 rfl (A5 rfl rfl (hat0 _) rfl) rfl ?_
 refine aP 6 rfl (qM rfl) rfl ?_
 refine aP 7 rfl (Q7 rfl rfl zR0 zR0) rfl ?_
 refine aP 9 rfl (qM rfl) rfl ?_
 refine aP 10 rfl (qM rfl) rfl ?_
 refine aP 11 rfl (C3 rfl) rfl ?_
 refine aL 12 rfl (F0 rfl rfl) rfl ?_
 refine aP 13 rfl (B8 (j := 1) rfl rfl rfl zR0) rfl ?_
 refine aL 14 rfl (A5 rfl rfl (hat1 _) rfl) rfl ?_
 refine aP 15 rfl (qM rfl) rfl ?_
 refine aP 16 rfl (Q7 rfl rfl zR0 zR0) rfl ?_
 refine A2 8 ?_
 (have hcall := ih m zR0 (depth - 1) ks[0] p2 _ pc nc cc _ (hfu.kid hmem0) zR0 zR0 zR0 hx hre0 hb zR0; refine A0M (l' := [tt,tt,tt,tt,tt,tt,tt,tt,tt,tt,tt,tt,tt,tt,tt,tt,tt,ff,ff,ff,ff]) rfl rfl hcall (Pk.perm zD0) rfl rfl rfl zE (fun v Gn outs hles hh => ?_); obtain ⟨ps, hps1, hps2, rfl, es, cs, rfl, hrs, hsms, hcs⟩ := hh; obtain ⟨s1, s2, s3, s4, s5, s6, s7, s8, s9, rfl⟩ := hrs.nine; replace hre1 := hre1.mono hles; replace hx := hx.mono hles; replace hb := hb.mono hles; replace hrt := hrt.mono hles;)
 refine A2 17 ?_
 (have hcall := ih m zR0 (depth - 1) ks[1] ps _ pc nc cc _ (hfu.kid hmem1) zR0 zR0 zR0 hx hre1 hb zR0; refine A0M (l' := [tt,tt,tt,tt,tt,tt,tt,tt,tt,tt,tt,tt,tt,tt,tt,tt,tt,tt,ff,ff,ff]) rfl rfl hcall (Pk.perm zD0) rfl rfl rfl zE (fun v Gn outs hlew hh => ?_); obtain ⟨pw, hpw1, hpw2, rfl, ew, cw, rfl, hrw, hsmw, hcw⟩ := hh; obtain ⟨w1, w2, w3, w4, w5, w6, w7, w8, w9, rfl⟩ := hrw.nine; replace hrs := hrs.mono hlew; replace hx := hx.mono hlew; replace hb := hb.mono hlew; replace hrt := hrt.mono hlew;)
 refine A2 18 ?_
 (refine D2 rfl (D1 rfl rfl rfl zR0 zL0 rfl) rfl rfl ?_; rintro _ ⟨b517, rfl⟩)
 refine A2 19 ?_
 refine T2 rfl rfl ((A3C _ _ _ _ _)) rfl rfl rfl ?_
 refine A2 20 ?_
 refine T7 rfl rfl rfl rfl rfl rfl rfl rfl zM0 zF0 (by rfl) ?_
 refine A4 ?_
 (refine J6 (cs := [s1, s2, s3, s4, s5, s6, s7, s8, s9] ++ [w1, w2, w3, w4, w5, w6, w7, w8, w9]) zD0 (fun G9 hle9 hsl9 hno9 => ?_); have hN := A5f (k := 10) (nm := ⟨⟨[]⟩⟩) ⟨by omega, by omega⟩ (hrs.mono hle9) (hrw.mono hle9) hsl9)
 refine A4 ?_
 refine A1O ?_
 refine H8 (outs := [rd br pb nb cb pw]) (rC rfl (A3 rfl rfl)) zS ?_
 (exact ⟨pw, by omega, by omega, rfl, _, _, rfl, hN, by first | exact R1 (by first | assumption | decide) | exact A1h zQ0 zO0 zO0 zO0 | exact W3 zQ0 zO0 zO0 | exact O0 zQ0 T1 zO0 | exact O0 zQ0 har.small zO0 | exact O0 zQ0 T1 (W3 zQ0 zO0 (R1 zQ0)) | exact O0 zQ0 A1i (R1 zQ0) | assumption, by simp only [E4, H0]; omega⟩)
 refine A9 ?_
 refine sB (qE rfl rfl) rfl rfl (fun h536 => ?_) (fun h536 => ?_)
 refine E1 ?_
 refine sB (A0K rfl rfl) rfl rfl (fun h545 => ?_) (fun h545 => ?_)
 refine A4 ?_
 (have hkk1 : k = 1 := zR0; refine L5 rfl (A0C _ br pb nb cb (p2) bs 3 hb hnb zR0) (Pk.perm zD0) rfl rfl (fun v Gp outs hle548 hh => ?_); obtain ⟨rfl, rfl, j548, rfl, hj548, hk548⟩ := hh; have hpk23 := hj548)
 replace hb := hb.mono hle548
 replace hrt := hrt.mono hle548
 refine sB (qE rfl rfl) rfl rfl (fun h549 => ?_) (fun h549 => ?_)
 refine E7 ?_
 (have hcall := A4N br pb nb cb bs hnb 1 (p2 + 1) _ zR0 hb (by have : dB (1 + 1) ≤ 6 := zQ0; omega); refine L5 rfl hcall (Pk.perm zD0) rfl rfl (fun v Gn outs hleF hh => ?_); obtain ⟨pF, hpF1, hpF2, rfl, uF, cuF, rfl, hruF, husF, huhF⟩ := hh; have huaF := huhF.ar; obtain ⟨quF, duF, euF, rfl, _⟩ := hruF.open; have hdBF : dB (1 + 1) ≤ 6 := zQ0; replace hx := hx.mono hleF; replace hb := hb.mono hleF; replace hrt := hrt.mono hleF;)
 refine D8 ?_
 refine sP (Q7 rfl rfl zR0 zR0) rfl rfl ?_
 (obtain ⟨m, rfl⟩ := hfu.pos (.inl zR0); have hmB : mB (m + 1) = 3 * mB m + 200 := rfl; have hgm := A2u m; have hcall := ih m zR0 (depth - 1) uF pF _ pc nc cc _ (hfu.sub zR0 (huhF.le zR0)) zR0 zR0 zR0 hx hruF hb zR0; refine L5 rfl hcall (Pk.perm zD0) rfl rfl (fun v Gn outs hlex hh => ?_); obtain ⟨px, hpx1, hpx2, rfl, ex, cx, rfl, hrx, hsmx, hcx⟩ := hh; obtain ⟨x1, x2, x3, x4, x5, x6, x7, x8, x9, rfl⟩ := hrx.nine; replace hx := hx.mono hlex; replace hb := hb.mono hlex; replace hrt := hrt.mono hlex;)
 refine sS rfl rfl rfl rfl hrx.one rfl ?_
 refine A8 ?_
 refine A1O ?_
 refine H8 (outs := [rd br pb nb cb px]) (rC rfl (A3 rfl rfl)) zS ?_
 (exact ⟨px, by omega, by omega, rfl, _, _, rfl, hrx, hsmx, by omega⟩)
 refine E7 ?_
 (refine L5 rfl (A0C _ br pb nb cb (p2 + 1) bs 3 hb hnb zR0) (Pk.perm zD0) rfl rfl (fun v Gp outs hle581 hh => ?_); obtain ⟨rfl, rfl, j581, rfl, hj581, hk581⟩ := hh; have hpk21 := hj581)
 replace hb := hb.mono hle581
 replace hrt := hrt.mono hle581
 refine sB (qE rfl rfl) rfl rfl (fun h582 => ?_) (fun h582 => ?_)
 refine A8 ?_
 refine H4 rfl ((A2M _)) rfl rfl ?_
 refine D8 ?_
 (refine J8 (D1 rfl rfl rfl zR0 zL0 rfl) rfl ?_; rintro _ ⟨b590, rfl⟩)
 refine B5 ?_
 (refine J6 (cs := [.int .i64 4, .string ⟨⟨[]⟩⟩, .int .i64 0, .int .i64 0, .slice none 0 0, .int .i64 0, .slice none 0 0, .int .i64 0, .slice none 0 0]) zD0 (fun G9 hle9 hsl9 hno9 => ?_); have hN := A5e (k := 13) (nm := ⟨⟨[]⟩⟩) ⟨by omega, by omega⟩ (A1G _) (A3h G9 ⟨⟨[]⟩⟩ 0 (k := 4) ⟨by omega, by omega⟩ ⟨by omega, by omega⟩) hsl9)
 refine A4 ?_
 refine A1O ?_
 refine H8 (outs := [rd br pb nb cb (p2 + 1 + 1)]) (rC rfl (A3 rfl rfl)) zS ?_
 (exact ⟨(p2 + 1 + 1), by omega, by omega, rfl, _, _, rfl, hN, by first | exact R1 (by first | assumption | decide) | exact A1h zQ0 zO0 zO0 zO0 | exact W3 zQ0 zO0 zO0 | exact O0 zQ0 T1 zO0 | exact O0 zQ0 har.small zO0 | exact O0 zQ0 T1 (W3 zQ0 zO0 (R1 zQ0)) | exact O0 zQ0 A1i (R1 zQ0) | assumption, by simp only [E4, H0]; omega⟩)
 refine A8 ?_
 refine A5h (p2 + 1 + 1, Gp) (I6 zC0 zV) ⟨B9.refl _, by dsimp only; omega, by dsimp only; omega⟩
 refine N0 ?_
 (have hkk1 : k = 1 := zR0; refine L5 rfl (A0C _ br pb nb cb (p2) bs 3 hb hnb zR0) (Pk.perm zD0) rfl rfl (fun v Gp outs hle620 hh => ?_); obtain ⟨rfl, rfl, j620, rfl, hj620, hk620⟩ := hh; have hpk23 := hj620)
 replace hb := hb.mono hle620
 replace hrt := hrt.mono hle620
 refine sB (qE rfl rfl) rfl rfl (fun h621 => ?_) (fun h621 => ?_)
 refine A8 ?_
 refine H4 rfl ((A2M _)) rfl rfl ?_
 refine D8 ?_
 (refine J8 (D1 rfl rfl rfl zR0 zL0 rfl) rfl ?_; rintro _ ⟨b629, rfl⟩)
 refine B5 ?_
 (refine J6 (cs := [.int .i64 4, .string ⟨⟨[]⟩⟩, .int .i64 0, .int .i64 0, .slice none 0 0, .int .i64 0, .slice none 0 0, .int .i64 0, .slice none 0 0]) zD0 (fun G9 hle9 hsl9 hno9 => ?_); have hN := A5e (k := 13) (nm := ⟨⟨[]⟩⟩) ⟨by omega, by omega⟩ (A1G _) (A3h G9 ⟨⟨[]⟩⟩ 0 (k := 4) ⟨by omega, by omega⟩ ⟨by omega, by omega⟩) hsl9)
 refine A4 ?_
 refine A1O ?_
 refine H8 (outs := [rd br pb nb cb (p2 + 1)]) (rC rfl (A3 rfl rfl)) zS ?_
 (exact ⟨(p2 + 1), by omega, by omega, rfl, _, _, rfl, hN, by first | exact R1 (by first | assumption | decide) | exact A1h zQ0 zO0 zO0 zO0 | exact W3 zQ0 zO0 zO0 | exact O0 zQ0 T1 zO0 | exact O0 zQ0 har.small zO0 | exact O0 zQ0 T1 (W3 zQ0 zO0 (R1 zQ0)) | exact O0 zQ0 A1i (R1 zQ0) | assumption, by simp only [E4, H0]; omega⟩)
 refine A8 ?_
 refine A5h (p2 + 1, Gp) (I6 zC0 zV) ⟨B9.refl _, by dsimp only; omega, by dsimp only; omega⟩
 refine A9 ?_
 refine A5h (p2, G2) (I6 zC0 zV) ⟨B9.refl _, by dsimp only; omega, by dsimp only; omega⟩
 (have hq := hcut1; rintro ⟨(p5 : Nat), G5⟩ ⟨hle5c, hp5a, hp5b⟩; simp only [] at hle5c hp5a hp5b ⊢; have hcut2 := hp5a; replace hx := hx.mono hle5c; replace hb := hb.mono hle5c; replace hrt := hrt.mono hle5c;)
 refine B5 ?_
 refine sB (A0K rfl rfl) rfl rfl (fun h658 => ?_) (fun h658 => ?_)
 refine A4 ?_
 (refine L5 rfl (A0C _ br pb nb cb (p5) bs 2 hb hnb zR0) (Pk.perm zD0) rfl rfl (fun v Gp outs hle661 hh => ?_); obtain ⟨rfl, rfl, j661, rfl, hj661, hk661⟩ := hh; have hpk5 := hj661)
 replace hb := hb.mono hle661
 replace hrt := hrt.mono hle661
 refine sB (qE rfl rfl) rfl rfl (fun h662 => ?_) (fun h662 => ?_)
 refine E7 ?_
 refine H4 rfl ((A1I _)) rfl rfl ?_
 (have hz2 : M4 (.mk 2 []) = 0 := rfl; have hcall := A7y br pb nb cb bs hnb (.mk 2 []) (p5 + 1) _ _ (X6 zQ0 zQ0) (L9 _ ⟨by omega, by omega⟩) hb zR0; refine L5 rfl hcall (Pk.perm zD0) rfl rfl (fun v Gn outs hleG hh => ?_); obtain ⟨pG, hpG1, hpG2, rfl, uG, cuG, rfl, hruG, huaG, husG, huhG⟩ := hh; obtain ⟨quG, duG, euG, rfl, _⟩ := hruG.open; replace hx := hx.mono hleG; replace hb := hb.mono hleG; replace hrt := hrt.mono hleG;)
 refine D8 ?_
 refine sP (Q7 rfl rfl zR0 zR0) rfl rfl ?_
 (obtain ⟨m, rfl⟩ := hfu.pos (.inl zR0); have hmB : mB (m + 1) = 3 * mB m + 200 := rfl; have hgm := A2u m; have hcall := ih m zR0 (depth - 1) uG pG _ pc nc cc _ (hfu.sub zR0 (huhG 4 (A31 4 zQ0 zQ0))) zR0 zR0 zR0 hx hruG hb zR0; refine L5 rfl hcall (Pk.perm zD0) rfl rfl (fun v Gn outs hley hh => ?_); obtain ⟨py, hpy1, hpy2, rfl, ey, cy, rfl, hry, hsmy, hcy⟩ := hh; obtain ⟨y1, y2, y3, y4, y5, y6, y7, y8, y9, rfl⟩ := hry.nine; replace hx := hx.mono hley; replace hb := hb.mono hley; replace hrt := hrt.mono hley;)
 refine A4 ?_
 refine H4 rfl ((A1I _)) rfl rfl ?_
 refine D8 ?_
 refine sP (Q7 rfl rfl zR0 zR0) rfl rfl ?_
 (have hcall := ih m zR0 (depth - 1) (.mk 2 []) py _ pc nc cc _ (hfu.sub zR0 (A31 4 zQ0 zQ0)) zR0 zR0 zR0 hx (L9 _ ⟨by omega, by omega⟩) hb zR0; refine L5 rfl hcall (Pk.perm zD0) rfl rfl (fun v Gn outs hlec hh => ?_); obtain ⟨pc, hpc1, hpc2, rfl, ec, cc, rfl, hrc, hsmc, hcc⟩ := hh; obtain ⟨c1, c2, c3, c4, c5, c6, c7, c8, c9, rfl⟩ := hrc.nine; replace hry := hry.mono hlec; replace hx := hx.mono hlec; replace hb := hb.mono hlec; replace hrt := hrt.mono hlec;)
 (refine J8 (D1 rfl rfl rfl zR0 zL0 rfl) rfl ?_; rintro _ ⟨b683, rfl⟩)
 refine H4 rfl ((A3C _ _ _ _ _)) rfl rfl ?_
 refine C1 ?_
 (refine J6 (cs := [y1, y2, y3, y4, y5, y6, y7, y8, y9] ++ [c1, c2, c3, c4, c5, c6, c7, c8, c9]) zD0 (fun G9 hle9 hsl9 hno9 => ?_); have hN := A5f (k := 7) (nm := ⟨⟨[]⟩⟩) ⟨by omega, by omega⟩ (hry.mono hle9) (hrc.mono hle9) hsl9)
 refine A4 ?_
 refine H8 (outs := [rd br pb nb cb pc]) (rC rfl (A3 rfl rfl)) zS ?_
 (exact ⟨pc, by omega, by omega, rfl, _, _, rfl, hN, by first | exact R1 (by first | assumption | decide) | exact A1h zQ0 zO0 zO0 zO0 | exact W3 zQ0 zO0 zO0 | exact O0 zQ0 T1 zO0 | exact O0 zQ0 har.small zO0 | exact O0 zQ0 T1 (W3 zQ0 zO0 (R1 zQ0)) | exact O0 zQ0 A1i (R1 zQ0) | assumption, by simp only [E4, H0]; omega⟩)
 refine E7 ?_
 (refine J8 (D1 rfl rfl rfl zR0 zL0 rfl) rfl ?_; rintro _ ⟨b702, rfl⟩)
 (refine X9 zD0 (fun G4 hle4 hsl4 _ => ?_); refine L5 rfl (A08 G4 br pb nb cb (p5 + 1) bs _ _ _ _ (hb.mono hle4) hnb zR0 hsl4 zQ0) (Pk.perm zD0) rfl rfl (fun v G7 outs hle7 hh => ?_); obtain ⟨rfl, rfl, hv⟩ := hh; obtain ⟨kn, rfl, hkn⟩ : ∃ k, v = .int .i64 k ∧ H6 k := (by simp only [List.mem_cons, List.not_mem_nil, or_false] at hv; rcases hv with rfl | rfl | rfl | rfl | rfl <;> exact ⟨_, rfl, by unfold H6; omega⟩))
 refine H4 rfl ((A35 _ _)) rfl rfl ?_
 refine B5 ?_
 refine H8 (outs := [rd br pb nb cb (p5 + 1 + 1)]) (rC rfl (A3 rfl rfl)) zS ?_
 (exact ⟨(p5 + 1 + 1), by omega, by omega, rfl, _, _, rfl, A3h _ _ _ ⟨by omega, by omega⟩ (by first | exact ⟨by omega, by omega⟩ | exact hkn), by first | exact R1 (by first | assumption | decide) | exact A1h zQ0 zO0 zO0 zO0 | exact W3 zQ0 zO0 zO0 | exact O0 zQ0 T1 zO0 | exact O0 zQ0 har.small zO0 | exact O0 zQ0 T1 (W3 zQ0 zO0 (R1 zQ0)) | exact O0 zQ0 A1i (R1 zQ0) | assumption, by simp only [E4, H0]; omega⟩)
 refine N0 ?_
 (refine J8 (D1 rfl rfl rfl zR0 zL0 rfl) rfl ?_; rintro _ ⟨b724, rfl⟩)
 (refine X9 zD0 (fun G4 hle4 hsl4 _ => ?_); refine L5 rfl (A08 G4 br pb nb cb p5 bs _ _ _ _ (hb.mono hle4) hnb zR0 hsl4 zQ0) (Pk.perm zD0) rfl rfl (fun v G7 outs hle7 hh => ?_); obtain ⟨rfl, rfl, hv⟩ := hh; obtain ⟨kn, rfl, hkn⟩ : ∃ k, v = .int .i64 k ∧ H6 k := (by simp only [List.mem_cons, List.not_mem_nil, or_false] at hv; rcases hv with rfl | rfl | rfl | rfl | rfl <;> exact ⟨_, rfl, by unfold H6; omega⟩))
 refine H4 rfl ((A35 _ _)) rfl rfl ?_
 refine B5 ?_
 refine H8 (outs := [rd br pb nb cb (p5 + 1)]) (rC rfl (A3 rfl rfl)) zS ?_
 (exact ⟨(p5 + 1), by omega, by omega, rfl, _, _, rfl, A3h _ _ _ ⟨by omega, by omega⟩ (by first | exact ⟨by omega, by omega⟩ | exact hkn), by first | exact R1 (by first | assumption | decide) | exact A1h zQ0 zO0 zO0 zO0 | exact W3 zQ0 zO0 zO0 | exact O0 zQ0 T1 zO0 | exact O0 zQ0 har.small zO0 | exact O0 zQ0 T1 (W3 zQ0 zO0 (R1 zQ0)) | exact O0 zQ0 A1i (R1 zQ0) | assumption, by simp only [E4, H0]; omega⟩)
def S8 (o : Option Ty) (G : IM) : IM → Value → List A7 → Prop := N8 fun G' v => ∃ t cells, v = .tuple ⟨[.agg ⟨cells⟩, .bool o.isSome]⟩ ∧ C7 G' t cells ∧ I4 t ∧ ∀ u, o = some u → u = t
theorem S8.yes {G G' : IM} {o : Option Ty} {t : Ty} {cells : List Value} (h : o = some t) (hr : C7 G' t cells) (ha : I4 t) : S8 o G G' (.tuple ⟨[.agg ⟨cells⟩, .bool true]⟩) [] := by
 subst h; exact ⟨rfl, t, cells, rfl, hr, ha, fun u h => (by cases h; rfl)⟩
theorem S8.no {G G' : IM} {o : Option Ty} {t : Ty} {cells : List Value} (h : o = none) (hr : C7 G' t cells) (ha : I4 t) : S8 o G G' (.tuple ⟨[.agg ⟨cells⟩, .bool false]⟩) [] := by
 subst h; exact ⟨rfl, t, cells, rfl, hr, ha, fun u h => (by cases h)⟩
theorem S8.mk {G G' : IM} {o : Option Ty} {b : Bool} {t : Ty} {cells : List Value} (h : o = if b = true then some t else none) (hr : C7 G' t cells) (ha : I4 t) : S8 o G G' (.tuple ⟨[.agg ⟨cells⟩, .bool b]⟩) [] := by
 cases b
 ·exact S8.no h hr ha
 ·exact S8.yes h hr ha
theorem B64 {t : Ty} (h : H9 t = true) : I4 t := (A2R h).1
theorem A6p (k : Int) (a b : Ty) (G : IM) (ca cb : List Value) (hk : k = 4 ∨ k = 5) (ha : I4 a) (hb : I4 b) (hra : C7 G a ca) (hrb : C7 G b cb) :
  Fn Tryz.prog 124 [.int .i64 k, .agg ⟨ca⟩, .agg ⟨cb⟩] [] G (N8 fun G' v => ∃ cells, v = .tuple ⟨[.agg ⟨cells⟩, .bool (H9 (.mk k [a, b]))]⟩ ∧ C7 G' (.mk k [a, b]) cells) := by
 obtain ⟨ak, aks⟩ := a
 obtain ⟨bk, bks⟩ := b
 obtain ⟨pa, cca, ea, rfl, _⟩ := hra.open
 obtain ⟨pb, ccb, eb, rfl, _⟩ := hrb.open
 have hki : H6 k := ⟨by omega, by omega⟩
 refine C0 Tryz.func124 rfl Tryz.ntmps124 Tryz.results124 rfl ?_
 intro w0
 refine A4 ?_
 refine sE (B6 rfl rfl) rfl (fun b3 => ?_)
 refine sE (B6 rfl rfl) rfl (fun b4 => ?_)
 refine sE (A6 rfl) rfl (fun b5 => ?_)
 refine B5 ?_
 refine D3 D4 rfl ?_
 refine J4 (i := 0) (l' := [tt,ff,ff,ff,ff,ff,ff,ff,ff]) rfl C8 (qM rfl) rfl zP0 rfl rfl ?_
 refine aL 1 rfl (A3 rfl rfl) rfl ?_
 refine aL 3 rfl (A3 rfl rfl) rfl ?_
 refine P6 (j := 2) (j' := 7) zP0 ?_ ?_
 (refine H1 rfl rfl (Z9 _ G _ ha.small hra) rfl rfl rfl (fun v G1 hle1 hh => ?_); obtain ⟨cs1, F1, rfl, hs1, hn1⟩ := hh; obtain ⟨p1, c1, rfl, _⟩ := hs1.open; have hC2 := Z9 _ G1 _ hb.small (hrb.mono hle1))
 refine P6 (j := 4) (j' := 7) zP0 ?_ ?_
 (refine H1 rfl rfl hC2 rfl rfl rfl (fun v G2 hle2 hh => ?_); obtain ⟨cs2, F2, rfl, hs2, hn2⟩ := hh; obtain ⟨p2, c2, rfl, _⟩ := hs2.open; have hr1 := hs1.R.mono ((E0.le G1 G).trans hle2); have hr2 := hs2.R.mono (E0.le G2 G1))
 refine P6 (j := 5) (j' := 7) zP0 ?_ ?_
 (refine D2 rfl (D1 rfl rfl rfl zR0 zL0 rfl) rfl rfl ?_; rintro _ ⟨b19, rfl⟩)
 refine aP 6 rfl (pBd rfl rfl) rfl ?_
 refine A2 7 ?_
 (refine D2 rfl (A6 rfl) rfl rfl ?_; rintro _ ⟨b22, rfl⟩)
 exact y115
 (refine D2 rfl (A6 rfl) rfl rfl ?_; rintro _ ⟨b41, rfl⟩)
 refine A2 5 ?_
 (refine D2 rfl (D1 rfl rfl rfl zR0 zL0 rfl) rfl rfl ?_; rintro _ ⟨b43, rfl⟩)
 refine aP 6 rfl (pBd rfl rfl) rfl ?_
 exact y115
 (refine D2 rfl (A6 rfl) rfl rfl ?_; rintro _ ⟨b63, rfl⟩)
 refine A2 4 ?_
 (refine H1 rfl rfl hC2 rfl rfl rfl (fun v G2 hle2 hh => ?_); obtain ⟨cs2, F2, rfl, hs2, hn2⟩ := hh; obtain ⟨p2, c2, rfl, _⟩ := hs2.open; have hr1 := hs1.R.mono ((E0.le G1 G).trans hle2); have hr2 := hs2.R.mono (E0.le G2 G1))
 refine A2 5 ?_
 (refine D2 rfl (D1 rfl rfl rfl zR0 zL0 rfl) rfl rfl ?_; rintro _ ⟨b67, rfl⟩)
 refine aP 6 rfl (pBd rfl rfl) rfl ?_
 exact y115
 (refine D2 rfl (A6 rfl) rfl rfl ?_; rintro _ ⟨b87, rfl⟩)
 refine A2 2 ?_
 (refine H1 rfl rfl (Z9 _ G _ ha.small hra) rfl rfl rfl (fun v G1 hle1 hh => ?_); obtain ⟨cs1, F1, rfl, hs1, hn1⟩ := hh; obtain ⟨p1, c1, rfl, _⟩ := hs1.open; have hC2 := Z9 _ G1 _ hb.small (hrb.mono hle1))
 refine A2 4 ?_
 (refine H1 rfl rfl hC2 rfl rfl rfl (fun v G2 hle2 hh => ?_); obtain ⟨cs2, F2, rfl, hs2, hn2⟩ := hh; obtain ⟨p2, c2, rfl, _⟩ := hs2.open; have hr1 := hs1.R.mono ((E0.le G1 G).trans hle2); have hr2 := hs2.R.mono (E0.le G2 G1))
 refine A2 5 ?_
 (refine D2 rfl (D1 rfl rfl rfl zR0 zL0 rfl) rfl rfl ?_; rintro _ ⟨b93, rfl⟩)
 refine aP 6 rfl (pBd rfl rfl) rfl ?_
 exact y115
theorem A78 (k : Int) (t : Ty) (G : IM) (cells : List Value) (hk : k = 4 ∨ k = 5) (ha : I4 t) (hr : C7 G t cells) :
  Fn Tryz.prog 141 [.int .i64 k, .agg ⟨cells⟩] [] G (B0c k t G) := by
 obtain ⟨tk, ks⟩ := t
 have ha2 := ha
 rw [I4] at ha2
 have hkid := ha.kid
 obtain ⟨p, c, es, rfl, htk, hsl, hkl⟩ := hr.open
 simp only [Ty.k, Ty.ks] at htk hsl hkl ⊢
 refine C0 Tryz.func141 rfl Tryz.ntmps141 Tryz.results141 rfl ?_
 intro w0
 refine A4 ?_
 refine sE (B6 rfl rfl) rfl (fun b3 => ?_)
 refine sE (A6 rfl) rfl (fun b4 => ?_)
 refine sE (A6 rfl) rfl (fun b5 => ?_)
 refine E1 ?_
 refine sB (qE rfl rfl) rfl rfl (fun h14 => ?_) (fun h14 => ?_)
 refine A8 ?_
 refine H4 rfl ((A2M _)) rfl rfl ?_
 refine H4 rfl ((A2M _)) rfl rfl ?_
 refine B0 ?_
 refine E9 (rC rfl (A3 rfl rfl)) (rC rfl (A3 rfl rfl)) (rT rfl) ?_
 (refine ⟨rfl, _, _, _, _, ?_, A1G _, A1G _, A4M, A4M, ?_⟩ <;> rw [A2S, if_neg zR0, if_pos zR0] <;> first | rfl | (intro p hp; cases hp; rfl))
 refine M7 ?_
 refine sB (U3 rfl rfl) rfl rfl (fun h42 => ?_) (fun h42 => ?_)
 refine M8 ?_
 refine E9 (rC rfl (A3 rfl rfl)) (rC rfl (A3 rfl rfl)) (rT rfl) ?_
 (refine ⟨rfl, B4, _, B4, _, ?_, L9 _ ⟨by omega, by omega⟩, L9 _ ⟨by omega, by omega⟩, X6 zR0 zR0, X6 zR0 zR0, ?_⟩ <;> rw [A2S, if_neg zR0, if_neg zR0] <;> first | rfl | (intro p hp; cases hp))
 refine A9 ?_
 (have hlen : ks.length = 2 := ha2.1 zR0; obtain ⟨b, o, q0, d0, hp0, hat0, hre0, hg0⟩ := hsl.kidTy hkl (i := 0) zR0 zR0; obtain ⟨b', o', q1, d1, hp1, hat1, hre1, hg1⟩ := hsl.kidTy hkl (i := 1) zR0 zR0; subst hp0; cases hp1; have hC1 := Z9 _ G _ (hkid _ (List.getElem_mem zR0)).small hre0; refine D3 D4 rfl ?_)
 refine J4 (i := 0) (l' := [tt,ff,ff,ff,ff,ff,ff,ff,ff,ff,ff,ff,ff]) rfl C8 (C3 rfl) rfl zP0 rfl rfl ?_
 refine aL 1 rfl (F0 rfl rfl) rfl ?_
 refine aP 2 rfl (B8 (j := 0) rfl rfl rfl zR0) rfl ?_
 refine aL 3 rfl (A5 rfl rfl (hat0 _) rfl) rfl ?_
 refine aP 5 rfl (C3 rfl) rfl ?_
 refine aL 6 rfl (F0 rfl rfl) rfl ?_
 refine aP 7 rfl (B8 (j := 1) rfl rfl rfl zR0) rfl ?_
 refine aL 8 rfl (A5 rfl rfl (hat1 _) rfl) rfl ?_
 refine A2 4 ?_
 (refine H1 rfl rfl hC1 rfl rfl rfl (fun v G1 hle1 hh => ?_); obtain ⟨cs1, F1, rfl, hs1, hn1⟩ := hh; obtain ⟨p1, c1, rfl, _⟩ := hs1.open; have hC2 := Z9 _ G1 _ (hkid _ (List.getElem_mem zR0)).small (hre1.mono hle1))
 refine A2 9 ?_
 (refine H1 rfl rfl hC2 rfl rfl rfl (fun v G2 hle2 hh => ?_); obtain ⟨cs2, F2, rfl, hs2, hn2⟩ := hh; obtain ⟨p2, c2, rfl, _⟩ := hs2.open; have hr1 := hs1.R.mono ((E0.le G1 G).trans hle2); have hr2 := hs2.R.mono (E0.le G2 G1))
 refine A2 10 ?_
 refine C9 rfl ?_
 refine A2 11 ?_
 refine T7 rfl rfl rfl rfl rfl rfl rfl rfl zM0 zF0 (by rfl) ?_
 refine aP 12 rfl (qA rfl) rfl ?_
 refine C1 ?_
 refine E9 (rC rfl (A3 rfl rfl)) (rC rfl (A3 rfl rfl)) (rT rfl) ?_
 (refine ⟨rfl, _, _, _, _, ?_, hr1, hr2, hkid _ (List.getElem_mem zR0), hkid _ (List.getElem_mem zR0), ?_⟩ <;> rw [A2S, if_pos zR0] <;> first | rfl | (intro p hp; cases hp; simp [hlen]))
theorem B65 (G : IM) (cx : Cx) (hv : cxV cx) (p : Option Addr) (n c : Nat) (nm : ByteArray) (hx : W8 G cx p n c) :
  Fn Tryz.prog 103 [.slice p n c, .string nm] [] G (S8 (Z5 cx nm) G) := by
 have hn := hx.le
 refine C0 Tryz.func103 rfl Tryz.ntmps103 Tryz.results103 rfl ?_
 intro w0
 refine A4 ?_
 refine sE (A6 rfl) rfl (fun b3 => ?_)
 refine E1 ?_
 refine sP (Q7 rfl rfl zR0 zR0) rfl rfl ?_
 refine C1 ?_
 refine C2 ?_
 (refine L8 (fun (i : Nat) => ⟨[(6, .int .i64 ((i : Int) - 1)), (0, .slice p n c), (1, .string nm), (4, .pointer (some ⟨b3, 0, none⟩))], [.blk b3 [.int .i64 0, .slice none 0 0]], G⟩) (fun i => i ≤ n ∧ Z5 cx nm = A0n cx nm i) (fun i => i) n ?_ ?_ ?_)
 exact F8
 (exact ⟨Nat.le_refl _, by unfold Z5; rw [hx.1]⟩)
 (rintro i ⟨hi, hlk⟩)
 refine B5 ?_
 refine sB (A1w rfl rfl) rfl rfl (fun h25 => ?_) (fun h25 => ?_)
 refine A9 ?_
 (show L3 _ _ (.block 1 _) _ _; obtain ⟨j, rfl⟩ : ∃ j, i = j + 1 := ⟨i - 1, by omega⟩; rw [show ((j + 1 : Nat) : Int) - 1 = (j : Int) from by omega]; obtain ⟨b, o, nm1, t1, q1, d1, hcx, rfl, hat, hr1, hgb⟩ := hx.get (i := j) zR0; have ha1 := B64 (hv _ (List.mem_of_getElem? hcx)); refine C2 ?_)
 refine B5 ?_
 refine sP (B8 rfl rfl rfl zR0) rfl rfl ?_
 refine D8 ?_
 refine sL (I7 rfl rfl ((hat _).sub (j := 0) rfl)) rfl rfl ?_
 refine D8 ?_
 refine sB (A2F rfl rfl) rfl rfl (fun h41 => ?_) (fun h41 => ?_)
 refine B0 ?_
 refine sP (B8 rfl rfl rfl zR0) rfl rfl ?_
 refine D8 ?_
 refine sL (A5 rfl rfl (hat _).drop rfl) rfl rfl ?_
 (refine F4 rfl (Z9 _ G _ ha1.small hr1) rfl rfl (fun v G1 hle1 hh => ?_); obtain ⟨cs1, F1, rfl, hs1', hn1⟩ := hh; obtain ⟨p1, c1, rfl, _⟩ := hs1'.open; have hrr := hs1'.R.mono (E0.le G1 G))
 refine J2 ?_
 refine H3 (rC rfl (A3 rfl rfl)) (rT rfl) ?_
 (exact S8.yes (by rw [hlk]; exact A7t hcx zO0) hrr ha1)
 refine E1 ?_
 refine sP (Q7 rfl rfl zR0 zR0) rfl rfl ?_
 refine A4 ?_
 refine J7 j ?_ ?_ ?_
 exact F8
 (exact ⟨by omega, by rw [hlk]; exact A7u hcx zO0⟩)
 (show _ < _ + 1; omega)
 refine N3 ?_
 refine H3 (rC rfl (A3 rfl rfl)) (rT rfl) ?_
 (obtain rfl : i = 0 := zR0; exact S8.no (by rw [hlk]; rfl) (L9 _ ⟨by omega, by omega⟩) (X6 zR0 zR0))
end Gw
end Go.Proofs.YtbdacdnffkhgeaaGreatDoor
