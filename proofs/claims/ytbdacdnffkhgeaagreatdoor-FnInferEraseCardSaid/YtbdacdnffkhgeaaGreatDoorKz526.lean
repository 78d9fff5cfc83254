/-
  A term with its casts put in is valid, and has the type that the term has.
-/
import Derived.Test.YtbdacdnffkhgeaaGreatDoorKz524
import Derived.Test.YtbdacdnffkhgeaaGreatDoorKz525
import Derived.Test.YtbdacdnffkhgeaaGreatDoorKz522
import Derived.Test.YtbdacdnffkhgeaaGreatDoorKz523
import Derived.Lib.ItoaNum
set_option linter.unusedVariables false
set_option linter.unusedSimpArgs false
set_option maxHeartbeats 0
set_option maxRecDepth 100000
set_option synthInstance.maxSize 4000
set_option synthInstance.maxHeartbeats 0
namespace Go.Proofs.YtbdacdnffkhgeaaGreatDoor
open Go Go.RowKit
namespace Gw
mutual
theorem B0H : ∀ a b : Ty, N3 a b = true → N3 b a = true
 | .mk k ks, .mk k' ks', h => by
  rw [V9] at h ⊢
  simp only [Bool.or_eq_true, Bool.and_eq_true, decide_eq_true_eq] at h ⊢
  rcases h with (h | h) | h
  ·exact .inl (.inr h)
  ·exact .inl (.inl h)
  ·exact .inr ⟨h.1.symm, B0I ks ks' h.2⟩
theorem B0I : ∀ xs ys : List Ty, Q4 xs ys = true → Q4 ys xs = true
 | [], [], _ => rfl
 | [], b :: ys, h => by simp [Q4] at h
 | a :: xs, [], h => by simp [Q4] at h
 | a :: xs, b :: ys, h => by
  simp only [Q4, Bool.and_eq_true] at h ⊢
  exact ⟨B0H a b h.1, B0I xs ys h.2⟩
end
mutual
theorem B0J : ∀ a b : Ty, N3 a b = true → N3 a (X3 a b) = true ∧ N3 b (X3 a b) = true
 | .mk k ks, .mk k' ks', h => by
  rw [A1Q]
  by_cases h1 : k = 1
  ·rw [if_pos h1]
   exact ⟨h, A3s _⟩
  ·rw [if_neg h1]
   by_cases h2 : k' = 1
   ·rw [if_pos h2]
    exact ⟨A3s _, B0H _ _ h⟩
   ·rw [if_neg h2]
    rw [V9] at h
    simp only [Bool.or_eq_true, Bool.and_eq_true, decide_eq_true_eq] at h
    have h3 : k = k' ∧ Q4 ks ks' = true := by
     rcases h with (h | h) | h
     ·exact absurd h h1
     ·exact absurd h h2
     ·exact h
    obtain ⟨m1, m2⟩ := B0K ks ks' h3.2
    rw [V9, V9, m1, m2]
    simp [h3.1]
theorem B0K : ∀ xs ys : List Ty, Q4 xs ys = true → Q4 xs (V4 xs ys) = true ∧ Q4 ys (V4 xs ys) = true
 | [], [], _ => ⟨rfl, rfl⟩
 | [], b :: ys, h => by simp [Q4] at h
 | a :: xs, [], h => by simp [Q4] at h
 | a :: xs, b :: ys, h => by
  simp only [Q4, Bool.and_eq_true] at h
  obtain ⟨m1, m2⟩ := B0J a b h.1
  obtain ⟨m3, m4⟩ := B0K xs ys h.2
  simp only [V4, Q4, m1, m2, m3, m4]
  exact ⟨rfl, rfl⟩
end
theorem B53 {k : Int} {a b : Ty} (hk : k = 4 ∨ k = 5) (h : H7 (.mk k [a, b]) = true) : H7 a = true ∧ H7 b = true := by
 obtain ⟨x, y, he, h1, h2⟩ := A5M hk h
 cases he
 exact ⟨h1, h2⟩
theorem B54 {k : Int} (hk : k = 4 ∨ k = 5) : H7 (.mk k [R6, R6]) = true := by rcases hk with rfl | rfl <;> decide
theorem B0L {k : Int} {t a b : Ty} (hk : k = 4 ∨ k = 5) (ht : H7 t = true) (h : U8 k t = some (a, b)) : H7 (.mk k [a, b]) = true ∧ N3 t (.mk k [a, b]) = true := by
 obtain ⟨tk, ks⟩ := t
 rw [A2D] at h
 by_cases he : tk = k
 ·subst he
  rw [if_pos rfl] at h
  obtain ⟨x, y, rfl, _, _⟩ := A5M hk ht
  cases h
  exact ⟨ht, A3s _⟩
 ·rw [if_neg he] at h
  by_cases h1 : tk = 1
  ·rw [if_pos h1] at h
   cases h
   refine ⟨B54 hk, ?_⟩
   rw [V9, h1]; rfl
  ·rw [if_neg h1] at h; cases h
structure Wt (cx : Cx) (k : Int) (nm : ByteArray) (ty : Ty) (h w : List Ty) (t : Ty) : Prop where
 len : w = [] ∨ w.length = h.length
 ok : ∀ i, (hi : i < w.length) → (hh : i < h.length) → N3 h[i] w[i] = true ∧ H7 w[i] = true
 again : k ≠ 13 → P9 cx k nm ty (if w = [] then h else w) = some (w, t)
 asT : k = 13 → w = [t]
theorem B55 {cx : Cx} {k : Int} {nm : ByteArray} {ty : Ty} {h w : List Ty} {t : Ty} (hh : ∀ a ∈ h, H7 a = true) (hty : k = 13 → H7 ty = true) (hn : E7 k = (h.length : Int)) (h14 : k ≠ 14) (hw : P9 cx k nm ty h = some (w, t)) : Wt cx k nm ty h w t := by
 have hkr := A5T (by rw [hn]; omega : 0 ≤ E7 k)
 have hkk : k = 1 ∨ k = 2 ∨ (k = 3 ∨ k = 4) ∨ k = 5 ∨ k = 6 ∨ (k = 7 ∨ k = 8) ∨ k = 9 ∨ k = 10 ∨ (k = 11 ∨ k = 12) ∨ k = 13 := by omega
 have nil : w = [] → k ≠ 13 → Wt cx k nm ty h w t := by
  rintro rfl h13
  exact ⟨.inl rfl, fun i hi => by simp at hi, fun _ => by rw [if_pos rfl]; exact hw, fun h => absurd h h13⟩
 rcases hkk with rfl | rfl | hk | rfl | rfl | hk | rfl | rfl | hk | rfl
 ·refine nil ?_ zY
  rw [mW1] at hw; split at hw <;> cases hw; rfl
 ·refine nil ?_ zY
  rw [mW2] at hw; cases hw; rfl
 ·refine nil ?_ zZ
  rw [A5I hk] at hw; cases hw; rfl
 ·refine nil ?_ zY
  rw [mW5] at hw; cases hw; rfl
 ·match h, (show h.length = 2 by have : E7 6 = 2 := rfl; omega) with
  | [x, y], _ =>
  rw [mW6] at hw
  simp only [List.getD_cons_zero, List.getD_cons_succ] at hw
  split at hw
  ·rename_i a b hm
   split at hw
   ·rename_i hc
    cases hw
    obtain ⟨v1, v2⟩ := B0L (.inl rfl) (hh x zA0) hm
    obtain ⟨v3, v4⟩ := B53 (.inl rfl) v1
    refine ⟨.inr rfl, fun i hi hi2 => ?_, fun _ => ?_, fun h => absurd h zY⟩
    ·match i, hi with
     | 0, _ => exact ⟨v2, v1⟩
     | 1, _ => exact ⟨hc, v3⟩
    ·rw [if_neg zA0, mW6]
     simp only [List.getD_cons_zero, List.getD_cons_succ, A2D, if_true, A3s]
   ·cases hw
  ·cases hw
 ·match h, (show h.length = 2 by rcases hk with rfl | rfl <;> (first | (have : E7 7 = 2 := rfl; omega) | (have : E7 8 = 2 := rfl; omega))) with
  | [x, y], _ =>
  rw [Z5 hk] at hw
  simp only [List.getD_cons_zero, List.getD_cons_succ] at hw
  split at hw
  ·rename_i hc
   cases hw
   refine ⟨.inr rfl, fun i hi hi2 => ?_, fun _ => ?_, fun h => by omega⟩
   ·match i, hi with
    | 0, _ => exact ⟨hc.1, (show H7 W0 = true by decide)⟩
    | 1, _ => exact ⟨hc.2, (show H7 W0 = true by decide)⟩
   ·rw [if_neg zA0, Z5 hk]
    simp only [List.getD_cons_zero, List.getD_cons_succ, A3s, and_self, if_true]
  ·cases hw
 ·match h, (show h.length = 3 by have : E7 9 = 3 := rfl; omega) with
  | [x, y, z], _ =>
  rw [mW9] at hw
  simp only [List.getD_cons_zero, List.getD_cons_succ] at hw
  split at hw
  ·rename_i hc
   cases hw
   obtain ⟨c1, c2⟩ := B0J y z hc.2
   have vm := A7l y z 1 hc.2 (hh y zA0) (hh z zA0)
   refine ⟨.inr rfl, fun i hi hi2 => ?_, fun _ => ?_, fun h => absurd h zY⟩
   ·match i, hi with
    | 0, _ => exact ⟨hc.1, (show H7 A0i = true by decide)⟩
    | 1, _ => exact ⟨c1, vm⟩
    | 2, _ => exact ⟨c2, vm⟩
   ·rw [if_neg zA0, mW9]
    simp only [List.getD_cons_zero, List.getD_cons_succ, A3s, and_self, if_true, A97]
  ·cases hw
 ·refine nil ?_ zY
  rw [A7j] at hw; cases hw; rfl
 ·match h, (show h.length = 1 by rcases hk with rfl | rfl <;> (first | (have : E7 11 = 1 := rfl; omega) | (have : E7 12 = 1 := rfl; omega))) with
  | [x], _ =>
  rw [A4E hk] at hw
  simp only [List.getD_cons_zero] at hw
  split at hw
  ·rename_i a b hm
   cases hw
   obtain ⟨v1, v2⟩ := B0L (.inr rfl) (hh x zA0) hm
   refine ⟨.inr rfl, fun i hi hi2 => ?_, fun _ => ?_, fun h => by omega⟩
   ·match i, hi with
    | 0, _ => exact ⟨v2, v1⟩
   ·rw [if_neg zA0, A4E hk]
    simp only [List.getD_cons_zero, List.getD_cons_succ, A2D, if_true]
  ·cases hw
 ·match h, (show h.length = 1 by have : E7 13 = 1 := rfl; omega) with
  | [x], _ =>
  rw [A3V] at hw
  simp only [List.getD_cons_zero] at hw
  split at hw
  ·rename_i hc
   cases hw
   refine ⟨.inr rfl, fun i hi hi2 => ?_, fun h => absurd rfl h, fun _ => rfl⟩
   match i, hi with
   | 0, _ => exact ⟨hc, hty rfl⟩
  ·cases hw
theorem B56 {l : Int} (h1 : 1 ≤ l) (h2 : l ≤ 99) : A2x l = true := by
 unfold A2x
 rw [A3Q.2 ⟨h1, h2⟩]; rfl
theorem B57 {u : Tm} {a b : Ty} {l D : Int} (hu : P4 40 13 u (D + 1) = true) (hc : N3 a b = true) (ha : H7 a = true) (hb : H7 b = true) (h1 : 1 ≤ l) (h2 : l ≤ 99) (hD : D ≤ 40) : P4 40 13 (S5 u a b l) D = true := by
 unfold S5
 rw [A2O hD zY (X7.2 ⟨rfl, by simp, fun _ => rfl, by simp, fun _ => rfl, fun _ => hb, by simp, fun _ => ⟨by simp [A13, ha, hb, hc], B56 h1 h2⟩, by simp⟩)]
 simp [O0, hu]
theorem A7x {cx : Cx} : ∀ (us : List Tm) (h w : List Ty) (l D : Int), us.length = h.length → w.length = h.length → (∀ i, (hi : i < w.length) → (hh : i < h.length) → N3 h[i] w[i] = true ∧ H7 w[i] = true) → (∀ a ∈ h, H7 a = true) → A0q cx us = some h → O0 40 13 us (D + 1) = true → 0 ≤ l → (J1 us h w l).2 ≤ 99 → D ≤ 40 →
  A0q cx (J1 us h w l).1 = some w ∧ O0 40 13 (J1 us h w l).1 D = true ∧ (H3 (J1 us h w l).1 : Int) = H3 us + ((J1 us h w l).2 - l)
 | [], [], [], l, D, _, _, _, _, ht, _, _, _, _ => by simp [J1, A0q, O0, H3]
 | [], a :: h, w, l, D, hl, _, _, _, _, _, _, _, _ => by simp at hl
 | u :: us, [], w, l, D, hl, _, _, _, _, _, _, _, _ => by simp at hl
 | [], [], b :: w, l, D, _, hl, _, _, _, _, _, _, _ => by simp at hl
 | u :: us, a :: h, [], l, D, _, hl, _, _, _, _, _, _, _ => by simp at hl
 | u :: us, a :: h, b :: w, l, D, h1, h2, hw, hv, ht, hs, hl, h99, hD => by
  rw [A0q] at ht
  split at ht
  ·cases ht
  ·rename_i a' ha
   split at ht
   ·cases ht
   ·rename_i h' hh'
    simp only [Option.some.injEq, List.cons.injEq] at ht
    obtain ⟨rfl, rfl⟩ := ht
    rw [O0, Bool.and_eq_true] at hs
    obtain ⟨c1, c2⟩ := hw 0 zA0 zA0
    have hw' : ∀ i, (hi : i < w.length) → (hh : i < h'.length) → N3 h'[i] w[i] = true ∧ H7 w[i] = true := fun i hi hh => hw (i + 1) (by simpa using hi) (by simpa using hh)
    have hv' : ∀ x ∈ h', H7 x = true := fun x hx => hv x (List.mem_cons_of_mem _ hx)
    simp only [J1] at h99 ⊢
    by_cases he : S7 a' b = true
    ·simp only [if_pos he] at h99 ⊢
     obtain ⟨i1, i2, i3⟩ := A7x us h' w l D (by simpa using h1) (by simpa using h2) hw' hv' hh' hs.2 hl h99 hD
     have hab := (A19 _ _).1 he
     subst hab
     refine ⟨by rw [A0q, ha, i1], ?_, ?_⟩
     ·rw [O0, Bool.and_eq_true]; exact ⟨A7k 40 13 u (D + 1) D zZ hs.1, i2⟩
     ·simp only [H3]; omega
    ·simp only [if_neg he] at h99 ⊢
     obtain ⟨i1, i2, i3⟩ := A7x us h' w (l + 1) D (by simpa using h1) (by simpa using h2) hw' hv' hh' hs.2 zZ h99 hD
     have hlab := A2X us h' w (l + 1)
     refine ⟨by rw [A0q, S5, B45 ha, i1], ?_, ?_⟩
     ·rw [O0, Bool.and_eq_true]
      exact ⟨B57 hs.1 c1 (hv a' List.mem_cons_self) c2 zZ zZ hD, i2⟩
     ·simp only [H3, B4k]; omega
def B0M (cx : Cx) (t : Tm) (D l : Int) (u : Tm) (a : Ty) (l' : Int) : Prop := P4 40 13 u D = true ∧ A1u cx u = some a ∧ H7 a = true ∧ l ≤ l' ∧ l' + 1 ≤ l + (E1 t : Int) ∧ (E1 u : Int) ≤ E1 t + (l' - l)
theorem B0N (ks : List Tm) (ih : ∀ t ∈ ks, ∀ (d D : Int) (cx : Cx) (l : Int) (u : Tm) (a : Ty) (l' : Int), P4 12 14 t d = true → cxV cx → 0 ≤ l → Q5 cx t l = some (u, a, l') → l' ≤ 99 → D + 2 * (13 - d) ≤ 41 → B0M cx t D l u a l') :
  ∀ (d D : Int) (cx : Cx) (l : Int) (us : List Tm) (h : List Ty) (l' : Int), O0 12 14 ks d = true → cxV cx → 0 ≤ l → P7 cx ks l = some (us, h, l') → l' ≤ 99 → D + 2 * (13 - d) ≤ 41 →
   O0 40 13 us D = true ∧ A0q cx us = some h ∧ (∀ a ∈ h, H7 a = true) ∧ l ≤ l' ∧ l' + ks.length ≤ l + (H3 ks : Int) ∧ (H3 us : Int) ≤ H3 ks + (l' - l) ∧ h.length = ks.length ∧ us.length = ks.length := by
 induction ks with
 | nil =>
  intro d D cx l us h l' _ _ _ he _ _
  simp only [P7, Option.some.injEq, Prod.mk.injEq] at he
  obtain ⟨rfl, rfl, rfl⟩ := he
  simp [O0, A0q, H3]
 | cons t ts ihl =>
  intro d D cx l us h l' hs hcx hl he h99 hD
  rw [O0, Bool.and_eq_true] at hs
  rw [P7] at he
  split at he
  ·cases he
  ·rename_i u a l1 h1
   split at he
   ·cases he
   ·rename_i us' h' l2 h2
    simp only [Option.some.injEq, Prod.mk.injEq] at he
    obtain ⟨rfl, rfl, rfl⟩ := he
    have hp := B2U t
    
    have hmono : l1 ≤ l2 := by
     have : ∀ (zs : List Tm) (l : Int) us h l', P7 cx zs l = some (us, h, l') → l ≤ l' := by
      intro zs
      induction zs with
      | nil => intro l us h l' he; simp only [P7, Option.some.injEq, Prod.mk.injEq] at he; omega
      | cons z zs ihz =>
       intro l us h l' he
       rw [P7] at he
       split at he
       ·cases he
       ·rename_i u a l1 hz
        split at he
        ·cases he
        ·rename_i us' h' l2 hzs
         simp only [Option.some.injEq, Prod.mk.injEq] at he
         have := ihz _ _ _ _ hzs
         have := el_mono cx z l _ _ _ hz
         omega
     exact this ts l1 us' h' l2 h2
    obtain ⟨a1, a2, a3, a4, a5, a6⟩ := ih t List.mem_cons_self d D cx l u a l1 hs.1 hcx hl h1 zZ hD
    obtain ⟨b1, b2, b3, b4, b5, b6, b7, b8⟩ := ihl (fun x hx => ih x (List.mem_cons_of_mem _ hx)) d D cx l1 us' h' l2 hs.2 hcx zZ h2 h99 hD
    refine ⟨by rw [O0, a1, b1]; rfl, by rw [A0q, a2, b2], ?_, by omega, ?_, ?_, by simp [b7], by simp [b8]⟩
    ·intro x hx
     rcases List.mem_cons.1 hx with h | h
     ·rw [h]; exact a3
     ·exact b3 x h
    ·simp only [H3, List.length_cons]; omega
    ·simp only [H3]; omega
where
 el_mono (cx : Cx) : ∀ (z : Tm) (l : Int) (u : Tm) (a : Ty) (l' : Int), Q5 cx z l = some (u, a, l') → l ≤ l' := by
  intro z
  revert cx
  refine Tm.ind (C := fun z => ∀ (cx : Cx) (l : Int) (u : Tm) (a : Ty) (l' : Int), Q5 cx z l = some (u, a, l') → l ≤ l') ?_ z
  intro k nm num ty fr lb ks ih cx l u a l' he
  rw [Q5] at he
  have hL : ∀ (zs : List Tm), (∀ t ∈ zs, t ∈ ks) → ∀ (cx : Cx) (l : Int) us h l', P7 cx zs l = some (us, h, l') → l ≤ l' := by
   intro zs
   induction zs with
   | nil => intro _ cx l us h l' he; simp only [P7, Option.some.injEq, Prod.mk.injEq] at he; omega
   | cons z zs ihz =>
    intro hin cx l us h l' he
    rw [P7] at he
    split at he
    ·cases he
    ·rename_i u a l1 hz
     split at he
     ·cases he
     ·rename_i us' h' l2 hzs
      simp only [Option.some.injEq, Prod.mk.injEq] at he
      have := ihz (fun t ht => hin t (List.mem_cons_of_mem _ ht)) _ _ _ _ _ hzs
      have := ih z (hin z List.mem_cons_self) _ l _ _ _ hz
      omega
  split at he
  ·cases he
  ·rename_i us h l1 hk
   have h1 := hL ks (fun _ h => h) _ _ _ _ _ hk
   unfold T5 at he
   split at he
   ·cases he
   ·rename_i w t hn
    simp only [Option.some.injEq, Prod.mk.injEq] at he
    have := A2X us h w l1
    omega
theorem B58 : ∀ (t : Tm) (d D : Int) (cx : Cx) (l : Int) (u : Tm) (a : Ty) (l' : Int), P4 12 14 t d = true → cxV cx → 0 ≤ l → Q5 cx t l = some (u, a, l') → l' ≤ 99 → D + 2 * (13 - d) ≤ 41 → B0M cx t D l u a l' := by
 refine Tm.ind fun k nm num ty fr lb ks ih d D cx l u a l' hs hcx hl he h99 hD => ?_
 obtain ⟨hd, h14, h3, h4⟩ := A0O hs
 obtain ⟨n1, n2, n3, n4, n5, n6, n7, n8, n9⟩ := X7.1 h3
 rw [Q5] at he
 split at he
 ·cases he
 ·rename_i us h l1 hL
  unfold T5 at he
  split at he
  ·cases he
  ·rename_i w t hN
   simp only [Option.some.injEq, Prod.mk.injEq] at he
   obtain ⟨hu, rfl, rfl⟩ := he
   have hlab := A2X us h w l1
   obtain ⟨b1, b2, b3, b4, b5, b6, b7, b8⟩ := B0N ks ih (d + 1) (D + 2) (S4 cx k nm ty) l us h l1 h4 (A5K hcx fun hk => n6 (.inl hk)) hl hL zZ zZ
   obtain ⟨hv, hw⟩ := A92 hN
   have hwt := B55 b3 (fun hk => n6 (.inr (.inl hk))) (by rw [b7]; exact n1) h14 hw
   
   obtain ⟨c1, c2, c3⟩ : A0q (S4 cx k nm ty) (J1 us h w l1).1 = some (if w = [] then h else w) ∧ O0 40 13 (J1 us h w l1).1 (D + 1) = true ∧ (H3 (J1 us h w l1).1 : Int) = H3 us + ((J1 us h w l1).2 - l1) := by
    rcases hwt.len with hn | hn
    ·subst hn
     rw [A0l, if_pos rfl]
     refine ⟨b2, ?_, by simp⟩
     exact A5J 40 13 us (D + 2) (D + 1) zZ b1
    ·by_cases hn0 : w = []
     ·subst hn0
      rw [A0l, if_pos rfl]
      refine ⟨b2, ?_, by simp⟩
      exact A5J 40 13 us (D + 2) (D + 1) zZ b1
     ·rw [if_neg hn0]
      exact A7x us h w l1 (D + 1) zZ hn hwt.ok b3 b2 (by rw [show D + 1 + 1 = D + 2 by omega]; exact b1) zZ h99 zZ
   have hlm := A3W us h w l1
   have hck : E1 (.mk k nm num ty fr lb ks) = H3 ks + 1 := A2S ..
   refine ⟨?_, ?_, hv, by omega, by rw [hck]; omega, ?_⟩
   ·rw [← hu]
    split
    ·rename_i hk
     have hl1 : ks.length = 1 := by rw [hk] at n1; have : E7 13 = 1 := rfl; omega
     have h0 : 0 < (J1 us h w l1).1.length := by omega
     rw [getD0' h0]
     have := (A2z 40 13 _ _).1 c2 0 h0
     exact A7k 40 13 _ (D + 1) D zZ this
    ·rename_i hk
     rw [A2O zZ hk (by rw [hlm, b8]; exact h3)]
     exact c2
   ·rw [← hu]
    split
    ·rename_i hk
     have hl1 : ks.length = 1 := by rw [hk] at n1; have : E7 13 = 1 := rfl; omega
     have h0 : 0 < (J1 us h w l1).1.length := by omega
     rw [getD0' h0]
     rw [hwt.asT hk, if_neg zA0] at c1
     rw [S4, if_neg zZ] at c1
     rw [← hwt.asT hk] at c1
     obtain ⟨x, hx⟩ : ∃ x, (J1 us h w l1).1 = [x] := by
      match hm : (J1 us h w l1).1, (show (J1 us h w l1).1.length = 1 by omega) with
      | [x], _ => exact ⟨x, rfl⟩
     simp only [hx, List.getElem_cons_zero] at c1 ⊢
     obtain ⟨y, hy, he⟩ := B42 c1
     rw [hwt.asT hk] at he
     cases he; exact hy
    ·rename_i hk
     refine B41 c1 h14 hv (hwt.again hk) ?_
     by_cases hn0 : w = []
     ·rw [hn0]; rfl
     ·rw [if_neg hn0]; exact A99 w
   ·rw [← hu, hck]
    split
    ·rename_i hk
     have hl1 : ks.length = 1 := by rw [hk] at n1; have : E7 13 = 1 := rfl; omega
     have h0 : 0 < (J1 us h w l1).1.length := by omega
     rw [getD0' h0]
     have := A8B (List.getElem_mem h0)
     omega
    ·rw [A2S]; omega
where
 getD0' {us : List Tm} (h : 0 < us.length) : us.getD 0 K4 = us[0] := by rw [List.getD_eq_getElem?_getD, List.getElem?_eq_getElem h, Option.getD_some]
theorem B59 : ∀ (t : Tm) (d : Int) (cx : Cx) (l : Int) (u : Tm) (a : Ty) (l' : Int), P4 12 14 t d = true → Q5 cx t l = some (u, a, l') → l' + 1 ≤ l + (E1 t : Int) := by
 refine Tm.ind fun k nm num ty fr lb ks ih d cx l u a l' hs he => ?_
 obtain ⟨hd, h14, h3, h4⟩ := A0O hs
 obtain ⟨n1, _⟩ := X7.1 h3
 have hL : ∀ (zs : List Tm), (∀ t ∈ zs, t ∈ ks) → O0 12 14 zs (d + 1) = true → ∀ (cx : Cx) (l : Int) us h l', P7 cx zs l = some (us, h, l') → l' + zs.length ≤ l + (H3 zs : Int) ∧ us.length = zs.length := by
  intro zs
  induction zs with
  | nil => intro _ _ cx l us h l' he; simp only [P7, Option.some.injEq, Prod.mk.injEq] at he; obtain ⟨rfl, _, rfl⟩ := he; simp [H3]
  | cons z zs ihz =>
   intro hin hsz cx l us h l' he
   rw [O0, Bool.and_eq_true] at hsz
   rw [P7] at he
   split at he
   ·cases he
   ·rename_i u a l1 hz
    split at he
    ·cases he
    ·rename_i us' h' l2 hzs
     simp only [Option.some.injEq, Prod.mk.injEq] at he
     obtain ⟨rfl, rfl, rfl⟩ := he
     have h5 := ihz (fun t ht => hin t (List.mem_cons_of_mem _ ht)) hsz.2 _ _ _ _ _ hzs
     have h6 := ih z (hin z List.mem_cons_self) (d + 1) _ l _ _ _ hsz.1 hz
     simp only [H3, List.length_cons]
     exact ⟨by omega, by omega⟩
 rw [Q5] at he
 split at he
 ·cases he
 ·rename_i us h l1 hk
  obtain ⟨g1, g2⟩ := hL ks (fun _ h => h) h4 _ _ _ _ _ hk
  unfold T5 at he
  split at he
  ·cases he
  ·rename_i w t hn
   simp only [Option.some.injEq, Prod.mk.injEq] at he
   have := A2X us h w l1
   have hck : E1 (.mk k nm num ty fr lb ks) = H3 ks + 1 := A2S ..
   rw [hck]; omega
theorem A7y {e u : Tm} {t : Ty} (h : Z6 e = some (u, t)) : S0 u = true ∧ A1u [] u = some t ∧ H7 t = true := by
 unfold Z6 at h
 split at h
 ·rename_i hv
  obtain ⟨h1, h2⟩ := (U1 e).1 hv
  split at h
  ·rename_i u' t' l' he
   cases h
   have hl : l' ≤ 99 := by
    have := B0N.el_mono [] e 0 _ _ _ he
    have h3 : ∀ (t : Tm) (cx : Cx) (l : Int) (u : Tm) (a : Ty) (l' : Int), Q5 cx t l = some (u, a, l') → l' ≤ l + 4 * (E1 t : Int) → True := fun _ _ _ _ _ _ _ _ => trivial
    exact el_lab e 1 h1 zZ he
   obtain ⟨g1, g2, g3, g4, g5, g6⟩ := B58 e 1 1 [] 0 u t l' h1 A4H zZ he hl zZ
   exact ⟨(A9g u).2 ⟨g1, by omega⟩, g2, g3⟩
  ·cases h
 ·cases h
where
 el_lab (e : Tm) (d : Int) (h1 : P4 12 14 e d = true) (h2 : E1 e ≤ 30) {u : Tm} {t : Ty} {l' : Int} (he : Q5 [] e 0 = some (u, t, l')) : l' ≤ 99 := by
  have := B59 e d [] 0 u t l' h1 he
  omega
def A7z : ByteArray := ⟨⟨[112, 97, 105, 114]⟩⟩
def A7A : ByteArray := ⟨⟨[102, 117, 110, 99, 116, 105, 111, 110]⟩⟩
def txT : ByteArray := ⟨⟨[84]⟩⟩
def txF : ByteArray := ⟨⟨[70]⟩⟩
def B0O (n : Int) : ByteArray := ⟨(Lib.decDigits n.toNat).toArray⟩
def A30 (k num : Int) : ByteArray := if k = 2 then B0O num else if k = 3 then txT else txF
mutual
def A0D : Tm → ByteArray
 | .mk k nm num ty fr lb ks => if k = 10 ∨ (prx (.mk k nm num ty fr lb []) = true ∧ ty.k = 5) then A7z else if k = 5 ∨ prx (.mk k nm num ty fr lb []) = true then A7A else if k = 14 then B6a ks else A30 k num
def B6a : List Tm → ByteArray
 | [] => ⟨⟨[]⟩⟩
 | t :: _ => A0D t
end
section
variable {k : Int} {nm : ByteArray} {num : Int} {ty fr : Ty} {lb : Int} {ks : List Tm}
theorem B6b (h : k = 10 ∨ (prx (.mk k nm num ty fr lb ks) = true ∧ ty.k = 5)) : A0D (.mk k nm num ty fr lb ks) = A7z := by
 rw [A0D]
 exact if_pos h
theorem B6c (h : ¬(k = 10 ∨ (prx (.mk k nm num ty fr lb ks) = true ∧ ty.k = 5))) (h2 : k = 5 ∨ prx (.mk k nm num ty fr lb ks) = true) : A0D (.mk k nm num ty fr lb ks) = A7A := by
 rw [A0D]
 exact (if_neg h).trans (if_pos h2)
theorem B0P (h : prx (.mk k nm num ty fr lb ks) = false) (hk : k = 14) (h0 : 0 < ks.length) : A0D (.mk k nm num ty fr lb ks) = A0D ks[0] := by
 rw [A0D, if_neg (by rintro (h1 | h1); omega; exact Bool.noConfusion (h1.1.symm.trans h)), if_neg (by rintro (h1 | h1); omega; exact Bool.noConfusion (h1.symm.trans h)), if_pos hk]
 cases ks with
 | nil => simp at h0
 | cons t ts => rfl
theorem B6d (h : prx (.mk k nm num ty fr lb ks) = false) (hk : k ≠ 14) (h10 : k ≠ 10) (h5 : k ≠ 5) : A0D (.mk k nm num ty fr lb ks) = A30 k num := by
 rw [A0D, if_neg (by rintro (h1 | h1); omega; exact Bool.noConfusion (h1.1.symm.trans h)), if_neg (by rintro (h1 | h1); omega; exact Bool.noConfusion (h1.symm.trans h)), if_neg hk]
end
section fin
variable {P : Program} {Γ : M9} {env : O2} {hp : List A7} {G : IM}
theorem A20 {r r2 r3 : ResultVar} {post : IM → Value → List A7 → Prop} {v v2 v3 : Value} {outs : List A7} (h : A0f P Γ ⟨env, hp, G⟩ r v) (h2 : A0f P Γ ⟨env, hp, G⟩ r2 v2) (h3 : A0f P Γ ⟨env, hp, G⟩ r3 v3) (ho : A0 hp outs) (hk : post G (.tuple ⟨[v, v2, v3]⟩) outs) :
  A0T P Γ [r, r2, r3] post .ret ⟨env, hp, G⟩ := A6k (.cons h (.cons h2 (.cons h3 .nil))) ho.spec hk
end fin
def CsP (bx : Nat) (e : Tm) (a b : Ty) (l : Int) : IM → Value → List A7 → Prop := fun G' v outs => ∃ cells, v = .agg ⟨cells⟩ ∧ outs = [.blk bx [.int .i64 (if S7 a b = true then l else l + 1)]] ∧ B8 G' (if S7 a b = true then e else S5 e a b (l + 1)) cells
theorem CsP.yes {G : IM} {bx : Nat} {e : Tm} {a b : Ty} {l : Int} {cells : List Value} (h : S7 a b = true) (hr : B8 G e cells) : CsP bx e a b l G (.agg ⟨cells⟩) [.blk bx [.int .i64 l]] := ⟨cells, rfl, by rw [if_pos h], by rw [if_pos h]; exact hr⟩
theorem CsP.no {G : IM} {bx : Nat} {e : Tm} {a b : Ty} {l : Int} {cells : List Value} (h : S7 a b = false) (hr : B8 G (S5 e a b (l + 1)) cells) : CsP bx e a b l G (.agg ⟨cells⟩) [.blk bx [.int .i64 (l + 1)]] := ⟨cells, rfl, by rw [if_neg (by rw [h]; decide)], by rw [if_neg (by rw [h]; decide)]; exact hr⟩
theorem B6e (bx : Nat) (e : Tm) (a b : Ty) (l : Int) (G : IM) (ce ca cb : List Value) (hl : -1000000000000 ≤ l ∧ l ≤ 1000000000000) (hre : B8 G e ce) (hra : C6 G a ca) (hrb : C6 G b cb) :
  Fn Tryz.prog 96 [.pointer (some ⟨bx, 0, none⟩), .agg ⟨ce⟩, .agg ⟨ca⟩, .agg ⟨cb⟩] [.blk bx [.int .i64 l]] G (CsP bx e a b l) := by
 have hel := hre.len
 have heo := hre.one
 have hS := A68 a b G ca cb hra hrb
 obtain ⟨v1, v2, v3, v4, v5, v6, v7, v8, v9, rfl⟩ := nine hel
 obtain ⟨ak, aks⟩ := a
 obtain ⟨bk, bks⟩ := b
 obtain ⟨pa, cca, ea, rfl, hka, _⟩ := hra.open
 obtain ⟨pb, ccb, eb, rfl, hkb, _⟩ := hrb.open
 refine C0 Tryz.func96 rfl Tryz.ntmps96 Tryz.results96 rfl ?_
 intro w0
 refine A4 ?_
 refine sE (B5 rfl rfl) rfl (fun b3 => ?_)
 refine sE (B5 rfl rfl) rfl (fun b4 => ?_)
 refine sE (B5 rfl rfl) rfl (fun b5 => ?_)
 refine sE (A6 rfl) rfl (fun b6 => ?_)
 refine B0 ?_
 refine K3 rfl (hS) rfl rfl (fun h14 => ?_) (fun h14 => ?_)
 refine A8 ?_
 refine sL (A5 rfl rfl (B7 zS) hel) rfl rfl ?_
 refine sS rfl rfl rfl hel heo rfl ?_ (hu := by exact C7 hel.symm)
 refine B4 ?_
 refine H6 (outs := [.blk bx [.int .i64 _]]) (rC rfl (A3 rfl rfl)) (A0.cons zP A0.nil) ?_
 (exact CsP.yes zW hre)
 refine E4 ?_
 refine sQ (K0 rfl) rfl ?_
 refine A4 ?_
 refine sP (J9 rfl rfl zZ zZ) rfl rfl ?_
 refine sQ (K0 rfl) rfl ?_
 refine A8 ?_
 refine D3 D4 rfl ?_
 refine I7 (i := 6) (l' := [ff,ff,ff,ff,ff,ff,tt,ff,ff,ff]) rfl C8 (A5 rfl rfl (B7 zS) hel) rfl zX rfl rfl ?_
 refine aL 0 rfl (A3 rfl rfl) rfl ?_
 refine aL 1 rfl (A3 rfl rfl) rfl ?_
 refine aP 2 rfl (qM rfl) rfl ?_
 refine aP 3 rfl (K0 rfl) rfl ?_
 refine aP 4 rfl (C3 rfl) rfl ?_
 refine aL 5 rfl (E9 rfl rfl) rfl ?_
 refine A2 7 ?_
 (refine D2 rfl (D1 rfl rfl rfl zZ zU rfl) rfl rfl ?_; rintro _ ⟨b55, rfl⟩)
 refine aP 8 rfl (pBd rfl rfl) rfl ?_
 refine A2 9 ?_
 refine C9 rfl ?_
 refine A4 ?_
 (refine J0 (cs := [v1, v2, v3, v4, v5, v6, v7, v8, v9]) zP (fun G2 hle2 hsl2 hno2 => ?_))
 refine tT ?_
 refine H6 (outs := [.blk bx [.int .i64 _]]) (rC rfl (A3 rfl rfl)) (A0.cons zP A0.nil) ?_
 (exact CsP.no zW (B8.put (us := [e]) (es := [[v1, v2, v3, v4, v5, v6, v7, v8, v9]]) ⟨by decide, by decide⟩ ⟨by decide, by decide⟩ ⟨by omega, by omega⟩ (hrb.mono hle2) (hra.mono hle2) rfl (D6.of hsl2 rfl (by intro x hx; obtain rfl := List.mem_singleton.1 hx; rfl) (by intro x hx; obtain rfl := List.mem_singleton.1 hx; exact heo)) (by simp only [F8]; exact ⟨_, _, rfl, hre.mono hle2, rfl⟩)))
def ElP (bx : Nat) (cx : Cx) (e : Tm) (l : Int) : IM → Value → List A7 → Prop := fun G' v outs => ∃ u cu t ct l', v = .tuple ⟨[.agg ⟨cu⟩, .agg ⟨ct⟩, .bool (Q5 cx e l).isSome]⟩ ∧ outs = [.blk bx [.int .i64 l']] ∧ B8 G' u cu ∧ C6 G' t ct ∧ l ≤ l' ∧ l' + 1 ≤ l + (E1 e : Int) ∧ ∀ r, Q5 cx e l = some r → r = (u, t, l')
theorem ElP.no {G : IM} {bx : Nat} {cx : Cx} {e : Tm} {l l' : Int} {u : Tm} {t : Ty} {cu ct : List Value} (h : Q5 cx e l = none) (hu : B8 G u cu) (ht : C6 G t ct) (h1 : l ≤ l') (h2 : l' + 1 ≤ l + (E1 e : Int)) : ElP bx cx e l G (.tuple ⟨[.agg ⟨cu⟩, .agg ⟨ct⟩, .bool false]⟩) [.blk bx [.int .i64 l']] :=
 ⟨u, cu, t, ct, l', by rw [h]; rfl, rfl, hu, ht, h1, h2, fun r hr => by rw [h] at hr; cases hr⟩
theorem ElP.yes {G : IM} {bx : Nat} {cx : Cx} {e : Tm} {l l' : Int} {u : Tm} {t : Ty} {cu ct : List Value} (h : Q5 cx e l = some (u, t, l')) (hu : B8 G u cu) (ht : C6 G t ct) (h1 : l ≤ l') (h2 : l' + 1 ≤ l + (E1 e : Int)) : ElP bx cx e l G (.tuple ⟨[.agg ⟨cu⟩, .agg ⟨ct⟩, .bool true]⟩) [.blk bx [.int .i64 l']] :=
 ⟨u, cu, t, ct, l', by rw [h]; rfl, rfl, hu, ht, h1, h2, fun r hr => by rw [h] at hr; cases hr; rfl⟩
section
variable {cx : Cx} {k : Int} {nm : ByteArray} {num : Int} {ty fr : Ty} {lb : Int} {ks us : List Tm} {h : List Ty} {l l' : Int}
theorem B6f (hL : P7 (S4 cx k nm ty) ks l = none) : Q5 cx (.mk k nm num ty fr lb ks) l = none := by rw [Q5, hL]
theorem A7B (hL : P7 (S4 cx k nm ty) ks l = some (us, h, l')) (hn : A0A cx k nm ty h = none) : Q5 cx (.mk k nm num ty fr lb ks) l = none := by rw [Q5, hL]; simp only [T5, hn]
theorem B6g {w : List Ty} {t : Ty} (hL : P7 (S4 cx k nm ty) ks l = some (us, h, l')) (hn : A0A cx k nm ty h = some (w, t)) (hk : k = 13) : Q5 cx (.mk k nm num ty fr lb ks) l = some ((J1 us h w l').1.getD 0 K4, t, (J1 us h w l').2) := by
 rw [Q5, hL]; simp only [T5, hn, if_pos hk]
theorem B0Q {w : List Ty} {t : Ty} (hL : P7 (S4 cx k nm ty) ks l = some (us, h, l')) (hn : A0A cx k nm ty h = some (w, t)) (hk : k ≠ 13) : Q5 cx (.mk k nm num ty fr lb ks) l = some (.mk k nm num ty fr lb (J1 us h w l').1, t, (J1 us h w l').2) := by
 rw [Q5, hL]; simp only [T5, hn, if_neg hk]
end
theorem A4L {t : Ty} (h : H7 t = true) : I0 t := (A2a h).1
theorem B6h {us : List Tm} (h : 0 < us.length) : us.getD 0 K4 = us[0] := by rw [List.getD_eq_getElem?_getD, List.getElem?_eq_getElem h, Option.getD_some]
theorem B0R (bx : Nat) : ∀ (e : Tm) (d : Int) (cx : Cx) (l0 : Int) (G : IM) (pc : Option Addr) (nc cc : Nat) (cells : List Value), P4 12 14 e d = true → (nc : Int) ≤ d → cxV cx → W1 G cx pc nc cc → B8 G e cells → 0 ≤ l0 → l0 + (E1 e : Int) ≤ 1000000000 →
  Fn Tryz.prog 62 [.pointer (some ⟨bx, 0, none⟩), .slice pc nc cc, .agg ⟨cells⟩] [.blk bx [.int .i64 l0]] G (ElP bx cx e l0) := by
 refine Tm.ind fun k nm num ty fr lb ks ih d cx l0 G pc nc cc cells hv hnd hcv hx hr hl0 hlc => ?_
 have hr0 := hr
 have hone := hr.one
 obtain ⟨hv1, hv2, hv3, hv4⟩ := A0O hv
 have hvk := (A2z 12 14 ks _).1 hv4
 have har := (X7.1 hv3).1
 have hop := A5z har
 obtain ⟨hta, hts⟩ := A5A hv3
 have hkr : 1 ≤ k ∧ k ≤ 14 := A5T (by rw [har]; omega)
 have hcvX : cxV (S4 cx k nm ty) := A5K hcv fun hk => (X7.1 hv3).2.2.2.2.2.1 (.inl hk)
 have hck : E1 (.mk k nm num ty fr lb ks) = H3 ks + 1 := A2S ..
 rw [hck] at hlc
 obtain ⟨tk, tks⟩ := ty
 obtain ⟨fk, fks⟩ := fr
 obtain ⟨pt, ct, pf, cf, q, cq, es, rfl, hk, hnum, hlb, hty, hfr, hsl, hkl⟩ := hr.open9
 have hlen : ks.length ≤ 3 := by have := A3m k; omega
 obtain ⟨hx1, esx, hx2, hx3⟩ := id hx
 have hcl := B4U G pc nc cc esx hx2 zZ
 have hcnt0 := A3L ks
 refine C0 Tryz.func62 rfl Tryz.ntmps62 Tryz.results62 rfl ?_
 intro w0
 refine A4 ?_
 refine sE (B5 rfl rfl) rfl (fun b3 => ?_)
 refine sE (A6 rfl) rfl (fun b4 => ?_)
 refine sE (A6 rfl) rfl (fun b5 => ?_)
 refine J4 ?_
 (show K7 _ _ (.seq (.region 2 _ _) (.cond (.tmp 25) _ _)) _ _; refine A0H (fun (x : Option Addr × Nat × Nat × IM) => ⟨[(9, .slice x.1 x.2.1 x.2.2.1), (1, .slice pc nc cc), (0, .pointer (some ⟨bx, 0, none⟩)), (5, .pointer (some ⟨b3, 0, none⟩)), (6, .pointer (some ⟨b4, 0, none⟩)), (7, .pointer (some ⟨b5, 0, none⟩))], [.blk b5 [.int .i64 0, .slice none 0 0], .blk b4 [.int .i64 0, .string ⟨⟨[]⟩⟩, .int .i64 0, .int .i64 0, .slice none 0 0, .int .i64 0, .slice none 0 0, .int .i64 0, .slice none 0 0], .blk b3 [.int .i64 k, .string nm, .int .i64 num, .int .i64 tk, .slice pt tks.length ct, .int .i64 fk, .slice pf fks.length cf, .int .i64 lb, .slice q ks.length cq], .blk bx [.int .i64 l0]], x.2.2.2⟩) (fun x => B9 G x.2.2.2 ∧ W1 x.2.2.2 (S4 cx k nm (.mk tk tks)) x.1 x.2.1 x.2.2.1 ∧ x.2.1 ≤ nc + 1) ?_ ?_)
 ·refine B4 ?_
  refine sB (qE rfl rfl) rfl rfl (fun h21 => ?_) (fun h21 => ?_)
  ·refine C1 ?_
   refine D3 D4 rfl ?_
   refine I9 (i := 0) (l' := [tt,ff,ff,ff,ff,ff,ff,ff,ff,ff]) rfl C8 (qM rfl) rfl zX rfl rfl ?_
   refine aP 2 rfl (C3 rfl) rfl ?_
   refine aL 3 rfl (E9 rfl rfl) rfl ?_
   refine aP 4 rfl (C3 rfl) rfl ?_
   refine aL 5 rfl (A3 rfl rfl) rfl ?_
   refine aP 6 rfl (pBd rfl rfl) rfl ?_
   refine P2 (j := 1) (j' := 7) zX ?_ ?_
   ·(refine A8m rfl rfl hcl rfl rfl rfl (fun v33 G33 outs33 hle33 h33 => ?_); obtain ⟨hG, p1, c1, rfl, rfl⟩ := h33; replace hG := hG.symm; subst hG)
    replace hr := hr.mono hle33
    replace hr0 := hr0.mono hle33
    replace hty := hty.mono hle33
    replace hfr := hfr.mono hle33
    replace hsl := hsl.mono hle33
    replace hkl := hkl.mono hle33
    replace hx2 := hx2.mono hle33
    refine A2 7 ?_
    (refine D2 rfl (D1 rfl rfl rfl zZ zU rfl) rfl rfl ?_; rintro _ ⟨b35, rfl⟩)
    refine A2 8 ?_
    (refine O8 rfl rfl rfl rfl rfl rfl (fun _ _ => by repeat (first | exact Sw.here | apply Sw.there)) (J7 zS) rfl zT zU zZ rfl rfl zH (fun p5 c5 => ?_); refine A0g (cs := esx.flatten ++ [.string nm, .int .i64 tk, .slice pt tks.length ct]) zP (fun Gf hleF hslF hnoF => ?_); have hxF := W1.snoc (nm := nm) (t := .mk tk tks) hx1 hx2.len hx2.all hx2.one hx3 hleF ⟨_, _, rfl, hty.mono hleF⟩ hslF)
    refine aP 9 rfl (qA rfl) rfl ?_
    refine X4 ?_
    refine O4 (p5, nc + 1, c5, Gf) (I1 zO zJ) ⟨hleF, by (dsimp only; rw [S4, if_pos zZ]; exact hxF), by (dsimp only; omega)⟩
   ·(refine D2 rfl (D1 rfl rfl rfl zZ zU rfl) rfl rfl ?_; rintro _ ⟨b41, rfl⟩)
    refine A2 1 ?_
    (refine A8m rfl rfl hcl rfl rfl rfl (fun v43 G43 outs43 hle43 h43 => ?_); obtain ⟨hG, p1, c1, rfl, rfl⟩ := h43; replace hG := hG.symm; subst hG)
    replace hr := hr.mono hle43
    replace hr0 := hr0.mono hle43
    replace hty := hty.mono hle43
    replace hfr := hfr.mono hle43
    replace hsl := hsl.mono hle43
    replace hkl := hkl.mono hle43
    replace hx2 := hx2.mono hle43
    refine A2 8 ?_
    (refine O8 rfl rfl rfl rfl rfl rfl (fun _ _ => by repeat (first | exact Sw.here | apply Sw.there)) (J7 zS) rfl zT zU zZ rfl rfl zH (fun p5 c5 => ?_); refine A0g (cs := esx.flatten ++ [.string nm, .int .i64 tk, .slice pt tks.length ct]) zP (fun Gf hleF hslF hnoF => ?_); have hxF := W1.snoc (nm := nm) (t := .mk tk tks) hx1 hx2.len hx2.all hx2.one hx3 hleF ⟨_, _, rfl, hty.mono hleF⟩ hslF)
    refine aP 9 rfl (qA rfl) rfl ?_
    refine X4 ?_
    refine O4 (p5, nc + 1, c5, Gf) (I1 zO zJ) ⟨hleF, by (dsimp only; rw [S4, if_pos zZ]; exact hxF), by (dsimp only; omega)⟩
  ·refine B4 ?_
   refine O4 (pc, nc, cc, G) (I1 zO zJ) ⟨B9.refl _, by (dsimp only; rw [S4, if_neg zZ]; exact hx), by (dsimp only; omega)⟩
 ·(rintro ⟨p6, n6, c6, Gx⟩ ⟨hleX, hxX, hn6⟩; simp only [] at hleX hxX hn6 ⊢; replace hsl := hsl.mono hleX; replace hkl := hkl.mono hleX; replace hx := hx.mono hleX; replace hr0 := hr0.mono hleX; replace hty := hty.mono hleX; replace hfr := hfr.mono hleX)
  refine C1 ?_
  refine sE (A6 rfl) rfl (fun b58 => ?_)
  refine A1K ?_
  refine C2 ?_
  (refine W4 28 9 ?_; refine W4 25 2 ?_; refine L4 (fun (x : Nat × (Option Addr × Nat × List Tm × List (List Value)) × (Option Addr × Nat × List Ty × List (List Value)) × Int × IM) => ⟨[(40, .int .i64 x.1), (39, .int .i64 ks.length), (38, .slice q ks.length cq), (11, .slice x.2.2.1.1 x.1 x.2.2.1.2.1), (9, .slice p6 n6 c6), (1, .slice pc nc cc), (0, .pointer (some ⟨bx, 0, none⟩)), (5, .pointer (some ⟨b3, 0, none⟩)), (6, .pointer (some ⟨b4, 0, none⟩)), (7, .pointer (some ⟨b5, 0, none⟩)), (10, .pointer (some ⟨b58, 0, none⟩))], [.blk b58 [.int .i64 k, .string nm, .int .i64 num, .int .i64 tk, .slice pt tks.length ct, .int .i64 fk, .slice pf fks.length cf, .int .i64 lb, .slice x.2.1.1 x.1 x.2.1.2.1], .slc x.2.1.1 x.2.1.2.1 28 9 x.1 x.2.1.2.2.2.flatten, .slc x.2.2.1.1 x.2.2.1.2.1 25 2 x.1 x.2.2.1.2.2.2.flatten, .blk b5 [.int .i64 0, .slice none 0 0], .blk b4 [.int .i64 0, .string ⟨⟨[]⟩⟩, .int .i64 0, .int .i64 0, .slice none 0 0, .int .i64 0, .slice none 0 0, .int .i64 0, .slice none 0 0], .blk b3 [.int .i64 k, .string nm, .int .i64 num, .int .i64 tk, .slice pt tks.length ct, .int .i64 fk, .slice pf fks.length cf, .int .i64 lb, .slice q ks.length cq], .blk bx [.int .i64 x.2.2.2.1]], x.2.2.2.2⟩) (fun x => x.1 ≤ ks.length ∧ B9 Gx x.2.2.2.2 ∧ x.2.1.2.2.1.length = x.1 ∧ F8 x.2.2.2.2 x.2.1.2.2.1 x.2.1.2.2.2 ∧ x.2.2.1.2.2.1.length = x.1 ∧ D8 x.2.2.2.2 x.2.2.1.2.2.1 x.2.2.1.2.2.2 ∧ (∀ t ∈ x.2.2.1.2.2.1, I0 t) ∧ P7 (S4 cx k nm (.mk tk tks)) (ks.take x.1) l0 = some (x.2.1.2.2.1, x.2.2.1.2.2.1, x.2.2.2.1) ∧ l0 ≤ x.2.2.2.1 ∧ x.2.2.2.1 + x.1 ≤ l0 + (H3 (ks.take x.1) : Int)) (fun x => ks.length - x.1) (0, (none, 0, [], []), (none, 0, [], []), l0, Gx) ?_ ?_ ?_)
  ·(simp only [List.take_zero, A0l]; exact (I1 zO zJ))
  ·(exact ⟨by simp, B9.refl _, rfl, by simp [F8], rfl, by simp [D8], by simp, by simp [P7], Int.le_refl _, by simp [H3]⟩)
  ·(rintro ⟨i, ⟨pn, cn, us, es'⟩, ⟨pm, cm, ts, ess⟩, l, Gi⟩ ⟨hi, hle, hlu, hst, hlt, hstt, hat, hml, hl1, hl2⟩; simp only [] at hi hle hlu hst hlt hstt hat hml hl1 hl2 ⊢; replace hty := hty.mono hle; replace hfr := hfr.mono hle; replace hsl := hsl.mono hle; replace hkl := hkl.mono hle; replace hr0 := hr0.mono hle; replace hx := hx.mono hle; replace hxX := hxX.mono hle)
   refine A4 ?_
   refine sB (N0 rfl rfl) rfl rfl (fun h89 => ?_) (fun h89 => ?_)
   ·refine B0 ?_
    refine C2 ?_
    refine A4 ?_
    (obtain ⟨b, o, e, rfl, hl, hate, hre, hgb⟩ := hsl.kidTm hkl (i := i) zZ zZ; have hon := hre.one; have hsc := A1n (ks := ks) (i := i) zZ; have hsk := A1m (ks := ks) (i := i) zZ; refine sP (B6 rfl rfl rfl zZ) rfl rfl ?_)
    refine sL (A5 rfl rfl (hate _) hl) rfl rfl ?_
    refine sE (A6 rfl) rfl (fun b102 => ?_)
    refine sS rfl rfl rfl hl hon rfl ?_ (hu := by exact C7 hl.symm)
    refine A9 ?_
    refine sL (A5 rfl rfl (B7 zS) hl) rfl rfl ?_
    (refine K9 rfl (ih ks[i] (List.getElem_mem zZ) (d + 1) _ l Gi p6 n6 c6 _ (hvk i zZ) zZ hcvX hxX hre zZ zZ) (Pk.perm zP) rfl rfl (fun v G3 outs hle3 hh => ?_); obtain ⟨u, uc, t, tc, l3, rfl, rfl, hru, hrt, hl3, hl4, hu⟩ := hh; obtain ⟨v1, v2, v3, v4, v5, v6, v7, v8, v9, rfl⟩ := nine hru.len; obtain ⟨p3, c3, e3, rfl, _⟩ := hrt.open; have hlu9 := hru.len; have hou9 := hru.one; rcases hE : Q5 (S4 cx k nm (Ty.mk tk tks)) ks[i] l with _ | ⟨u2, t2, l2⟩; rotate_left; have hue := hu _ hE; simp only [Prod.mk.injEq] at hue; obtain ⟨rfl, rfl, rfl⟩ := hue; rotate_left)
    ·refine B4 ?_
     refine sE (A6 rfl) rfl (fun b116 => ?_)
     refine sE (A6 rfl) rfl (fun b117 => ?_)
     refine sS rfl rfl rfl hlu9 hou9 rfl ?_ (hu := by exact C7 hlu9.symm)
     refine A3H ?_
     refine A20 (outs := [.blk bx [.int .i64 _]]) (rC rfl (A3 rfl rfl)) (rC rfl (A3 rfl rfl)) (rT rfl) (A0.cons zP A0.nil) ?_
     (exact ElP.no (B6f (B0a zZ hml hE)) (S9 _) (L5 _ ⟨by omega, by omega⟩) zZ (by rw [hck]; omega))
    ·refine B4 ?_
     refine sE (A6 rfl) rfl (fun b153 => ?_)
     refine sE (A6 rfl) rfl (fun b154 => ?_)
     refine sS rfl rfl rfl hlu9 hou9 rfl ?_ (hu := by exact C7 hlu9.symm)
     refine M8 ?_
     refine D3 D4 rfl ?_
     refine I9 (i := 0) (l' := [tt,ff,ff,ff,ff,ff,ff,ff,ff,ff,ff,ff]) rfl C8 (C3 rfl) rfl zX rfl rfl ?_
     refine aL 1 rfl (E9 rfl rfl) rfl ?_
     refine aL 2 rfl (A3 rfl rfl) rfl ?_
     refine aP 5 rfl (qM rfl) rfl ?_
     refine aL 6 rfl (A3 rfl rfl) rfl ?_
     refine P2 (j := 3) (j' := 7) zX ?_ ?_
     ·(refine D2 rfl (D1 rfl rfl rfl zZ zU rfl) rfl rfl ?_; rintro _ ⟨b177, rfl⟩)
      refine P2 (j := 4) (j' := 7) zX ?_ ?_
      ·(refine O8 rfl rfl rfl rfl rfl rfl (fun _ _ => by repeat (first | exact Sw.here | apply Sw.there)) (J7 zS) rfl (fun u hu => List.all_eq_true.1 hou9 u hu) zU zZ rfl rfl zC (fun pn' cn' => ?_))
       refine aP 9 rfl (C3 rfl) rfl ?_
       refine A2 7 ?_
       (refine D2 rfl (D1 rfl rfl rfl zZ zU rfl) rfl rfl ?_; rintro _ ⟨b182, rfl⟩)
       refine A2 8 ?_
       (refine O8 rfl rfl rfl rfl rfl rfl (fun _ _ => by repeat (first | exact Sw.here | apply Sw.there)) (J7 zS) rfl zT zU zZ rfl rfl zC (fun pm' cm' => ?_))
       refine A2 10 ?_
       refine oS rfl rfl rfl rfl rfl rfl rfl rfl ?_
       refine aP 11 rfl (qA rfl) rfl ?_
       refine B4 ?_
       refine sP (J9 rfl rfl zZ zZ) rfl rfl ?_
       refine A4 ?_
       refine J6 (i + 1, (pn', cn', us ++ [u2], es' ++ [[v1, v2, v3, v4, v5, v6, v7, v8, v9]]), (pm', cm', ts ++ [t2], ess ++ [[.int .i64 t2.k, .slice p3 t2.ks.length c3]]), l2, G3) ?_ ?_ ?_
       ·(simp only [I6]; exact F9)
       ·(dsimp only; exact ⟨by omega, hle.trans hle3, by simp [hlu], F8.snoc (hst.mono hle3) hru, by simp [hlt], D8.snoc (hstt.mono hle3) hrt, A3P hat (A4L ((A5L ks[i] (d + 1) _ l (hvk i zZ) hcvX).1 _ _ _ hE).2), A5N zZ hml hE, by omega, by omega⟩)
       ·(show ks.length - (i + 1) < ks.length - i; omega)
      ·(refine D2 rfl (D1 rfl rfl rfl zZ zU rfl) rfl rfl ?_; rintro _ ⟨b199, rfl⟩)
       refine A2 4 ?_
       (refine O8 rfl rfl rfl rfl rfl rfl (fun _ _ => by repeat (first | exact Sw.here | apply Sw.there)) (J7 zS) rfl (fun u hu => List.all_eq_true.1 hou9 u hu) zU zZ rfl rfl zC (fun pn' cn' => ?_))
       refine aP 9 rfl (C3 rfl) rfl ?_
       refine A2 8 ?_
       (refine O8 rfl rfl rfl rfl rfl rfl (fun _ _ => by repeat (first | exact Sw.here | apply Sw.there)) (J7 zS) rfl zT zU zZ rfl rfl zC (fun pm' cm' => ?_))
       refine A2 10 ?_
       refine oS rfl rfl rfl rfl rfl rfl rfl rfl ?_
       refine aP 11 rfl (qA rfl) rfl ?_
       refine B4 ?_
       refine sP (J9 rfl rfl zZ zZ) rfl rfl ?_
       refine A4 ?_
       refine J6 (i + 1, (pn', cn', us ++ [u2], es' ++ [[v1, v2, v3, v4, v5, v6, v7, v8, v9]]), (pm', cm', ts ++ [t2], ess ++ [[.int .i64 t2.k, .slice p3 t2.ks.length c3]]), l2, G3) ?_ ?_ ?_
       ·(simp only [I6]; exact F9)
       ·(dsimp only; exact ⟨by omega, hle.trans hle3, by simp [hlu], F8.snoc (hst.mono hle3) hru, by simp [hlt], D8.snoc (hstt.mono hle3) hrt, A3P hat (A4L ((A5L ks[i] (d + 1) _ l (hvk i zZ) hcvX).1 _ _ _ hE).2), A5N zZ hml hE, by omega, by omega⟩)
       ·(show ks.length - (i + 1) < ks.length - i; omega)
     ·(refine D2 rfl (D1 rfl rfl rfl zZ zU rfl) rfl rfl ?_; rintro _ ⟨b219, rfl⟩)
      refine A2 3 ?_
      (refine D2 rfl (D1 rfl rfl rfl zZ zU rfl) rfl rfl ?_; rintro _ ⟨b221, rfl⟩)
      refine A2 4 ?_
      (refine O8 rfl rfl rfl rfl rfl rfl (fun _ _ => by repeat (first | exact Sw.here | apply Sw.there)) (J7 zS) rfl (fun u hu => List.all_eq_true.1 hou9 u hu) zU zZ rfl rfl zC (fun pn' cn' => ?_))
      refine aP 9 rfl (C3 rfl) rfl ?_
      refine A2 8 ?_
      (refine O8 rfl rfl rfl rfl rfl rfl (fun _ _ => by repeat (first | exact Sw.here | apply Sw.there)) (J7 zS) rfl zT zU zZ rfl rfl zC (fun pm' cm' => ?_))
      refine A2 10 ?_
      refine oS rfl rfl rfl rfl rfl rfl rfl rfl ?_
      refine aP 11 rfl (qA rfl) rfl ?_
      refine B4 ?_
      refine sP (J9 rfl rfl zZ zZ) rfl rfl ?_
      refine A4 ?_
      refine J6 (i + 1, (pn', cn', us ++ [u2], es' ++ [[v1, v2, v3, v4, v5, v6, v7, v8, v9]]), (pm', cm', ts ++ [t2], ess ++ [[.int .i64 t2.k, .slice p3 t2.ks.length c3]]), l2, G3) ?_ ?_ ?_
      ·(simp only [I6]; exact F9)
      ·(dsimp only; exact ⟨by omega, hle.trans hle3, by simp [hlu], F8.snoc (hst.mono hle3) hru, by simp [hlt], D8.snoc (hstt.mono hle3) hrt, A3P hat (A4L ((A5L ks[i] (d + 1) _ l (hvk i zZ) hcvX).1 _ _ _ hE).2), A5N zZ hml hE, by omega, by omega⟩)
      ·(show ks.length - (i + 1) < ks.length - i; omega)
   ·refine M8 ?_
    (obtain rfl : i = ks.length := zZ; have hk14 : k ≠ 14 := hv2; rw [List.take_length] at hml hl2; refine W9 (cs := ess.flatten) zP (fun G3 hle3 hsl3 hno3 => ?_); have hst3 := hstt.mono hle3; have hslU : D6 G3 pm ks.length cm 2 ess := D6.of hsl3 (by rw [hst3.len, hlt]) hst3.all (fun e he => (hst3.each e he).2); refine F4 rfl (B4S cx k nm num (.mk tk tks) (.mk fk fks) lb ks ts G3 pc nc cc _ pm ks.length cm ess (hx.mono hle3) har hlt.symm hk14 hta (hr0.mono hle3) hslU hst3 hat) rfl rfl (fun v G4 hle4 hh => ?_); obtain ⟨pw, nw, cw, ew, w, wc, wt, rfl, hnw, hslw, hstw, hrt, hw⟩ := hh; obtain ⟨p3, c3, e3, rfl, _⟩ := hrt.open; replace hst3 := hst3.mono hle4; replace hslU := hslU.mono hle4; have hle34 := hle3.trans hle4; replace hst := hst.mono hle34; replace hty := hty.mono hle34; replace hfr := hfr.mono hle34; rcases hmw : P9 cx k nm (Ty.mk tk tks) ts with _ | ⟨w2, t2⟩; rotate_left; have hwe := hw _ hmw; simp only [Prod.mk.injEq] at hwe; obtain ⟨rfl, rfl⟩ := hwe; have hwl := B4T (by rw [hlt]; exact hop) hkr hk14 hmw; have hcl2 := A2X us ts w2 l; rcases Nat.eq_zero_or_pos ks.length with h0 | h0; rotate_left; rotate_left)
    ·refine B4 ?_
     refine sE (A6 rfl) rfl (fun b260 => ?_)
     refine A48 ?_
     (refine J0 (cs := es'.flatten) zP (fun G8 hle8 hsl8 hno8 => ?_); have hst8 := hst.mono hle8)
     refine A4 ?_
     refine A20 (outs := [.blk bx [.int .i64 _]]) (rC rfl (A3 rfl rfl)) (rC rfl (A3 rfl rfl)) (rT rfl) (A0.cons zP A0.nil) ?_
     (exact ElP.no (A7B hml (B4V hmw)) (S9 _) (L5 _ ⟨by omega, by omega⟩) zZ (by rw [hck]; omega))
    ·refine B4 ?_
     refine sE (A6 rfl) rfl (fun b297 => ?_)
     refine O3 ?_
     refine K3 rfl ((A4m _ _ _ hrt)) rfl rfl (fun h310 => ?_) (fun h310 => ?_)
     ·refine I5 ?_
      refine C2 ?_
      (have h0' : ks.length = 0 := h0; refine L4 (fun (_ : Nat) => ⟨[(86, .int .i64 0), (85, .int .i64 nw), (84, .slice pw nw cw), (11, .slice pm ks.length cm), (1, .slice pc nc cc), (0, .pointer (some ⟨bx, 0, none⟩)), (5, .pointer (some ⟨b3, 0, none⟩)), (6, .pointer (some ⟨b4, 0, none⟩)), (7, .pointer (some ⟨b5, 0, none⟩)), (10, .pointer (some ⟨b58, 0, none⟩)), (18, .pointer (some ⟨b297, 0, none⟩))], [.blk b297 [.int .i64 t2.k, .slice p3 t2.ks.length c3], .blk b58 [.int .i64 k, .string nm, .int .i64 num, .int .i64 tk, .slice pt tks.length ct, .int .i64 fk, .slice pf fks.length cf, .int .i64 lb, .slice pn ks.length cn], .slc pn cn 28 9 ks.length es'.flatten, .blk b5 [.int .i64 0, .slice none 0 0], .blk b4 [.int .i64 0, .string ⟨⟨[]⟩⟩, .int .i64 0, .int .i64 0, .slice none 0 0, .int .i64 0, .slice none 0 0, .int .i64 0, .slice none 0 0], .blk b3 [.int .i64 k, .string nm, .int .i64 num, .int .i64 tk, .slice pt tks.length ct, .int .i64 fk, .slice pf fks.length cf, .int .i64 lb, .slice q ks.length cq], .blk bx [.int .i64 l]], G4⟩) (fun _ => True) (fun i => i) 0 ?_ ?_ ?_)
      ·exact F9
      ·trivial
      ·(rintro (i0 : Nat) _)
       refine A4 ?_
       refine sP (A1J rfl rfl zZ) rfl rfl ?_
       refine M8 ?_
       refine sP (D0 rfl rfl zZ) rfl rfl ?_
       refine A9 ?_
       refine D3 D4 rfl ?_
       refine I7 (i := 0) (l' := [tt,ff,ff,ff,ff]) rfl C8 (A3 rfl rfl) rfl zX rfl rfl ?_
       refine aL 1 rfl (A3 rfl rfl) rfl ?_
       refine A2 2 ?_
       refine oS rfl rfl rfl rfl rfl rfl rfl rfl ?_
       refine A2 3 ?_
       refine oS rfl rfl rfl rfl rfl rfl rfl rfl ?_
       refine aP 4 rfl (qA rfl) rfl ?_
       refine A4 ?_
       (refine J0 (cs := es'.flatten) zP (fun G8 hle8 hsl8 hno8 => ?_); have hst8 := hst.mono hle8)
       refine tT ?_
       refine A20 (outs := [.blk bx [.int .i64 _]]) (rC rfl (A3 rfl rfl)) (rC rfl (A3 rfl rfl)) (rT rfl) (A0.cons zP A0.nil) ?_
       (obtain rfl : w2 = [] := List.length_eq_zero_iff.1 zZ; have hne : k ≠ 13 := (fun h => by have := hop.2.2 (.inr (.inr (.inr h))); omega); have hel := B0Q (num := num) (fr := .mk fk fks) (lb := lb) hml (A4F hmw (b := true) zW) hne; rw [A0l] at hel; exact ElP.yes hel (B8.put hk hnum hlb (hty.mono hle8) (hfr.mono hle8) (by rw [hlu]) (D6.of hsl8 (by rw [hst8.len, hlu]) hst8.all (fun e he => (hst8.each e he).2)) hst8) (hrt.mono hle8) zZ (by rw [hck]; omega))
     ·refine M8 ?_
      (refine J0 (cs := es'.flatten) zP (fun G8 hle8 hsl8 hno8 => ?_); have hst8 := hst.mono hle8)
      refine A4 ?_
      refine A20 (outs := [.blk bx [.int .i64 _]]) (rC rfl (A3 rfl rfl)) (rC rfl (A3 rfl rfl)) (rT rfl) (A0.cons zP A0.nil) ?_
      (exact ElP.no (A7B hml (A4F hmw (b := false) zW)) (S9 _) (L5 _ ⟨by omega, by omega⟩) zZ (by rw [hck]; omega))
    ·(refine A5u (cs := es'.flatten) zP h0 (fun bc C hpe hnc hcm => ?_); subst hpe; refine sQ (qM rfl) rfl ?_)
     refine C1 ?_
     refine sE (A6 rfl) rfl (fun b392 => ?_)
     refine O3 ?_
     refine K3 rfl ((A4m _ _ _ hrt)) rfl rfl (fun h405 => ?_) (fun h405 => ?_)
     ·refine I5 ?_
      refine C2 ?_
      (have h0' := h0; refine L4 (fun (x : Nat × List (List Value) × IM) => ⟨[(86, .int .i64 x.1), (85, .int .i64 nw), (84, .slice pw nw cw), (11, .slice pm ks.length cm), (1, .slice pc nc cc), (0, .pointer (some ⟨bx, 0, none⟩)), (5, .pointer (some ⟨b3, 0, none⟩)), (6, .pointer (some ⟨b4, 0, none⟩)), (7, .pointer (some ⟨b5, 0, none⟩)), (10, .pointer (some ⟨b58, 0, none⟩)), (18, .pointer (some ⟨b392, 0, none⟩))], [.blk b392 [.int .i64 t2.k, .slice p3 t2.ks.length c3], .blk b58 [.int .i64 k, .string nm, .int .i64 num, .int .i64 tk, .slice pt tks.length ct, .int .i64 fk, .slice pf fks.length cf, .int .i64 lb, .slice (some ⟨bc, 0, none⟩) ks.length cn], .blk bc (x.2.1.flatten ++ C), .blk b5 [.int .i64 0, .slice none 0 0], .blk b4 [.int .i64 0, .string ⟨⟨[]⟩⟩, .int .i64 0, .int .i64 0, .slice none 0 0, .int .i64 0, .slice none 0 0, .int .i64 0, .slice none 0 0], .blk b3 [.int .i64 k, .string nm, .int .i64 num, .int .i64 tk, .slice pt tks.length ct, .int .i64 fk, .slice pf fks.length cf, .int .i64 lb, .slice q ks.length cq], .blk bx [.int .i64 (J1 us ts (w2.take x.1) l).2]], x.2.2⟩) (fun x => x.1 ≤ nw ∧ B9 G4 x.2.2 ∧ F8 x.2.2 (J1 us ts (w2.take x.1) l).1 x.2.1) (fun x => nw - x.1) (0, es', G4) ?_ ?_ ?_)
      ·(simp only [List.take_zero, A0l]; exact (I1 zO zJ))
      ·(exact ⟨Nat.zero_le _, B9.refl _, by simp only [List.take_zero, A0l]; exact hst⟩)
      ·(rintro ⟨j, es2, G6⟩ ⟨hj, hle6, hst2⟩; simp only [] at hj hle6 hst2 ⊢; replace hslw := hslw.mono hle6; replace hstw := hstw.mono hle6; replace hslU := hslU.mono hle6; replace hst3 := hst3.mono hle6; replace hty := hty.mono hle6; replace hfr := hfr.mono hle6; replace hrt := hrt.mono hle6; have hall2 := hst2.all; have hle2s := hst2.len; rw [A3W] at hle2s)
       refine A4 ?_
       refine sB (N0 rfl rfl) rfl rfl (fun h428 => ?_) (fun h428 => ?_)
       ·refine B0 ?_
        refine C2 ?_
        refine C1 ?_
        (have hjw : j < w2.length := zZ; obtain ⟨b5w, o5w, q5, d5, hp5, hat, hrw, hgb⟩ := hslw.kidTy hstw (i := j) zZ zZ; cases hp5; refine sP (B6 rfl rfl rfl zZ) rfl rfl ?_)
        refine sL (A5 rfl rfl (hat _) rfl) rfl rfl ?_
        refine sE (A6 rfl) rfl (fun b442 => ?_)
        refine B4 ?_
        (have hjw2 := hjw; obtain ⟨b0, o0, q0, d0, hp0, hat0, hre0, hg0⟩ := hslU.kidTy hst3 (i := j) zZ zZ; cases hp0; obtain ⟨m1, m2, _⟩ := A5O us ts w2 l j hjw zZ zZ; obtain ⟨m3, m4⟩ := B47 (us := us) (h := ts) (w := w2) (l := l) hjw zZ zZ; obtain ⟨hE1, hE2⟩ := hst2.at2 (i := j) zZ zZ; rw [m2] at hE2; have hE3 := hE2.len; have hE4 := hE2.one; have hcj := A2X us ts (w2.take j) l; refine D3 D4 rfl ?_)
        refine I9 (i := 0) (l' := [tt,ff,ff,ff,ff,ff,ff,ff,ff,ff,ff,ff,ff,ff,ff,ff,ff]) rfl C8 (C3 rfl) rfl zX rfl rfl ?_
        refine aL 1 rfl (E9 rfl rfl) rfl ?_
        refine aP 2 rfl (qM rfl) rfl ?_
        refine aP 3 rfl (qM rfl) rfl ?_
        refine aP 4 rfl (C3 rfl) rfl ?_
        refine aL 5 rfl (E9 rfl rfl) rfl ?_
        refine aP 6 rfl (qM rfl) rfl ?_
        refine aP 7 rfl (B6 (j := j) rfl rfl rfl zZ) rfl ?_
        refine aL 8 rfl (A5 rfl rfl (A9z (es := es2) zS zZ hall2) hE3) rfl ?_
        refine aP 9 rfl (qM rfl) rfl ?_
        refine aP 10 rfl (qM rfl) rfl ?_
        refine aP 11 rfl (B6 (j := j) rfl rfl rfl zZ) rfl ?_
        refine aL 12 rfl (A5 rfl rfl (hat0 _) rfl) rfl ?_
        refine aL 13 rfl (A3 rfl rfl) rfl ?_
        refine A2 14 ?_
        (refine A0y (l' := [tt,tt,tt,tt,tt,tt,tt,tt,tt,tt,tt,tt,tt,tt,tt,ff,ff]) rfl rfl (B6e bx us[j] ts[j] w2[j] (J1 us ts (w2.take j) l).2 G6 _ _ _ zZ hE2 hre0 hrw) (Pk.perm zP) rfl rfl rfl zC (fun v G7 outs hle7 hh => ?_); obtain ⟨uc, rfl, rfl, hru⟩ := hh; rw [← m4]; have hlu9 := hru.len; have hou9 := hru.one)
        refine aP 15 rfl (B6 (j := j) rfl rfl rfl zZ) rfl ?_
        refine A2 16 ?_
        refine T3 rfl rfl rfl rfl hlu9 hou9 rfl rfl zX zR (by exact A5v zZ hall2 hlu9) ?_
        refine B4 ?_
        refine sP (J9 rfl rfl zZ zZ) rfl rfl ?_
        refine A4 ?_
        refine J6 (j + 1, es2.set j uc, G7) ?_ ?_ ?_
        ·(simp only [List.take_zero, A0l]; exact (I1 zO zJ))
        ·(dsimp only; exact ⟨by omega, hle6.trans hle7, by rw [m3]; exact F8.set (hst2.mono hle7) hru⟩)
        ·(show nw - (j + 1) < nw - j; omega)
       ·refine M8 ?_
        refine sB (qE rfl rfl) rfl rfl (fun h492 => ?_) (fun h492 => ?_)
        ·refine B4 ?_
         (have hq13 : k = 13 := zZ; have hl13 := hop.2.2 (.inr (.inr (.inr hq13))); have hjw : j = w2.length := zZ; rw [hjw, List.take_length] at hst2; have hm0 := A3W us ts w2 l; obtain ⟨hE1, hE2⟩ := hst2.at2 (i := 0) zZ zZ; have hE3 := hE2.len; have hE4 := hE2.one; refine D3 D4 rfl ?_)
         refine I9 (i := 0) (l' := [tt,ff,ff,ff,ff,ff,ff,ff]) rfl C8 (C3 rfl) rfl zX rfl rfl ?_
         refine aL 1 rfl (E9 rfl rfl) rfl ?_
         refine aP 2 rfl (B6 (j := 0) rfl rfl rfl zZ) rfl ?_
         refine aL 3 rfl (A5 rfl rfl (A9z (es := es2) zS zZ hall2) hE3) rfl ?_
         refine aL 4 rfl (A3 rfl rfl) rfl ?_
         refine A2 5 ?_
         refine oS rfl rfl rfl rfl hE3 hE4 rfl rfl ?_ (hu := by exact C7 hE3.symm)
         refine A2 6 ?_
         refine oS rfl rfl rfl rfl rfl rfl rfl rfl ?_
         refine aP 7 rfl (qA rfl) rfl ?_
         refine A4 ?_
         (refine A6s (bs := [(bc, es2.flatten ++ C)]) (Pk.perm zP) (fun hn9 hd9 hle9 => ?_))
         refine A4 ?_
         refine A20 (outs := [.blk bx [.int .i64 _]]) (rC rfl (A5 rfl rfl (B7 zS) hE3)) (rC rfl (A3 rfl rfl)) (rT rfl) (A0.cons zP A0.nil) ?_
         (have hel := B6g (num := num) (fr := .mk fk fks) (lb := lb) hml (A4F hmw (b := true) zW) hq13; rw [B6h zZ] at hel; rw [hjw, List.take_length]; exact ElP.yes hel (hE2.mono hle9) (hrt.mono hle9) zZ (by rw [hck]; omega))
        ·refine A9 ?_
         refine D3 D4 rfl ?_
         refine I7 (i := 0) (l' := [tt,ff,ff,ff,ff]) rfl C8 (A3 rfl rfl) rfl zX rfl rfl ?_
         refine aL 1 rfl (A3 rfl rfl) rfl ?_
         refine A2 2 ?_
         refine oS rfl rfl rfl rfl rfl rfl rfl rfl ?_
         refine A2 3 ?_
         refine oS rfl rfl rfl rfl rfl rfl rfl rfl ?_
         refine aP 4 rfl (qA rfl) rfl ?_
         refine A4 ?_
         (refine A6s (bs := [(bc, es2.flatten ++ C)]) (Pk.perm zP) (fun hn9 hd9 hle9 => ?_))
         refine tT ?_
         refine A20 (outs := [.blk bx [.int .i64 _]]) (rC rfl (A3 rfl rfl)) (rC rfl (A3 rfl rfl)) (rT rfl) (A0.cons zP A0.nil) ?_
         (have hjw : j = w2.length := zZ; rw [hjw, List.take_length] at hst2; have hst9 := hst2.mono hle9; have hel := B0Q (num := num) (fr := .mk fk fks) (lb := lb) hml (A4F hmw (b := true) zW) (show k ≠ 13 by omega); rw [hjw, List.take_length]; have hm0 := A3W us ts w2 l; exact ElP.yes hel (B8.put hk hnum hlb (hty.mono hle9) (hfr.mono hle9) (by rw [hm0, hlu]) (D6.of (Sl.of_blk (A := []) (by rw [A1L hst9.all, hst9.len, hm0, hlu]) zZ hcm (Wi.in hn9 List.mem_cons_self)) (by rw [hst9.len, hm0, hlu]) hst9.all (fun e he => (hst9.each e he).2)) hst9) (hrt.mono hle9) zZ (by rw [hck]; omega))
     ·refine N7 ?_
      refine A20 (outs := [.blk bx [.int .i64 _]]) (rC rfl (A3 rfl rfl)) (rC rfl (A3 rfl rfl)) (rT rfl) (A0.cons zP A0.nil) ?_
      (exact ElP.no (A7B hml (A4F hmw (b := false) zW)) (S9 _) (L5 _ ⟨by omega, by omega⟩) zZ (by rw [hck]; omega))
def A21 (r : Option (Tm × Ty)) : IM → Value → List A7 → Prop := M5 fun G' v => ∃ cu ct, v = .tuple ⟨[.agg ⟨cu⟩, .agg ⟨ct⟩, .bool r.isSome]⟩ ∧ B8 G' (r.getD (K4, B3)).1 cu ∧ C6 G' (r.getD (K4, B3)).2 ct
theorem A21.no {G : IM} {r : Option (Tm × Ty)} {cu ct : List Value} (h : r = none) (hu : B8 G K4 cu) (ht : C6 G B3 ct) : A21 r G (.tuple ⟨[.agg ⟨cu⟩, .agg ⟨ct⟩, .bool false]⟩) [] := by subst h; exact ⟨rfl, cu, ct, rfl, hu, ht⟩
theorem A21.yes {G : IM} {r : Option (Tm × Ty)} {u : Tm} {t : Ty} {cu ct : List Value} (h : r = some (u, t)) (hu : B8 G u cu) (ht : C6 G t ct) : A21 r G (.tuple ⟨[.agg ⟨cu⟩, .agg ⟨ct⟩, .bool true]⟩) [] := by subst h; exact ⟨rfl, cu, ct, rfl, hu, ht⟩
theorem B0S {e : Tm} (h : N8 e = false) : Z6 e = none := by unfold Z6; rw [if_neg (by rw [h]; decide)]
theorem A7C {e : Tm} (h : N8 e = true) (h2 : Q5 [] e 0 = none) : Z6 e = none := by unfold Z6; rw [if_pos h, h2]
theorem A7D {e u : Tm} {t : Ty} {l : Int} (h : N8 e = true) (h2 : Q5 [] e 0 = some (u, t, l)) : Z6 e = some (u, t) := by unfold Z6; rw [if_pos h, h2]
theorem B6i (e : Tm) (G : IM) (cells : List Value) (hr : B8 G e cells) : Fn Tryz.prog 32 [.agg ⟨cells⟩] [] G (A21 (Z6 e)) := by
 have hRl := hr.len
 have hRo := hr.one
 have hV := A5m e G cells hr
 have hno := @B0S e
 have hnn := @A7C e
 have hso := @A7D e
 refine C0 Tryz.func32 rfl Tryz.ntmps32 Tryz.results32 rfl ?_
 intro w0
 refine A4 ?_
 refine sE (B5 rfl rfl) rfl (fun b3 => ?_)
 refine sE (A6 rfl) rfl (fun b4 => ?_)
 refine sE (A6 rfl) rfl (fun b5 => ?_)
 refine A9 ?_
 refine sL (A5 rfl rfl (B7 zS) hRl) rfl rfl ?_
 refine K3 rfl (hV) rfl rfl (fun h13 => ?_) (fun h13 => ?_)
 refine E8 ?_
 refine sE (B5 rfl rfl) rfl (fun b23 => ?_)
 refine sL (A5 rfl rfl (B7 zS) hRl) rfl rfl ?_
 focus (have htv : N8 e = true := zW; obtain ⟨hsh, hcn⟩ := (U1 e).1 htv; refine K9 rfl (B0R _ e 1 [] 0 G none 0 0 _ hsh zZ A4H (W1.nil G) hr zZ zZ) (Pk.perm zP) rfl rfl (fun v G1 outs hle1 hh => ?_); obtain ⟨u, uc, t, tc, l3, rfl, rfl, hru, hrt, hl3, hl4, hu⟩ := hh; have hul := hru.len; have huo := hru.one; obtain ⟨p3, c3, e3, rfl, _⟩ := hrt.open; have hnn := hnn htv; have hso := @hso u t l3 htv; rcases hE : Q5 [] e 0 with _ | ⟨u2, t2, l2⟩; rotate_left; have hue := hu _ hE; simp only [Prod.mk.injEq] at hue; obtain ⟨rfl, rfl, rfl⟩ := hue; have hso := hso hE; obtain ⟨hg1, hg2, hg3⟩ := A7y hso; rotate_left; simp only [Option.isSome]; rotate_left; simp only [Option.isSome])
 refine B4 ?_
 refine sE (A6 rfl) rfl (fun b30 => ?_)
 refine sE (A6 rfl) rfl (fun b31 => ?_)
 refine sS rfl rfl rfl hul huo rfl ?_ (hu := by exact C7 hul.symm)
 refine I5 ?_
 refine D3 D4 rfl ?_
 refine I7 (i := 0) (l' := [tt,ff,ff,ff,ff,ff,ff]) rfl C8 (A5 rfl rfl (B7 zS) hul) rfl zX rfl rfl ?_
 refine aL 2 rfl (A3 rfl rfl) rfl ?_
 refine A2 1 ?_
 (refine H0 rfl rfl (A5s _ _ _ (A7s hg1) hru) rfl rfl rfl (fun v G2 hle2 hh => ?_); obtain ⟨cs2, F2, rfl, hs2, hn2⟩ := hh; have hwl := hs2.R.len; have hwo := hs2.R.one; have hr2 := hs2.R.mono (D9.le G2 G1); replace hrt := hrt.mono hle2)
 refine A2 3 ?_
 (refine H0 rfl rfl (A2M _ _ _ (A4L hg3).small hrt) rfl rfl rfl (fun v G3 hle3 hh => ?_); obtain ⟨cs3, F3, rfl, hs3, hn3⟩ := hh; obtain ⟨p4, c4, rfl, _⟩ := hs3.open; have hr3 := hs3.R.mono (D9.le G3 G2); replace hr2 := hr2.mono hle3)
 refine A2 4 ?_
 refine oS rfl rfl rfl rfl hwl hwo rfl rfl ?_ (hu := by exact C7 hwl.symm)
 refine A2 5 ?_
 refine oS rfl rfl rfl rfl rfl rfl rfl rfl ?_
 refine aP 6 rfl (qA rfl) rfl ?_
 refine C1 ?_
 refine F0 (rC rfl (A5 rfl rfl (B7 zS) hwl)) (rC rfl (A3 rfl rfl)) (rT rfl) ?_
 (exact A21.yes hso hr2 hr3)
 refine B4 ?_
 refine sE (A6 rfl) rfl (fun b69 => ?_)
 refine sE (A6 rfl) rfl (fun b70 => ?_)
 refine sS rfl rfl rfl hul huo rfl ?_ (hu := by exact C7 hul.symm)
 refine A1K ?_
 refine F0 (rC rfl (A3 rfl rfl)) (rC rfl (A3 rfl rfl)) (rT rfl) ?_
 (exact A21.no (hnn hE) (S9 _) (L5 _ ⟨by omega, by omega⟩))
 refine I5 ?_
 refine F0 (rC rfl (A3 rfl rfl)) (rC rfl (A3 rfl rfl)) (rT rfl) ?_
 (exact A21.no (hno zW) (S9 _) (L5 _ ⟨by omega, by omega⟩))
def W2 (e : Tm) : Option Ty := match Z6 e with | some (_, t) => some t | none => none
theorem B6j (e : Tm) (G : IM) (cells : List Value) (htv : N8 e = true) (hr : B8 G e cells) : Fn Tryz.prog 82 [.slice none 0 0, .agg ⟨cells⟩] [] G (A0k (W2 e) G) := by
 have hRl := hr.len
 have hRo := hr.one
 have hnn := @A7C e htv
 have hso := fun u t l => @A7D e u t l htv
 obtain ⟨hsh, hcn⟩ := (U1 e).1 htv
 refine C0 Tryz.func82 rfl Tryz.ntmps82 Tryz.results82 rfl ?_
 intro w0
 refine A4 ?_
 refine sE (B5 rfl rfl) rfl (fun b3 => ?_)
 refine sE (A6 rfl) rfl (fun b4 => ?_)
 refine A9 ?_
 refine sE (B5 rfl rfl) rfl (fun b11 => ?_)
 refine E0 ?_
 refine sL (A5 rfl rfl (B7 zS) hRl) rfl rfl ?_
 focus (refine K9 rfl (B0R _ e 1 [] 0 G none 0 0 _ hsh zZ A4H (W1.nil G) hr zZ zZ) (Pk.perm zP) rfl rfl (fun v G1 outs hle1 hh => ?_); obtain ⟨u, uc, t, tc, l3, rfl, rfl, hru, hrt, hl3, hl4, hu⟩ := hh; have hul := hru.len; have huo := hru.one; obtain ⟨p3, c3, e3, rfl, _⟩ := hrt.open; have hso := hso u t l3; rcases hE : Q5 [] e 0 with _ | ⟨u2, t2, l2⟩; rotate_left; have hue := hu _ hE; simp only [Prod.mk.injEq] at hue; obtain ⟨rfl, rfl, rfl⟩ := hue; have hso := hso hE; rotate_left; simp only [Option.isSome]; rotate_left; simp only [Option.isSome])
 refine B4 ?_
 refine sE (A6 rfl) rfl (fun b19 => ?_)
 refine sE (A6 rfl) rfl (fun b20 => ?_)
 refine sS rfl rfl rfl hul huo rfl ?_ (hu := by exact C7 hul.symm)
 refine O5 ?_
 refine H2 (rC rfl (A3 rfl rfl)) (rT rfl) ?_
 (exact A0k.yes hrt rfl (by unfold W2; rw [hso]))
 refine B4 ?_
 refine sE (A6 rfl) rfl (fun b41 => ?_)
 refine sE (A6 rfl) rfl (fun b42 => ?_)
 refine sS rfl rfl rfl hul huo rfl ?_ (hu := by exact C7 hul.symm)
 refine O5 ?_
 refine H2 (rC rfl (A3 rfl rfl)) (rT rfl) ?_
 (exact A0k.no hrt rfl (by unfold W2; rw [hnn hE]))
theorem B6k (fid : FuncId) (us cs : List Value) (G : IM) : Fn Tryz.prog 139 [.slice none 0 0, .func (.func fid) ⟨us⟩ ⟨cs⟩] [] G (K5 (.int .i64 (-1)) G) := by
 refine C0 Tryz.func139 rfl Tryz.ntmps139 Tryz.results139 rfl ?_
 intro w0
 refine O5 ?_
 refine C2 ?_
 refine L4 (fun (_ : Nat) => ⟨[(8, .int .i64 0), (7, .int .i64 0)], [], G⟩) (fun _ => True) (fun i => i) 0 ?_ ?_ ?_
 ·exact F9
 ·trivial
 ·(rintro (i0 : Nat) _)
  refine A4 ?_
  refine sP (A1J rfl rfl zZ) rfl rfl ?_
  refine N7 ?_
  trivial
theorem B6l (fid : FuncId) (us cs : List Value) (G : IM) : Fn Tryz.prog 118 [.slice none 0 0, .func (.func fid) ⟨us⟩ ⟨cs⟩] [] G (K5 (.bool false) G) := by
 refine C0 Tryz.func118 rfl Tryz.ntmps118 Tryz.results118 rfl ?_
 intro w0
 refine E8 ?_
 refine H1 rfl (B6k fid us cs G) rfl rfl ?_
 refine sP (B2u rfl rfl zZ) rfl rfl ?_
 refine A8 ?_
 (exact ⟨rfl, rfl, rfl⟩)
theorem B6m (G : IM) : Fn Tryz.prog 81 [.slice none 0 0] [] G (K5 (.bool true) G) := by
 refine C0 Tryz.func81 rfl Tryz.ntmps81 Tryz.results81 rfl ?_
 intro w0
 refine E8 ?_
 refine sP (A8d rfl rfl zZ) rfl rfl ?_
 refine A4 ?_
 refine H1 rfl ((B6l _ _ _ _)) rfl rfl ?_
 refine B0 ?_
 (exact ⟨rfl, rfl, rfl⟩)
theorem B0T {e : Tm} (h : N8 e = false) : W2 e = none := by unfold W2; rw [B0S h]
theorem B6n {e : Tm} {t : Ty} (h : W2 e = some t) : H7 t = true := by
 unfold W2 at h
 split at h
 ·rename_i u t' hi; cases h; exact (A7y hi).2.2
 ·cases h
theorem B6o (e : Tm) (G : IM) (cells : List Value) (hr : B8 G e cells) : Fn Tryz.prog 46 [.slice none 0 0, .agg ⟨cells⟩] [] G (A0k (W2 e) G) := by
 have hRl := hr.len
 have hRo := hr.one
 refine C0 Tryz.func46 rfl Tryz.ntmps46 Tryz.results46 rfl ?_
 intro w0
 refine A4 ?_
 refine sE (B5 rfl rfl) rfl (fun b3 => ?_)
 refine sE (A6 rfl) rfl (fun b4 => ?_)
 refine B0 ?_
 refine H1 rfl ((B6m _)) rfl rfl ?_
 refine A4 ?_
 refine sL (A5 rfl rfl (B7 zS) hRl) rfl rfl ?_
 refine K3 rfl ((A5m e _ _ hr)) rfl rfl (fun h16 => ?_) (fun h16 => ?_)
 refine J4 ?_
 refine sL (A5 rfl rfl (B7 zS) hRl) rfl rfl ?_
 focus (refine F4 rfl (B6j e G cells zW hr) rfl rfl (fun v G1 hle1 hh => ?_); obtain ⟨cu, u, rfl, hru, hu⟩ := hh; obtain ⟨p1, c1, e1, rfl, _⟩ := hru.open; rcases hct : W2 e with _ | u2; rotate_left; obtain rfl := hu u2 hct; have hgv := B6n hct; rotate_left; simp only [Option.isSome]; rotate_left; simp only [Option.isSome])
 refine C1 ?_
 refine sE (A6 rfl) rfl (fun b32 => ?_)
 refine U7 ?_
 (refine F4 rfl (A2M _ G1 _ (A4L hgv).small hru) rfl rfl (fun v G2 hle2 hh => ?_); obtain ⟨cs2, F2, rfl, hs2, hn2⟩ := hh; obtain ⟨p2, c2, rfl, _⟩ := hs2.open; have hr2 := hs2.R.mono (D9.le G2 G1))
 refine A8 ?_
 refine H2 (rC rfl (A3 rfl rfl)) (rT rfl) ?_
 (exact A0k.yes hr2 rfl (by first | exact hct | rfl))
 refine C1 ?_
 refine sE (A6 rfl) rfl (fun b61 => ?_)
 refine Y1 ?_
 refine H2 (rC rfl (A3 rfl rfl)) (rT rfl) ?_
 (exact A0k.no (u := B3) (L5 _ ⟨by omega, by omega⟩) rfl (by first | exact hct | rfl))
 refine M8 ?_
 refine H2 (rC rfl (A3 rfl rfl)) (rT rfl) ?_
 (exact A0k.no (u := B3) (L5 _ ⟨by omega, by omega⟩) rfl (B0T zW))
theorem B6p (e : Tm) (G : IM) (cells : List Value) (hr : B8 G e cells) : Fn Tryz.prog 18 [.agg ⟨cells⟩] [] G (A0k (W2 e) G) := by
 have hRl := hr.len
 have hRo := hr.one
 refine C0 Tryz.func18 rfl Tryz.ntmps18 Tryz.results18 rfl ?_
 intro w0
 refine A4 ?_
 refine sE (B5 rfl rfl) rfl (fun b3 => ?_)
 refine sE (A6 rfl) rfl (fun b4 => ?_)
 refine A8 ?_
 refine sL (A5 rfl rfl (B7 zS) hRl) rfl rfl ?_
 (refine F4 rfl (B6o e G cells hr) rfl rfl (fun v G1 hle1 hh => ?_); obtain ⟨cu, u, rfl, hru, hu⟩ := hh; obtain ⟨p1, c1, e1, rfl, _⟩ := hru.open)
 refine B0 ?_
 refine H2 (rC rfl (A3 rfl rfl)) (rT rfl) ?_
 (exact ⟨rfl, _, u, rfl, hru, hu⟩)
def T6 (e : Tm) (fuel : Int) : ByteArray × Int × Int := match Z6 e with
 | none => (⟨⟨[]⟩⟩, 3, 0)
 | some (u, _) => if (U3 u fuel).2.1 = 0 then (A0D (U3 u fuel).1, 0, 0) else (⟨⟨[]⟩⟩, (U3 u fuel).2.1, (U3 u fuel).2.2)
def B6q (r : ByteArray × Int × Int) (G : IM) : IM → Value → List A7 → Prop := M5 fun _ v => v = .tuple ⟨[.string r.1, .int .i64 r.2.1, .int .i64 r.2.2]⟩
theorem A7E {e : Tm} {fuel : Int} (h : Z6 e = none) : T6 e fuel = (⟨⟨[]⟩⟩, 3, 0) := by unfold T6; rw [h]
theorem A4M {e u : Tm} {t : Ty} {fuel : Int} (h : Z6 e = some (u, t)) (h0 : (U3 u fuel).2.1 = 0) : T6 e fuel = (A0D (U3 u fuel).1, 0, 0) := by unfold T6; rw [h]; simp only [h0, if_true]
theorem A4N {e u : Tm} {t : Ty} {fuel : Int} (h : Z6 e = some (u, t)) (h0 : (U3 u fuel).2.1 ≠ 0) : T6 e fuel = (⟨⟨[]⟩⟩, (U3 u fuel).2.1, (U3 u fuel).2.2) := by unfold T6; rw [h]; simp only [if_neg h0]
theorem B0U : ∀ (n : Nat) (e : Tm), (R7 n e).2.1 = 0 → S0 (R7 n e).1 = true ∧ J8 (R7 n e).1 = true ∧ (R7 n e).2.2.1 = 0
 | 0, e, h => by rw [A7t] at h ⊢; exact stepv e h
 | n + 1, e, h => by
  by_cases h1 : (I3 e).2.1 = 1
  ·rw [A7u h1] at h ⊢; exact B0U n _ h
  ·rw [A7v h1] at h ⊢; exact stepv e h
where
 stepv (e : Tm) (h : (I3 e).2.1 = 0) : S0 (I3 e).1 = true ∧ J8 (I3 e).1 = true ∧ (I3 e).2.2 = 0 := by
  cases h1 : S0 e with
  | false => rw [B0v h1] at h; simp at h
  | true =>
   cases h2 : J8 e with
   | true => rw [B0w h1 h2]; exact ⟨h1, h2, rfl⟩
   | false =>
    by_cases h3 : (L3 e).2.1 = 1
    ·cases h4 : S0 (L3 e).1 with
     | false => rw [B0y h1 h2 h3 h4] at h; simp at h
     | true => rw [B0z h1 h2 h3 h4] at h; simp at h
    ·rw [B0x h1 h2 h3] at h
     exact absurd h (stp_ne0 e)
 stp_ne0 : ∀ (e : Tm), (L3 e).2.1 ≠ 0 := by
  refine Tm.ind fun k nm num ty fr lb ks ih => ?_
  rw [L3]
  cases hL : A0c (if k = 9 then 1 else ks.length) ks with
  | none => exact red_ne0 k ty fr lb ks
  | some p =>
   obtain ⟨us, c, l⟩ := p
   have := stpL_ne0 ks ih _ us c l hL
   simp only
   by_cases hc : c = 1
   ·rw [if_pos hc]; simp
   ·rw [if_neg hc]; exact this
 red_ne0 (k : Int) (ty fr : Ty) (lb : Int) (ks : List Tm) : (A03 k ty fr lb ks).2.1 ≠ 0 := by
  unfold A03 Z4
  repeat' split
  all_goals simp
 stpL_ne0 (ks : List Tm) (ih : ∀ t ∈ ks, (L3 t).2.1 ≠ 0) : ∀ (n : Nat) us c l, A0c n ks = some (us, c, l) → c ≠ 0 := by
  induction ks with
  | nil => intro n us c l h; cases n <;> simp [A0c] at h
  | cons t ts iht =>
   intro n us c l h
   cases n with
   | zero => simp [A0c] at h
   | succ n =>
    rw [A5S] at h
    by_cases hv : J8 t = true
    ·rw [if_pos hv] at h
     split at h
     ·rename_i us' c' l' h'
      simp only [Option.some.injEq, Prod.mk.injEq] at h
      obtain ⟨_, rfl, _⟩ := h
      exact iht (fun u hu => ih u (List.mem_cons_of_mem _ hu)) n _ _ _ h'
     ·cases h
    ·rw [if_neg hv] at h
     simp only [Option.some.injEq, Prod.mk.injEq] at h
     obtain ⟨_, rfl, _⟩ := h
     exact ih t List.mem_cons_self
theorem B6r {e : Tm} {fuel : Int} (h : (U3 e fuel).2.1 = 0) : S0 (U3 e fuel).1 = true ∧ J8 (U3 e fuel).1 = true ∧ (U3 e fuel).2.2 = 0 := by
 cases hf : W7 fuel 0 300 with
 | false => rw [B0D hf] at h; simp at h
 | true =>
  by_cases h1 : (R7 fuel.toNat e).2.1 = 1
  ·rw [B0E hf h1] at h; simp at h
  ·rw [B0F hf h1] at h ⊢; exact B0U _ _ h
def B6s (r s : ByteArray × Int × Int) : Int := if r.2.1 = 2 then 2 else if r.2.1 ≠ 0 ∨ s.2.1 = 4 ∨ s.2.1 = 5 then 3 else if s.2.1 = 0 ∧ r.1 = s.1 then 1 else 4
def B8s (a b : Tm) (fuel : Int) : Int := if (W2 a).isSome = true ∧ A3u a b = true ∧ W7 fuel 0 300 = true then B6s (T6 a fuel) (T6 b fuel) else 0
def gxT : GX → ByteArray
 | .n n => B0O n
 | .b b => if b = true then txT else txF
 | .p => A7z
 | .f => A7A
theorem B0V {v : GE} (h : GV v) : A0D v.tm = gxT v.tx := by
 induction h with
 | num => rfl
 | @tru b => cases b <;> rfl
 | lam => rfl
 | pair _ _ _ _ => rfl
 | pf _ _ => rfl
 | pp _ _ => rfl
 | @inj A l e hv hg i =>
  rw [GE.tm, B0P (h0 := by simp)]
  ·exact i
  ·rw [A3Y]
   refine decide_eq_false ?_
   rintro ⟨_, _, h | h⟩ <;> simp [GT.ty, Ty.k] at h
  ·rfl
theorem B0W {fuel : Int} (hf : W7 fuel 0 300 = true) (u : Tm) : U3 u fuel = ((L9 fuel.toNat u).1, (L9 fuel.toNat u).2.1, (L9 fuel.toNat u).2.2.1) := by
 unfold U3
 rw [if_pos (A3Q.1 hf)]
theorem B6t {a b : Tm} {fuel : Int} (hp : A3u a b = true) (hf : W7 fuel 0 300 = true) (h0 : (T6 a fuel).2.1 = 0) :
  ((T6 b fuel).2.1 = 0 ∧ (T6 b fuel).1 = (T6 a fuel).1) ∨ (T6 b fuel).2.1 = 4 ∨ (T6 b fuel).2.1 = 5 := by
 cases hu : Z6 a with
 | none => rw [A7E hu] at h0; cases h0
 | some p =>
  obtain ⟨u, t⟩ := p
  obtain ⟨e, e', A, A', rfl, rfl, h3, hP⟩ := B5q hu hp
  have hv := (A7y h3).1
  by_cases he : (U3 e.tm fuel).2.1 = 0
  ·have hE := B0W hf e.tm
   have hE' := B0W hf e'.tm
   rw [A4M hu he, hE]
   rw [hE] at he
   obtain ⟨w, h1, h2, h4⟩ := B4Q hP he fuel.toNat hv
   rcases h4 with ⟨g, w', g1, g2, g3⟩ | g | g
   ·refine .inl ?_
    rw [A4M h3 (by rw [hE']; exact g), hE']
    refine ⟨rfl, ?_⟩
    show A0D (L9 fuel.toNat e'.tm).1 = A0D (L9 fuel.toNat e.tm).1
    rw [g1, h1, B0V g2, B0V h2, g3]
   ·exact .inr (.inl (by rw [A4N h3 (by rw [hE']; show (L9 fuel.toNat e'.tm).2.1 ≠ 0; omega), hE']; exact g))
   ·exact .inr (.inr (by rw [A4N h3 (by rw [hE']; show (L9 fuel.toNat e'.tm).2.1 ≠ 0; omega), hE']; exact g))
  ·rw [A4N hu he] at h0; exact absurd h0 he
def B8t (e : Tm) : Option (List Tm) := if (W2 e).isSome = true ∧ (I8 e).length ≤ 6 then some (B4e e) else none
def CfP (r : Option (List Tm)) : IM → Value → List A7 → Prop := fun G' v outs => outs = [] ∧ ∃ p c es, v = .tuple ⟨[.slice p (r.getD []).length c, .bool r.isSome]⟩ ∧ D6 G' p (r.getD []).length c 9 es ∧ F8 G' (r.getD []) es
def pAt (t : Tm) (label : Int) (l : List Int) : Bool := match tAt t l with
 | some x => decide (x.k = 14 ∧ x.lb = label)
 | none => false
def A7F (t : Tm) (label : Int) : List Int × Bool := match (B2V t).find? (pAt t label) with
 | some l => (l, true)
 | none => ([], false)
def SP1 (G : IM) (l : List Int) (p : Option Addr) (c : Nat) : Prop := Sl G p l.length c 1 (A5e l) ∧ ∀ b ∈ J5 p, G b ≠ none
def CpP (t : Tm) (label : Int) (G : IM) : IM → Value → List A7 → Prop := M5 fun G' v => ∃ p c, v = .tuple ⟨[.slice p (A7F t label).1.length c, .bool (A7F t label).2]⟩ ∧ SP1 (D9 G' G) (A7F t label).1 p c
def MsP (r : Option (List Int)) (e : A7) (G : IM) : IM → Value → List A7 → Prop := fun G' v outs => outs = [e] ∧ ∃ p c, v = .tuple ⟨[.slice p (r.getD []).length c, .bool r.isSome]⟩ ∧ SP1 (D9 G' G) (r.getD []) p c
def IsP (l : List Int) (b : Bool) (G : IM) : IM → Value → List A7 → Prop := M5 fun G' v => ∃ p c, v = .tuple ⟨[.slice p l.length c, .bool b]⟩ ∧ SP1 (D9 G' G) l p c
theorem B8.nine {G : IM} {t : Tm} {cells : List Value} (h : B8 G t cells) : ∃ v1 v2 v3 v4 v5 v6 v7 v8 v9, cells = [v1, v2, v3, v4, v5, v6, v7, v8, v9] := by
 obtain ⟨_, _, _, _, _, _, _, _, _, rfl, _⟩ := h.open
 exact ⟨_, _, _, _, _, _, _, _, _, rfl⟩
theorem A4O {G : IM} {e : Tm} {ce : List Value} {k : Int} {nm : ByteArray} {tk : Int} {tks : List Ty} {q p : Option Addr} {d c : Nat} (hk : H5 k) (ht : C6 G (.mk tk tks) [.int .i64 tk, .slice q tks.length d]) (h1 : B8 G e ce) (hs : Sl G p 1 c 9 ce) :
  B8 G (.mk k nm 0 (.mk tk tks) B3 0 [e]) [.int .i64 k, .string nm, .int .i64 0, .int .i64 tk, .slice q tks.length d, .int .i64 0, .slice none 0 0, .int .i64 0, .slice p 1 c] := by
 obtain ⟨a1, a2⟩ := B4c h1 hs
 exact B8.of9 (ks := [e]) hk ⟨by omega, by omega⟩ ⟨by omega, by omega⟩ ht (L5 _ ⟨by omega, by omega⟩) a1 a2
theorem A4P {G : IM} {e f : Tm} {ce cf : List Value} {k : Int} {nm : ByteArray} {p : Option Addr} {c : Nat} (hk : H5 k) (h1 : B8 G e ce) (h2 : B8 G f cf) (hs : Sl G p 2 c 9 (ce ++ cf)) :
  B8 G (.mk k nm 0 B3 B3 0 [e, f]) [.int .i64 k, .string nm, .int .i64 0, .int .i64 0, .slice none 0 0, .int .i64 0, .slice none 0 0, .int .i64 0, .slice p 2 c] := by
 have hL : F8 G [e, f] [ce, cf] := by simp only [F8]; exact ⟨ce, [cf], rfl, h1, cf, [], rfl, h2, rfl⟩
 exact B8.of9 (ks := [e, f]) hk ⟨by omega, by omega⟩ ⟨by omega, by omega⟩ (L5 _ ⟨by omega, by omega⟩) (L5 _ ⟨by omega, by omega⟩)
  (D6.of (by simpa using hs) rfl hL.all (fun x hx => by obtain ⟨q, hq⟩ := List.getElem?_of_mem hx; exact (hL.inv hq K4).2.one)) hL
theorem B6u {G : IM} {e f g : Tm} {ce cf cg : List Value} {k : Int} {nm : ByteArray} {p : Option Addr} {c : Nat} (hk : H5 k) (h1 : B8 G e ce) (h2 : B8 G f cf) (h3 : B8 G g cg) (hs : Sl G p 3 c 9 (ce ++ (cf ++ cg))) :
  B8 G (.mk k nm 0 B3 B3 0 [e, f, g]) [.int .i64 k, .string nm, .int .i64 0, .int .i64 0, .slice none 0 0, .int .i64 0, .slice none 0 0, .int .i64 0, .slice p 3 c] := by
 have hL : F8 G [e, f, g] [ce, cf, cg] := by simp only [F8]; exact ⟨ce, [cf, cg], rfl, h1, cf, [cg], rfl, h2, cg, [], rfl, h3, rfl⟩
 exact B8.of9 (ks := [e, f, g]) hk ⟨by omega, by omega⟩ ⟨by omega, by omega⟩ (L5 _ ⟨by omega, by omega⟩) (L5 _ ⟨by omega, by omega⟩)
  (D6.of (by simpa using hs) rfl hL.all (fun x hx => by obtain ⟨q, hq⟩ := List.getElem?_of_mem hx; exact (hL.inv hq K4).2.one)) hL
def mB : Nat → Nat
 | 0 => 200
 | n + 1 => 3 * mB n + 200
theorem A2k (n : Nat) : 200 ≤ mB n := by cases n <;> simp only [mB] <;> omega
def A2l (n : Nat) (depth : Int) (t : Ty) : Prop := T4 4 t ∧ (n : Int) - 1000 ≤ depth ∧ depth ≤ 1000 ∧ ((depth ≤ 1 ∧ T4 n t) ∨ (2 ≤ depth ∧ depth + 3 ≤ n))
theorem A2l.sub {n : Nat} {depth : Int} {t t' : Ty} (h : A2l (n + 1) depth t) (hd : 1 < depth) (h4 : T4 4 t') : A2l n (depth - 1) t' := by
 obtain ⟨h1, h2, h3, h5⟩ := h
 refine ⟨h4, by omega, by omega, ?_⟩
 rcases h5 with ⟨h5, _⟩ | ⟨h5, h6⟩
 ·omega
 ·by_cases h7 : 3 ≤ depth
  ·exact .inr ⟨by omega, by omega⟩
  ·exact .inl ⟨by omega, h4.le zZ⟩
theorem A2l.kid {n : Nat} {depth : Int} {k : Int} {ks : List Ty} {t' : Ty} (h : A2l (n + 1) depth (.mk k ks)) (ht : t' ∈ ks) : A2l n (depth - 1) t' := by
 have h4 : T4 4 t' := (A6K h.1 ht).up
 by_cases hd : 1 < depth
 ·exact h.sub hd h4
 ·obtain ⟨h1, h2, h3, h5⟩ := h
  refine ⟨h4, by omega, by omega, .inl ⟨by omega, ?_⟩⟩
  rcases h5 with ⟨_, h5⟩ | ⟨h5, _⟩
  ·exact A6K h5 ht
  ·omega
theorem A2l.pos {n : Nat} {depth : Int} {k : Int} {ks : List Ty} (h : A2l n depth (.mk k ks)) (hd : 1 < depth ∨ k = 4 ∨ k = 5) : ∃ m, n = m + 1 := by
 cases n with
 | succ m => exact ⟨m, rfl⟩
 | zero =>
  obtain ⟨h1, h2, h3, h5⟩ := h
  rcases h5 with ⟨h5, h6⟩ | ⟨h5, h6⟩
  ·have := h6.2
   omega
  ·omega
theorem S6 : B3.small := by simp [B3, Ty.small, Ty.smallL]
theorem R0 {k : Int} {nm : ByteArray} {num : Int} (h : nm.size ≤ 1) : (Tm.mk k nm num B3 B3 0 []).small := by
 simp only [Tm.small, Tm.smallL]; exact ⟨by omega, S6, S6, by simp, trivial⟩
theorem N5 {k : Int} {nm : ByteArray} {num : Int} {ty : Ty} {a : Tm} (h : nm.size ≤ 1) (ht : ty.small) (ha : a.small) : (Tm.mk k nm num ty B3 0 [a]).small := by
 simp only [Tm.small, Tm.smallL]; exact ⟨by omega, ht, S6, by simp, ha, trivial⟩
theorem V5 {k : Int} {nm : ByteArray} {num : Int} {a b : Tm} (h : nm.size ≤ 1) (ha : a.small) (hb : b.small) : (Tm.mk k nm num B3 B3 0 [a, b]).small := by
 simp only [Tm.small, Tm.smallL]; exact ⟨by omega, S6, S6, by simp, ha, hb, trivial⟩
theorem A05 {k : Int} {nm : ByteArray} {num : Int} {a b c : Tm} (h : nm.size ≤ 1) (ha : a.small) (hb : b.small) (hc : c.small) : (Tm.mk k nm num B3 B3 0 [a, b, c]).small := by
 simp only [Tm.small, Tm.smallL]; exact ⟨by omega, S6, S6, by simp, ha, hb, hc, trivial⟩
theorem A06 : (Ty.mk 1 []).small := by simp [Ty.small, Ty.smallL]
def B0X (br : Nat) (pb : Option Addr) (nb cb : Nat) (bs : List UInt8) (n : Nat) : Prop := ∀ (depth : Int) (t : Ty) (p : Nat) (G : IM) (pc : Option Addr) (nc cc : Nat) (cells : List Value), A2l n depth t → (n : Int) - 1000 ≤ depth → depth ≤ 1000 → nc + n ≤ 40 → GCx G pc nc cc → C6 G t cells → Sl G pb nb cb 1 (R2 bs) → p + mB n < 1099511627776 →
 Fn Tryz.prog 76 [.pointer (some ⟨br, 0, none⟩), .slice pc nc cc, .agg ⟨cells⟩, .int .i64 depth] [rd br pb nb cb p] G
  (A1b br pb nb cb p (mB n) (fun G' v => ∃ e cells, v = .agg ⟨cells⟩ ∧ B8 G' e cells ∧ e.small ∧ E1 e ≤ mB n))
theorem B0Y (br : Nat) (pb : Option Addr) (nb cb : Nat) (bs : List UInt8) (hnb : nb ≤ 2000) (m : Nat) (hM : B0X br pb nb cb bs m) (depth : Int) (a t : Ty) (p : Nat) (G : IM) (pc : Option Addr) (nc cc : Nat) (ca cells : List Value)
  (hfu : A2l m depth t) (hd0 : (m : Int) - 1000 ≤ depth) (hd1 : depth ≤ 1000) (hnc : nc + 1 + m ≤ 40) (hx : GCx G pc nc cc) (hra : C6 G a ca) (haa : I0 a ∧ L8 a ≤ 30) (hrt : C6 G t cells) (hb : Sl G pb nb cb 1 (R2 bs)) (hp : p + 1 + mB m < 1099511627776) :
  Fn Tryz.prog 108 [.pointer (some ⟨br, 0, none⟩), .slice pc nc cc, .agg ⟨ca⟩, .agg ⟨cells⟩, .int .i64 depth] [rd br pb nb cb p] G
   (A1b br pb nb cb p (1 + mB m) (fun G' v => ∃ e cells, v = .agg ⟨cells⟩ ∧ B8 G' e cells ∧ e.small ∧ E1 e ≤ 1 + mB m)) := by
 obtain ⟨ak, aks⟩ := a
 obtain ⟨tk, tks⟩ := t
 obtain ⟨pa, cca, ea, rfl, _⟩ := hra.open
 obtain ⟨pt, cct, et, rfl, _⟩ := hrt.open
 simp only [Ty.k, Ty.ks] at hra hrt ⊢
 refine C0 Tryz.func108 rfl Tryz.ntmps108 Tryz.results108 rfl ?_
 intro w0
 refine A4 ?_
 refine sE (B5 rfl rfl) rfl (fun b3 => ?_)
 refine sE (B5 rfl rfl) rfl (fun b4 => ?_)
 refine sE (A6 rfl) rfl (fun b5 => ?_)
 refine A8 ?_
 (refine J2 (D1 rfl rfl rfl zZ zU rfl) rfl ?_; rintro _ ⟨b11, rfl⟩)
 (refine W9 zP (fun G4 hle4 hsl4 _ => ?_); refine K9 rfl (A6L G4 br pb nb cb p bs _ _ _ _ (hb.mono hle4) hnb zZ hsl4 zY) (Pk.perm zP) rfl rfl (fun v G5 outs hle5 hh => ?_); obtain ⟨rfl, rfl, hv⟩ := hh; obtain ⟨nm, rfl, hnm⟩ : ∃ nm : ByteArray, v = .string nm ∧ nm.size ≤ 1 := (by simp only [List.mem_cons, List.not_mem_nil, or_false] at hv; rcases hv with rfl | rfl | rfl | rfl <;> exact ⟨_, rfl, by decide⟩); replace hra := hra.mono hle4; replace hx := hx.mono hle4; replace hb := hb.mono hle4; replace hrt := hrt.mono hle4;)
 refine B4 ?_
 refine D3 D4 rfl ?_
 refine I9 (i := 0) (l' := [tt,ff,ff,ff,ff,ff,ff,ff,ff,ff,ff,ff,ff,ff]) rfl C8 (qM rfl) rfl zX rfl rfl ?_
 refine aL 1 rfl (A3 rfl rfl) rfl ?_
 refine aP 3 rfl (qM rfl) rfl ?_
 refine aP 4 rfl (qM rfl) rfl ?_
 refine aP 5 rfl (qM rfl) rfl ?_
 refine aL 6 rfl (A3 rfl rfl) rfl ?_
 refine aL 8 rfl (A3 rfl rfl) rfl ?_
 refine aP 9 rfl (qM rfl) rfl ?_
 refine A2 2 ?_
 (refine H0 rfl rfl (Y8 _ _ _ haa.1.small hra) rfl rfl rfl (fun v G6 hle6 hh => ?_); obtain ⟨cs1, F1, rfl, hs1, hn1⟩ := hh; obtain ⟨p1, c1, rfl, _⟩ := hs1.open; have hr1 := hs1.R.mono (D9.le G6 _); replace hra := hra.mono hle6; replace hx := hx.mono hle6; replace hb := hb.mono hle6; replace hrt := hrt.mono hle6;)
 refine A2 7 ?_
 (refine H0 rfl rfl (B36 _ pc nc cc nm (.mk ak aks) _ hx zZ hra haa.1 haa.2 hnm) rfl rfl rfl (fun v G7 hle7 hh => ?_); obtain ⟨pm, cm, rfl, hxm⟩ := hh; replace hr1 := hr1.mono hle7; replace hx := hx.mono hle7; replace hb := hb.mono hle7; replace hrt := hrt.mono hle7; have hcall := hM depth (.mk tk tks) (p + 1) _ pm (nc + 1) cm _ hfu hd0 hd1 zZ hxm hrt hb zZ)
 refine A2 10 ?_
 (refine A0y (l' := [tt,tt,tt,tt,tt,tt,tt,tt,tt,tt,tt,ff,ff,ff]) rfl rfl hcall (Pk.perm zP) rfl rfl rfl zH (fun v G8 outs hle8 hh => ?_); obtain ⟨p8, hp81, hp82, rfl, e8, c8, rfl, hr8, hs8, hc8⟩ := hh; obtain ⟨a1, a2, a3, a4, a5, a6, a7, a8, a9, rfl⟩ := hr8.nine; replace hr1 := hr1.mono hle8)
 refine A2 11 ?_
 (refine D2 rfl (D1 rfl rfl rfl zZ zU rfl) rfl rfl ?_; rintro _ ⟨b33, rfl⟩)
 refine aP 12 rfl (pBd rfl rfl) rfl ?_
 refine A2 13 ?_
 refine T3 rfl rfl rfl rfl rfl rfl rfl rfl zV zR (by rfl) ?_
 refine A4 ?_
 (refine J0 (cs := [a1, a2, a3, a4, a5, a6, a7, a8, a9]) zP (fun G9 hle9 hsl9 hno9 => ?_); have hN := A4O (k := 5) (nm := nm) ⟨by omega, by omega⟩ (hr1.mono hle9) (hr8.mono hle9) hsl9)
 refine tT ?_
 refine H6 (outs := [rd br pb nb cb p8]) (rC rfl (A3 rfl rfl)) zI ?_
 (exact ⟨p8, by omega, by omega, rfl, _, _, rfl, hN, N5 hnm haa.1.small hs8, by simp only [E1, H3]; omega⟩)
structure A4Q {ι : Type} (S : ι → Sy) (φ : ι → Prop) (K : Po) (e : Exit) (σ : Sy) : Prop where
 run : match e with
  | .normal => ∃ i, φ i ∧ Sub σ (S i)
  | e => K e σ
section cut
variable {P : Program} {Γ : M9} {K : Po} {σ : Sy} {ι : Type}
theorem B0Z {c y : Code} (S : ι → Sy) (φ : ι → Prop) (h : K7 P Γ c (A4Q S φ K) σ) (k : ∀ i, φ i → K7 P Γ y K (S i)) : K7 P Γ c (A1F P Γ y K) σ := by
 refine A6b h ?_
 rintro e σ ⟨hk⟩
 cases e with
 | normal => obtain ⟨i, hi, hs⟩ := hk; exact ⟨A70 hs (k i hi)⟩
 | _ => exact ⟨hk⟩
theorem A4R {S : ι → Sy} {φ : ι → Prop} {σ : Sy} (i : ι) (hs : Sub σ (S i)) (h : φ i) : A4Q S φ K .normal σ := ⟨⟨i, h, hs⟩⟩
theorem A1D {S : ι → Sy} {φ : ι → Prop} {σ : Sy} (h : K .ret σ) : A4Q S φ K .ret σ := ⟨h⟩
theorem B6v {S : ι → Sy} {φ : ι → Prop} (h : A0v K) : A0v (A4Q S φ K) := fun c σ hk => h c σ hk.run
instance npC6 {S : ι → Sy} {φ : ι → Prop} [h : NpC K] : NpC (A4Q S φ K) := ⟨B6v h.h⟩
end cut
theorem A22 (G : IM) (nm : ByteArray) (num : Int) {k : Int} (hk : H5 k) (hn : H5 num) : B8 G (.mk k nm num B3 B3 0 []) [.int .i64 k, .string nm, .int .i64 num, .int .i64 0, .slice none 0 0, .int .i64 0, .slice none 0 0, .int .i64 0, .slice none 0 0] := A2B hk hn
theorem C6.kidsM {G : IM} {k : Int} {ks : List Ty} {q : Option Addr} {c : Nat} (h : C6 G (.mk k ks) [.int .i64 k, .slice q ks.length c]) : ∃ es, D6 G q ks.length c 2 es ∧ D8 G ks es := by
 obtain ⟨q', c', es, he, _, h1, h2⟩ := h.open
 cases he
 exact ⟨es, h1, h2⟩
theorem B6w (br : Nat) (pb : Option Addr) (nb cb : Nat) (bs : List UInt8) (hnb : nb ≤ 2000) : ∀ n, B0X br pb nb cb bs n := by
 refine fun n => Nat.strongRecOn n fun n ih depth t p G pc nc cc cells hfu hd0 hd1 hnc hx hrt hb hp => ?_
 have hge := A2k n
 have har := hfu.1.ar
 have hszt := A5o hfu.1
 have hnn := A1O t
 have hncl := hx.le
 obtain ⟨k, ks⟩ := t
 obtain ⟨q, c, es, rfl, hk, _, _⟩ := hrt.open
 simp only [Ty.k, Ty.ks] at hk hrt ⊢
 have hsz30 : L8 (.mk k ks) ≤ 30 := hszt
 have hops : k = 4 ∨ k = 5 → ks.length = 2 := by have h2 := har; rw [I0] at h2; exact h2.1
 refine C0 Tryz.func76 rfl Tryz.ntmps76 Tryz.results76 rfl ?_
 intro w0
 refine A4 ?_
 refine sE (B5 rfl rfl) rfl (fun b3 => ?_)
 refine sE (A6 rfl) rfl (fun b4 => ?_)
 refine B0 ?_
 refine sP (Q7 rfl rfl zZ zZ) rfl rfl ?_
 refine C1 ?_
 refine C2 ?_
 (refine L4 (fun (x : Nat × Nat × IM) => ⟨(9, .int .i64 ((x.1 : Int) - 1)) :: [(0, .pointer (some ⟨br, 0, none⟩)), (1, .slice pc nc cc), (3, .int .i64 depth), (6, .pointer (some ⟨b3, 0, none⟩)), (8, .pointer (some ⟨b4, 0, none⟩))], [rd br pb nb cb x.2.1, .blk b4 [.int .i64 0, .string ⟨⟨[]⟩⟩, .int .i64 0, .int .i64 0, .slice none 0 0, .int .i64 0, .slice none 0 0, .int .i64 0, .slice none 0 0], .blk b3 [.int .i64 k, .slice q ks.length c]], x.2.2⟩) (fun x => x.1 ≤ nc ∧ B9 G x.2.2 ∧ p ≤ x.2.1 ∧ x.2.1 + x.1 ≤ p + nc) (fun x => x.1) (nc, p, G) ?_ ?_ ?_)
 (simp only [I6]; exact F9)
 (exact ⟨Nat.le_refl _, B9.refl _, Nat.le_refl _, Nat.le_refl _⟩)
 (rintro ⟨(i : Nat), (p1 : Nat), G1⟩ ⟨hi, hleL, hpL, hpL2⟩; simp only [] at hi hleL hpL hpL2 ⊢; replace hx := hx.mono hleL; replace hb := hb.mono hleL; replace hrt := hrt.mono hleL;)
 refine B4 ?_
 refine sB (A1j rfl rfl) rfl rfl (fun h25 => ?_) (fun h25 => ?_)
 refine A9 ?_
 (show K7 _ _ (.block 1 ..) _ _; obtain ⟨j, rfl⟩ : ∃ j, i = j + 1 := ⟨i - 1, by omega⟩; rw [show ((j + 1 : Nat) : Int) - 1 = (j : Int) from by omega]; obtain ⟨b, o, nm1, t1, qq1, dd1, rfl, hat, hr1, ha1, hs1, hgb, hns1⟩ := hx.get (i := j) zZ; refine C2 ?_)
 refine A8 ?_
 refine sP (B6 (j := j) rfl rfl rfl zZ) rfl rfl ?_
 refine E0 ?_
 refine sL (I2 rfl rfl ((hat _).sub (j := 0) rfl)) rfl rfl ?_
 (refine F4 rfl (B35 _ _ nc cc nm1 hx) rfl rfl (fun v G2 hle2 hh => ?_); obtain ⟨ts, tcs, xs, rfl, hrs, has, hss⟩ := hh; obtain ⟨ps, cs, ess, rfl, _⟩ := hrs.open; obtain ⟨b, o, nm1, t1, qq1, dd1, hpp, hat, hr1, ha1, hs1, hgb, hns1⟩ := (hx.mono hle2).get (i := j) zZ; cases hpp; replace hx := hx.mono hle2; replace hb := hb.mono hle2; replace hrt := hrt.mono hle2;)
 refine C1 ?_
 refine sE (A6 rfl) rfl (fun b45 => ?_)
 refine B0 ?_
 (have hinloop := hrs; refine K9 rfl (A0p _ br pb nb cb (p1) bs 3 hb hnb zZ) (Pk.perm zP) rfl rfl (fun v Gp outs hle53 hh => ?_); obtain ⟨rfl, rfl, j53, rfl, hj53, hk53⟩ := hh; have hinl := hj53)
 replace hrs := hrs.mono hle53
 replace hr1 := hr1.mono hle53
 replace hb := hb.mono hle53
 replace hrt := hrt.mono hle53
 replace hinloop := hinloop.mono hle53
 refine sB (qE rfl rfl) rfl rfl (fun h54 => ?_) (fun h54 => ?_)
 refine A4 ?_
 refine K3 rfl ((A3i ts _ _ hrs)) rfl rfl (fun h57 => ?_) (fun h57 => ?_)
 refine B4 ?_
 refine K3 rfl ((A2C ts (.mk k ks) _ _ _ has har hrs hrt)) rfl rfl (fun h62 => ?_) (fun h62 => ?_)
 refine E4 ?_
 refine sP (B6 (j := j) rfl rfl rfl zZ) rfl rfl ?_
 refine E0 ?_
 refine sL (I2 rfl rfl ((hat _).sub (j := 0) rfl)) rfl rfl ?_
 refine J4 ?_
 refine H6 (outs := [rd br pb nb cb (p1 + 1)]) (rC rfl (A3 rfl rfl)) zI ?_
 (exact ⟨(p1 + 1), by omega, by omega, rfl, _, _, rfl, A22 _ _ _ ⟨by omega, by omega⟩ (by first | exact ⟨by omega, by omega⟩ | exact hkn), by first | exact R0 (by first | assumption | decide) | exact A05 zY zW zW zW | exact V5 zY zW zW | exact N5 zY S6 zW | exact N5 zY har.small zW | exact N5 zY S6 (V5 zY zW (R0 zY)) | exact N5 zY A06 (R0 zY) | assumption, by simp only [E1, H3]; omega⟩)
 refine E8 ?_
 refine sP (Q7 rfl rfl zZ zZ) rfl rfl ?_
 refine A4 ?_
 (have hinloop := hrs; refine J6 (j, p1 + 1, Gp) ?_ ?_ ?_)
 (simp only [I6]; exact F9)
 (dsimp only; exact ⟨by omega, hleL.trans hle2, by omega, by omega⟩)
 (show _ < _ + 1; omega)
 refine M8 ?_
 refine sP (Q7 rfl rfl zZ zZ) rfl rfl ?_
 refine A4 ?_
 (have hinloop := hrs; refine J6 (j, p1 + 1, Gp) ?_ ?_ ?_)
 (simp only [I6]; exact F9)
 (dsimp only; exact ⟨by omega, hleL.trans hle2, by omega, by omega⟩)
 (show _ < _ + 1; omega)
 refine U7 ?_
 refine sP (Q7 rfl rfl zZ zZ) rfl rfl ?_
 refine A4 ?_
 (have hinloop := hrs; refine J6 (j, p1 + 1, Gp) ?_ ?_ ?_)
 (simp only [I6]; exact F9)
 (dsimp only; exact ⟨by omega, hleL.trans hle2, by omega, by omega⟩)
 (show _ < _ + 1; omega)
 refine J4 ?_
 (show K7 _ _ (.region 7 ..) _ _; refine A0H (fun (x : Bool) => ⟨(49, .bool x) :: [(0, .pointer (some ⟨br, 0, none⟩)), (1, .slice pc nc cc), (3, .int .i64 depth), (6, .pointer (some ⟨b3, 0, none⟩)), (8, .pointer (some ⟨b4, 0, none⟩))], [rd br pb nb cb p1, .blk b4 [.int .i64 0, .string ⟨⟨[]⟩⟩, .int .i64 0, .int .i64 0, .slice none 0 0, .int .i64 0, .slice none 0 0, .int .i64 0, .slice none 0 0], .blk b3 [.int .i64 k, .slice q ks.length c]], G1⟩) (fun x => x = true → 1 < depth) ?_ ?_)
 refine A4 ?_
 refine sB (A0w rfl rfl) rfl rfl (fun h160 => ?_) (fun h160 => ?_)
 refine sD ?_
 refine O4 true (I1 zO zJ) (fun _ => by omega)
 refine sD ?_
 refine O4 false (I1 zO zJ) (fun h => absurd h zY)
 (rintro (x49 : Bool) hx49)
 (show K7 _ _ (.cond (.tmp 49) _ _) _ _; refine B0Z (fun (x : Nat × IM) => ⟨[(0, .pointer (some ⟨br, 0, none⟩)), (1, .slice pc nc cc), (3, .int .i64 depth), (6, .pointer (some ⟨b3, 0, none⟩)), (8, .pointer (some ⟨b4, 0, none⟩))], [rd br pb nb cb x.1, .blk b4 [.int .i64 0, .string ⟨⟨[]⟩⟩, .int .i64 0, .int .i64 0, .slice none 0 0, .int .i64 0, .slice none 0 0, .int .i64 0, .slice none 0 0], .blk b3 [.int .i64 k, .slice q ks.length c]], x.2⟩) (fun x => B9 G1 x.2 ∧ p1 ≤ x.1 ∧ x.1 ≤ p1 + 1) (A4Y rfl (fun hxt => ?_) (fun hxf => ?_)) ?_)
 refine C1 ?_
 (have hx49b := hx49 hxt; refine K9 rfl (A0p _ br pb nb cb (p1) bs 9 hb hnb zZ) (Pk.perm zP) rfl rfl (fun v Gp outs hle170 hh => ?_); obtain ⟨rfl, rfl, j170, rfl, hj170, hk170⟩ := hh; have hpk9 := hj170)
 replace hb := hb.mono hle170
 replace hrt := hrt.mono hle170
 refine A4 ?_
 refine C2 (tS (tR (sB (qE rfl rfl) rfl rfl (fun h176 => ?_) (fun h176 => ?_))))
 refine A8 ?_
 (obtain ⟨m, rfl⟩ := hfu.pos (.inl zZ); have hmB : mB (m + 1) = 3 * mB m + 200 := rfl; have hgm := A2k m; refine D3 D4 rfl ?_)
 refine I7 (i := 0) (l' := [tt,ff,ff,ff,ff,ff,ff,ff,ff,ff,ff,ff,ff]) rfl C8 (A3 rfl rfl) rfl zX rfl rfl ?_
 refine aP 2 rfl (qM rfl) rfl ?_
 refine aP 3 rfl (qM rfl) rfl ?_
 refine aP 4 rfl (qM rfl) rfl ?_
 refine aL 5 rfl (A3 rfl rfl) rfl ?_
 refine aP 7 rfl (qM rfl) rfl ?_
 refine aP 8 rfl (Q7 rfl rfl zZ zZ) rfl ?_
 refine A2 1 ?_
 (refine H0 rfl rfl (Y8 _ _ _ har.small hrt) rfl rfl rfl (fun v G6 hle6 hh => ?_); obtain ⟨cs1, F1, rfl, hs1, hn1⟩ := hh; obtain ⟨pz, cz, rfl, _⟩ := hs1.open; have hrz := hs1.R.mono (D9.le G6 _); replace hx := hx.mono hle6; replace hb := hb.mono hle6; replace hrt := hrt.mono hle6;)
 refine A2 6 ?_
 (have hcall := A62 br pb nb cb bs hnb (.mk k ks) (p1 + 1) _ _ har hrt hb zZ; refine A0y (l' := [tt,tt,tt,tt,tt,tt,tt,tt,tt,ff,ff,ff,ff]) rfl rfl hcall (Pk.perm zP) rfl rfl rfl (by repeat (first | exact A1.nil | apply A1.dep zV | apply A1.im zV hg0 zS | apply A1.im zV hg1 zS | apply A1.blk zV zP zS)) (fun v Gn outs hleA hh => ?_); obtain ⟨pA, hpA1, hpA2, rfl, uA, cuA, rfl, hruA, huaA, husA, huhA⟩ := hh; obtain ⟨quA, duA, euA, rfl, _⟩ := hruA.open; replace hrz := hrz.mono hleA; replace hx := hx.mono hleA; replace hb := hb.mono hleA; replace hrt := hrt.mono hleA;)
 refine A2 9 ?_
 (have hcall := ih m zZ (depth - 1) uA pA _ pc nc cc _ (hfu.sub zZ (huhA 4 hfu.1)) zZ zZ zZ hx hruA hb zZ; refine A0y (l' := [tt,tt,tt,tt,tt,tt,tt,tt,tt,tt,ff,ff,ff]) rfl rfl hcall (Pk.perm zP) rfl rfl rfl (by repeat (first | exact A1.nil | apply A1.dep zV | apply A1.im zV hg0 zS | apply A1.im zV hg1 zS | apply A1.blk zV zP zS)) (fun v Gn outs hlea hh => ?_); obtain ⟨pa, hpa1, hpa2, rfl, ea, ca, rfl, hra, hsma, hca⟩ := hh; obtain ⟨a1, a2, a3, a4, a5, a6, a7, a8, a9, rfl⟩ := hra.nine; replace hrz := hrz.mono hlea; replace hx := hx.mono hlea; replace hb := hb.mono hlea; replace hrt := hrt.mono hlea;)
 refine A2 10 ?_
 (refine D2 rfl (D1 rfl rfl rfl zZ zU rfl) rfl rfl ?_; rintro _ ⟨b197, rfl⟩)
 refine aP 11 rfl (pBd rfl rfl) rfl ?_
 refine A2 12 ?_
 refine T3 rfl rfl rfl rfl rfl rfl rfl rfl zV zR (by rfl) ?_
 refine A4 ?_
 (refine J0 (cs := [a1, a2, a3, a4, a5, a6, a7, a8, a9]) zP (fun G9 hle9 hsl9 hno9 => ?_); have hN := A4O (k := 13) (nm := ⟨⟨[]⟩⟩) ⟨by omega, by omega⟩ (hrz.mono hle9) (hra.mono hle9) hsl9)
 refine A4 ?_
 refine A1D ?_
 refine H6 (outs := [rd br pb nb cb pa]) (rC rfl (A3 rfl rfl)) zI ?_
 (exact ⟨pa, by omega, by omega, rfl, _, _, rfl, hN, by first | exact R0 (by first | assumption | decide) | exact A05 zY zW zW zW | exact V5 zY zW zW | exact N5 zY S6 zW | exact N5 zY har.small zW | exact N5 zY S6 (V5 zY zW (R0 zY)) | exact N5 zY A06 (R0 zY) | assumption, by simp only [E1, H3]; omega⟩)
 refine A9 ?_
 refine sB (qE rfl rfl) rfl rfl (fun h215 => ?_) (fun h215 => ?_)
 refine A8 ?_
 (obtain ⟨m, rfl⟩ := hfu.pos (.inl zZ); have hmB : mB (m + 1) = 3 * mB m + 200 := rfl; have hgm := A2k m; refine D3 D4 rfl ?_)
 refine I9 (i := 0) (l' := [tt,ff,ff,ff,ff,ff,ff,ff,ff,ff,ff,ff,ff,ff,ff,ff,ff,ff,ff,ff,ff]) rfl C8 (qM rfl) rfl zX rfl rfl ?_
 refine aP 1 rfl (qM rfl) rfl ?_
 refine aP 3 rfl (qM rfl) rfl ?_
 refine aP 4 rfl (Q7 rfl rfl zZ zZ) rfl ?_
 refine aP 6 rfl (qM rfl) rfl ?_
 refine aP 7 rfl (qM rfl) rfl ?_
 refine aL 8 rfl (A3 rfl rfl) rfl ?_
 refine aP 9 rfl (qM rfl) rfl ?_
 refine aP 10 rfl (Q7 rfl rfl zZ zZ) rfl ?_
 refine aP 12 rfl (qM rfl) rfl ?_
 refine aP 13 rfl (qM rfl) rfl ?_
 refine aL 14 rfl (A3 rfl rfl) rfl ?_
 refine aP 15 rfl (qM rfl) rfl ?_
 refine aP 16 rfl (Q7 rfl rfl zZ zZ) rfl ?_
 refine A2 2 ?_
 refine T2 rfl rfl ((A4y _)) rfl rfl rfl ?_
 refine A2 5 ?_
 (have hcall := ih m zZ (depth - 1) (.mk 3 []) (p1 + 1) _ pc nc cc _ (hfu.sub zZ (A3M 4 zY zY)) zZ zZ zZ hx (L5 _ ⟨by omega, by omega⟩) hb zZ; refine A0y (l' := [tt,tt,tt,tt,tt,tt,tt,tt,tt,tt,tt,ff,tt,tt,tt,tt,tt,ff,ff,ff,ff]) rfl rfl hcall (Pk.perm zP) rfl rfl rfl (by repeat (first | exact A1.nil | apply A1.dep zV | apply A1.im zV hg0 zS | apply A1.im zV hg1 zS | apply A1.blk zV zP zS)) (fun v Gn outs hlef hh => ?_); obtain ⟨pf, hpf1, hpf2, rfl, ef, cf, rfl, hrf, hsmf, hcf⟩ := hh; obtain ⟨f1, f2, f3, f4, f5, f6, f7, f8, f9, rfl⟩ := hrf.nine; replace hx := hx.mono hlef; replace hb := hb.mono hlef; replace hrt := hrt.mono hlef;)
 refine A2 11 ?_
 (have hcall := ih m zZ (depth - 1) (.mk k ks) pf _ pc nc cc _ (hfu.sub zZ hfu.1) zZ zZ zZ hx hrt hb zZ; refine A0y (l' := [tt,tt,tt,tt,tt,tt,tt,tt,tt,tt,tt,tt,tt,tt,tt,tt,tt,ff,ff,ff,ff]) rfl rfl hcall (Pk.perm zP) rfl rfl rfl (by repeat (first | exact A1.nil | apply A1.dep zV | apply A1.im zV hg0 zS | apply A1.im zV hg1 zS | apply A1.blk zV zP zS)) (fun v Gn outs hleg hh => ?_); obtain ⟨pg, hpg1, hpg2, rfl, eg, cg, rfl, hrg, hsmg, hcg⟩ := hh; obtain ⟨g1, g2, g3, g4, g5, g6, g7, g8, g9, rfl⟩ := hrg.nine; replace hrf := hrf.mono hleg; replace hx := hx.mono hleg; replace hb := hb.mono hleg; replace hrt := hrt.mono hleg;)
 refine A2 17 ?_
 (have hcall := ih m zZ (depth - 1) (.mk k ks) pg _ pc nc cc _ (hfu.sub zZ hfu.1) zZ zZ zZ hx hrt hb zZ; refine A0y (l' := [tt,tt,tt,tt,tt,tt,tt,tt,tt,tt,tt,tt,tt,tt,tt,tt,tt,tt,ff,ff,ff]) rfl rfl hcall (Pk.perm zP) rfl rfl rfl (by repeat (first | exact A1.nil | apply A1.dep zV | apply A1.im zV hg0 zS | apply A1.im zV hg1 zS | apply A1.blk zV zP zS)) (fun v Gn outs hlei hh => ?_); obtain ⟨pi, hpi1, hpi2, rfl, ei, ci, rfl, hri, hsmi, hci⟩ := hh; obtain ⟨i1, i2, i3, i4, i5, i6, i7, i8, i9, rfl⟩ := hri.nine; replace hrf := hrf.mono hlei; replace hrg := hrg.mono hlei; replace hx := hx.mono hlei; replace hb := hb.mono hlei; replace hrt := hrt.mono hlei;)
 refine A2 18 ?_
 (refine D2 rfl (D1 rfl rfl rfl zZ zU rfl) rfl rfl ?_; rintro _ ⟨b245, rfl⟩)
 refine A2 19 ?_
 refine T2 rfl rfl ((A3n _ _ _ _ _)) rfl rfl rfl ?_
 refine A2 20 ?_
 refine T3 rfl rfl rfl rfl rfl rfl rfl rfl zV zR (by rfl) ?_
 refine A4 ?_
 (refine J0 (cs := [f1, f2, f3, f4, f5, f6, f7, f8, f9] ++ ([g1, g2, g3, g4, g5, g6, g7, g8, g9] ++ [i1, i2, i3, i4, i5, i6, i7, i8, i9])) zP (fun G9 hle9 hsl9 hno9 => ?_); have hN := B6u (k := 9) (nm := ⟨⟨[]⟩⟩) ⟨by omega, by omega⟩ (hrf.mono hle9) (hrg.mono hle9) (hri.mono hle9) hsl9)
 refine A4 ?_
 refine A1D ?_
 refine H6 (outs := [rd br pb nb cb pi]) (rC rfl (A3 rfl rfl)) zI ?_
 (exact ⟨pi, by omega, by omega, rfl, _, _, rfl, hN, by first | exact R0 (by first | assumption | decide) | exact A05 zY zW zW zW | exact V5 zY zW zW | exact N5 zY S6 zW | exact N5 zY har.small zW | exact N5 zY S6 (V5 zY zW (R0 zY)) | exact N5 zY A06 (R0 zY) | assumption, by simp only [E1, H3]; omega⟩)
 refine A9 ?_
 refine sB (qE rfl rfl) rfl rfl (fun h264 => ?_) (fun h264 => ?_)
 refine B0 ?_
 (have hcall := A4q br pb nb cb bs hnb 0 (p1 + 1) _ zZ hb (by have : dB (0 + 1) ≤ 6 := zY; omega); refine K9 rfl hcall (Pk.perm zP) rfl rfl (fun v Gn outs hleD hh => ?_); obtain ⟨pD, hpD1, hpD2, rfl, uD, cuD, rfl, hruD, husD, huhD⟩ := hh; have huaD := huhD.ar; obtain ⟨quD, duD, euD, rfl, _⟩ := hruD.open; have hdBD : dB (0 + 1) ≤ 6 := zY; replace hx := hx.mono hleD; replace hb := hb.mono hleD; replace hrt := hrt.mono hleD;)
 refine sE (A6 rfl) rfl (fun b273 => ?_)
 refine B4 ?_
 (obtain ⟨m, rfl⟩ := hfu.pos (.inl zZ); have hmB : mB (m + 1) = 3 * mB m + 200 := rfl; have hgm := A2k m; refine D3 D4 rfl ?_)
 refine I9 (i := 0) (l' := [tt,ff,ff,ff,ff,ff,ff,ff,ff,ff,ff,ff,ff,ff,ff,ff,ff,ff]) rfl C8 (qM rfl) rfl zX rfl rfl ?_
 refine aP 1 rfl (qM rfl) rfl ?_
 refine aL 2 rfl (A3 rfl rfl) rfl ?_
 refine aL 3 rfl (A3 rfl rfl) rfl ?_
 refine aP 4 rfl (qM rfl) rfl ?_
 refine aP 5 rfl (Q7 rfl rfl zZ zZ) rfl ?_
 refine aP 7 rfl (qM rfl) rfl ?_
 refine aP 8 rfl (qM rfl) rfl ?_
 refine aP 9 rfl (qM rfl) rfl ?_
 refine aL 10 rfl (A3 rfl rfl) rfl ?_
 refine aP 12 rfl (qM rfl) rfl ?_
 refine aP 13 rfl (Q7 rfl rfl zZ zZ) rfl ?_
 refine A2 6 ?_
 (have hcall := B0Y br pb nb cb bs hnb m (ih m zZ) (depth - 1) uD (.mk k ks) (pD) _ pc nc cc _ _ (hfu.sub zZ hfu.1) zZ zZ zZ hx hruD ⟨huaD, by omega⟩ hrt hb zZ; refine A0y (l' := [tt,tt,tt,tt,tt,tt,tt,tt,tt,tt,tt,ff,tt,tt,ff,ff,ff,ff]) rfl rfl hcall (Pk.perm zP) rfl rfl rfl (by repeat (first | exact A1.nil | apply A1.dep zV | apply A1.im zV hg0 zS | apply A1.im zV hg1 zS | apply A1.blk zV zP zS)) (fun v Gn outs hlel hh => ?_); obtain ⟨pl, hpl1, hpl2, rfl, el, cl, rfl, hrl, hsml, hcl⟩ := hh; obtain ⟨l1, l2, l3, l4, l5, l6, l7, l8, l9, rfl⟩ := hrl.nine; replace hruD := hruD.mono hlel; replace hx := hx.mono hlel; replace hb := hb.mono hlel; replace hrt := hrt.mono hlel;)
 refine A2 11 ?_
 (have hcall := A62 br pb nb cb bs hnb uD (pl) _ _ huaD hruD hb zZ; refine A0y (l' := [tt,tt,tt,tt,tt,tt,tt,tt,tt,tt,tt,tt,tt,tt,ff,ff,ff,ff]) rfl rfl hcall (Pk.perm zP) rfl rfl rfl (by repeat (first | exact A1.nil | apply A1.dep zV | apply A1.im zV hg0 zS | apply A1.im zV hg1 zS | apply A1.blk zV zP zS)) (fun v Gn outs hleE hh => ?_); obtain ⟨pE, hpE1, hpE2, rfl, uE, cuE, rfl, hruE, huaE, husE, huhE⟩ := hh; obtain ⟨quE, duE, euE, rfl, _⟩ := hruE.open; replace hrl := hrl.mono hleE; replace hx := hx.mono hleE; replace hb := hb.mono hleE; replace hrt := hrt.mono hleE;)
 refine A2 14 ?_
 (have hcall := ih m zZ (depth - 1) uE pE _ pc nc cc _ (hfu.sub zZ (huhE 4 (huhD.le zZ))) zZ zZ zZ hx hruE hb zZ; refine A0y (l' := [tt,tt,tt,tt,tt,tt,tt,tt,tt,tt,tt,tt,tt,tt,tt,ff,ff,ff]) rfl rfl hcall (Pk.perm zP) rfl rfl rfl (by repeat (first | exact A1.nil | apply A1.dep zV | apply A1.im zV hg0 zS | apply A1.im zV hg1 zS | apply A1.blk zV zP zS)) (fun v Gn outs hled hh => ?_); obtain ⟨pd, hpd1, hpd2, rfl, ed, cd, rfl, hrd, hsmd, hcd⟩ := hh; obtain ⟨d1, d2, d3, d4, d5, d6, d7, d8, d9, rfl⟩ := hrd.nine; replace hrl := hrl.mono hled; replace hx := hx.mono hled; replace hb := hb.mono hled; replace hrt := hrt.mono hled;)
 refine A2 15 ?_
 (refine D2 rfl (D1 rfl rfl rfl zZ zU rfl) rfl rfl ?_; rintro _ ⟨b298, rfl⟩)
 refine A2 16 ?_
 refine T2 rfl rfl ((A3n _ _ _ _ _)) rfl rfl rfl ?_
 refine A2 17 ?_
 refine T3 rfl rfl rfl rfl rfl rfl rfl rfl zV zR (by rfl) ?_
 refine A4 ?_
 (refine J0 (cs := [l1, l2, l3, l4, l5, l6, l7, l8, l9] ++ [d1, d2, d3, d4, d5, d6, d7, d8, d9]) zP (fun G9 hle9 hsl9 hno9 => ?_); have hN := A4P (k := 6) (nm := ⟨⟨[]⟩⟩) ⟨by omega, by omega⟩ (hrl.mono hle9) (hrd.mono hle9) hsl9)
 refine A4 ?_
 refine A1D ?_
 refine H6 (outs := [rd br pb nb cb pd]) (rC rfl (A3 rfl rfl)) zI ?_
 (exact ⟨pd, by omega, by omega, rfl, _, _, rfl, hN, by first | exact R0 (by first | assumption | decide) | exact A05 zY zW zW zW | exact V5 zY zW zW | exact N5 zY S6 zW | exact N5 zY har.small zW | exact N5 zY S6 (V5 zY zW (R0 zY)) | exact N5 zY A06 (R0 zY) | assumption, by simp only [E1, H3]; omega⟩)
 refine A9 ?_
 refine sB (qE rfl rfl) rfl rfl (fun h317 => ?_) (fun h317 => ?_)
 refine J4 ?_
 refine sP (Q7 rfl rfl zZ zZ) rfl rfl ?_
 (have hpkq := hpk9; obtain ⟨m, rfl⟩ := hfu.pos (.inl zZ); have hmB : mB (m + 1) = 3 * mB m + 200 := rfl; have hgm := A2k m; have hcall := ih m zZ (depth - 1) (.mk k ks) (p1 + 1) _ pc nc cc _ (hfu.sub zZ hfu.1) zZ zZ zZ hx hrt hb zZ; refine K9 rfl hcall (Pk.perm zP) rfl rfl (fun v Gn outs hleh hh => ?_); obtain ⟨ph, hph1, hph2, rfl, eh, ch, rfl, hrh, hsmh, hch⟩ := hh; obtain ⟨h1, h2, h3, h4, h5, h6, h7, h8, h9, rfl⟩ := hrh.nine; replace hx := hx.mono hleh; replace hb := hb.mono hleh; replace hrt := hrt.mono hleh;)
 refine H1 rfl ((A3O _ _)) rfl rfl ?_
 (refine J2 (D1 rfl rfl rfl zZ zU rfl) rfl ?_; rintro _ ⟨b331, rfl⟩)
 refine H1 rfl ((A3n _ _ _ _ _)) rfl rfl ?_
 (refine J2 (D1 rfl rfl rfl zZ zU rfl) rfl ?_; rintro _ ⟨b333, rfl⟩)
 refine H1 rfl ((A3n _ _ _ _ _)) rfl rfl ?_
 refine C1 ?_
 (refine J0 (cs := [h1, h2, h3, h4, h5, h6, h7, h8, h9] ++ [.int .i64 2, .string ⟨⟨[]⟩⟩, .int .i64 1, .int .i64 0, .slice none 0 0, .int .i64 0, .slice none 0 0, .int .i64 0, .slice none 0 0]) zP (fun G8 hle8 hsl8 hno8 => ?_); have hNi := A4P (k := 10) (nm := ⟨⟨[]⟩⟩) ⟨by omega, by omega⟩ (hrh.mono hle8) (A22 G8 ⟨⟨[]⟩⟩ 1 (k := 2) ⟨by omega, by omega⟩ ⟨by omega, by omega⟩) hsl8; refine J0 zP (fun G9 hle9 hsl9 hno9 => ?_); have hN := A4O (k := 11) (nm := ⟨⟨[]⟩⟩) ⟨by omega, by omega⟩ (L5 G9 (k := 0) ⟨by omega, by omega⟩) (hNi.mono hle9) hsl9)
 refine A4 ?_
 refine A1D ?_
 refine H6 (outs := [rd br pb nb cb ph]) (rC rfl (A3 rfl rfl)) zI ?_
 (exact ⟨ph, by omega, by omega, rfl, _, _, rfl, hN, by first | exact R0 (by first | assumption | decide) | exact A05 zY zW zW zW | exact V5 zY zW zW | exact N5 zY S6 zW | exact N5 zY har.small zW | exact N5 zY S6 (V5 zY zW (R0 zY)) | exact N5 zY A06 (R0 zY) | assumption, by simp only [E1, H3]; omega⟩)
 refine A9 ?_
 refine A4R (p1 + 1, Gp) (I1 zO zJ) ⟨B9.refl _, by dsimp only; omega, by dsimp only; omega⟩
 refine tK ?_
 refine A4R (p1, G1) (I1 zO zJ) ⟨B9.refl _, by dsimp only; omega, by dsimp only; omega⟩
 (rintro ⟨(p2 : Nat), G2⟩ ⟨hle2c, hp2a, hp2b⟩; simp only [] at hle2c hp2a hp2b ⊢; have hcut1 := hp2a; replace hx := hx.mono hle2c; replace hb := hb.mono hle2c; replace hrt := hrt.mono hle2c;)
 refine B0 ?_
 (show K7 _ _ (.block 3 ..) _ _; refine B0Z (fun (x : Nat × IM) => ⟨[(0, .pointer (some ⟨br, 0, none⟩)), (1, .slice pc nc cc), (3, .int .i64 depth), (6, .pointer (some ⟨b3, 0, none⟩)), (8, .pointer (some ⟨b4, 0, none⟩))], [rd br pb nb cb x.1, .blk b4 [.int .i64 0, .string ⟨⟨[]⟩⟩, .int .i64 0, .int .i64 0, .slice none 0 0, .int .i64 0, .slice none 0 0, .int .i64 0, .slice none 0 0], .blk b3 [.int .i64 k, .slice q ks.length c]], x.2⟩) (fun x => B9 G2 x.2 ∧ p2 ≤ x.1 ∧ x.1 ≤ p2 + 2) ?_ ?_)
 refine C2 (tS (tR (sB (qE rfl rfl) rfl rfl (fun h365 => ?_) (fun h365 => ?_))))
 refine E4 ?_
 refine sB (A0w rfl rfl) rfl rfl (fun h374 => ?_) (fun h374 => ?_)
 refine A4 ?_
 (have hkk3 : k = 3 := zZ; refine K9 rfl (A0p _ br pb nb cb (p2) bs 2 hb hnb zZ) (Pk.perm zP) rfl rfl (fun v Gp outs hle377 hh => ?_); obtain ⟨rfl, rfl, j377, rfl, hj377, hk377⟩ := hh; have hpk22 := hj377)
 replace hb := hb.mono hle377
 replace hrt := hrt.mono hle377
 refine sB (qE rfl rfl) rfl rfl (fun h378 => ?_) (fun h378 => ?_)
 refine E4 ?_
 refine H1 rfl ((A1v _)) rfl rfl ?_
 refine E0 ?_
 refine sP (Q7 rfl rfl zZ zZ) rfl rfl ?_
 (have hkk3q := hkk3; obtain ⟨m, rfl⟩ := hfu.pos (.inl zZ); have hmB : mB (m + 1) = 3 * mB m + 200 := rfl; have hgm := A2k m; have hcall := ih m zZ (depth - 1) (.mk 2 []) (p2 + 1) _ pc nc cc _ (hfu.sub zZ (A3M 4 zY zY)) zZ zZ zZ hx (L5 _ ⟨by omega, by omega⟩) hb zZ; refine K9 rfl hcall (Pk.perm zP) rfl rfl (fun v Gn outs hlen hh => ?_); obtain ⟨pn, hpn1, hpn2, rfl, en, cn, rfl, hrn, hsmn, hcn⟩ := hh; obtain ⟨n1, n2, n3, n4, n5, n6, n7, n8, n9, rfl⟩ := hrn.nine; replace hx := hx.mono hlen; replace hb := hb.mono hlen; replace hrt := hrt.mono hlen;)
 refine A4 ?_
 refine H1 rfl ((A1v _)) rfl rfl ?_
 refine E0 ?_
 refine sP (Q7 rfl rfl zZ zZ) rfl rfl ?_
 (have hcall := ih m zZ (depth - 1) (.mk 2 []) pn _ pc nc cc _ (hfu.sub zZ (A3M 4 zY zY)) zZ zZ zZ hx (L5 _ ⟨by omega, by omega⟩) hb zZ; refine K9 rfl hcall (Pk.perm zP) rfl rfl (fun v Gn outs hleo hh => ?_); obtain ⟨po, hpo1, hpo2, rfl, eo, co, rfl, hro, hsmo, hco⟩ := hh; obtain ⟨o1, o2, o3, o4, o5, o6, o7, o8, o9, rfl⟩ := hro.nine; replace hrn := hrn.mono hleo; replace hx := hx.mono hleo; replace hb := hb.mono hleo; replace hrt := hrt.mono hleo;)
 (refine J2 (D1 rfl rfl rfl zZ zU rfl) rfl ?_; rintro _ ⟨b397, rfl⟩)
 refine H1 rfl ((A3n _ _ _ _ _)) rfl rfl ?_
 refine C1 ?_
 (refine J0 (cs := [n1, n2, n3, n4, n5, n6, n7, n8, n9] ++ [o1, o2, o3, o4, o5, o6, o7, o8, o9]) zP (fun G9 hle9 hsl9 hno9 => ?_); have hN := A4P (k := 8) (nm := ⟨⟨[]⟩⟩) ⟨by omega, by omega⟩ (hrn.mono hle9) (hro.mono hle9) hsl9)
 refine C1 ?_
 refine A1D ?_
 refine H6 (outs := [rd br pb nb cb po]) (rC rfl (A3 rfl rfl)) zI ?_
 (exact ⟨po, by omega, by omega, rfl, _, _, rfl, hN, by first | exact R0 (by first | assumption | decide) | exact A05 zY zW zW zW | exact V5 zY zW zW | exact N5 zY S6 zW | exact N5 zY har.small zW | exact N5 zY S6 (V5 zY zW (R0 zY)) | exact N5 zY A06 (R0 zY) | assumption, by simp only [E1, H3]; omega⟩)
 refine M8 ?_
 refine A1D ?_
 refine H6 (outs := [rd br pb nb cb (p2 + 1)]) (rC rfl (A3 rfl rfl)) zI ?_
 (exact ⟨(p2 + 1), by omega, by omega, rfl, _, _, rfl, A22 _ _ _ ⟨by omega, by omega⟩ (by first | exact ⟨by omega, by omega⟩ | exact hkn), by first | exact R0 (by first | assumption | decide) | exact A05 zY zW zW zW | exact V5 zY zW zW | exact N5 zY S6 zW | exact N5 zY har.small zW | exact N5 zY S6 (V5 zY zW (R0 zY)) | exact N5 zY A06 (R0 zY) | assumption, by simp only [E1, H3]; omega⟩)
 refine Y7 ?_
 refine A1D ?_
 refine H6 (outs := [rd br pb nb cb p2]) (rC rfl (A3 rfl rfl)) zI ?_
 (exact ⟨p2, by omega, by omega, rfl, _, _, rfl, A22 _ _ _ ⟨by omega, by omega⟩ (by first | exact ⟨by omega, by omega⟩ | exact hkn), by first | exact R0 (by first | assumption | decide) | exact A05 zY zW zW zW | exact V5 zY zW zW | exact N5 zY S6 zW | exact N5 zY har.small zW | exact N5 zY S6 (V5 zY zW (R0 zY)) | exact N5 zY A06 (R0 zY) | assumption, by simp only [E1, H3]; omega⟩)
 refine A9 ?_
 refine sB (qE rfl rfl) rfl rfl (fun h453 => ?_) (fun h453 => ?_)
 refine A8 ?_
 (have hk45 : k = 4 ∨ k = 5 := zZ; have hl2 := hops hk45; obtain ⟨m, rfl⟩ := hfu.pos (.inr hk45); have hmB : mB (m + 1) = 3 * mB m + 200 := rfl; have hgm := A2k m; obtain ⟨es9, hsl, hkl⟩ := hrt.kidsM; obtain ⟨b0, o0, q0, d0, hp0, hat0, hre0, hg0⟩ := hsl.kidTy hkl (i := 0) zZ zZ; obtain ⟨b1, o1, q1, d1, hp1, hat1, hre1, hg1⟩ := hsl.kidTy hkl (i := 1) zZ zZ; cases hp0; cases hp1; have hmem0 := List.getElem_mem (l := ks) (n := 0) zZ; have hmem1 := List.getElem_mem (l := ks) (n := 1) zZ; refine D3 D4 rfl ?_)
 refine I9 (i := 0) (l' := [tt,ff,ff,ff,ff,ff,ff,ff,ff,ff,ff,ff,ff,ff]) rfl C8 (qM rfl) rfl zX rfl rfl ?_
 refine aP 1 rfl (qM rfl) rfl ?_
 refine aP 2 rfl (C3 rfl) rfl ?_
 refine aL 3 rfl (E9 rfl rfl) rfl ?_
 refine aP 4 rfl (B6 (j := 0) rfl rfl rfl zZ) rfl ?_
 refine aL 5 rfl (A5 rfl rfl (hat0 _) rfl) rfl ?_
 refine aP 6 rfl (C3 rfl) rfl ?_
 refine aL 7 rfl (E9 rfl rfl) rfl ?_
 refine aP 8 rfl (B6 (j := 1) rfl rfl rfl zZ) rfl ?_
 refine aL 9 rfl (A5 rfl rfl (hat1 _) rfl) rfl ?_
 refine aP 10 rfl (qM rfl) rfl ?_
 refine aP 11 rfl (Q7 rfl rfl zZ zZ) rfl ?_
 refine A2 12 ?_
 (have hcall := B0Y br pb nb cb bs hnb m (ih m zZ) (depth - 1) ks[0] ks[1] (p2) _ pc nc cc _ _ (hfu.kid hmem1) zZ zZ zZ hx hre0 ⟨har.kid _ hmem0, by have := B33 (k := k) hmem0; omega⟩ hre1 hb zZ; refine A0y (l' := [tt,tt,tt,tt,tt,tt,tt,tt,tt,tt,tt,tt,tt,ff]) rfl rfl hcall (Pk.perm zP) rfl rfl rfl (by repeat (first | exact A1.nil | apply A1.dep zV | apply A1.im zV hg0 zS | apply A1.im zV hg1 zS | apply A1.blk zV zP zS)) (fun v Gn outs hlek hh => ?_); obtain ⟨pk, hpk1, hpk2, rfl, ek, ck, rfl, hrk, hsmk, hck⟩ := hh; obtain ⟨k1, k2, k3, k4, k5, k6, k7, k8, k9, rfl⟩ := hrk.nine; replace hx := hx.mono hlek; replace hb := hb.mono hlek; replace hrt := hrt.mono hlek;)
 refine A2 13 ?_
 refine T3 rfl rfl rfl rfl rfl hrk.one rfl rfl zX zR (by rfl) ?_
 refine B4 ?_
 refine A1D ?_
 refine H6 (outs := [rd br pb nb cb pk]) (rC rfl (A3 rfl rfl)) zI ?_
 (exact ⟨pk, by omega, by omega, rfl, _, _, rfl, hrk, hsmk, by omega⟩)
 refine A9 ?_
 refine sB (qE rfl rfl) rfl rfl (fun h489 => ?_) (fun h489 => ?_)
 refine A8 ?_
 (have hk45 : k = 4 ∨ k = 5 := zZ; have hl2 := hops hk45; obtain ⟨m, rfl⟩ := hfu.pos (.inr hk45); have hmB : mB (m + 1) = 3 * mB m + 200 := rfl; have hgm := A2k m; obtain ⟨es9, hsl, hkl⟩ := hrt.kidsM; obtain ⟨b0, o0, q0, d0, hp0, hat0, hre0, hg0⟩ := hsl.kidTy hkl (i := 0) zZ zZ; obtain ⟨b1, o1, q1, d1, hp1, hat1, hre1, hg1⟩ := hsl.kidTy hkl (i := 1) zZ zZ; cases hp0; cases hp1; have hmem0 := List.getElem_mem (l := ks) (n := 0) zZ; have hmem1 := List.getElem_mem (l := ks) (n := 1) zZ; refine D3 D4 rfl ?_)
 refine I9 (i := 0) (l' := [tt,ff,ff,ff,ff,ff,ff,ff,ff,ff,ff,ff,ff,ff,ff,ff,ff,ff,ff,ff,ff]) rfl C8 (qM rfl) rfl zX rfl rfl ?_
 refine aP 1 rfl (qM rfl) rfl ?_
 refine aP 2 rfl (C3 rfl) rfl ?_
 refine aL 3 rfl (E9 rfl rfl) rfl ?_
 refine aP 4 rfl (B6 (j := 0) rfl rfl rfl zZ) rfl ?_
 refine aL 5 rfl (A5 rfl rfl (hat0 _) rfl) rfl ?_
 refine aP 6 rfl (qM rfl) rfl ?_
 refine aP 7 rfl (Q7 rfl rfl zZ zZ) rfl ?_
 refine aP 9 rfl (qM rfl) rfl ?_
 refine aP 10 rfl (qM rfl) rfl ?_
 refine aP 11 rfl (C3 rfl) rfl ?_
 refine aL 12 rfl (E9 rfl rfl) rfl ?_
 refine aP 13 rfl (B6 (j := 1) rfl rfl rfl zZ) rfl ?_
 refine aL 14 rfl (A5 rfl rfl (hat1 _) rfl) rfl ?_
 refine aP 15 rfl (qM rfl) rfl ?_
 refine aP 16 rfl (Q7 rfl rfl zZ zZ) rfl ?_
 refine A2 8 ?_
 (have hcall := ih m zZ (depth - 1) ks[0] p2 _ pc nc cc _ (hfu.kid hmem0) zZ zZ zZ hx hre0 hb zZ; refine A0y (l' := [tt,tt,tt,tt,tt,tt,tt,tt,tt,tt,tt,tt,tt,tt,tt,tt,tt,ff,ff,ff,ff]) rfl rfl hcall (Pk.perm zP) rfl rfl rfl (by repeat (first | exact A1.nil | apply A1.dep zV | apply A1.im zV hg0 zS | apply A1.im zV hg1 zS | apply A1.blk zV zP zS)) (fun v Gn outs hles hh => ?_); obtain ⟨ps, hps1, hps2, rfl, es, cs, rfl, hrs, hsms, hcs⟩ := hh; obtain ⟨s1, s2, s3, s4, s5, s6, s7, s8, s9, rfl⟩ := hrs.nine; replace hre1 := hre1.mono hles; replace hx := hx.mono hles; replace hb := hb.mono hles; replace hrt := hrt.mono hles;)
 refine A2 17 ?_
 (have hcall := ih m zZ (depth - 1) ks[1] ps _ pc nc cc _ (hfu.kid hmem1) zZ zZ zZ hx hre1 hb zZ; refine A0y (l' := [tt,tt,tt,tt,tt,tt,tt,tt,tt,tt,tt,tt,tt,tt,tt,tt,tt,tt,ff,ff,ff]) rfl rfl hcall (Pk.perm zP) rfl rfl rfl (by repeat (first | exact A1.nil | apply A1.dep zV | apply A1.im zV hg0 zS | apply A1.im zV hg1 zS | apply A1.blk zV zP zS)) (fun v Gn outs hlew hh => ?_); obtain ⟨pw, hpw1, hpw2, rfl, ew, cw, rfl, hrw, hsmw, hcw⟩ := hh; obtain ⟨w1, w2, w3, w4, w5, w6, w7, w8, w9, rfl⟩ := hrw.nine; replace hrs := hrs.mono hlew; replace hx := hx.mono hlew; replace hb := hb.mono hlew; replace hrt := hrt.mono hlew;)
 refine A2 18 ?_
 (refine D2 rfl (D1 rfl rfl rfl zZ zU rfl) rfl rfl ?_; rintro _ ⟨b517, rfl⟩)
 refine A2 19 ?_
 refine T2 rfl rfl ((A3n _ _ _ _ _)) rfl rfl rfl ?_
 refine A2 20 ?_
 refine T3 rfl rfl rfl rfl rfl rfl rfl rfl zV zR (by rfl) ?_
 refine A4 ?_
 (refine J0 (cs := [s1, s2, s3, s4, s5, s6, s7, s8, s9] ++ [w1, w2, w3, w4, w5, w6, w7, w8, w9]) zP (fun G9 hle9 hsl9 hno9 => ?_); have hN := A4P (k := 10) (nm := ⟨⟨[]⟩⟩) ⟨by omega, by omega⟩ (hrs.mono hle9) (hrw.mono hle9) hsl9)
 refine A4 ?_
 refine A1D ?_
 refine H6 (outs := [rd br pb nb cb pw]) (rC rfl (A3 rfl rfl)) zI ?_
 (exact ⟨pw, by omega, by omega, rfl, _, _, rfl, hN, by first | exact R0 (by first | assumption | decide) | exact A05 zY zW zW zW | exact V5 zY zW zW | exact N5 zY S6 zW | exact N5 zY har.small zW | exact N5 zY S6 (V5 zY zW (R0 zY)) | exact N5 zY A06 (R0 zY) | assumption, by simp only [E1, H3]; omega⟩)
 refine A9 ?_
 refine sB (qE rfl rfl) rfl rfl (fun h536 => ?_) (fun h536 => ?_)
 refine E4 ?_
 refine sB (A0w rfl rfl) rfl rfl (fun h545 => ?_) (fun h545 => ?_)
 refine A4 ?_
 (have hkk1 : k = 1 := zZ; refine K9 rfl (A0p _ br pb nb cb (p2) bs 3 hb hnb zZ) (Pk.perm zP) rfl rfl (fun v Gp outs hle548 hh => ?_); obtain ⟨rfl, rfl, j548, rfl, hj548, hk548⟩ := hh; have hpk23 := hj548)
 replace hb := hb.mono hle548
 replace hrt := hrt.mono hle548
 refine sB (qE rfl rfl) rfl rfl (fun h549 => ?_) (fun h549 => ?_)
 refine E8 ?_
 (have hcall := A4q br pb nb cb bs hnb 1 (p2 + 1) _ zZ hb (by have : dB (1 + 1) ≤ 6 := zY; omega); refine K9 rfl hcall (Pk.perm zP) rfl rfl (fun v Gn outs hleF hh => ?_); obtain ⟨pF, hpF1, hpF2, rfl, uF, cuF, rfl, hruF, husF, huhF⟩ := hh; have huaF := huhF.ar; obtain ⟨quF, duF, euF, rfl, _⟩ := hruF.open; have hdBF : dB (1 + 1) ≤ 6 := zY; replace hx := hx.mono hleF; replace hb := hb.mono hleF; replace hrt := hrt.mono hleF;)
 refine E0 ?_
 refine sP (Q7 rfl rfl zZ zZ) rfl rfl ?_
 (obtain ⟨m, rfl⟩ := hfu.pos (.inl zZ); have hmB : mB (m + 1) = 3 * mB m + 200 := rfl; have hgm := A2k m; have hcall := ih m zZ (depth - 1) uF pF _ pc nc cc _ (hfu.sub zZ (huhF.le zZ)) zZ zZ zZ hx hruF hb zZ; refine K9 rfl hcall (Pk.perm zP) rfl rfl (fun v Gn outs hlex hh => ?_); obtain ⟨px, hpx1, hpx2, rfl, ex, cx, rfl, hrx, hsmx, hcx⟩ := hh; obtain ⟨x1, x2, x3, x4, x5, x6, x7, x8, x9, rfl⟩ := hrx.nine; replace hx := hx.mono hlex; replace hb := hb.mono hlex; replace hrt := hrt.mono hlex;)
 refine sS rfl rfl rfl rfl hrx.one rfl ?_
 refine A8 ?_
 refine A1D ?_
 refine H6 (outs := [rd br pb nb cb px]) (rC rfl (A3 rfl rfl)) zI ?_
 (exact ⟨px, by omega, by omega, rfl, _, _, rfl, hrx, hsmx, by omega⟩)
 refine E8 ?_
 (refine K9 rfl (A0p _ br pb nb cb (p2 + 1) bs 3 hb hnb zZ) (Pk.perm zP) rfl rfl (fun v Gp outs hle581 hh => ?_); obtain ⟨rfl, rfl, j581, rfl, hj581, hk581⟩ := hh; have hpk21 := hj581)
 replace hb := hb.mono hle581
 replace hrt := hrt.mono hle581
 refine sB (qE rfl rfl) rfl rfl (fun h582 => ?_) (fun h582 => ?_)
 refine A8 ?_
 refine H1 rfl ((A2y _)) rfl rfl ?_
 refine E0 ?_
 (refine J2 (D1 rfl rfl rfl zZ zU rfl) rfl ?_; rintro _ ⟨b590, rfl⟩)
 refine B4 ?_
 (refine J0 (cs := [.int .i64 4, .string ⟨⟨[]⟩⟩, .int .i64 0, .int .i64 0, .slice none 0 0, .int .i64 0, .slice none 0 0, .int .i64 0, .slice none 0 0]) zP (fun G9 hle9 hsl9 hno9 => ?_); have hN := A4O (k := 13) (nm := ⟨⟨[]⟩⟩) ⟨by omega, by omega⟩ (A1t _) (A22 G9 ⟨⟨[]⟩⟩ 0 (k := 4) ⟨by omega, by omega⟩ ⟨by omega, by omega⟩) hsl9)
 refine A4 ?_
 refine A1D ?_
 refine H6 (outs := [rd br pb nb cb (p2 + 1 + 1)]) (rC rfl (A3 rfl rfl)) zI ?_
 (exact ⟨(p2 + 1 + 1), by omega, by omega, rfl, _, _, rfl, hN, by first | exact R0 (by first | assumption | decide) | exact A05 zY zW zW zW | exact V5 zY zW zW | exact N5 zY S6 zW | exact N5 zY har.small zW | exact N5 zY S6 (V5 zY zW (R0 zY)) | exact N5 zY A06 (R0 zY) | assumption, by simp only [E1, H3]; omega⟩)
 refine A8 ?_
 refine A4R (p2 + 1 + 1, Gp) (I1 zO zJ) ⟨B9.refl _, by dsimp only; omega, by dsimp only; omega⟩
 refine O5 ?_
 (have hkk1 : k = 1 := zZ; refine K9 rfl (A0p _ br pb nb cb (p2) bs 3 hb hnb zZ) (Pk.perm zP) rfl rfl (fun v Gp outs hle620 hh => ?_); obtain ⟨rfl, rfl, j620, rfl, hj620, hk620⟩ := hh; have hpk23 := hj620)
 replace hb := hb.mono hle620
 replace hrt := hrt.mono hle620
 refine sB (qE rfl rfl) rfl rfl (fun h621 => ?_) (fun h621 => ?_)
 refine A8 ?_
 refine H1 rfl ((A2y _)) rfl rfl ?_
 refine E0 ?_
 (refine J2 (D1 rfl rfl rfl zZ zU rfl) rfl ?_; rintro _ ⟨b629, rfl⟩)
 refine B4 ?_
 (refine J0 (cs := [.int .i64 4, .string ⟨⟨[]⟩⟩, .int .i64 0, .int .i64 0, .slice none 0 0, .int .i64 0, .slice none 0 0, .int .i64 0, .slice none 0 0]) zP (fun G9 hle9 hsl9 hno9 => ?_); have hN := A4O (k := 13) (nm := ⟨⟨[]⟩⟩) ⟨by omega, by omega⟩ (A1t _) (A22 G9 ⟨⟨[]⟩⟩ 0 (k := 4) ⟨by omega, by omega⟩ ⟨by omega, by omega⟩) hsl9)
 refine A4 ?_
 refine A1D ?_
 refine H6 (outs := [rd br pb nb cb (p2 + 1)]) (rC rfl (A3 rfl rfl)) zI ?_
 (exact ⟨(p2 + 1), by omega, by omega, rfl, _, _, rfl, hN, by first | exact R0 (by first | assumption | decide) | exact A05 zY zW zW zW | exact V5 zY zW zW | exact N5 zY S6 zW | exact N5 zY har.small zW | exact N5 zY S6 (V5 zY zW (R0 zY)) | exact N5 zY A06 (R0 zY) | assumption, by simp only [E1, H3]; omega⟩)
 refine A8 ?_
 refine A4R (p2 + 1, Gp) (I1 zO zJ) ⟨B9.refl _, by dsimp only; omega, by dsimp only; omega⟩
 refine A9 ?_
 refine A4R (p2, G2) (I1 zO zJ) ⟨B9.refl _, by dsimp only; omega, by dsimp only; omega⟩
 (have hq := hcut1; rintro ⟨(p5 : Nat), G5⟩ ⟨hle5c, hp5a, hp5b⟩; simp only [] at hle5c hp5a hp5b ⊢; have hcut2 := hp5a; replace hx := hx.mono hle5c; replace hb := hb.mono hle5c; replace hrt := hrt.mono hle5c;)
 refine B4 ?_
 refine sB (A0w rfl rfl) rfl rfl (fun h658 => ?_) (fun h658 => ?_)
 refine A4 ?_
 (refine K9 rfl (A0p _ br pb nb cb (p5) bs 2 hb hnb zZ) (Pk.perm zP) rfl rfl (fun v Gp outs hle661 hh => ?_); obtain ⟨rfl, rfl, j661, rfl, hj661, hk661⟩ := hh; have hpk5 := hj661)
 replace hb := hb.mono hle661
 replace hrt := hrt.mono hle661
 refine sB (qE rfl rfl) rfl rfl (fun h662 => ?_) (fun h662 => ?_)
 refine E8 ?_
 refine H1 rfl ((A1v _)) rfl rfl ?_
 (have hz2 : L8 (.mk 2 []) = 0 := rfl; have hcall := A62 br pb nb cb bs hnb (.mk 2 []) (p5 + 1) _ _ (W8 zY zY) (L5 _ ⟨by omega, by omega⟩) hb zZ; refine K9 rfl hcall (Pk.perm zP) rfl rfl (fun v Gn outs hleG hh => ?_); obtain ⟨pG, hpG1, hpG2, rfl, uG, cuG, rfl, hruG, huaG, husG, huhG⟩ := hh; obtain ⟨quG, duG, euG, rfl, _⟩ := hruG.open; replace hx := hx.mono hleG; replace hb := hb.mono hleG; replace hrt := hrt.mono hleG;)
 refine E0 ?_
 refine sP (Q7 rfl rfl zZ zZ) rfl rfl ?_
 (obtain ⟨m, rfl⟩ := hfu.pos (.inl zZ); have hmB : mB (m + 1) = 3 * mB m + 200 := rfl; have hgm := A2k m; have hcall := ih m zZ (depth - 1) uG pG _ pc nc cc _ (hfu.sub zZ (huhG 4 (A3M 4 zY zY))) zZ zZ zZ hx hruG hb zZ; refine K9 rfl hcall (Pk.perm zP) rfl rfl (fun v Gn outs hley hh => ?_); obtain ⟨py, hpy1, hpy2, rfl, ey, cy, rfl, hry, hsmy, hcy⟩ := hh; obtain ⟨y1, y2, y3, y4, y5, y6, y7, y8, y9, rfl⟩ := hry.nine; replace hx := hx.mono hley; replace hb := hb.mono hley; replace hrt := hrt.mono hley;)
 refine A4 ?_
 refine H1 rfl ((A1v _)) rfl rfl ?_
 refine E0 ?_
 refine sP (Q7 rfl rfl zZ zZ) rfl rfl ?_
 (have hcall := ih m zZ (depth - 1) (.mk 2 []) py _ pc nc cc _ (hfu.sub zZ (A3M 4 zY zY)) zZ zZ zZ hx (L5 _ ⟨by omega, by omega⟩) hb zZ; refine K9 rfl hcall (Pk.perm zP) rfl rfl (fun v Gn outs hlec hh => ?_); obtain ⟨pc, hpc1, hpc2, rfl, ec, cc, rfl, hrc, hsmc, hcc⟩ := hh; obtain ⟨c1, c2, c3, c4, c5, c6, c7, c8, c9, rfl⟩ := hrc.nine; replace hry := hry.mono hlec; replace hx := hx.mono hlec; replace hb := hb.mono hlec; replace hrt := hrt.mono hlec;)
 (refine J2 (D1 rfl rfl rfl zZ zU rfl) rfl ?_; rintro _ ⟨b683, rfl⟩)
 refine H1 rfl ((A3n _ _ _ _ _)) rfl rfl ?_
 refine C1 ?_
 (refine J0 (cs := [y1, y2, y3, y4, y5, y6, y7, y8, y9] ++ [c1, c2, c3, c4, c5, c6, c7, c8, c9]) zP (fun G9 hle9 hsl9 hno9 => ?_); have hN := A4P (k := 7) (nm := ⟨⟨[]⟩⟩) ⟨by omega, by omega⟩ (hry.mono hle9) (hrc.mono hle9) hsl9)
 refine A4 ?_
 refine H6 (outs := [rd br pb nb cb pc]) (rC rfl (A3 rfl rfl)) zI ?_
 (exact ⟨pc, by omega, by omega, rfl, _, _, rfl, hN, by first | exact R0 (by first | assumption | decide) | exact A05 zY zW zW zW | exact V5 zY zW zW | exact N5 zY S6 zW | exact N5 zY har.small zW | exact N5 zY S6 (V5 zY zW (R0 zY)) | exact N5 zY A06 (R0 zY) | assumption, by simp only [E1, H3]; omega⟩)
 refine E8 ?_
 (refine J2 (D1 rfl rfl rfl zZ zU rfl) rfl ?_; rintro _ ⟨b702, rfl⟩)
 (refine W9 zP (fun G4 hle4 hsl4 _ => ?_); refine K9 rfl (A0X G4 br pb nb cb (p5 + 1) bs _ _ _ _ (hb.mono hle4) hnb zZ hsl4 zY) (Pk.perm zP) rfl rfl (fun v G7 outs hle7 hh => ?_); obtain ⟨rfl, rfl, hv⟩ := hh; obtain ⟨kn, rfl, hkn⟩ : ∃ k, v = .int .i64 k ∧ H5 k := (by simp only [List.mem_cons, List.not_mem_nil, or_false] at hv; rcases hv with rfl | rfl | rfl | rfl | rfl <;> exact ⟨_, rfl, by unfold H5; omega⟩))
 refine H1 rfl ((A3O _ _)) rfl rfl ?_
 refine B4 ?_
 refine H6 (outs := [rd br pb nb cb (p5 + 1 + 1)]) (rC rfl (A3 rfl rfl)) zI ?_
 (exact ⟨(p5 + 1 + 1), by omega, by omega, rfl, _, _, rfl, A22 _ _ _ ⟨by omega, by omega⟩ (by first | exact ⟨by omega, by omega⟩ | exact hkn), by first | exact R0 (by first | assumption | decide) | exact A05 zY zW zW zW | exact V5 zY zW zW | exact N5 zY S6 zW | exact N5 zY har.small zW | exact N5 zY S6 (V5 zY zW (R0 zY)) | exact N5 zY A06 (R0 zY) | assumption, by simp only [E1, H3]; omega⟩)
 refine O5 ?_
 (refine J2 (D1 rfl rfl rfl zZ zU rfl) rfl ?_; rintro _ ⟨b724, rfl⟩)
 (refine W9 zP (fun G4 hle4 hsl4 _ => ?_); refine K9 rfl (A0X G4 br pb nb cb p5 bs _ _ _ _ (hb.mono hle4) hnb zZ hsl4 zY) (Pk.perm zP) rfl rfl (fun v G7 outs hle7 hh => ?_); obtain ⟨rfl, rfl, hv⟩ := hh; obtain ⟨kn, rfl, hkn⟩ : ∃ k, v = .int .i64 k ∧ H5 k := (by simp only [List.mem_cons, List.not_mem_nil, or_false] at hv; rcases hv with rfl | rfl | rfl | rfl | rfl <;> exact ⟨_, rfl, by unfold H5; omega⟩))
 refine H1 rfl ((A3O _ _)) rfl rfl ?_
 refine B4 ?_
 refine H6 (outs := [rd br pb nb cb (p5 + 1)]) (rC rfl (A3 rfl rfl)) zI ?_
 (exact ⟨(p5 + 1), by omega, by omega, rfl, _, _, rfl, A22 _ _ _ ⟨by omega, by omega⟩ (by first | exact ⟨by omega, by omega⟩ | exact hkn), by first | exact R0 (by first | assumption | decide) | exact A05 zY zW zW zW | exact V5 zY zW zW | exact N5 zY S6 zW | exact N5 zY har.small zW | exact N5 zY S6 (V5 zY zW (R0 zY)) | exact N5 zY A06 (R0 zY) | assumption, by simp only [E1, H3]; omega⟩)
def R9 (o : Option Ty) (G : IM) : IM → Value → List A7 → Prop := M5 fun G' v => ∃ t cells, v = .tuple ⟨[.agg ⟨cells⟩, .bool o.isSome]⟩ ∧ C6 G' t cells ∧ I0 t ∧ ∀ u, o = some u → u = t
theorem R9.yes {G G' : IM} {o : Option Ty} {t : Ty} {cells : List Value} (h : o = some t) (hr : C6 G' t cells) (ha : I0 t) : R9 o G G' (.tuple ⟨[.agg ⟨cells⟩, .bool true]⟩) [] := by
 subst h; exact ⟨rfl, t, cells, rfl, hr, ha, fun u h => (by cases h; rfl)⟩
theorem R9.no {G G' : IM} {o : Option Ty} {t : Ty} {cells : List Value} (h : o = none) (hr : C6 G' t cells) (ha : I0 t) : R9 o G G' (.tuple ⟨[.agg ⟨cells⟩, .bool false]⟩) [] := by
 subst h; exact ⟨rfl, t, cells, rfl, hr, ha, fun u h => (by cases h)⟩
theorem R9.mk {G G' : IM} {o : Option Ty} {b : Bool} {t : Ty} {cells : List Value} (h : o = if b = true then some t else none) (hr : C6 G' t cells) (ha : I0 t) : R9 o G G' (.tuple ⟨[.agg ⟨cells⟩, .bool b]⟩) [] := by
 cases b
 ·exact R9.no h hr ha
 ·exact R9.yes h hr ha
theorem B6x {t : Ty} (h : H7 t = true) : I0 t := (A2a h).1
theorem A5U (k : Int) (a b : Ty) (G : IM) (ca cb : List Value) (hk : k = 4 ∨ k = 5) (ha : I0 a) (hb : I0 b) (hra : C6 G a ca) (hrb : C6 G b cb) :
  Fn Tryz.prog 124 [.int .i64 k, .agg ⟨ca⟩, .agg ⟨cb⟩] [] G (M5 fun G' v => ∃ cells, v = .tuple ⟨[.agg ⟨cells⟩, .bool (H7 (.mk k [a, b]))]⟩ ∧ C6 G' (.mk k [a, b]) cells) := by
 obtain ⟨ak, aks⟩ := a
 obtain ⟨bk, bks⟩ := b
 obtain ⟨pa, cca, ea, rfl, _⟩ := hra.open
 obtain ⟨pb, ccb, eb, rfl, _⟩ := hrb.open
 have hki : H5 k := ⟨by omega, by omega⟩
 refine C0 Tryz.func124 rfl Tryz.ntmps124 Tryz.results124 rfl ?_
 intro w0
 refine A4 ?_
 refine sE (B5 rfl rfl) rfl (fun b3 => ?_)
 refine sE (B5 rfl rfl) rfl (fun b4 => ?_)
 refine sE (A6 rfl) rfl (fun b5 => ?_)
 refine B4 ?_
 refine D3 D4 rfl ?_
 refine I9 (i := 0) (l' := [tt,ff,ff,ff,ff,ff,ff,ff,ff]) rfl C8 (qM rfl) rfl zX rfl rfl ?_
 refine aL 1 rfl (A3 rfl rfl) rfl ?_
 refine aL 3 rfl (A3 rfl rfl) rfl ?_
 refine P2 (j := 2) (j' := 7) zX ?_ ?_
 (refine H0 rfl rfl (Y8 _ G _ ha.small hra) rfl rfl rfl (fun v G1 hle1 hh => ?_); obtain ⟨cs1, F1, rfl, hs1, hn1⟩ := hh; obtain ⟨p1, c1, rfl, _⟩ := hs1.open; have hC2 := Y8 _ G1 _ hb.small (hrb.mono hle1))
 refine P2 (j := 4) (j' := 7) zX ?_ ?_
 (refine H0 rfl rfl hC2 rfl rfl rfl (fun v G2 hle2 hh => ?_); obtain ⟨cs2, F2, rfl, hs2, hn2⟩ := hh; obtain ⟨p2, c2, rfl, _⟩ := hs2.open; have hr1 := hs1.R.mono ((D9.le G1 G).trans hle2); have hr2 := hs2.R.mono (D9.le G2 G1))
 refine P2 (j := 5) (j' := 7) zX ?_ ?_
 (refine D2 rfl (D1 rfl rfl rfl zZ zU rfl) rfl rfl ?_; rintro _ ⟨b19, rfl⟩)
 refine aP 6 rfl (pBd rfl rfl) rfl ?_
 refine A2 7 ?_
 (refine D2 rfl (A6 rfl) rfl rfl ?_; rintro _ ⟨b22, rfl⟩)
 refine A2 8 ?_
 refine C9 rfl ?_
 refine C1 ?_
 (have hr1' := hr1; refine A11 zP (fun G5 hle5 hsl5 hno5 => ?_); have hRT : C6 G5 (.mk k [.mk ak aks, .mk bk bks]) _ := D8.ty (ts := [.mk ak aks, .mk bk bks]) (es := [[.int .i64 ak, .slice p1 aks.length c1], [.int .i64 bk, .slice p2 bks.length c2]]) ⟨_, _, rfl, hr1.mono hle5, _, _, rfl, hr2.mono hle5, rfl⟩ rfl hsl5 hki; have hV := A3i _ G5 _ hRT; refine D3 D4 rfl ?_)
 refine I7 (i := 0) (l' := [tt,ff,ff,ff,ff]) rfl C8 (A3 rfl rfl) rfl zX rfl rfl ?_
 refine aL 1 rfl (A3 rfl rfl) rfl ?_
 refine A2 2 ?_
 refine T2 rfl rfl (hV) rfl rfl rfl ?_
 refine A2 3 ?_
 refine C9 rfl ?_
 refine aP 4 rfl (qA rfl) rfl ?_
 refine C1 ?_
 refine H2 (rC rfl (A3 rfl rfl)) (rT rfl) ?_
 (exact ⟨rfl, _, rfl, hRT⟩)
 (refine D2 rfl (A6 rfl) rfl rfl ?_; rintro _ ⟨b41, rfl⟩)
 refine A2 5 ?_
 (refine D2 rfl (D1 rfl rfl rfl zZ zU rfl) rfl rfl ?_; rintro _ ⟨b43, rfl⟩)
 refine aP 6 rfl (pBd rfl rfl) rfl ?_
 refine A2 8 ?_
 refine C9 rfl ?_
 refine C1 ?_
 (have hr1' := hr1; refine A11 zP (fun G5 hle5 hsl5 hno5 => ?_); have hRT : C6 G5 (.mk k [.mk ak aks, .mk bk bks]) _ := D8.ty (ts := [.mk ak aks, .mk bk bks]) (es := [[.int .i64 ak, .slice p1 aks.length c1], [.int .i64 bk, .slice p2 bks.length c2]]) ⟨_, _, rfl, hr1.mono hle5, _, _, rfl, hr2.mono hle5, rfl⟩ rfl hsl5 hki; have hV := A3i _ G5 _ hRT; refine D3 D4 rfl ?_)
 refine I7 (i := 0) (l' := [tt,ff,ff,ff,ff]) rfl C8 (A3 rfl rfl) rfl zX rfl rfl ?_
 refine aL 1 rfl (A3 rfl rfl) rfl ?_
 refine A2 2 ?_
 refine T2 rfl rfl (hV) rfl rfl rfl ?_
 refine A2 3 ?_
 refine C9 rfl ?_
 refine aP 4 rfl (qA rfl) rfl ?_
 refine C1 ?_
 refine H2 (rC rfl (A3 rfl rfl)) (rT rfl) ?_
 (exact ⟨rfl, _, rfl, hRT⟩)
 (refine D2 rfl (A6 rfl) rfl rfl ?_; rintro _ ⟨b63, rfl⟩)
 refine A2 4 ?_
 (refine H0 rfl rfl hC2 rfl rfl rfl (fun v G2 hle2 hh => ?_); obtain ⟨cs2, F2, rfl, hs2, hn2⟩ := hh; obtain ⟨p2, c2, rfl, _⟩ := hs2.open; have hr1 := hs1.R.mono ((D9.le G1 G).trans hle2); have hr2 := hs2.R.mono (D9.le G2 G1))
 refine A2 5 ?_
 (refine D2 rfl (D1 rfl rfl rfl zZ zU rfl) rfl rfl ?_; rintro _ ⟨b67, rfl⟩)
 refine aP 6 rfl (pBd rfl rfl) rfl ?_
 refine A2 8 ?_
 refine C9 rfl ?_
 refine C1 ?_
 (have hr1' := hr1; refine A11 zP (fun G5 hle5 hsl5 hno5 => ?_); have hRT : C6 G5 (.mk k [.mk ak aks, .mk bk bks]) _ := D8.ty (ts := [.mk ak aks, .mk bk bks]) (es := [[.int .i64 ak, .slice p1 aks.length c1], [.int .i64 bk, .slice p2 bks.length c2]]) ⟨_, _, rfl, hr1.mono hle5, _, _, rfl, hr2.mono hle5, rfl⟩ rfl hsl5 hki; have hV := A3i _ G5 _ hRT; refine D3 D4 rfl ?_)
 refine I7 (i := 0) (l' := [tt,ff,ff,ff,ff]) rfl C8 (A3 rfl rfl) rfl zX rfl rfl ?_
 refine aL 1 rfl (A3 rfl rfl) rfl ?_
 refine A2 2 ?_
 refine T2 rfl rfl (hV) rfl rfl rfl ?_
 refine A2 3 ?_
 refine C9 rfl ?_
 refine aP 4 rfl (qA rfl) rfl ?_
 refine C1 ?_
 refine H2 (rC rfl (A3 rfl rfl)) (rT rfl) ?_
 (exact ⟨rfl, _, rfl, hRT⟩)
 (refine D2 rfl (A6 rfl) rfl rfl ?_; rintro _ ⟨b87, rfl⟩)
 refine A2 2 ?_
 (refine H0 rfl rfl (Y8 _ G _ ha.small hra) rfl rfl rfl (fun v G1 hle1 hh => ?_); obtain ⟨cs1, F1, rfl, hs1, hn1⟩ := hh; obtain ⟨p1, c1, rfl, _⟩ := hs1.open; have hC2 := Y8 _ G1 _ hb.small (hrb.mono hle1))
 refine A2 4 ?_
 (refine H0 rfl rfl hC2 rfl rfl rfl (fun v G2 hle2 hh => ?_); obtain ⟨cs2, F2, rfl, hs2, hn2⟩ := hh; obtain ⟨p2, c2, rfl, _⟩ := hs2.open; have hr1 := hs1.R.mono ((D9.le G1 G).trans hle2); have hr2 := hs2.R.mono (D9.le G2 G1))
 refine A2 5 ?_
 (refine D2 rfl (D1 rfl rfl rfl zZ zU rfl) rfl rfl ?_; rintro _ ⟨b93, rfl⟩)
 refine aP 6 rfl (pBd rfl rfl) rfl ?_
 refine A2 8 ?_
 refine C9 rfl ?_
 refine C1 ?_
 (have hr1' := hr1; refine A11 zP (fun G5 hle5 hsl5 hno5 => ?_); have hRT : C6 G5 (.mk k [.mk ak aks, .mk bk bks]) _ := D8.ty (ts := [.mk ak aks, .mk bk bks]) (es := [[.int .i64 ak, .slice p1 aks.length c1], [.int .i64 bk, .slice p2 bks.length c2]]) ⟨_, _, rfl, hr1.mono hle5, _, _, rfl, hr2.mono hle5, rfl⟩ rfl hsl5 hki; have hV := A3i _ G5 _ hRT; refine D3 D4 rfl ?_)
 refine I7 (i := 0) (l' := [tt,ff,ff,ff,ff]) rfl C8 (A3 rfl rfl) rfl zX rfl rfl ?_
 refine aL 1 rfl (A3 rfl rfl) rfl ?_
 refine A2 2 ?_
 refine T2 rfl rfl (hV) rfl rfl rfl ?_
 refine A2 3 ?_
 refine C9 rfl ?_
 refine aP 4 rfl (qA rfl) rfl ?_
 refine C1 ?_
 refine H2 (rC rfl (A3 rfl rfl)) (rT rfl) ?_
 (exact ⟨rfl, _, rfl, hRT⟩)
theorem A7G (k : Int) (t : Ty) (G : IM) (cells : List Value) (hk : k = 4 ∨ k = 5) (ha : I0 t) (hr : C6 G t cells) :
  Fn Tryz.prog 141 [.int .i64 k, .agg ⟨cells⟩] [] G (A9I k t G) := by
 obtain ⟨tk, ks⟩ := t
 have ha2 := ha
 rw [I0] at ha2
 have hkid := ha.kid
 obtain ⟨p, c, es, rfl, htk, hsl, hkl⟩ := hr.open
 simp only [Ty.k, Ty.ks] at htk hsl hkl ⊢
 refine C0 Tryz.func141 rfl Tryz.ntmps141 Tryz.results141 rfl ?_
 intro w0
 refine A4 ?_
 refine sE (B5 rfl rfl) rfl (fun b3 => ?_)
 refine sE (A6 rfl) rfl (fun b4 => ?_)
 refine sE (A6 rfl) rfl (fun b5 => ?_)
 refine E4 ?_
 refine sB (qE rfl rfl) rfl rfl (fun h14 => ?_) (fun h14 => ?_)
 refine A8 ?_
 refine H1 rfl ((A2y _)) rfl rfl ?_
 refine H1 rfl ((A2y _)) rfl rfl ?_
 refine B0 ?_
 refine F0 (rC rfl (A3 rfl rfl)) (rC rfl (A3 rfl rfl)) (rT rfl) ?_
 (refine ⟨rfl, _, _, _, _, ?_, A1t _, A1t _, A4p, A4p, ?_⟩ <;> rw [A2D, if_neg zZ, if_pos zZ] <;> first | rfl | (intro p hp; cases hp; rfl))
 refine M3 ?_
 refine sB (V0 rfl rfl) rfl rfl (fun h42 => ?_) (fun h42 => ?_)
 refine M8 ?_
 refine F0 (rC rfl (A3 rfl rfl)) (rC rfl (A3 rfl rfl)) (rT rfl) ?_
 (refine ⟨rfl, B3, _, B3, _, ?_, L5 _ ⟨by omega, by omega⟩, L5 _ ⟨by omega, by omega⟩, W8 zZ zZ, W8 zZ zZ, ?_⟩ <;> rw [A2D, if_neg zZ, if_neg zZ] <;> first | rfl | (intro p hp; cases hp))
 refine A9 ?_
 (have hlen : ks.length = 2 := ha2.1 zZ; obtain ⟨b, o, q0, d0, hp0, hat0, hre0, hg0⟩ := hsl.kidTy hkl (i := 0) zZ zZ; obtain ⟨b', o', q1, d1, hp1, hat1, hre1, hg1⟩ := hsl.kidTy hkl (i := 1) zZ zZ; subst hp0; cases hp1; have hC1 := Y8 _ G _ (hkid _ (List.getElem_mem zZ)).small hre0; refine D3 D4 rfl ?_)
 refine I9 (i := 0) (l' := [tt,ff,ff,ff,ff,ff,ff,ff,ff,ff,ff,ff,ff]) rfl C8 (C3 rfl) rfl zX rfl rfl ?_
 refine aL 1 rfl (E9 rfl rfl) rfl ?_
 refine aP 2 rfl (B6 (j := 0) rfl rfl rfl zZ) rfl ?_
 refine aL 3 rfl (A5 rfl rfl (hat0 _) rfl) rfl ?_
 refine aP 5 rfl (C3 rfl) rfl ?_
 refine aL 6 rfl (E9 rfl rfl) rfl ?_
 refine aP 7 rfl (B6 (j := 1) rfl rfl rfl zZ) rfl ?_
 refine aL 8 rfl (A5 rfl rfl (hat1 _) rfl) rfl ?_
 refine A2 4 ?_
 (refine H0 rfl rfl hC1 rfl rfl rfl (fun v G1 hle1 hh => ?_); obtain ⟨cs1, F1, rfl, hs1, hn1⟩ := hh; obtain ⟨p1, c1, rfl, _⟩ := hs1.open; have hC2 := Y8 _ G1 _ (hkid _ (List.getElem_mem zZ)).small (hre1.mono hle1))
 refine A2 9 ?_
 (refine H0 rfl rfl hC2 rfl rfl rfl (fun v G2 hle2 hh => ?_); obtain ⟨cs2, F2, rfl, hs2, hn2⟩ := hh; obtain ⟨p2, c2, rfl, _⟩ := hs2.open; have hr1 := hs1.R.mono ((D9.le G1 G).trans hle2); have hr2 := hs2.R.mono (D9.le G2 G1))
 refine A2 10 ?_
 refine C9 rfl ?_
 refine A2 11 ?_
 refine T3 rfl rfl rfl rfl rfl rfl rfl rfl zV zR (by rfl) ?_
 refine aP 12 rfl (qA rfl) rfl ?_
 refine C1 ?_
 refine F0 (rC rfl (A3 rfl rfl)) (rC rfl (A3 rfl rfl)) (rT rfl) ?_
 (refine ⟨rfl, _, _, _, _, ?_, hr1, hr2, hkid _ (List.getElem_mem zZ), hkid _ (List.getElem_mem zZ), ?_⟩ <;> rw [A2D, if_pos zZ] <;> first | rfl | (intro p hp; cases hp; simp [hlen]))
theorem B6y (G : IM) (cx : Cx) (hv : cxV cx) (p : Option Addr) (n c : Nat) (nm : ByteArray) (hx : W1 G cx p n c) :
  Fn Tryz.prog 103 [.slice p n c, .string nm] [] G (R9 (A0J cx nm) G) := by
 have hn := hx.le
 refine C0 Tryz.func103 rfl Tryz.ntmps103 Tryz.results103 rfl ?_
 intro w0
 refine A4 ?_
 refine sE (A6 rfl) rfl (fun b3 => ?_)
 refine E4 ?_
 refine sP (Q7 rfl rfl zZ zZ) rfl rfl ?_
 refine C1 ?_
 refine C2 ?_
 (refine L4 (fun (i : Nat) => ⟨[(6, .int .i64 ((i : Int) - 1)), (0, .slice p n c), (1, .string nm), (4, .pointer (some ⟨b3, 0, none⟩))], [.blk b3 [.int .i64 0, .slice none 0 0]], G⟩) (fun i => i ≤ n ∧ A0J cx nm = A0j cx nm i) (fun i => i) n ?_ ?_ ?_)
 exact F9
 (exact ⟨Nat.le_refl _, by unfold A0J; rw [hx.1]⟩)
 (rintro i ⟨hi, hlk⟩)
 refine B4 ?_
 refine sB (A1j rfl rfl) rfl rfl (fun h25 => ?_) (fun h25 => ?_)
 refine A9 ?_
 (show K7 _ _ (.block 1 _) _ _; obtain ⟨j, rfl⟩ : ∃ j, i = j + 1 := ⟨i - 1, by omega⟩; rw [show ((j + 1 : Nat) : Int) - 1 = (j : Int) from by omega]; obtain ⟨b, o, nm1, t1, q1, d1, hcx, rfl, hat, hr1, hgb⟩ := hx.get (i := j) zZ; have ha1 := B6x (hv _ (List.mem_of_getElem? hcx)); refine C2 ?_)
 refine B4 ?_
 refine sP (B6 rfl rfl rfl zZ) rfl rfl ?_
 refine E0 ?_
 refine sL (I2 rfl rfl ((hat _).sub (j := 0) rfl)) rfl rfl ?_
 refine E0 ?_
 refine sB (A2u rfl rfl) rfl rfl (fun h41 => ?_) (fun h41 => ?_)
 refine B0 ?_
 refine sP (B6 rfl rfl rfl zZ) rfl rfl ?_
 refine E0 ?_
 refine sL (A5 rfl rfl (hat _).drop rfl) rfl rfl ?_
 (refine F4 rfl (Y8 _ G _ ha1.small hr1) rfl rfl (fun v G1 hle1 hh => ?_); obtain ⟨cs1, F1, rfl, hs1', hn1⟩ := hh; obtain ⟨p1, c1, rfl, _⟩ := hs1'.open; have hrr := hs1'.R.mono (D9.le G1 G))
 refine J4 ?_
 refine H2 (rC rfl (A3 rfl rfl)) (rT rfl) ?_
 (exact R9.yes (by rw [hlk]; exact A6X hcx zW) hrr ha1)
 refine E4 ?_
 refine sP (Q7 rfl rfl zZ zZ) rfl rfl ?_
 refine A4 ?_
 refine J6 j ?_ ?_ ?_
 exact F9
 (exact ⟨by omega, by rw [hlk]; exact A6Y hcx zW⟩)
 (show _ < _ + 1; omega)
 refine N7 ?_
 refine H2 (rC rfl (A3 rfl rfl)) (rT rfl) ?_
 (obtain rfl : i = 0 := zZ; exact R9.no (by rw [hlk]; rfl) (L5 _ ⟨by omega, by omega⟩) (W8 zZ zZ))
end Gw
end Go.Proofs.YtbdacdnffkhgeaaGreatDoor
