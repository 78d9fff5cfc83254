/-
  A static term gets no casts, so it does not fail: the plain law.
-/
import Derived.Test.YtfpgncjeejickaaGreatKg7
import Derived.Test.YtfpgncjeejickaaGreatKg5
import Derived.Lib.Slices
import Derived.Test.YtfpgncjeejickaaGreatKg6
import Derived.Test.YtfpgncjeejickaaGreatKg3
import Derived.Test.YtfpgncjeejickaaGreatKg2
import Derived.Test.YtfpgncjeejickaaGreatShelf
import Derived.Test.YtfpgncjeejickaaGreatKg1
import Derived.Lib.ItoaNum
import Derived.Lib.LaidTab
set_option linter.unusedVariables false
set_option linter.unusedSimpArgs false
set_option maxHeartbeats 0
set_option maxRecDepth 100000
set_option synthInstance.maxSize 4000
set_option synthInstance.maxHeartbeats 0
namespace Go.Proofs.YtfpgncjeejickaaGreat
open Go Go.RowKit
namespace Gw
mutual
theorem A6Z : ∀ (a b : Ty), K0 a b = true → N3 a = 0 → N3 b = 0 → a = b
 | .mk k ks, .mk k' ks', h, h1, h2 => by
  rw [S7] at h
  simp only [Bool.or_eq_true, Bool.and_eq_true, decide_eq_true_eq] at h
  rw [N3] at h1 h2
  have hk : k ≠ 1 := by intro hk; rw [if_pos hk] at h1; cases h1
  have hk' : k' ≠ 1 := by intro hk; rw [if_pos hk] at h2; cases h2
  rw [if_neg hk] at h1
  rw [if_neg hk'] at h2
  rcases h with (h | h) | ⟨rfl, h⟩
  ·exact absurd h hk
  ·exact absurd h hk'
  ·rw [B0y ks ks' h h1 h2]
theorem B0y : ∀ (xs ys : List Ty), M9 xs ys = true → R5 xs = 0 → R5 ys = 0 → xs = ys
 | [], [], _, _, _ => rfl
 | [], _ :: _, h, _, _ => by simp [M9] at h
 | _ :: _, [], h, _, _ => by simp [M9] at h
 | a :: xs, b :: ys, h, h1, h2 => by
  rw [M9, Bool.and_eq_true] at h
  rw [R5] at h1 h2
  have p1 := (A3o a).1
  have p2 := (A2g xs).1
  have p3 := (A3o b).1
  have p4 := (A2g ys).1
  rw [A6Z a b h.1 (by omega) (by omega), B0y xs ys h.2 (by omega) (by omega)]
end
theorem A60 {h : List Ty} (hh : ∀ a ∈ h, N3 a = 0) (i : Nat) : N3 (h.getD i B2) = 0 := by
 rw [List.getD_eq_getElem?_getD]
 cases hx : h[i]? with
 | none => rfl
 | some t => exact hh t (List.mem_of_getElem? hx)
theorem B0z : ∀ {ks : List Ty}, R5 ks = 0 → ∀ u ∈ ks, N3 u = 0
 | [], _, u, hu => by simp at hu
 | a :: ks, h, u, hu => by
  rw [R5] at h
  have p1 := (A3o a).1
  have p2 := (A2g ks).1
  rcases List.mem_cons.1 hu with h1 | h1
  ·rw [h1]; omega
  ·exact B0z (by omega) u h1
theorem B0A {k : Int} {ks : List Ty} (h : N3 (.mk k ks) = 0) : ∀ u ∈ ks, N3 u = 0 := by
 rw [N3] at h
 split at h
 ·cases h
 ·exact B0z h
theorem A5m {k : Int} {a b : Ty} (hk : k ≠ 1) (ha : N3 a = 0) (hb : N3 b = 0) : N3 (.mk k [a, b]) = 0 := by
 rw [N3, if_neg hk, R5, R5, R5]; omega
theorem B0B {k : Int} {t a b : Ty} (ht : N3 t = 0) (h : R0 k t = some (a, b)) : N3 a = 0 ∧ N3 b = 0 := by
 obtain ⟨tk, ks⟩ := t
 rw [show R0 k (.mk tk ks) = (if tk = k then some (ks.getD 0 B2, ks.getD 1 B2) else if tk = 1 then some (P8, P8) else none) from rfl] at h
 split at h
 ·cases h; exact ⟨A60 (B0A ht) 0, A60 (B0A ht) 1⟩
 ·split at h
  ·rename_i h1; rw [B0w h1] at ht; cases ht
  ·cases h
theorem B5r {cx : Cx} {k : Int} {nm : ByteArray} {ty : Ty} {h w : List Ty} {t : Ty} (hcx : ∀ x u, V6 cx x = some u → N3 u = 0) (hh : ∀ a ∈ h, N3 a = 0) (hty : k = 5 ∨ k = 13 → N3 ty = 0) (hw : L8 cx k nm ty h = some (w, t)) :
  (∀ a ∈ w, N3 a = 0) ∧ N3 t = 0 := by
 have g := A60 hh
 unfold L8 at hw
 split at hw
 ·split at hw
  ·rename_i u hu; cases hw; exact ⟨by simp, hcx _ _ hu⟩
  ·cases hw
 split at hw
 ·cases hw; exact ⟨by simp, rfl⟩
 split at hw
 ·cases hw; exact ⟨by simp, rfl⟩
 split at hw
 ·rename_i hk; cases hw; exact ⟨by simp, A5m (by decide) (hty (.inl hk)) (g 0)⟩
 split at hw
 ·split at hw
  ·rename_i a b hm
   obtain ⟨h1, h2⟩ := B0B (g 0) hm
   split at hw
   ·cases hw
    exact ⟨by intro x hx; simp only [List.mem_cons, List.not_mem_nil, or_false] at hx; rcases hx with rfl | rfl; exact A5m (by decide) h1 h2; exact h1, h2⟩
   ·cases hw
  ·cases hw
 split at hw
 ·split at hw
  ·cases hw
   refine ⟨by intro x hx; simp only [List.mem_cons, List.not_mem_nil, or_false] at hx; rcases hx with rfl | rfl <;> rfl, ?_⟩
   split <;> rfl
  ·cases hw
 split at hw
 ·split at hw
  ·rename_i hc
   have he := A6Z _ _ hc.2 (g 1) (g 2)
   rw [he, A6m] at hw
   cases hw
   exact ⟨by intro x hx; simp only [List.mem_cons, List.not_mem_nil, or_false] at hx; rcases hx with rfl | rfl | rfl; rfl; exact g 2; exact g 2, g 2⟩
  ·cases hw
 split at hw
 ·cases hw; exact ⟨by simp, A5m (by decide) (g 0) (g 1)⟩
 split at hw
 ·rename_i hk
  split at hw
  ·cases hw; exact ⟨by intro x hx; simp only [List.mem_cons, List.not_mem_nil, or_false] at hx; rw [hx]; exact hty (.inr hk), hty (.inr hk)⟩
  ·cases hw
 ·split at hw
  ·rename_i a b hm
   obtain ⟨h1, h2⟩ := B0B (g 0) hm
   cases hw
   refine ⟨by intro x hx; simp only [List.mem_cons, List.not_mem_nil, or_false] at hx; rw [hx]; exact A5m (by decide) h1 h2, ?_⟩
   split
   ·exact h2
   ·exact h1
  ·cases hw
theorem B0C : ∀ (us : List Tm) (h w : List Ty) (l : Int), (∀ i, (hi : i < w.length) → (hh : i < h.length) → h[i] = w[i]) → E5 us h w l = (us, l)
 | [], h, w, l, _ => by simp [E5]
 | u :: us, [], w, l, _ => by simp [E5]
 | u :: us, a :: h, [], l, _ => by simp [E5]
 | u :: us, a :: h, b :: w, l, hs => by
  have h0 : a = b := hs 0 (by simp) (by simp)
  rw [E5, if_pos (by rw [h0]; exact A4J b), B0C us h w l (fun i hi hh => hs (i + 1) (by simpa using hi) (by simpa using hh))]
theorem B5s {cx : Cx} {k : Int} {nm : ByteArray} {ty : Ty} (hcx : ∀ x u, V6 cx x = some u → N3 u = 0) (hty : k = 5 → N3 ty = 0) : ∀ x u, V6 (N2 cx k nm ty) x = some u → N3 u = 0 := by
 intro x u hu
 unfold N2 at hu
 split at hu
 ·rw [A8Z] at hu
  split at hu
  ·cases hu; exact hty (by assumption)
  ·exact hcx x u hu
 ·exact hcx x u hu
abbrev NoC (u : Tm) : Prop := A3i (fun _ => False) u
theorem B5t (ks : List Tm) (ih : ∀ t ∈ ks, ∀ (d : Int) (cx : Cx) (l : Int) (u : Tm) (a : Ty) (l' : Int), M5 12 14 t d = true → W2 cx → (∀ x u, V6 cx x = some u → N3 u = 0) → (∀ u ∈ H0 t, N3 u = 0) → M0 cx t l = some (u, a, l') → NoC u ∧ N3 a = 0) :
  ∀ (d : Int) (cx : Cx) (l : Int) (us : List Tm) (h : List Ty) (l' : Int), M3 12 14 ks d = true → W2 cx → (∀ x u, V6 cx x = some u → N3 u = 0) → (∀ u ∈ H5 ks, N3 u = 0) → L0 cx ks l = some (us, h, l') → (∀ u ∈ us, NoC u) ∧ (∀ a ∈ h, N3 a = 0) := by
 induction ks with
 | nil => intro d cx l us h l' _ _ _ _ he; rw [L0] at he; cases he; exact ⟨by simp, by simp⟩
 | cons t ts ihl =>
  intro d cx l us h l' hs hv hcx hts he
  rw [M3, Bool.and_eq_true] at hs
  rw [H5] at hts
  rw [L0] at he
  split at he
  ·cases he
  ·rename_i u a l1 h1
   split at he
   ·cases he
   ·rename_i us' h' l2 h2
    cases he
    obtain ⟨a1, a2⟩ := ih t List.mem_cons_self d cx l u a l1 hs.1 hv hcx (fun u hu => hts u (List.mem_append_left _ hu)) h1
    obtain ⟨b1, b2⟩ := ihl (fun x hx => ih x (List.mem_cons_of_mem _ hx)) d cx l1 us' h' _ hs.2 hv hcx (fun u hu => hts u (List.mem_append_right _ hu)) h2
    exact ⟨fun x hx => by rcases List.mem_cons.1 hx with e | e; rw [e]; exact a1; exact b1 x e, fun x hx => by rcases List.mem_cons.1 hx with e | e; rw [e]; exact a2; exact b2 x e⟩
theorem B5u : ∀ (t : Tm) (d : Int) (cx : Cx) (l : Int) (u : Tm) (a : Ty) (l' : Int), M5 12 14 t d = true → W2 cx → (∀ x u, V6 cx x = some u → N3 u = 0) → (∀ u ∈ H0 t, N3 u = 0) → M0 cx t l = some (u, a, l') → NoC u ∧ N3 a = 0 := by
 refine Tm.ind fun k nm num ty fr lb ks ih d cx l u a l' hs hv hcx hts he => ?_
 obtain ⟨n1, n2, n3, n4, n5, n6, n7, n8, n9⟩ := A6p hs
 rw [H0] at hts
 have hty : k = 5 ∨ k = 13 → N3 ty = 0 := fun hk => hts ty (by rw [if_pos hk]; simp)
 have hcv : W2 (N2 cx k nm ty) := A3c hv fun hk => n5 (.inl hk)
 rw [M0] at he
 split at he
 ·cases he
 ·rename_i us h l1 hL
  obtain ⟨e1, e2, e3, e4⟩ := (A6l ks (fun t _ d cx l => A2E t d cx l) (d + 1) (N2 cx k nm ty) l n9 hcv).1 us h l1 hL
  obtain ⟨g1, g2⟩ := B5t ks ih (d + 1) (N2 cx k nm ty) l us h l1 n9 hcv (B5s hcx fun hk => hty (.inl hk)) (fun u hu => hts u (List.mem_append_right _ hu)) hL
  obtain ⟨w, hw, _, hu⟩ := A1c he
  obtain ⟨w1, w2⟩ := B5r hcx g2 hty hw
  have hwt := A6D e2 (fun hk => n5 (.inr hk)) (by rw [e3]; exact n1) n2 hw
  have hsm : E5 us h w l1 = (us, l1) := B0C us h w l1 fun i hi hh => A6Z _ _ (hwt.ok i hi hh).1 (g2 _ (List.getElem_mem hh)) (w1 _ (List.getElem_mem hi))
  refine ⟨?_, w2⟩
  rw [hu, hsm]
  split
  ·show NoC (us.getD 0 K1)
   rw [List.getD_eq_getElem?_getD]
   cases hx : us[0]? with
   | none => exact A6B.2 ⟨fun e => absurd e (by decide), trivial⟩
   | some t => exact g1 t (List.mem_of_getElem? hx)
  ·exact A6B.2 ⟨fun e => absurd e n2, A6C.2 g1⟩
def A2h (x : Tm) (fuel : Int) : Int := A0E ((S1 x).getD (K1, B2)).1 fuel
def U0 (e : Tm) (fuel : Int) : Option (List Int) := if R8 fuel 0 300 = true then (V2 e).map (List.map fun x => A2h x fuel) else none
def mNC (x : Tm) : Int := ((Q4 ((S1 x).getD (K1, B2)).1).length : Int)
def A0j (e : Tm) : Option (List Int) := (V2 e).map (List.map mNC)
theorem A61 (e : Tm) : D0 ((S1 e).getD (K1, B2)).1 ≤ 200 := by
 cases hi : S1 e with
 | none => decide
 | some r =>
  obtain ⟨u, t⟩ := r
  exact (A1O (A45 hi).1).2
def A0v (e : Tm) (fuel : Int) : Int × Bool := match U0 e fuel with
 | some l => (Lib.idxOf l (Lib.maxOf l), true)
 | none => (0, false)
theorem A5n {e : Tm} {fuel : Int} {l : List Int} (h : U0 e fuel = some l) : 0 < l.length ∧ l.length ≤ 64 := by
 unfold U0 V2 at h
 split at h
 ·split at h
  ·rename_i hc
   have : 2 ^ (H0 e).length ≤ 2 ^ 6 := Nat.pow_le_pow_right (by decide) hc.2
   have := Nat.two_pow_pos (H0 e).length
   simp only [Option.map_some, Option.some.injEq] at h
   subst h
   simp only [A1S, List.length_map, List.length_range]
   omega
  ·cases h
 ·cases h
structure B0D (l : List Int) (b : Nat) : Prop where
 lt : b < l.length
 le : ∀ j, j < l.length → l.getD j 0 ≤ l.getD b 0
 first : ∀ j, j < b → l.getD j 0 < l.getD b 0
theorem B5v : ∀ (n : Nat) (l : List Int) (b : Nat), 0 < n → n ≤ l.length → b < n → (∀ j, j < n → l.getD j 0 ≤ l.getD b 0) → Lib.maxOf (l.take n) = l.getD b 0 := by
 intro n
 induction n with
 | zero => intro l b h; omega
 | succ n ih =>
  intro l b _ hn hb hle
  by_cases h0 : n = 0
  ·subst h0
   obtain rfl : b = 0 := by omega
   exact Lib.maxOf_one l
  ·rw [Lib.maxOf_step l n (by omega) (by omega)]
   by_cases hbn : b = n
   ·subst hbn
    
    have hx : ∀ m, m ≤ b → 0 < m → Lib.maxOf (l.take m) ≤ l.getD b 0 := by
     intro m
     induction m with
     | zero => intro _ h; omega
     | succ m ihm =>
      intro hm _
      by_cases h1 : m = 0
      ·subst h1; rw [Lib.maxOf_one]; exact hle 0 (by omega)
      ·rw [Lib.maxOf_step l m (by omega) (by omega)]
       have h3 := ihm (by omega) (by omega)
       have h4 := hle m (by omega)
       omega
    have := hx b (Nat.le_refl _) (by omega)
    omega
   ·rw [ih l b (by omega) (by omega) (by omega) (fun j hj => hle j (by omega))]
    have := hle n (by omega)
    omega
theorem B0E {l : List Int} {b : Nat} (h : B0D l b) : Lib.idxOf l (Lib.maxOf l) = (b : Int) := by
 have hm := B5v l.length l b (by have := h.lt; omega) (Nat.le_refl _) h.lt h.le
 rw [List.take_length] at hm
 rw [hm]
 have := Lib.idxOf_hit l l.length b (l.getD b 0) h.lt (Nat.le_refl _) rfl (fun j hj he => by have := h.first j hj; omega)
 rwa [List.take_length] at this
theorem B5w : ∀ (n : Nat) (l : List Int), 0 < n → n ≤ l.length → ∃ b, b < n ∧ (∀ j, j < n → l.getD j 0 ≤ l.getD b 0) ∧ ∀ j, j < b → l.getD j 0 < l.getD b 0 := by
 intro n
 induction n with
 | zero => intro l h; omega
 | succ n ih =>
  intro l _ hn
  by_cases h0 : n = 0
  ·subst h0; exact ⟨0, by omega, fun j hj => (by have hj0 : j = 0 := (by omega); rw [hj0]; exact Int.le_refl _), fun j hj => by omega⟩
  ·obtain ⟨b, h1, h2, h3⟩ := ih l (by omega) (by omega)
   by_cases hc : l.getD b 0 < l.getD n 0
   ·refine ⟨n, by omega, fun j hj => ?_, fun j hj => ?_⟩
    ·by_cases hj2 : j = n
     ·subst hj2; exact Int.le_refl _
     ·have := h2 j (by omega); omega
    ·have := h2 j (by omega); omega
   ·refine ⟨b, by omega, fun j hj => ?_, h3⟩
    by_cases hj2 : j = n
    ·subst hj2; omega
    ·exact h2 j (by omega)
theorem B5x {l : List Int} (h : 0 < l.length) : ∃ b, B0D l b := by
 obtain ⟨b, h1, h2, h3⟩ := B5w l.length l h (Nat.le_refl _)
 exact ⟨b, h1, h2, h3⟩
theorem B5y (e : Tm) {fuel : Int} (h : R8 fuel 0 300 = true) : 0 ≤ A0E e fuel ∧ A0E e fuel ≤ fuel := by
 have h2 := A4r h
 unfold A0E
 rw [if_pos h2, A9s]
 have := A9r fuel.toNat e
 omega
theorem B5z {e : Tm} {fuel : Int} {l : List Int} (h : U0 e fuel = some l) : ∃ b : Nat, A0v e fuel = ((b : Int), true) ∧ b < l.length ∧ ∀ i, i < l.length → 0 ≤ l.getD i 0 ∧ l.getD i 0 ≤ fuel ∧ l.getD i 0 ≤ l.getD b 0 ∧ (l.getD i 0 = l.getD b 0 → b ≤ i) := by
 obtain ⟨hp, _⟩ := A5n h
 obtain ⟨b, hb⟩ := B5x hp
 refine ⟨b, by unfold A0v; rw [h]; simp only [B0E hb], hb.lt, fun i hi => ?_⟩
 have hr : 0 ≤ l.getD i 0 ∧ l.getD i 0 ≤ fuel := by
  unfold U0 at h
  split at h
  ·rename_i hf
   cases hc : V2 e with
   | none => rw [hc] at h; cases h
   | some xs =>
    rw [hc] at h
    simp only [Option.map_some, Option.some.injEq] at h
    subst h
    rw [List.getD_eq_getElem?_getD, List.getElem?_map]
    rw [List.length_map] at hi
    rw [List.getElem?_eq_getElem hi]
    exact B5y _ hf
  ·cases h
 refine ⟨hr.1, hr.2, hb.le i hi, fun he => ?_⟩
 apply Classical.byContradiction
 intro hc
 have := hb.first i (by omega)
 omega
theorem B0F {e : Tm} {l : List Int} (h : A0j e = some l) : (O0 e).isSome = true ∧ N8 e = true ∧ l.length = 2 ^ (H0 e).length ∧ (H0 e).length ≤ 6 ∧
  ∀ i, i < l.length → ∃ u t, S1 (P5 e i) = some (u, t) ∧ l.getD i 0 = ((Q4 u).length : Int) := by
 unfold A0j V2 at h
 split at h
 ·rename_i hc
  have hv := A5h hc.1
  simp only [Option.map_some, Option.some.injEq] at h
  subst h
  have hlen : ((A1S e).map mNC).length = 2 ^ (H0 e).length := by simp [A1S]
  refine ⟨hc.1, hv, hlen, hc.2, fun i hi => ?_⟩
  rw [hlen] at hi
  have hp := B5e (m := 0) (m' := i) hv (fun j hj => by rw [Nat.zero_div] at hj; cases hj)
  rw [B0q] at hp
  obtain ⟨u, t, hu⟩ := A9L (B4t hc.1 hp)
  refine ⟨u, t, hu, ?_⟩
  unfold A1S
  rw [List.getD_eq_getElem?_getD, List.getElem?_map, List.getElem?_map, List.getElem?_range hi]
  simp only [Option.map_some, Option.getD_some, mNC, hu]
 ·cases h
mutual
theorem B0G : ∀ t : Tm, NoC t → Q4 t = []
 | .mk k nm num ty fr lb ks, h => by
  obtain ⟨h1, h2⟩ := A6B.1 h
  rw [Q4, if_neg (fun hk => h1 hk), List.nil_append, B0H ks (fun t ht => A6C.1 h2 t ht)]
theorem B0H : ∀ ts : List Tm, (∀ t ∈ ts, NoC t) → O8 ts = []
 | [], _ => by rw [O8]
 | t :: ts, h => by rw [O8, B0G t (h t List.mem_cons_self), B0H ts fun u hu => h u (List.mem_cons_of_mem _ hu)]; rfl
end
theorem B5A {e u : Tm} {t : Ty} (h : A1V e = true) (hu : S1 e = some (u, t)) : Q4 u = [] := by
 refine B0G u ?_
 unfold A1V at h
 rw [Bool.and_eq_true, List.all_eq_true] at h
 unfold S1 at hu
 rw [if_pos h.1] at hu
 split at hu
 ·rename_i u' t' l' he
  cases hu
  exact (B5u e 1 [] 0 u t l' ((Z8 e).1 h.1).1 A2D (fun x u hx => by simp [V6, W6] at hx) (fun u hu => of_decide_eq_true (h.2 u hu)) he).1
 ·cases hu
theorem B5B {e : Tm} {l : List Int} (h : A0j e = some l) (hs : A1V e = true) : l.getD 0 0 = 0 := by
 obtain ⟨_, _, h3, _, h5⟩ := B0F h
 obtain ⟨u, t, h6, h7⟩ := h5 0 (by rw [h3]; exact Nat.two_pow_pos _)
 rw [B0q] at h6
 rw [h7, B5A hs h6]; rfl
def B6Z (G : IM) : IM → Value → List A5 → Prop := J4 fun G' v => ∃ u cu t ct b, v = .tuple ⟨[.agg ⟨cu⟩, .agg ⟨ct⟩, .bool b]⟩ ∧ A8 G' u cu ∧ u.small ∧ D0 u ≤ 60 ∧ C1 G' t ct ∧ F4 t ∧ J7 t ≤ 960
def B60 (G : IM) : IM → Value → List A5 → Prop := J4 fun G' v => ∃ t cells l q c, v = .tuple ⟨[.agg ⟨cells⟩, .slice q l.length c]⟩ ∧ A8 G' t cells ∧ t.fit 100 ∧ Sl G' q l.length c 1 (N6 l) ∧ l.length ≤ 100
def A4a (ts : List Tm) (G : IM) : IM → Value → List A5 → Prop := J4 fun G' v => ∃ p c es, v = .slice p ts.length c ∧ D1 G' p ts.length c 9 es ∧ C6 G' ts es
theorem A4a.mk {ts : List Tm} {n : Nat} {G G' : IM} {p : Option Addr} {c : Nat} {es : List (List Value)} (hn : ts.length = n) (hs : Sl G' p n c 9 es.flatten) (hr : C6 G' ts es) : A4a ts G G' (.slice p n c) [] := by
 subst hn
 exact ⟨rfl, p, c, es, rfl, D1.of hs hr.len hr.all (fun e he => by obtain ⟨q, hq⟩ := List.getElem?_of_mem he; exact (hr.inv hq K1).2.one), hr⟩
theorem A62 : ∀ (t : Tm) (G : IM) (cells : List Value), D0 t ≤ 1000000 → A8 G t cells → Fn Tryz.prog 72 [.agg ⟨cells⟩] [] G (A4a (Q4 t) G) := by
 refine Tm.ind fun k nm num ty fr lb ks ih G cells hcnt hr => ?_
 have hone := hr.one
 have hself := hr
 have hc14 : k = 14 → Q4 (.mk k nm num ty fr lb ks) = [.mk k nm num ty fr lb ks] ++ O8 ks := fun h => by rw [Q4, if_pos h]
 have hcne : k ≠ 14 → Q4 (.mk k nm num ty fr lb ks) = [] ++ O8 ks := fun h => by rw [Q4, if_neg h]
 rw [D0] at hcnt
 obtain ⟨tk, tks⟩ := ty
 obtain ⟨fk, fks⟩ := fr
 obtain ⟨pt, ct, pf, cf, q, cq, ek, rfl, hk, hnum, hlb, hty, hfr, hsl, hkl⟩ := hr.open9
 have hn := hsl.le
 refine C0 Tryz.func72 rfl Tryz.ntmps72 Tryz.results72 rfl ?_
 intro w0
 refine tS (tR ?_)
 refine sE (C5 rfl rfl) rfl (fun b3 => ?_)
 refine K3 ?_
 refine sB (qE rfl rfl) rfl rfl (fun h17 => ?_) (fun h17 => ?_)
 refine sD (nS (qT rfl ?_))
 (show J1 _ _ (.region 3 ..) _ _; refine Q7 28 9 ?_; refine tR ?_)
 refine D7 ?_
 (refine I1 (C9 rfl rfl rfl (by omega) (by unfold maxLen; omega) rfl) rfl ?_; rintro _ ⟨b24, rfl⟩)
 (refine X4 rfl rfl rfl rfl rfl (fun _ _ => by repeat (first | exact Sw.here | apply Sw.there)) (M6 (by repeat first | exact mH | apply mT)) rfl (by simp [Value.oneCell']) (by unfold maxLen; omega) (by omega) rfl (fun pn0 cn0 => ?_))
 refine K8 ?_
 refine B8 ?_
 (have h14 := hc14 (by omega); have hinit := C6.one1 hself; refine I2 (fun (x : Nat × Nat × Option Addr × Nat × List (List Value) × IM) => ⟨[(16, .int .i64 x.1), (15, .int .i64 ks.length), (14, .slice q ks.length cq), (3, .slice x.2.2.1 x.2.1 x.2.2.2.1)], [.slc x.2.2.1 x.2.2.2.1 28 9 x.2.1 x.2.2.2.2.1.flatten], x.2.2.2.2.2⟩) (fun x => x.1 ≤ ks.length ∧ B9 G x.2.2.2.2.2 ∧ C6 x.2.2.2.2.2 ([.mk k nm num (.mk tk tks) (.mk fk fks) lb ks] ++ O8 (ks.take x.1)) x.2.2.2.2.1 ∧ ([Tm.mk k nm num (.mk tk tks) (.mk fk fks) lb ks] ++ O8 (ks.take x.1)).length = x.2.1) (fun x => ks.length - x.1) (0, 1, pn0, cn0, [[.int .i64 k, .string nm, .int .i64 num, .int .i64 tk, .slice pt tks.length ct, .int .i64 fk, .slice pf fks.length cf, .int .i64 lb, .slice q ks.length cq]], G) ?_ ?_ ?_)
 (simp only [H6]; exact D3)
 (exact ⟨Nat.zero_le _, B9.refl _, by simpa [O8] using hinit, by simp [O8]⟩)
 (rintro ⟨(i : Nat), (m : Nat), pn, cn, es, Gi⟩ ⟨hi, hle, hst, hlen⟩; simp only [] at hi hle hst hlen ⊢; replace hsl := hsl.mono hle; replace hkl := hkl.mono hle; have hb1 := A1U (ks.take i); have hb2 := A1U ks; simp only [List.length_append, List.length_singleton, List.length_nil] at hlen)
 refine tS (tR ?_)
 refine sB (I0 rfl rfl) rfl rfl (fun h45 => ?_) (fun h45 => ?_)
 refine B4 ?_
 refine B8 ?_
 refine tS (tR ?_)
 (obtain ⟨b, o, e, rfl, hl, hat, hre, hgb⟩ := hsl.kidTm hkl (i := i) (by omega) (by omega); have hone9 := hre.one; have hsc := A0p (ks := ks) (i := i) (by omega); have hsk := Z6 (ks := ks) (i := i) (by omega); refine sP (B3 rfl rfl rfl (by omega)) rfl rfl ?_)
 refine sL (A2 rfl rfl (hat _) hl) rfl rfl ?_
 refine sE (A6 rfl) rfl (fun b58 => ?_)
 refine sS rfl rfl rfl hl hone9 rfl ?_ (hu := by exact D5 hl.symm)
 refine B6 ?_
 refine sL (A2 rfl rfl (A9 (by repeat first | exact mH | apply mT)) hl) rfl rfl ?_
 (refine D8 rfl (ih ks[i] (List.getElem_mem (by omega)) _ _ (by omega) hre) rfl rfl (fun v G3 hle3 hh => ?_); obtain ⟨p3, c3, e3, rfl, hs3, hr3⟩ := hh; have hlk := A2N ks[i]; refine A47 (cs := es.flatten) (by repeat (first | exact Pk.here | apply Pk.there)) (fun hcap => ?_))
 (refine A2v rfl rfl rfl rfl rfl (fun _ _ => by repeat (first | exact Sw.here | apply Sw.there)) hs3.1 hr3.ones hcap (by unfold maxLen; omega) (by omega) rfl (fun p4 c4 => ?_))
 refine B0 ?_
 refine sP (H2 rfl rfl (by omega) (by omega)) rfl rfl ?_
 refine D7 ?_
 (have hap := C6.append (hst.mono hle3) hr3; refine H9 (i + 1, m + (Q4 ks[i]).length, p4, c4, es ++ e3, G3) (by simp only [List.flatten_append]; exact (J8 (by repeat (first | exact D4.nil | refine D4.cons rfl ?_)) (by repeat (first | exact A0.refl | exact A0.nil | refine A0.cons (by repeat (first | exact Pk.here | apply Pk.there)) ?_ | apply A0.drop)))) ?_ ?_)
 (dsimp only; exact ⟨by omega, hle.trans hle3, by rw [A5l (by omega), ← List.append_assoc]; exact hap, by rw [A5l (by omega)]; simp only [List.length_append, List.length_singleton, List.length_nil]; omega⟩)
 (show ks.length - (i + 1) < ks.length - i; omega)
 refine I6 ?_
 (refine E9 (cs := es.flatten) (by repeat (first | exact Pk.here | apply Pk.there)) (fun G5 hle5 hsl5 hno5 => ?_); obtain rfl : i = ks.length := (by omega))
 refine tT (K7 (rT rfl) ?_)
 (rw [h14]; rw [List.take_length] at hst hlen; exact A4a.mk (by simp only [List.length_append, List.length_singleton, List.length_nil]; omega) hsl5 (hst.mono hle5))
 refine K5 ?_
 refine B8 ?_
 (have h14 := hcne (by omega); refine Q7 28 9 ?_; refine I2 (fun (x : Nat × Nat × Option Addr × Nat × List (List Value) × IM) => ⟨[(16, .int .i64 x.1), (15, .int .i64 ks.length), (14, .slice q ks.length cq), (3, .slice x.2.2.1 x.2.1 x.2.2.2.1)], [.slc x.2.2.1 x.2.2.2.1 28 9 x.2.1 x.2.2.2.2.1.flatten], x.2.2.2.2.2⟩) (fun x => x.1 ≤ ks.length ∧ B9 G x.2.2.2.2.2 ∧ C6 x.2.2.2.2.2 ([] ++ O8 (ks.take x.1)) x.2.2.2.2.1 ∧ ([] ++ O8 (ks.take x.1)).length = x.2.1) (fun x => ks.length - x.1) (0, 0, none, 0, [], G) ?_ ?_ ?_)
 (simp only [H6]; exact D3)
 (exact ⟨Nat.zero_le _, B9.refl _, by simp [O8, C6], by simp [O8]⟩)
 (rintro ⟨(i : Nat), (m : Nat), pn, cn, es, Gi⟩ ⟨hi, hle, hst, hlen⟩; simp only [] at hi hle hst hlen ⊢; replace hsl := hsl.mono hle; replace hkl := hkl.mono hle; have hb1 := A1U (ks.take i); have hb2 := A1U ks; simp only [List.length_append, List.length_singleton, List.length_nil] at hlen)
 refine tS (tR ?_)
 refine sB (I0 rfl rfl) rfl rfl (fun h118 => ?_) (fun h118 => ?_)
 refine B4 ?_
 refine B8 ?_
 refine tS (tR ?_)
 (obtain ⟨b, o, e, rfl, hl, hat, hre, hgb⟩ := hsl.kidTm hkl (i := i) (by omega) (by omega); have hone9 := hre.one; have hsc := A0p (ks := ks) (i := i) (by omega); have hsk := Z6 (ks := ks) (i := i) (by omega); refine sP (B3 rfl rfl rfl (by omega)) rfl rfl ?_)
 refine sL (A2 rfl rfl (hat _) hl) rfl rfl ?_
 refine sE (A6 rfl) rfl (fun b131 => ?_)
 refine sS rfl rfl rfl hl hone9 rfl ?_ (hu := by exact D5 hl.symm)
 refine B6 ?_
 refine sL (A2 rfl rfl (A9 (by repeat first | exact mH | apply mT)) hl) rfl rfl ?_
 (refine D8 rfl (ih ks[i] (List.getElem_mem (by omega)) _ _ (by omega) hre) rfl rfl (fun v G3 hle3 hh => ?_); obtain ⟨p3, c3, e3, rfl, hs3, hr3⟩ := hh; have hlk := A2N ks[i]; refine A47 (cs := es.flatten) (by repeat (first | exact Pk.here | apply Pk.there)) (fun hcap => ?_))
 (refine A2v rfl rfl rfl rfl rfl (fun _ _ => by repeat (first | exact Sw.here | apply Sw.there)) hs3.1 hr3.ones hcap (by unfold maxLen; omega) (by omega) rfl (fun p4 c4 => ?_))
 refine B0 ?_
 refine sP (H2 rfl rfl (by omega) (by omega)) rfl rfl ?_
 refine D7 ?_
 (have hap := C6.append (hst.mono hle3) hr3; refine H9 (i + 1, m + (Q4 ks[i]).length, p4, c4, es ++ e3, G3) (by simp only [List.flatten_append]; exact (J8 (by repeat (first | exact D4.nil | refine D4.cons rfl ?_)) (by repeat (first | exact A0.refl | exact A0.nil | refine A0.cons (by repeat (first | exact Pk.here | apply Pk.there)) ?_ | apply A0.drop)))) ?_ ?_)
 (dsimp only; exact ⟨by omega, hle.trans hle3, by rw [A5l (by omega), ← List.append_assoc]; exact hap, by rw [A5l (by omega)]; simp only [List.length_append, List.length_singleton, List.length_nil]; omega⟩)
 (show ks.length - (i + 1) < ks.length - i; omega)
 refine I6 ?_
 (refine E9 (cs := es.flatten) (by repeat (first | exact Pk.here | apply Pk.there)) (fun G5 hle5 hsl5 hno5 => ?_); obtain rfl : i = ks.length := (by omega))
 refine tT (K7 (rT rfl) ?_)
 (rw [h14]; rw [List.take_length] at hst hlen; exact A4a.mk (by simp only [List.length_append, List.length_singleton, List.length_nil]; omega) hsl5 (hst.mono hle5))
def B61 (ts : List Ty) (G : IM) : IM → Value → List A5 → Prop := J4 fun G' v => ∃ p c es, v = .slice p ts.length c ∧ D1 G' p ts.length c 2 es ∧ C8 G' ts es
theorem B5C (G : IM) (cells : List Value) (hl : cells.length = 9) (ho : cells.all (·.oneCell') = true) : Fn Tryz.prog 51 [.agg ⟨cells⟩] [] G (I5 (.tuple ⟨[]⟩) G) := by
 refine C0 Tryz.func51 rfl Tryz.ntmps51 Tryz.results51 rfl ?_
 intro w0
 refine tR ?_
 refine sE (C5 rfl rfl) rfl (fun b2 => ?_)
 refine sD ?_
 refine B38 ?_
 (exact ⟨rfl, rfl, rfl⟩)
theorem B5D {e : Tm} {fuel : Int} (h : R8 fuel 0 300 = false) : A0E e fuel = 0 := by
 unfold A0E; rw [if_neg (A7F h)]
theorem B5E {e : Tm} {fuel : Int} (h : R8 fuel 0 300 = true) : A0E e fuel = ((R1 fuel.toNat e).2.2.2 : Int) := by
 unfold A0E; rw [if_pos (A4r h), A9s]
theorem B5F (e : Tm) (fuel : Int) (G : IM) (cells : List Value) (hr : A8 G e cells) : Fn Tryz.prog 15 [.agg ⟨cells⟩, .int .i64 fuel] [] G (J4 fun _ v => v = .int .i64 (A0E e fuel)) := by
 have hRl := hr.len
 have hRo := hr.one
 have hno := @B5D e fuel
 have hye := @B5E e fuel
 refine C0 Tryz.func15 rfl Tryz.ntmps15 Tryz.results15 rfl ?_
 intro w0
 refine tS (tR ?_)
 refine sE (C5 rfl rfl) rfl (fun b3 => ?_)
 refine B4 ?_
 refine H4 rfl ((A9t fuel _)) rfl rfl (fun h11 => ?_) (fun h11 => ?_)
 refine D6 ?_
 refine sL (A2 rfl rfl (A9 (by repeat first | exact mH | apply mT)) hRl) rfl rfl ?_
 refine sQ (qM rfl) rfl ?_
 (have hf : R8 fuel 0 300 = true := (by assumption); have hf2 := A4r hf; have hE := B39 e fuel.toNat (by omega) 51 [] [] (fun G u cells hru => B5C G cells hru.len hru.one) G cells hr; rw [Int.toNat_of_nonneg hf2.1] at hE; have hye2 := hye hf; refine D8 rfl hE rfl rfl (fun v G1 hle1 hh => ?_); obtain ⟨wc, hv, hrw⟩ := hh; have hwl := hrw.len; have hwo := hrw.one; generalize R1 fuel.toNat e = r at hv hrw hye2; obtain ⟨w, c, l, i⟩ := r; simp only at hv hrw hye2; subst hv)
 refine B0 ?_
 refine sE (A6 rfl) rfl (fun b28 => ?_)
 refine sS rfl rfl rfl hwl hwo rfl ?_ (hu := by exact D5 hwl.symm)
 refine K3 ?_
 (exact ⟨rfl, by rw [hye2]⟩)
 refine K8 ?_
 (exact ⟨rfl, by rw [hno (by assumption)]⟩)
theorem B5G (e : Tm) (G : IM) (cells : List Value) (hcv : P0 e = true) (hr : A8 G e cells) :
  Fn Tryz.prog 32 [.agg ⟨cells⟩] [] G (J4 fun _ v => v = .int .i64 ((Q4 e).length : Int)) := by
 have hl := hr.len
 have hone := hr.one
 have hV := A4D e G cells hr
 rw [hcv] at hV
 have hcn := (A1O hcv).2
 have hC := A62 _ G cells (by omega) hr
 refine C0 Tryz.func32 rfl Tryz.ntmps32 Tryz.results32 rfl ?_
 intro w0
 refine tS (tR ?_)
 refine sE (C5 rfl rfl) rfl (fun b3 => ?_)
 refine A7 ?_
 refine sL (A2 rfl rfl (A9 (by repeat first | exact mH | apply mT)) hl) rfl rfl ?_
 refine H3 rfl (hV) rfl rfl ?_
 refine D6 ?_
 refine sL (A2 rfl rfl (A9 (by repeat first | exact mH | apply mT)) hl) rfl rfl ?_
 (refine D8 rfl hC rfl rfl (fun v3 G3 hle3 hh => ?_); obtain ⟨p3, c3, e3, rfl, _⟩ := hh)
 refine A7 ?_
 exact ⟨rfl, rfl⟩
def B62 (r : Option Ty) : IM → Value → List A5 → Prop := J4 fun G' v => ∃ cells, v = .tuple ⟨[.agg ⟨cells⟩, .bool r.isSome]⟩ ∧ C1 G' (r.getD B2) cells
theorem Fn.frz {P : Program} {f : FuncId} {args : List Value} {G : IM} {post : IM → Value → List A5 → Prop} (h : Fn P f args [] G post) (Φ : IM → Value → Prop)
  (hp : ∀ G' v outs, post G' v outs → (outs = [] ∧ Φ G' v) ∨ ∃ p c el sz n cs, outs = [.slc p c el sz n cs] ∧ ∀ G'', B9 G' G'' → Sl G'' p n c sz cs → Φ G'' v) : Fn P f args [] G (J4 Φ) := by
 refine ⟨fun w hw => (h.run w hw).mono ?_⟩
 rintro e w' ⟨v, G', outs, rfl, hr, hq⟩
 rcases hp G' v outs hq with ⟨rfl, h1⟩ | ⟨p, c, el, sz, n, cs, rfl, h1⟩
 ·exact ⟨v, G', [], rfl, hr, rfl, h1⟩
 ·obtain ⟨G'', h2, h3, _⟩ := A7u hr.own
  refine ⟨v, G'', [], rfl, ?_, rfl, h1 G'' h2.le h3⟩
  have := P7.frame (rest := []) (by simpa using hr) h2
  simpa using this
theorem B5H (x : Tm) (fuel : Int) (G : IM) (xc : List Value) (b : Nat) (hr : A8 G x xc) : Fn Tryz.prog 66 [.agg ⟨xc⟩, .pointer (some ⟨b, 0, none⟩)] [.blk b [.int .i64 fuel]] G (fun _ v outs => outs = [.blk b [.int .i64 fuel]] ∧ v = .int .i64 (A2h x fuel)) := by
 have hl := hr.len
 have hone := hr.one
 refine C0 Tryz.func66 rfl Tryz.ntmps66 Tryz.results66 rfl ?_
 intro w0
 refine tS (tR ?_)
 refine sE (C5 rfl rfl) rfl (fun b3 => ?_)
 refine B0 ?_
 refine sL (A2 rfl rfl (A9 (by repeat first | exact mH | apply mT)) hl) rfl rfl ?_
 (refine D8 rfl (A6J x G xc hr) rfl rfl (fun v2 G2 hle2 hh => ?_); obtain ⟨cu, ct, rfl, hru, hrt⟩ := hh; obtain ⟨qt, dt, et2, rfl, _⟩ := hrt.open; have hlu := hru.len; have hou := hru.one; have hC := B5F _ fuel G2 cu hru)
 refine B6 ?_
 refine sE (A6 rfl) rfl (fun b15 => ?_)
 refine sE (A6 rfl) rfl (fun b16 => ?_)
 refine U8 rfl rfl rfl (by assumption) (by assumption) rfl (by repeat first | exact Sw.here | apply Sw.there) (by exact D5 (by symm; assumption)) ?_
 refine A7 ?_
 refine sL (A2 rfl rfl (A9 (by repeat first | exact mH | apply mT)) hlu) rfl rfl ?_
 refine P3 ?_
 (refine D8 rfl hC rfl rfl (fun v3 G3 hle3 hh => ?_); subst hh)
 refine B6 ?_
 refine H7 (outs := [.blk b [.int .i64 fuel]]) (rT rfl) (by repeat (first | exact A0.nil | refine A0.cons Pk.here ?_ | refine A0.cons (Pk.there Pk.here) ?_ | refine A0.cons (Pk.there (Pk.there Pk.here)) ?_ | apply A0.drop)) ?_
 exact ⟨rfl, rfl⟩
theorem B0I (e : Tm) (fuel : Int) (G : IM) (cells : List Value) (hts : e.small) (hcnt : D0 e ≤ 4000000) (hr : A8 G e cells) :
  Fn Tryz.prog 22 [.agg ⟨cells⟩, .int .i64 fuel] [] G (IsP ((U0 e fuel).getD []) (U0 e fuel).isSome G) := by
 have hl := hr.len
 have hone := hr.one
 have hno : R8 fuel 0 300 = false → U0 e fuel = none := fun h => by unfold U0; rw [if_neg (by rw [h]; decide)]
 have hyes : R8 fuel 0 300 = true → U0 e fuel = (V2 e).map (List.map fun x => A2h x fuel) := fun h => by unfold U0; rw [if_pos h]
 generalize U0 e fuel = R at *
 refine C0 Tryz.func22 rfl Tryz.ntmps22 Tryz.results22 rfl ?_
 intro w0
 refine tS (tR ?_)
 refine sE (C5 rfl rfl) rfl (fun b3 => ?_)
 (refine I1 (A7j rfl rfl rfl) rfl ?_; rintro _ ⟨b4, rfl⟩)
 refine D6 ?_
 refine H4 rfl (A9t fuel _) rfl rfl (fun h13 => ?_) (fun h13 => ?_)
 refine D6 ?_
 refine sL (A2 rfl rfl (A9 (by repeat first | exact mH | apply mT)) hl) rfl rfl ?_
 refine sQ (A2Q rfl rfl) rfl ?_
 (have hy2 := hyes (by assumption); refine I4 rfl (A9Y e (fun x => A2h x fuel) 66 [] [.pointer (some ⟨b4, 0, none⟩)] (.blk b4 [.int .i64 fuel]) G cells hts hcnt hr (fun x G' xc hle _ hrx => B5H x fuel G' xc _ hrx)) (Pk.perm (by repeat (first | exact Pk.here | apply Pk.there))) rfl rfl (fun v3 G3 outs hle3 hh => ?_); obtain ⟨rfl, p, c, rfl, hsp⟩ := hh; rw [← hy2] at hsp ⊢)
 refine B4 ?_
 refine F0 (rT rfl) (rT rfl) ?_
 exact IsP.mk rfl rfl rfl hsp
 refine K8 ?_
 refine F0 (rT rfl) (rT rfl) ?_
 exact IsP.mk (by rw [hno (by assumption)]; rfl) (by rw [hno (by assumption)]; rfl) rfl (SP1.nil _)
theorem B5I (x : Tm) (G : IM) (xc : List Value) (E : A5) (hr : A8 G x xc) : Fn Tryz.prog 71 [.agg ⟨xc⟩] [E] G (fun _ v outs => outs = [E] ∧ v = .int .i64 (mNC x)) := by
 have hl := hr.len
 have hone := hr.one
 have hcn := A61 x
 refine C0 Tryz.func71 rfl Tryz.ntmps71 Tryz.results71 rfl ?_
 intro w0
 refine tS (tR ?_)
 refine sE (C5 rfl rfl) rfl (fun b3 => ?_)
 refine B0 ?_
 refine sL (A2 rfl rfl (A9 (by repeat first | exact mH | apply mT)) hl) rfl rfl ?_
 (refine D8 rfl (A6J x G xc hr) rfl rfl (fun v2 G2 hle2 hh => ?_); obtain ⟨cu, ct, rfl, hru, hrt⟩ := hh; obtain ⟨qt, dt, et2, rfl, _⟩ := hrt.open; have hlu := hru.len; have hou := hru.one; have hC := A62 _ G2 cu (by omega) hru)
 refine B6 ?_
 refine sE (A6 rfl) rfl (fun b15 => ?_)
 refine sE (A6 rfl) rfl (fun b16 => ?_)
 refine U8 rfl rfl rfl (by assumption) (by assumption) rfl (by repeat first | exact Sw.here | apply Sw.there) (by exact D5 (by symm; assumption)) ?_
 refine A7 ?_
 refine sL (A2 rfl rfl (A9 (by repeat first | exact mH | apply mT)) hlu) rfl rfl ?_
 (refine D8 rfl hC rfl rfl (fun v3 G3 hle3 hh => ?_); obtain ⟨p3, c3, e3, rfl, _⟩ := hh)
 refine B0 ?_
 refine H7 (outs := [E]) (rT rfl) (by repeat (first | exact A0.nil | refine A0.cons Pk.here ?_ | refine A0.cons (Pk.there Pk.here) ?_ | refine A0.cons (Pk.there (Pk.there Pk.here)) ?_ | apply A0.drop)) ?_
 exact ⟨rfl, rfl⟩
theorem B5J (e : Tm) (G : IM) (cells : List Value) (hts : e.small) (hcnt : D0 e ≤ 4000000) (hr : A8 G e cells) :
  Fn Tryz.prog 28 [.agg ⟨cells⟩] [] G (IsP ((A0j e).getD []) (A0j e).isSome G) := by
 have hl := hr.len
 have hone := hr.one
 have hy2 : A0j e = (V2 e).map (List.map mNC) := rfl
 generalize A0j e = R at *
 refine C0 Tryz.func28 rfl Tryz.ntmps28 Tryz.results28 rfl ?_
 intro w0
 refine tS (tR ?_)
 refine sE (C5 rfl rfl) rfl (fun b3 => ?_)
 refine A7 ?_
 refine sL (A2 rfl rfl (A9 (by repeat first | exact mH | apply mT)) hl) rfl rfl ?_
 (refine B1B 3 1 ?_; refine I4 rfl (A9Y e mNC 71 [] [] (.slc none 0 3 1 0 []) G cells hts hcnt hr (fun x G' xc hle _ hrx => B5I x G' xc _ hrx)) (Pk.perm (by repeat (first | exact Pk.here | apply Pk.there))) rfl rfl (fun v3 G3 outs hle3 hh => ?_); obtain ⟨rfl, p, c, rfl, hsp⟩ := hh; rw [← hy2] at hsp ⊢)
 refine B4 ?_
 refine F0 (rT rfl) (rT rfl) ?_
 exact IsP.mk rfl rfl rfl hsp
theorem B0J {G : IM} {w : World} {b o c : Nat} {l : List Int} (hw : A2O G w) (h : Sl G (some ⟨b, o, none⟩) l.length c 1 (N6 l)) (h0 : 0 < l.length) : ∀ j, j < l.length → w.cell? ⟨b, o + j, none⟩ = some (.int .i64 (l.getD j 0)) := by
 intro j hj
 obtain ⟨_, _, _, h4⟩ := h
 rcases h4 with h4 | ⟨b', o', full, hp, hg, hf⟩
 ·omega
 ·cases hp
  obtain ⟨e, f, hh⟩ := hw b full hg
  have := hf j _ (by rw [N6, List.getElem?_map, List.getElem?_eq_getElem hj]; rfl)
  unfold World.cell?
  simp only [hh, Option.isSome_none, Bool.false_eq_true, if_false]
  rw [List.getElem?_toArray, this, List.getD_eq_getElem?_getD, List.getElem?_eq_getElem hj]
  rfl
theorem B5K (l : List Int) (G : IM) (b o c : Nat) (h0 : 0 < l.length) (hl : l.length ≤ 4294967296) (h : Sl G (some ⟨b, o, none⟩) l.length c 1 (N6 l)) :
  Fn Tryz.prog 57 [.slice (some ⟨b, o, none⟩) l.length c] [] G (I5 (.int .i64 (Lib.maxOf l)) G) := by
 refine ⟨fun w hw => ?_⟩
 refine (Tryz.slices_Max_int b o l.length c l w h0 (Nat.le_refl _) (by omega) (B0J hw.inn h h0)).mono ?_
 rintro e w' ⟨rfl, rfl⟩
 exact ⟨_, G, [], rfl, P7.refl hw, rfl, by rw [List.take_length], rfl⟩
theorem B5L (l : List Int) (x : Int) (G : IM) (b o c : Nat) (h0 : 0 < l.length) (hl : l.length ≤ 4294967296) (h : Sl G (some ⟨b, o, none⟩) l.length c 1 (N6 l)) :
  Fn Tryz.prog 56 [.slice (some ⟨b, o, none⟩) l.length c, .int .i64 x] [] G (I5 (.int .i64 (Lib.idxOf l x)) G) := by
 refine ⟨fun w hw => ?_⟩
 refine (Tryz.slices_Index_int b o l.length c l x w (Nat.le_refl _) (by omega) (B0J hw.inn h h0)).mono ?_
 rintro e w' ⟨rfl, rfl⟩
 exact ⟨_, G, [], rfl, P7.refl hw, rfl, by rw [List.take_length], rfl⟩
theorem B5M (e : Tm) (fuel : Int) (G : IM) (cells : List Value) (hts : e.small) (hcnt : D0 e ≤ 4000000) (hr : A8 G e cells) :
  Fn Tryz.prog 19 [.agg ⟨cells⟩, .int .i64 fuel] [] G (J4 fun _ v => v = .tuple ⟨[.int .i64 (A0v e fuel).1, .bool (A0v e fuel).2]⟩) := by
 have hl := hr.len
 have hone := hr.one
 have hC := B0I e fuel G cells hts hcnt hr
 have hno : U0 e fuel = none → A0v e fuel = (0, false) := fun h => by unfold A0v; rw [h]
 have hyes : ∀ l, U0 e fuel = some l → A0v e fuel = (Lib.idxOf l (Lib.maxOf l), true) := fun l h => by unfold A0v; rw [h]
 have hlen := @A5n e fuel
 generalize U0 e fuel = R at *
 refine C0 Tryz.func19 rfl Tryz.ntmps19 Tryz.results19 rfl ?_
 intro w0
 refine tS (tR ?_)
 refine sE (C5 rfl rfl) rfl (fun b3 => ?_)
 refine A7 ?_
 refine sL (A2 rfl rfl (A9 (by repeat first | exact mH | apply mT)) hl) rfl rfl ?_
 refine sQ (qM rfl) rfl ?_
 focus (refine D8 rfl hC rfl rfl (fun v2 G2 hle2 hh => ?_); obtain ⟨p2, c2, rfl, hp2⟩ := hh; rcases R with _ | l; rotate_left; (obtain ⟨hl1, hl2⟩ := hlen rfl; have hsl : Sl G2 p2 l.length c2 1 (N6 l) := hp2.1.mono (C4.le _ _); obtain ⟨bR, oR, vR, rfl, _⟩ := hsl.kid (i := 0) hl1; have hMx := B5K l G2 bR oR c2 hl1 (by omega) hsl; have hIx := B5L l (Lib.maxOf l) G2 bR oR c2 hl1 (by omega) hsl); rotate_left)
 refine A1j ?_
 refine F0 (rT rfl) (rT rfl) ?_
 (exact ⟨rfl, by rw [hno rfl]⟩)
 refine A0K ?_
 refine H3 rfl (hMx) rfl rfl ?_
 refine H3 rfl (hIx) rfl rfl ?_
 refine B0 ?_
 refine F0 (rT rfl) (rT rfl) ?_
 (exact ⟨rfl, by rw [hyes l rfl]⟩)
theorem B5N {t : Ty} (ha : F4 t) : V7 t = .mk t.k (List.replicate t.ks.length P8) := by
 obtain ⟨k, ks⟩ := t
 rw [F4] at ha
 show (if k = 4 ∨ k = 5 then Ty.mk k [P8, P8] else .mk k []) = _
 show _ = Ty.mk k (List.replicate ks.length P8)
 split
 ·rename_i h; rw [ha.1 h]; rfl
 ·rename_i h
  rw [ha.2.1 (fun e => h (.inl e)) (fun e => h (.inr e))]; rfl
theorem A63 (t : Ty) (G : IM) (cells : List Value) (ha : F4 t) (hr : C1 G t cells) : Fn Tryz.prog 239 [.agg ⟨cells⟩] [] G (A6f (V7 t) G) := by
 rw [B5N ha]
 obtain ⟨tk, tks⟩ := t
 have hsm := ha.small
 rw [Ty.small] at hsm
 obtain ⟨hsm1, _⟩ := hsm
 obtain ⟨p, c, es, rfl, hk, hsl, hkl⟩ := hr.open
 simp only [Ty.k, Ty.ks] at hk hsl hkl ⊢
 have hn := hsl.le
 refine C0 Tryz.func239 rfl Tryz.ntmps239 Tryz.results239 rfl ?_
 intro w0
 refine tS (tR ?_)
 refine sE (C5 rfl rfl) rfl (fun b3 => ?_)
 refine sE (A6 rfl) rfl (fun b4 => ?_)
 refine B4 ?_
 refine sE (A6 rfl) rfl (fun b12 => ?_)
 refine E4 ?_
 refine B8 ?_
 (refine Q7 25 2 ?_; refine I2 (fun (x : Nat × Option Addr × Nat × List (List Value)) => ⟨[(4, .int .i64 x.1), (3, .pointer (some ⟨b12, 0, none⟩)), (1, .pointer (some ⟨b3, 0, none⟩)), (2, .pointer (some ⟨b4, 0, none⟩))], [.blk b12 [.int .i64 tk, .slice x.2.1 x.1 x.2.2.1], .slc x.2.1 x.2.2.1 25 2 x.1 x.2.2.2.flatten, .blk b4 [.int .i64 0, .slice none 0 0], .blk b3 [.int .i64 tk, .slice p tks.length c]], G⟩) (fun x => x.1 ≤ tks.length ∧ C8 G (List.replicate x.1 P8) x.2.2.2) (fun x => tks.length - x.1) (0, none, 0, []) ?_ ?_ ?_)
 (simp only [H6]; exact D3)
 (exact ⟨Nat.zero_le _, rfl⟩)
 (rintro ⟨i, pn, cn, es'⟩ ⟨hi, hst⟩; simp only [] at hi hst ⊢; have hsl' := hst.len; rw [List.length_replicate] at hsl')
 refine B4 ?_
 refine sB (I0 rfl rfl) rfl rfl (fun h34 => ?_) (fun h34 => ?_)
 refine A7 ?_
 refine B8 ?_
 refine E0 E1 rfl ?_
 refine I8 (i := 0) (l' := [tt,ff,ff,ff,ff,ff,ff]) rfl D2 (B7 rfl) rfl (by kernel_rfl) rfl rfl ?_
 refine aL 1 rfl (C7 rfl rfl) rfl ?_
 refine A3 2 ?_
 refine O2 rfl rfl ((A1m _)) rfl rfl rfl ?_
 refine A3 3 ?_
 (refine E6 rfl (C9 rfl rfl rfl (by omega) (by unfold maxLen; omega) rfl) rfl rfl ?_; rintro _ ⟨b48, rfl⟩)
 refine A3 4 ?_
 refine R4 rfl rfl rfl rfl rfl rfl (fun _ _ => by repeat (first | exact Sw.here | apply Sw.there)) (M6 (by repeat first | exact mH | apply mT)) rfl (by simp [Value.oneCell']) (by unfold maxLen; omega) (by omega) rfl rfl (by repeat (first | exact B1.nil | apply B1.dep (by decide +kernel) | apply B1.im (by decide +kernel) (by assumption) (by repeat first | exact mH | apply mT) | apply B1.blk (by decide +kernel) (by repeat (first | exact Pk.here | apply Pk.there)) (by repeat first | exact mH | apply mT) | apply B1.slc (by decide +kernel) (by repeat (first | exact Pk.here | apply Pk.there)) (by repeat first | exact mH | apply mT))) (fun pn' cn' => ?_)
 refine aP 5 rfl (B7 rfl) rfl ?_
 refine A3 6 ?_
 refine R7 rfl rfl rfl rfl rfl rfl rfl rfl (by decide +kernel) (by repeat first | exact Sw.here | apply Sw.there) (by rfl) ?_
 refine B0 ?_
 refine sP (H2 rfl rfl (by omega) (by omega)) rfl rfl ?_
 refine D7 ?_
 refine H9 (i + 1, pn', cn', es' ++ [[.int .i64 1, .slice none 0 0]]) ?_ ?_ ?_
 (simp only [H6]; exact D3)
 (dsimp only; exact ⟨by omega, by rw [List.replicate_succ']; exact C8.snoc hst (A0M _)⟩)
 (show tks.length - (i + 1) < tks.length - i; omega)
 refine K5 ?_
 (refine E9 (cs := es'.flatten) (by repeat (first | exact Pk.here | apply Pk.there)) (fun G2 hle2 hsl2 hno2 => ?_); obtain rfl : i = tks.length := (by omega))
 refine tT ?_
 refine K7 (rC rfl (A4 rfl rfl)) ?_
 (exact ⟨rfl, _, rfl, (hst.mono hle2).ty (by simp) hsl2 hk⟩)
theorem B0K (t : Ty) (G : IM) (cells : List Value) (ha : F4 t) (hr : C1 G t cells) : Fn Tryz.prog 225 [.agg ⟨cells⟩] [] G (I5 (.bool (W7 t)) G) := by
 refine Fn.forget (post := J4 fun _ v => v = .bool (W7 t)) ?_ (fun _ _ _ h => h.2)
 have hr0 := hr
 have hG := A63 t G cells ha hr
 obtain ⟨tk, tks⟩ := t
 obtain ⟨p, c, es, rfl, hk, _⟩ := hr.open
 simp only [Ty.k, Ty.ks] at hk hr0 hG ⊢
 have hd : W7 (.mk tk tks) = (decide (tk ≠ 1) && N0 (.mk tk tks) (V7 (.mk tk tks))) := rfl
 rw [hd]
 generalize V7 (.mk tk tks) = g at hG ⊢
 refine C0 Tryz.func225 rfl Tryz.ntmps225 Tryz.results225 rfl ?_
 intro w0
 refine tS (tR ?_)
 refine sE (C5 rfl rfl) rfl (fun b3 => ?_)
 refine B6 ?_
 refine E0 E1 rfl ?_
 refine I8 (i := 0) (l' := [tt,ff,ff,ff,ff,ff,ff,ff,ff,ff]) rfl D2 (B7 rfl) rfl (by kernel_rfl) rfl rfl ?_
 refine aL 1 rfl (C7 rfl rfl) rfl ?_
 refine A0w (i := 2) (l' := [tt,tt,tt,ff,ff,ff,ff,ff,ff,ff]) rfl D2 (O9 rfl rfl) rfl (by kernel_rfl) rfl rfl (fun h11 => ?_) (fun h11 => ?_)
 refine aP 3 rfl (qM rfl) rfl ?_
 refine aL 4 rfl (A4 rfl rfl) rfl ?_
 refine aL 5 rfl (A4 rfl rfl) rfl ?_
 refine A3 6 ?_
 (refine H1 rfl rfl hG rfl rfl rfl (fun v G1 hle1 hh => ?_); obtain ⟨cg, rfl, hrg⟩ := hh; have hT := A95 (.mk tk tks) g G1 _ _ (hr0.mono hle1) hrg; obtain ⟨pg, cgg, eg, rfl, _⟩ := hrg.open)
 refine A3 7 ?_
 refine O2 rfl rfl (hT) rfl rfl rfl ?_
 refine aP 8 rfl (N7 rfl rfl) rfl ?_
 refine aP 9 rfl (qA rfl) rfl ?_
 refine B6 ?_
 (refine ⟨rfl, ?_⟩; show Value.bool _ = Value.bool _; rw [decide_eq_true (by omega), Bool.true_and])
 refine aP 3 rfl (qM rfl) rfl ?_
 refine C3 4 rfl rfl rfl ?_
 refine C3 5 rfl rfl rfl ?_
 refine C3 6 rfl rfl rfl ?_
 refine C3 7 rfl rfl rfl ?_
 refine aP 8 rfl (N4 rfl rfl) rfl ?_
 refine aP 9 rfl (qA rfl) rfl ?_
 refine B6 ?_
 (refine ⟨rfl, ?_⟩; show Value.bool _ = Value.bool _; rw [decide_eq_false (by omega), Bool.false_and])
theorem A64 (t : Tm) (G : IM) (cells : List Value) (hr : A8 G t cells) : Fn Tryz.prog 180 [.agg ⟨cells⟩] [] G (I5 (.bool (X6 t)) G) := by
 obtain ⟨k, nm, num, ⟨tk, tks⟩, ⟨fk, fks⟩, lb, ks⟩ := t
 obtain ⟨pt, ct, pf, cf, p, c, es, rfl, hk, hnum, hlb, hty, hfr, hsl, hkl⟩ := hr.open9
 have hd : X6 (.mk k nm num (.mk tk tks) (.mk fk fks) lb ks) = decide (k = 14 ∧ fk = tk ∧ (tk = 4 ∨ tk = 5)) := rfl
 rw [hd]
 refine C0 Tryz.func180 rfl Tryz.ntmps180 Tryz.results180 rfl ?_
 intro w0
 refine tS (tR ?_)
 refine sE (C5 rfl rfl) rfl (fun b3 => ?_)
 refine B4 ?_
 refine sB (qE rfl rfl) rfl rfl (fun h11 => ?_) (fun h11 => ?_)
 refine B4 ?_
 refine sB (qE rfl rfl) rfl rfl (fun h19 => ?_) (fun h19 => ?_)
 refine B0 ?_
 refine sB (qE rfl rfl) rfl rfl (fun h25 => ?_) (fun h25 => ?_)
 refine K8 ?_
 (exact ⟨rfl, by rw [decide_eq_true (by omega)], rfl⟩)
 refine B6 ?_
 refine sB (qE rfl rfl) rfl rfl (fun h43 => ?_) (fun h43 => ?_)
 refine B4 ?_
 (exact ⟨rfl, by rw [decide_eq_true (by omega)], rfl⟩)
 refine B4 ?_
 (exact ⟨rfl, by rw [decide_eq_false (by omega)], rfl⟩)
 refine U4 ?_
 (exact ⟨rfl, by rw [decide_eq_false (by omega)], rfl⟩)
 refine A4p ?_
 (exact ⟨rfl, by rw [decide_eq_false (by omega)], rfl⟩)
theorem B0L (t : Tm) (G : IM) (cells : List Value) (ha : F4 t.fr) (hr : A8 G t cells) : Fn Tryz.prog 181 [.agg ⟨cells⟩] [] G (I5 (.bool (inj t)) G) := by
 obtain ⟨k, nm, num, ⟨tk, tks⟩, ⟨fk, fks⟩, lb, ks⟩ := t
 obtain ⟨pt, ct, pf, cf, p, c, es, rfl, hk, hnum, hlb, hty, hfr, hsl, hkl⟩ := hr.open9
 have hd : inj (.mk k nm num (.mk tk tks) (.mk fk fks) lb ks) = (decide (k = 14 ∧ tk = 1) && W7 (.mk fk fks)) := rfl
 rw [hd]
 have hG := B0K (.mk fk fks) G _ ha hfr
 refine C0 Tryz.func181 rfl Tryz.ntmps181 Tryz.results181 rfl ?_
 intro w0
 refine tS (tR ?_)
 refine sE (C5 rfl rfl) rfl (fun b3 => ?_)
 refine B4 ?_
 refine sB (qE rfl rfl) rfl rfl (fun h11 => ?_) (fun h11 => ?_)
 refine B6 ?_
 refine sB (qE rfl rfl) rfl rfl (fun h16 => ?_) (fun h16 => ?_)
 refine B6 ?_
 refine H3 rfl (hG) rfl rfl ?_
 refine A7 ?_
 (exact ⟨rfl, by rw [decide_eq_true (by omega), Bool.true_and], rfl⟩)
 refine J2 ?_
 (exact ⟨rfl, by rw [decide_eq_false (by omega), Bool.false_and], rfl⟩)
 refine J9 ?_
 (exact ⟨rfl, by rw [decide_eq_false (by omega), Bool.false_and], rfl⟩)
section
variable {k : Int} {nm : ByteArray} {num : Int} {ty fr : Ty} {lb : Int} {ks : List Tm}
theorem B5O (h : k = 2 ∨ k = 3 ∨ k = 4 ∨ k = 5) : K6 (.mk k nm num ty fr lb ks) = true := by
 rw [K6, if_neg (by omega)]; exact decide_eq_true h
theorem B5P (h : k = 10) (hl : ks.length = 2) : K6 (.mk k nm num ty fr lb ks) = (K6 (ks[0]'(by omega)) && K6 (ks[1]'(by omega))) := by
 rw [A41 (.inl h)]
 obtain ⟨a, b, rfl⟩ := ks2 hl
 simp
theorem B5Q (h : X6 (.mk k nm num ty fr lb ks) = true ∨ inj (.mk k nm num ty fr lb ks) = true) (hl : ks.length = 1) : K6 (.mk k nm num ty fr lb ks) = K6 (ks[0]'(by omega)) := by
 rw [A41 (.inr h)]
 obtain ⟨a, rfl⟩ := ks1 hl
 simp
theorem B5R (h : ¬(k = 2 ∨ k = 3 ∨ k = 4 ∨ k = 5)) (h10 : k ≠ 10) (h2 : X6 (.mk k nm num ty fr lb ks) = false) (h3 : inj (.mk k nm num ty fr lb ks) = false) : K6 (.mk k nm num ty fr lb ks) = false := by
 rw [A9a h10 h2 h3]; exact decide_eq_false h
theorem B5S (h : X6 (.mk k nm num ty fr lb ks) = true ∨ inj (.mk k nm num ty fr lb ks) = true) : k = 14 := by
 rcases h with h | h
 ·exact (prx_spec' h)
 ·exact A6s h
where
 prx_spec' {k : Int} {nm : ByteArray} {num : Int} {ty fr : Ty} {lb : Int} {ks : List Tm} (h : X6 (.mk k nm num ty fr lb ks) = true) : k = 14 := by rw [A2I] at h; exact (of_decide_eq_true h).1
end
theorem A65 : ∀ (t : Tm) (G : IM) (cells : List Value), cv t → A8 G t cells → Fn Tryz.prog 127 [.agg ⟨cells⟩] [] G (I5 (.bool (K6 t)) G) := by
 refine Tm.ind fun k nm num ty fr lb ks ih G cells hc hr => ?_
 obtain ⟨hN, hkk⟩ := hc.node
 have hop := hN.ops
 have h10 : k = 10 → ks.length = 2 := fun h => by rw [h] at hop; have : E2 10 = 2 := rfl; omega
 have h14 : k = 14 → ks.length = 1 := fun h => by rw [h] at hop; have : E2 14 = 1 := rfl; omega
 have hP := A64 _ G _ hr
 have hI := B0L (.mk k nm num ty fr lb ks) G _ hN.frA hr
 have e1 := @B5O k nm num ty fr lb ks
 have e2 := @B5P k nm num ty fr lb ks
 have e3 := @B5Q k nm num ty fr lb ks
 have e4 := @B5R k nm num ty fr lb ks
 have e5 := @B5S k nm num ty fr lb ks
 generalize hpx : X6 (.mk k nm num ty fr lb ks) = bp at hP e3 e4 e5
 generalize hij : inj (.mk k nm num ty fr lb ks) = bi at hI e3 e4 e5
 generalize K6 (.mk k nm num ty fr lb ks) = R at e1 e2 e3 e4 ⊢
 obtain ⟨tk, tks⟩ := ty
 obtain ⟨fk, fks⟩ := fr
 obtain ⟨pt, ct, pf, cf, p, c, es, rfl, hk, hnum, hlb, hty, hfr, hsl, hkl⟩ := hr.open9
 refine C0 Tryz.func127 rfl Tryz.ntmps127 Tryz.results127 rfl ?_
 intro w0
 refine tS (tR ?_)
 refine sE (C5 rfl rfl) rfl (fun b3 => ?_)
 refine J5 ?_
 refine B8 (tS (tS (tR (sB (qE rfl rfl) rfl rfl (fun h18 => ?_) (fun h18 => ?_)))))
 refine J9 ?_
 (exact ⟨rfl, by rw [e1 (by omega)], rfl⟩)
 refine A7 ?_
 refine sB (qE rfl rfl) rfl rfl (fun h42 => ?_) (fun h42 => ?_)
 refine J9 ?_
 (exact ⟨rfl, by rw [e1 (by omega)], rfl⟩)
 refine A7 ?_
 refine sB (qE rfl rfl) rfl rfl (fun h66 => ?_) (fun h66 => ?_)
 refine J9 ?_
 (exact ⟨rfl, by rw [e1 (by omega)], rfl⟩)
 refine B0 ?_
 refine sB (qE rfl rfl) rfl rfl (fun h89 => ?_) (fun h89 => ?_)
 refine K3 ?_
 (exact ⟨rfl, by rw [e1 (by omega)], rfl⟩)
 refine A7 ?_
 refine sB (qE rfl rfl) rfl rfl (fun h110 => ?_) (fun h110 => ?_)
 refine D6 ?_
 (have hl2 := h10 (by omega); obtain ⟨bx, ox, e, rfl, hl, hat, hre, hgb⟩ := hsl.kidTm hkl (i := 0) (by omega) (by omega); have hih := ih ks[0] (List.getElem_mem (by omega)) G e (hkk _ (List.getElem_mem (by omega))) hre; obtain ⟨_, _, e', hp', hl', hat', hre', hgb'⟩ := hsl.kidTm hkl (i := 1) (by omega) (by omega); cases hp'; have hih' := ih ks[1] (List.getElem_mem (by omega)) G e' (hkk _ (List.getElem_mem (by omega))) hre'; refine sP (B3 (j := 0) rfl rfl rfl (by omega)) rfl rfl ?_)
 refine sL (A2 rfl rfl (hat _) hl) rfl rfl ?_
 refine H4 rfl (hih) rfl rfl (fun h121 => ?_) (fun h121 => ?_)
 refine E3 ?_
 refine sP (B3 (j := 1) rfl rfl rfl (by omega)) rfl rfl ?_
 refine sL (A2 rfl rfl (hat' _) hl') rfl rfl ?_
 refine H4 rfl (hih') rfl rfl (fun h127 => ?_) (fun h127 => ?_)
 refine D6 ?_
 (exact ⟨rfl, by rw [e2 (by omega) hl2]; simp [*], rfl⟩)
 refine D6 ?_
 (exact ⟨rfl, by rw [e2 (by omega) hl2]; simp [*], rfl⟩)
 refine K5 ?_
 (exact ⟨rfl, by rw [e2 (by omega) hl2]; simp [*], rfl⟩)
 refine J5 ?_
 refine H4 rfl (hP) rfl rfl (fun h171 => ?_) (fun h171 => ?_)
 refine B4 ?_
 (have hl1 := h14 (by first | exact e5 (.inl (by assumption)) | exact e5 (.inr (by assumption))); obtain ⟨bx, ox, e, rfl, hl, hat, hre, hgb⟩ := hsl.kidTm hkl (i := 0) (by omega) (by omega); have hih := ih ks[0] (List.getElem_mem (by omega)) G e (hkk _ (List.getElem_mem (by omega))) hre; refine sP (B3 (j := 0) rfl rfl rfl (by omega)) rfl rfl ?_)
 refine sL (A2 rfl rfl (hat _) hl) rfl rfl ?_
 refine H4 rfl (hih) rfl rfl (fun h181 => ?_) (fun h181 => ?_)
 refine A7 ?_
 (exact ⟨rfl, by rw [e3 (by first | exact .inl (by assumption) | exact .inr (by assumption)) hl1]; simp [*], rfl⟩)
 refine A7 ?_
 (exact ⟨rfl, by rw [e3 (by first | exact .inl (by assumption) | exact .inr (by assumption)) hl1]; simp [*], rfl⟩)
 refine D7 ?_
 refine H4 rfl (hI) rfl rfl (fun h198 => ?_) (fun h198 => ?_)
 refine B6 ?_
 (have hl1 := h14 (by first | exact e5 (.inl (by assumption)) | exact e5 (.inr (by assumption))); obtain ⟨bx, ox, e, rfl, hl, hat, hre, hgb⟩ := hsl.kidTm hkl (i := 0) (by omega) (by omega); have hih := ih ks[0] (List.getElem_mem (by omega)) G e (hkk _ (List.getElem_mem (by omega))) hre; refine sP (B3 (j := 0) rfl rfl rfl (by omega)) rfl rfl ?_)
 refine sL (A2 rfl rfl (hat _) hl) rfl rfl ?_
 refine H4 rfl (hih) rfl rfl (fun h205 => ?_) (fun h205 => ?_)
 refine A7 ?_
 (exact ⟨rfl, by rw [e3 (by first | exact .inl (by assumption) | exact .inr (by assumption)) hl1]; simp [*], rfl⟩)
 refine A7 ?_
 (exact ⟨rfl, by rw [e3 (by first | exact .inl (by assumption) | exact .inr (by assumption)) hl1]; simp [*], rfl⟩)
 refine K3 ?_
 (exact ⟨rfl, by rw [e4 (by omega) (by omega) (by assumption) (by assumption)], rfl⟩)
theorem A0N (e : Tm) (a b : Ty) (l : Int) (G : IM) (ce ca cb : List Value) (hl : F8 l) (he : A8 G e ce) (ha : C1 G a ca) (hb : C1 G b cb) (hsa : a.small) (hsb : b.small) : Fn Tryz.prog 249 [.agg ⟨ce⟩, .agg ⟨ca⟩, .agg ⟨cb⟩, .int .i64 l] [] G (S3 (L3 e a b l)) := by
 have hel := he.len
 have heo := he.one
 obtain ⟨v1, v2, v3, v4, v5, v6, v7, v8, v9, rfl⟩ := nine hel
 obtain ⟨ak, aks⟩ := a
 obtain ⟨bk, bks⟩ := b
 obtain ⟨pa, cca, ea, rfl, _⟩ := ha.open
 obtain ⟨pb, ccb, eb, rfl, _⟩ := hb.open
 refine C0 Tryz.func249 rfl Tryz.ntmps249 Tryz.results249 rfl ?_
 intro w0
 refine tS (tR ?_)
 refine sE (C5 rfl rfl) rfl (fun b3 => ?_)
 refine sE (C5 rfl rfl) rfl (fun b4 => ?_)
 refine sE (C5 rfl rfl) rfl (fun b5 => ?_)
 refine sE (A6 rfl) rfl (fun b6 => ?_)
 refine sD (nS (tS ?_))
 refine E0 E1 rfl ?_
 refine L7 (i := 0) (l' := [tt,ff,ff,ff,ff,ff,ff,ff,ff]) rfl D2 (A4 rfl rfl) rfl (by kernel_rfl) rfl rfl ?_
 refine aL 2 rfl (A4 rfl rfl) rfl ?_
 refine aP 4 rfl (qM rfl) rfl ?_
 refine aL 5 rfl (A4 rfl rfl) rfl ?_
 refine R2 (j := 1) (j' := 6) (by kernel_rfl) ?_ ?_
 (refine H1 rfl rfl (P9 (.mk ak aks) _ _ hsa ha) rfl rfl rfl (fun v G1 hle1 hh => ?_); obtain ⟨cs1, F1, rfl, hs1, hn1⟩ := hh; obtain ⟨p1, c1, rfl, _⟩ := hs1.open; have hC2 := P9 _ G1 _ hsb (hb.mono hle1))
 refine R2 (j := 3) (j' := 6) (by kernel_rfl) ?_ ?_
 (refine H1 rfl rfl hC2 rfl rfl rfl (fun v G2 hle2 hh => ?_); obtain ⟨cs2, F2, rfl, hs2, hn2⟩ := hh; obtain ⟨p2, c2, rfl, _⟩ := hs2.open; have hr1 := hs1.R.mono ((C4.le G1 _).trans hle2); have hr2 := hs2.R.mono (C4.le G2 G1); have hre := he.mono (hle1.trans hle2))
 refine A3 6 ?_
 (refine E6 rfl (C9 rfl rfl rfl (by omega) (by unfold maxLen; omega) rfl) rfl rfl ?_; rintro _ ⟨b20, rfl⟩)
 refine aP 7 rfl (W4 rfl rfl) rfl ?_
 refine A3 8 ?_
 refine H8 rfl ?_
 refine E8 (nS ?_)
 (refine E9 (cs := [v1, v2, v3, v4, v5, v6, v7, v8, v9]) (by repeat (first | exact Pk.here | apply Pk.there)) (fun G5 hle5 hsl5 hno5 => ?_); obtain ⟨hone1, hone2⟩ := A2x (hre.mono hle5) hsl5)
 refine tT ?_
 refine K7 (rC rfl (A4 rfl rfl)) ?_
 (exact S3.mk (A8.of9 (ks := [e]) ⟨by omega, by omega⟩ ⟨by omega, by omega⟩ hl (hr2.mono hle5) (hr1.mono hle5) hone1 hone2))
 (refine E6 rfl (C9 rfl rfl rfl (by omega) (by unfold maxLen; omega) rfl) rfl rfl ?_; rintro _ ⟨b30, rfl⟩)
 refine A3 3 ?_
 (refine H1 rfl rfl hC2 rfl rfl rfl (fun v G2 hle2 hh => ?_); obtain ⟨cs2, F2, rfl, hs2, hn2⟩ := hh; obtain ⟨p2, c2, rfl, _⟩ := hs2.open; have hr1 := hs1.R.mono ((C4.le G1 _).trans hle2); have hr2 := hs2.R.mono (C4.le G2 G1); have hre := he.mono (hle1.trans hle2))
 refine aP 7 rfl (W4 rfl rfl) rfl ?_
 refine A3 8 ?_
 refine H8 rfl ?_
 refine E8 (nS ?_)
 (refine E9 (cs := [v1, v2, v3, v4, v5, v6, v7, v8, v9]) (by repeat (first | exact Pk.here | apply Pk.there)) (fun G5 hle5 hsl5 hno5 => ?_); obtain ⟨hone1, hone2⟩ := A2x (hre.mono hle5) hsl5)
 refine tT ?_
 refine K7 (rC rfl (A4 rfl rfl)) ?_
 (exact S3.mk (A8.of9 (ks := [e]) ⟨by omega, by omega⟩ ⟨by omega, by omega⟩ hl (hr2.mono hle5) (hr1.mono hle5) hone1 hone2))
 (refine E6 rfl (C9 rfl rfl rfl (by omega) (by unfold maxLen; omega) rfl) rfl rfl ?_; rintro _ ⟨b42, rfl⟩)
 refine A3 1 ?_
 (refine H1 rfl rfl (P9 (.mk ak aks) _ _ hsa ha) rfl rfl rfl (fun v G1 hle1 hh => ?_); obtain ⟨cs1, F1, rfl, hs1, hn1⟩ := hh; obtain ⟨p1, c1, rfl, _⟩ := hs1.open; have hC2 := P9 _ G1 _ hsb (hb.mono hle1))
 refine A3 3 ?_
 (refine H1 rfl rfl hC2 rfl rfl rfl (fun v G2 hle2 hh => ?_); obtain ⟨cs2, F2, rfl, hs2, hn2⟩ := hh; obtain ⟨p2, c2, rfl, _⟩ := hs2.open; have hr1 := hs1.R.mono ((C4.le G1 _).trans hle2); have hr2 := hs2.R.mono (C4.le G2 G1); have hre := he.mono (hle1.trans hle2))
 refine aP 7 rfl (W4 rfl rfl) rfl ?_
 refine A3 8 ?_
 refine H8 rfl ?_
 refine E8 (nS ?_)
 (refine E9 (cs := [v1, v2, v3, v4, v5, v6, v7, v8, v9]) (by repeat (first | exact Pk.here | apply Pk.there)) (fun G5 hle5 hsl5 hno5 => ?_); obtain ⟨hone1, hone2⟩ := A2x (hre.mono hle5) hsl5)
 refine tT ?_
 refine K7 (rC rfl (A4 rfl rfl)) ?_
 (exact S3.mk (A8.of9 (ks := [e]) ⟨by omega, by omega⟩ ⟨by omega, by omega⟩ hl (hr2.mono hle5) (hr1.mono hle5) hone1 hone2))
theorem B5T (G : IM) : Fn Tryz.prog 248 [.bool true] [] G (S3 (A0s (true = true))) := by
 refine C0 Tryz.func248 rfl Tryz.ntmps248 Tryz.results248 rfl ?_
 intro w0
 refine tS (tR ?_)
 refine sE (A6 rfl) rfl (fun b3 => ?_)
 refine S6 ?_
 refine K7 (rC rfl (A4 rfl rfl)) ?_
 (exact S3.mk (A42 _ ⟨by decide, by decide⟩))
theorem B5U (G : IM) : Fn Tryz.prog 248 [.bool false] [] G (S3 (A0s (false = true))) := by
 refine C0 Tryz.func248 rfl Tryz.ntmps248 Tryz.results248 rfl ?_
 intro w0
 refine tS (tR ?_)
 refine sE (A6 rfl) rfl (fun b3 => ?_)
 refine U4 ?_
 refine K7 (rC rfl (A4 rfl rfl)) ?_
 (exact S3.mk (A42 _ ⟨by decide, by decide⟩))
theorem B0M (b : Bool) (G : IM) : Fn Tryz.prog 248 [.bool b] [] G (S3 (A0s (b = true))) := by
 cases b
 ·exact B5U G
 ·exact B5T G
theorem B5V (y : ByteArray) (v : Tm) (vc : List Value) (hvs : v.small) : ∀ (t : Tm) (G : IM) (cells : List Value), t.small → A8 G t cells → A8 G v vc → Fn Tryz.prog 227 [.agg ⟨cells⟩, .string y, .agg ⟨vc⟩] [] G (S3 (A0D y v t)) := by
 refine Tm.ind fun k nm num ty fr lb ks ih G cells hts hr hv => ?_
 have hr0 := hr
 have hts0 := hts
 obtain ⟨_, htsm, hfsm, hsm, hks⟩ := A0t.1 hts
 have hvl := hv.len
 have hvo := hv.one
 have hRl := hr.len
 have hRo := hr.one
 rw [A0D]
 have hCv := A20 v G vc hvs hv
 have hCt := A20 _ G cells hts0 hr0
 obtain ⟨tk, tks⟩ := ty
 obtain ⟨fk, fks⟩ := fr
 obtain ⟨pt, ct, pf, cf, p, c, es, rfl, hk, hnum, hlb, hty, hfr, hsl, hkl⟩ := hr.open9
 have hn := hsl.le
 refine C0 Tryz.func227 rfl Tryz.ntmps227 Tryz.results227 rfl ?_
 intro w0
 refine tS (tR ?_)
 refine sE (C5 rfl rfl) rfl (fun b3 => ?_)
 refine sE (C5 rfl rfl) rfl (fun b4 => ?_)
 refine sE (A6 rfl) rfl (fun b5 => ?_)
 refine B4 ?_
 refine sB (qE rfl rfl) rfl rfl (fun h13 => ?_) (fun h13 => ?_)
 refine B6 ?_
 refine sB (A1B rfl rfl) rfl rfl (fun h18 => ?_) (fun h18 => ?_)
 refine A7 ?_
 refine sL (A2 rfl rfl (A9 (by repeat first | exact mH | apply mT)) hvl) rfl rfl ?_
 (refine D8 rfl hCv rfl rfl (fun v9 G1 hle1 hh => ?_); obtain ⟨uc, F1, rfl, hs1, hn1⟩ := hh; have hru := hs1.R.mono (C4.le G1 G); have hul := hru.len; have huo := hru.one)
 refine sS rfl rfl rfl hul huo rfl ?_ (hu := by exact D5 hul.symm)
 refine sD (nS (tT (rS ?_)))
 refine K7 (rC rfl (A2 rfl rfl (A9 (by repeat first | exact mH | apply mT)) hul)) ?_
 (rw [if_pos (by refine ⟨by omega, by assumption⟩)]; exact S3.mk hru)
 refine J2 ?_
 refine sP (J3 rfl rfl (by omega)) rfl rfl ?_
 refine K5 ?_
 refine sE (A6 rfl) rfl (fun b60 => ?_)
 refine B4 ?_
 (refine D8 rfl (P9 (.mk tk tks) _ _ htsm hty) rfl rfl (fun v9 G1 hle1 hh => ?_); obtain ⟨cs1, F1, rfl, hs1, hn1⟩ := hh; obtain ⟨q1, c1, rfl, _⟩ := hs1.open; have hC2 := P9 (.mk fk fks) G1 _ hfsm (hfr.mono hle1))
 refine D6 ?_
 (refine D8 rfl hC2 rfl rfl (fun v9 G2 hle2 hh => ?_); obtain ⟨cs2, F2, rfl, hs2, hn2⟩ := hh; obtain ⟨q2, c2, rfl, _⟩ := hs2.open; have hty1 := hs1.R.mono ((C4.le G1 _).trans hle2); have hfr1 := hs2.R.mono (C4.le G2 G1); have hle12 := hle1.trans hle2; replace hsl := hsl.mono hle12; replace hkl := hkl.mono hle12; replace hv := hv.mono hle12)
 refine J9 ?_
 refine B8 ?_
 (refine Q7 28 9 ?_; refine I2 (fun (x : Nat × Option Addr × Nat × List (List Value) × IM) => ⟨[(8, .int .i64 x.1), (1, .string y), (3, .pointer (some ⟨b3, 0, none⟩)), (5, .pointer (some ⟨b4, 0, none⟩)), (6, .pointer (some ⟨b5, 0, none⟩)), (7, .pointer (some ⟨b60, 0, none⟩))], [.blk b60 [.int .i64 k, .string nm, .int .i64 num, .int .i64 tk, .slice q1 tks.length c1, .int .i64 fk, .slice q2 fks.length c2, .int .i64 lb, .slice x.2.1 x.1 x.2.2.1], .slc x.2.1 x.2.2.1 28 9 x.1 x.2.2.2.1.flatten, .blk b5 [.int .i64 0, .string ⟨⟨[]⟩⟩, .int .i64 0, .int .i64 0, .slice none 0 0, .int .i64 0, .slice none 0 0, .int .i64 0, .slice none 0 0], .blk b4 vc, .blk b3 [.int .i64 k, .string nm, .int .i64 num, .int .i64 tk, .slice pt tks.length ct, .int .i64 fk, .slice pf fks.length cf, .int .i64 lb, .slice p ks.length c]], x.2.2.2.2⟩) (fun x => x.1 ≤ ks.length ∧ B9 G2 x.2.2.2.2 ∧ C6 x.2.2.2.2 ((Z9 y v ks).take x.1) x.2.2.2.1) (fun x => ks.length - x.1) (0, none, 0, [], G2) ?_ ?_ ?_)
 (simp only [H6]; exact D3)
 (exact ⟨Nat.zero_le _, B9.refl _, by simp [C6]⟩)
 (rintro ⟨i, pn, cn, es', Gi⟩ ⟨hi, hle, hst⟩; simp only [] at hi hle hst ⊢; replace hsl := hsl.mono hle; replace hkl := hkl.mono hle; replace hv := hv.mono hle; replace hty1 := hty1.mono hle; replace hfr1 := hfr1.mono hle; have hsl' := hst.len; rw [List.length_take, Y9] at hsl')
 refine B4 ?_
 refine sB (I0 rfl rfl) rfl rfl (fun h106 => ?_) (fun h106 => ?_)
 refine A7 ?_
 refine B8 ?_
 (have hil : i < ks.length := (by omega); obtain ⟨bx, ox, e, rfl, hl, hat, hre, hgb⟩ := hsl.kidTm hkl (i := i) (by omega) (by omega); have hel := hre.len; have heo := hre.one; refine E0 E1 rfl ?_)
 refine L7 (i := 8) (l' := [ff,ff,ff,ff,ff,ff,ff,ff,tt,ff,ff,ff,ff,ff]) rfl D2 (A2 rfl rfl (A9 (by repeat first | exact mH | apply mT)) hvl) rfl (by kernel_rfl) rfl rfl ?_
 refine aP 0 rfl (B7 rfl) rfl ?_
 refine aL 1 rfl (C7 rfl rfl) rfl ?_
 refine aP 2 rfl (B7 rfl) rfl ?_
 refine aL 3 rfl (C7 rfl rfl) rfl ?_
 refine aP 4 rfl (qM rfl) rfl ?_
 refine aP 5 rfl (B3 (j := i) rfl rfl rfl (by omega)) rfl ?_
 refine aL 6 rfl (A2 rfl rfl (hat _) hl) rfl ?_
 refine aP 7 rfl (qM rfl) rfl ?_
 refine A3 9 ?_
 (refine H1 rfl rfl (ih ks[i] (List.getElem_mem (by omega)) Gi _ (Tm.smallL_mem hks _ (List.getElem_mem (by omega))) hre hv) rfl rfl rfl (fun u G3 hle3 hh => ?_); obtain ⟨uc, rfl, hru⟩ := hh; have hul := hru.len; have huo := hru.one; obtain ⟨v1, v2, v3, v4, v5, v6, v7, v8, v9, rfl⟩ := nine hul)
 refine A3 10 ?_
 (refine E6 rfl (C9 rfl rfl rfl (by omega) (by unfold maxLen; omega) rfl) rfl rfl ?_; rintro _ ⟨b127, rfl⟩)
 refine A3 11 ?_
 (refine R4 rfl rfl rfl rfl rfl rfl (fun _ _ => by repeat (first | exact Sw.here | apply Sw.there)) (M6 (by repeat first | exact mH | apply mT)) rfl (fun u hu => List.all_eq_true.1 huo u hu) (by unfold maxLen; omega) (by omega) rfl rfl (by repeat (first | exact B1.nil | apply B1.dep (by decide +kernel) | apply B1.im (by decide +kernel) (by assumption) (by repeat first | exact mH | apply mT) | apply B1.blk (by decide +kernel) (by repeat (first | exact Pk.here | apply Pk.there)) (by repeat first | exact mH | apply mT) | apply B1.slc (by decide +kernel) (by repeat (first | exact Pk.here | apply Pk.there)) (by repeat first | exact mH | apply mT))) (fun p7 c7 => ?_))
 refine aP 12 rfl (B7 rfl) rfl ?_
 refine A3 13 ?_
 refine R7 rfl rfl rfl rfl rfl rfl rfl rfl (by decide +kernel) (by repeat first | exact Sw.here | apply Sw.there) (by rfl) ?_
 refine B0 ?_
 refine sP (H2 rfl rfl (by omega) (by omega)) rfl rfl ?_
 refine D7 ?_
 refine H9 (i + 1, p7, c7, es' ++ [[v1, v2, v3, v4, v5, v6, v7, v8, v9]], G3) ?_ ?_ ?_
 (simp only [H6]; exact D3)
 (dsimp only; exact ⟨by omega, hle.trans hle3, by rw [A3g (by omega)]; exact C6.snoc (hst.mono hle3) hru⟩)
 (show ks.length - (i + 1) < ks.length - i; omega)
 refine K5 ?_
 (refine E9 (cs := es'.flatten) (by repeat (first | exact Pk.here | apply Pk.there)) (fun G4 hle4 hsl4 hno4 => ?_); obtain rfl : i = ks.length := (by omega))
 refine tT ?_
 refine K7 (rC rfl (A4 rfl rfl)) ?_
 (rw [if_neg (by rintro ⟨h1, h2⟩; first | omega | contradiction), if_neg (by rintro ⟨h1, h2⟩; first | omega | contradiction)]; rw [List.take_of_length_le (by rw [Y9]; omega)] at hst; exact S3.mk (A8.put hk hnum hlb (hty1.mono hle4) (hfr1.mono hle4) (by rw [Y9]) (D1.of hsl4 (by omega) hst.all (fun e he => (hst.each e he).2)) (hst.mono hle4)))
 refine J9 ?_
 refine sB (qE rfl rfl) rfl rfl (fun h179 => ?_) (fun h179 => ?_)
 refine B6 ?_
 refine sB (A1B rfl rfl) rfl rfl (fun h184 => ?_) (fun h184 => ?_)
 refine B4 ?_
 (refine D8 rfl hCt rfl rfl (fun v9 G1 hle1 hh => ?_); obtain ⟨uc, F1, rfl, hs1, hn1⟩ := hh; have hru := hs1.R.mono (C4.le G1 G); have hul := hru.len; have huo := hru.one)
 refine sS rfl rfl rfl hul huo rfl ?_ (hu := by exact D5 hul.symm)
 refine sD (nS (tT (rS ?_)))
 refine K7 (rC rfl (A2 rfl rfl (A9 (by repeat first | exact mH | apply mT)) hul)) ?_
 (rw [if_neg (by rintro ⟨h1, h2⟩; first | omega | contradiction), if_pos (by refine ⟨by omega, by assumption⟩)]; exact S3.mk hru)
 refine E4 ?_
 refine sE (A6 rfl) rfl (fun b209 => ?_)
 refine B4 ?_
 (refine D8 rfl (P9 (.mk tk tks) _ _ htsm hty) rfl rfl (fun v9 G1 hle1 hh => ?_); obtain ⟨cs1, F1, rfl, hs1, hn1⟩ := hh; obtain ⟨q1, c1, rfl, _⟩ := hs1.open; have hC2 := P9 (.mk fk fks) G1 _ hfsm (hfr.mono hle1))
 refine D6 ?_
 (refine D8 rfl hC2 rfl rfl (fun v9 G2 hle2 hh => ?_); obtain ⟨cs2, F2, rfl, hs2, hn2⟩ := hh; obtain ⟨q2, c2, rfl, _⟩ := hs2.open; have hty1 := hs1.R.mono ((C4.le G1 _).trans hle2); have hfr1 := hs2.R.mono (C4.le G2 G1); have hle12 := hle1.trans hle2; replace hsl := hsl.mono hle12; replace hkl := hkl.mono hle12; replace hv := hv.mono hle12)
 refine J9 ?_
 refine B8 ?_
 (refine Q7 28 9 ?_; refine I2 (fun (x : Nat × Option Addr × Nat × List (List Value) × IM) => ⟨[(8, .int .i64 x.1), (1, .string y), (3, .pointer (some ⟨b3, 0, none⟩)), (5, .pointer (some ⟨b4, 0, none⟩)), (6, .pointer (some ⟨b5, 0, none⟩)), (7, .pointer (some ⟨b209, 0, none⟩))], [.blk b209 [.int .i64 k, .string nm, .int .i64 num, .int .i64 tk, .slice q1 tks.length c1, .int .i64 fk, .slice q2 fks.length c2, .int .i64 lb, .slice x.2.1 x.1 x.2.2.1], .slc x.2.1 x.2.2.1 28 9 x.1 x.2.2.2.1.flatten, .blk b5 [.int .i64 0, .string ⟨⟨[]⟩⟩, .int .i64 0, .int .i64 0, .slice none 0 0, .int .i64 0, .slice none 0 0, .int .i64 0, .slice none 0 0], .blk b4 vc, .blk b3 [.int .i64 k, .string nm, .int .i64 num, .int .i64 tk, .slice pt tks.length ct, .int .i64 fk, .slice pf fks.length cf, .int .i64 lb, .slice p ks.length c]], x.2.2.2.2⟩) (fun x => x.1 ≤ ks.length ∧ B9 G2 x.2.2.2.2 ∧ C6 x.2.2.2.2 ((Z9 y v ks).take x.1) x.2.2.2.1) (fun x => ks.length - x.1) (0, none, 0, [], G2) ?_ ?_ ?_)
 (simp only [H6]; exact D3)
 (exact ⟨Nat.zero_le _, B9.refl _, by simp [C6]⟩)
 (rintro ⟨i, pn, cn, es', Gi⟩ ⟨hi, hle, hst⟩; simp only [] at hi hle hst ⊢; replace hsl := hsl.mono hle; replace hkl := hkl.mono hle; replace hv := hv.mono hle; replace hty1 := hty1.mono hle; replace hfr1 := hfr1.mono hle; have hsl' := hst.len; rw [List.length_take, Y9] at hsl')
 refine B4 ?_
 refine sB (I0 rfl rfl) rfl rfl (fun h255 => ?_) (fun h255 => ?_)
 refine A7 ?_
 refine B8 ?_
 (have hil : i < ks.length := (by omega); obtain ⟨bx, ox, e, rfl, hl, hat, hre, hgb⟩ := hsl.kidTm hkl (i := i) (by omega) (by omega); have hel := hre.len; have heo := hre.one; refine E0 E1 rfl ?_)
 refine L7 (i := 8) (l' := [ff,ff,ff,ff,ff,ff,ff,ff,tt,ff,ff,ff,ff,ff]) rfl D2 (A2 rfl rfl (A9 (by repeat first | exact mH | apply mT)) hvl) rfl (by kernel_rfl) rfl rfl ?_
 refine aP 0 rfl (B7 rfl) rfl ?_
 refine aL 1 rfl (C7 rfl rfl) rfl ?_
 refine aP 2 rfl (B7 rfl) rfl ?_
 refine aL 3 rfl (C7 rfl rfl) rfl ?_
 refine aP 4 rfl (qM rfl) rfl ?_
 refine aP 5 rfl (B3 (j := i) rfl rfl rfl (by omega)) rfl ?_
 refine aL 6 rfl (A2 rfl rfl (hat _) hl) rfl ?_
 refine aP 7 rfl (qM rfl) rfl ?_
 refine A3 9 ?_
 (refine H1 rfl rfl (ih ks[i] (List.getElem_mem (by omega)) Gi _ (Tm.smallL_mem hks _ (List.getElem_mem (by omega))) hre hv) rfl rfl rfl (fun u G3 hle3 hh => ?_); obtain ⟨uc, rfl, hru⟩ := hh; have hul := hru.len; have huo := hru.one; obtain ⟨v1, v2, v3, v4, v5, v6, v7, v8, v9, rfl⟩ := nine hul)
 refine A3 10 ?_
 (refine E6 rfl (C9 rfl rfl rfl (by omega) (by unfold maxLen; omega) rfl) rfl rfl ?_; rintro _ ⟨b276, rfl⟩)
 refine A3 11 ?_
 (refine R4 rfl rfl rfl rfl rfl rfl (fun _ _ => by repeat (first | exact Sw.here | apply Sw.there)) (M6 (by repeat first | exact mH | apply mT)) rfl (fun u hu => List.all_eq_true.1 huo u hu) (by unfold maxLen; omega) (by omega) rfl rfl (by repeat (first | exact B1.nil | apply B1.dep (by decide +kernel) | apply B1.im (by decide +kernel) (by assumption) (by repeat first | exact mH | apply mT) | apply B1.blk (by decide +kernel) (by repeat (first | exact Pk.here | apply Pk.there)) (by repeat first | exact mH | apply mT) | apply B1.slc (by decide +kernel) (by repeat (first | exact Pk.here | apply Pk.there)) (by repeat first | exact mH | apply mT))) (fun p7 c7 => ?_))
 refine aP 12 rfl (B7 rfl) rfl ?_
 refine A3 13 ?_
 refine R7 rfl rfl rfl rfl rfl rfl rfl rfl (by decide +kernel) (by repeat first | exact Sw.here | apply Sw.there) (by rfl) ?_
 refine B0 ?_
 refine sP (H2 rfl rfl (by omega) (by omega)) rfl rfl ?_
 refine D7 ?_
 refine H9 (i + 1, p7, c7, es' ++ [[v1, v2, v3, v4, v5, v6, v7, v8, v9]], G3) ?_ ?_ ?_
 (simp only [H6]; exact D3)
 (dsimp only; exact ⟨by omega, hle.trans hle3, by rw [A3g (by omega)]; exact C6.snoc (hst.mono hle3) hru⟩)
 (show ks.length - (i + 1) < ks.length - i; omega)
 refine K5 ?_
 (refine E9 (cs := es'.flatten) (by repeat (first | exact Pk.here | apply Pk.there)) (fun G4 hle4 hsl4 hno4 => ?_); obtain rfl : i = ks.length := (by omega))
 refine tT ?_
 refine K7 (rC rfl (A4 rfl rfl)) ?_
 (rw [if_neg (by rintro ⟨h1, h2⟩; first | omega | contradiction), if_neg (by rintro ⟨h1, h2⟩; first | omega | contradiction)]; rw [List.take_of_length_le (by rw [Y9]; omega)] at hst; exact S3.mk (A8.put hk hnum hlb (hty1.mono hle4) (hfr1.mono hle4) (by rw [Y9]) (D1.of hsl4 (by omega) hst.all (fun e he => (hst.each e he).2)) (hst.mono hle4)))
 refine K5 ?_
 refine sE (A6 rfl) rfl (fun b326 => ?_)
 refine B4 ?_
 (refine D8 rfl (P9 (.mk tk tks) _ _ htsm hty) rfl rfl (fun v9 G1 hle1 hh => ?_); obtain ⟨cs1, F1, rfl, hs1, hn1⟩ := hh; obtain ⟨q1, c1, rfl, _⟩ := hs1.open; have hC2 := P9 (.mk fk fks) G1 _ hfsm (hfr.mono hle1))
 refine D6 ?_
 (refine D8 rfl hC2 rfl rfl (fun v9 G2 hle2 hh => ?_); obtain ⟨cs2, F2, rfl, hs2, hn2⟩ := hh; obtain ⟨q2, c2, rfl, _⟩ := hs2.open; have hty1 := hs1.R.mono ((C4.le G1 _).trans hle2); have hfr1 := hs2.R.mono (C4.le G2 G1); have hle12 := hle1.trans hle2; replace hsl := hsl.mono hle12; replace hkl := hkl.mono hle12; replace hv := hv.mono hle12)
 refine J9 ?_
 refine B8 ?_
 (refine Q7 28 9 ?_; refine I2 (fun (x : Nat × Option Addr × Nat × List (List Value) × IM) => ⟨[(8, .int .i64 x.1), (1, .string y), (3, .pointer (some ⟨b3, 0, none⟩)), (5, .pointer (some ⟨b4, 0, none⟩)), (6, .pointer (some ⟨b5, 0, none⟩)), (7, .pointer (some ⟨b326, 0, none⟩))], [.blk b326 [.int .i64 k, .string nm, .int .i64 num, .int .i64 tk, .slice q1 tks.length c1, .int .i64 fk, .slice q2 fks.length c2, .int .i64 lb, .slice x.2.1 x.1 x.2.2.1], .slc x.2.1 x.2.2.1 28 9 x.1 x.2.2.2.1.flatten, .blk b5 [.int .i64 0, .string ⟨⟨[]⟩⟩, .int .i64 0, .int .i64 0, .slice none 0 0, .int .i64 0, .slice none 0 0, .int .i64 0, .slice none 0 0], .blk b4 vc, .blk b3 [.int .i64 k, .string nm, .int .i64 num, .int .i64 tk, .slice pt tks.length ct, .int .i64 fk, .slice pf fks.length cf, .int .i64 lb, .slice p ks.length c]], x.2.2.2.2⟩) (fun x => x.1 ≤ ks.length ∧ B9 G2 x.2.2.2.2 ∧ C6 x.2.2.2.2 ((Z9 y v ks).take x.1) x.2.2.2.1) (fun x => ks.length - x.1) (0, none, 0, [], G2) ?_ ?_ ?_)
 (simp only [H6]; exact D3)
 (exact ⟨Nat.zero_le _, B9.refl _, by simp [C6]⟩)
 (rintro ⟨i, pn, cn, es', Gi⟩ ⟨hi, hle, hst⟩; simp only [] at hi hle hst ⊢; replace hsl := hsl.mono hle; replace hkl := hkl.mono hle; replace hv := hv.mono hle; replace hty1 := hty1.mono hle; replace hfr1 := hfr1.mono hle; have hsl' := hst.len; rw [List.length_take, Y9] at hsl')
 refine B4 ?_
 refine sB (I0 rfl rfl) rfl rfl (fun h372 => ?_) (fun h372 => ?_)
 refine A7 ?_
 refine B8 ?_
 (have hil : i < ks.length := (by omega); obtain ⟨bx, ox, e, rfl, hl, hat, hre, hgb⟩ := hsl.kidTm hkl (i := i) (by omega) (by omega); have hel := hre.len; have heo := hre.one; refine E0 E1 rfl ?_)
 refine L7 (i := 8) (l' := [ff,ff,ff,ff,ff,ff,ff,ff,tt,ff,ff,ff,ff,ff]) rfl D2 (A2 rfl rfl (A9 (by repeat first | exact mH | apply mT)) hvl) rfl (by kernel_rfl) rfl rfl ?_
 refine aP 0 rfl (B7 rfl) rfl ?_
 refine aL 1 rfl (C7 rfl rfl) rfl ?_
 refine aP 2 rfl (B7 rfl) rfl ?_
 refine aL 3 rfl (C7 rfl rfl) rfl ?_
 refine aP 4 rfl (qM rfl) rfl ?_
 refine aP 5 rfl (B3 (j := i) rfl rfl rfl (by omega)) rfl ?_
 refine aL 6 rfl (A2 rfl rfl (hat _) hl) rfl ?_
 refine aP 7 rfl (qM rfl) rfl ?_
 refine A3 9 ?_
 (refine H1 rfl rfl (ih ks[i] (List.getElem_mem (by omega)) Gi _ (Tm.smallL_mem hks _ (List.getElem_mem (by omega))) hre hv) rfl rfl rfl (fun u G3 hle3 hh => ?_); obtain ⟨uc, rfl, hru⟩ := hh; have hul := hru.len; have huo := hru.one; obtain ⟨v1, v2, v3, v4, v5, v6, v7, v8, v9, rfl⟩ := nine hul)
 refine A3 10 ?_
 (refine E6 rfl (C9 rfl rfl rfl (by omega) (by unfold maxLen; omega) rfl) rfl rfl ?_; rintro _ ⟨b393, rfl⟩)
 refine A3 11 ?_
 (refine R4 rfl rfl rfl rfl rfl rfl (fun _ _ => by repeat (first | exact Sw.here | apply Sw.there)) (M6 (by repeat first | exact mH | apply mT)) rfl (fun u hu => List.all_eq_true.1 huo u hu) (by unfold maxLen; omega) (by omega) rfl rfl (by repeat (first | exact B1.nil | apply B1.dep (by decide +kernel) | apply B1.im (by decide +kernel) (by assumption) (by repeat first | exact mH | apply mT) | apply B1.blk (by decide +kernel) (by repeat (first | exact Pk.here | apply Pk.there)) (by repeat first | exact mH | apply mT) | apply B1.slc (by decide +kernel) (by repeat (first | exact Pk.here | apply Pk.there)) (by repeat first | exact mH | apply mT))) (fun p7 c7 => ?_))
 refine aP 12 rfl (B7 rfl) rfl ?_
 refine A3 13 ?_
 refine R7 rfl rfl rfl rfl rfl rfl rfl rfl (by decide +kernel) (by repeat first | exact Sw.here | apply Sw.there) (by rfl) ?_
 refine B0 ?_
 refine sP (H2 rfl rfl (by omega) (by omega)) rfl rfl ?_
 refine D7 ?_
 refine H9 (i + 1, p7, c7, es' ++ [[v1, v2, v3, v4, v5, v6, v7, v8, v9]], G3) ?_ ?_ ?_
 (simp only [H6]; exact D3)
 (dsimp only; exact ⟨by omega, hle.trans hle3, by rw [A3g (by omega)]; exact C6.snoc (hst.mono hle3) hru⟩)
 (show ks.length - (i + 1) < ks.length - i; omega)
 refine K5 ?_
 (refine E9 (cs := es'.flatten) (by repeat (first | exact Pk.here | apply Pk.there)) (fun G4 hle4 hsl4 hno4 => ?_); obtain rfl : i = ks.length := (by omega))
 refine tT ?_
 refine K7 (rC rfl (A4 rfl rfl)) ?_
 (rw [if_neg (by rintro ⟨h1, h2⟩; first | omega | contradiction), if_neg (by rintro ⟨h1, h2⟩; first | omega | contradiction)]; rw [List.take_of_length_le (by rw [Y9]; omega)] at hst; exact S3.mk (A8.put hk hnum hlb (hty1.mono hle4) (hfr1.mono hle4) (by rw [Y9]) (D1.of hsl4 (by omega) hst.all (fun e he => (hst.each e he).2)) (hst.mono hle4)))
theorem B0N (k : Int) (a b : Tm) (G : IM) (ca cb : List Value) (hk78 : k = 7 ∨ k = 8) (hca : 0 ≤ a.num ∧ a.num ≤ 999) (hcb : 0 ≤ b.num ∧ b.num ≤ 999) (hra : A8 G a ca) (hrb : A8 G b cb) : Fn Tryz.prog 240 [.int .i64 k, .agg ⟨ca⟩, .agg ⟨cb⟩] [] G (M1 (Q2 k B2 B2 0 [a, b])) := by
 obtain ⟨ak, anm, anum, ⟨atk, atks⟩, ⟨afk, afks⟩, alb, aks⟩ := a
 obtain ⟨bk, bnm, bnum, ⟨btk, btks⟩, ⟨bfk, bfks⟩, blb, bks⟩ := b
 obtain ⟨apt, act, apf, acf, ap, ac, aes, rfl, hak, hanum, halb, haty, hafr, hasl, hakl⟩ := hra.open9
 obtain ⟨bpt, bct, bpf, bcf, bp, bc, bes, rfl, hbk, hbnum, hblb, hbty, hbfr, hbsl, hbkl⟩ := hrb.open9
 simp only [Tm.num] at hca hcb
 have hR : Q2 k B2 B2 0 [Tm.mk ak anm anum (.mk atk atks) (.mk afk afks) alb aks, Tm.mk bk bnm bnum (.mk btk btks) (.mk bfk bfks) blb bks] = (if ak = 2 ∧ bk = 2 then (if k = 7 then A2y ((anum + bnum) % 1000) else A0s (anum < bnum), 1, 0) else R9) := by
  unfold Q2; rw [if_neg (by omega), if_pos hk78]; rfl
 rw [hR]
 have htm : (anum + bnum).tmod 1000 = (anum + bnum) % 1000 := A9d hca hcb
 have hb : F8 ((anum + bnum) % 1000) := ⟨by omega, by omega⟩
 refine C0 Tryz.func240 rfl Tryz.ntmps240 Tryz.results240 rfl ?_
 intro w0
 refine tS (tR ?_)
 refine sE (C5 rfl rfl) rfl (fun b3 => ?_)
 refine sE (C5 rfl rfl) rfl (fun b4 => ?_)
 refine sE (A6 rfl) rfl (fun b5 => ?_)
 refine E4 ?_
 refine sB (O9 rfl rfl) rfl rfl (fun h15 => ?_) (fun h15 => ?_)
 refine U4 ?_
 refine D9 (rC rfl (A4 rfl rfl)) (rT rfl) (rT rfl) ?_
 (exact M1.mk (by rw [if_neg (by omega)]; rfl) (M8 _))
 refine E3 ?_
 refine sB (O9 rfl rfl) rfl rfl (fun h39 => ?_) (fun h39 => ?_)
 refine K5 ?_
 refine D9 (rC rfl (A4 rfl rfl)) (rT rfl) (rT rfl) ?_
 (exact M1.mk (by rw [if_neg (by omega)]; rfl) (M8 _))
 refine J5 ?_
 refine sB (qE rfl rfl) rfl rfl (fun h66 => ?_) (fun h66 => ?_)
 refine E4 ?_
 refine sP (H2 rfl rfl (by omega) (by omega)) rfl rfl ?_
 refine sP (A3v rfl rfl (by omega)) rfl rfl ?_
 (rw [htm]; refine H3 rfl (A13 _ _) rfl rfl ?_)
 refine B4 ?_
 refine D9 (rC rfl (A4 rfl rfl)) (rT rfl) (rT rfl) ?_
 (exact M1.mk (u := A2y (HMod.hMod (anum + bnum) 1000)) (by rw [if_pos ⟨by omega, by omega⟩, if_pos (by omega)]) (A8.put (us := []) ⟨by decide, by decide⟩ hb ⟨by decide, by decide⟩ (A1n _) (A1n _) rfl (D1.nil _ _) rfl))
 refine J2 ?_
 (refine sB (I0 rfl rfl) rfl rfl (fun h99 => ?_) (fun h99 => ?_))
 (refine D8 rfl (B0M _ _) rfl rfl (fun u G1 hle1 hh => ?_); obtain ⟨uc, rfl, hru⟩ := hh; have hul := hru.len; have huo := hru.one)
 refine sS rfl rfl rfl hul huo rfl ?_ (hu := by exact D5 hul.symm)
 refine B0 ?_
 refine D9 (rC rfl (A2 rfl rfl (A9 (by repeat first | exact mH | apply mT)) hul)) (rT rfl) (rT rfl) ?_
 (exact M1.mk (by rw [if_pos ⟨by omega, by omega⟩, if_neg (by omega)]; unfold A0s; rw [if_pos (by omega), if_pos rfl]) hru)
 (refine D8 rfl (B0M _ _) rfl rfl (fun u G1 hle1 hh => ?_); obtain ⟨uc, rfl, hru⟩ := hh; have hul := hru.len; have huo := hru.one)
 refine sS rfl rfl rfl hul huo rfl ?_ (hu := by exact D5 hul.symm)
 refine B0 ?_
 refine D9 (rC rfl (A2 rfl rfl (A9 (by repeat first | exact mH | apply mT)) hul)) (rT rfl) (rT rfl) ?_
 (exact M1.mk (by rw [if_pos ⟨by omega, by omega⟩, if_neg (by omega)]; unfold A0s; rw [if_neg (by omega), if_neg (by decide)]) hru)
theorem B5W (a b : Tm) (G : IM) (ca cb : List Value) (hca : cv a) (hbs : b.small) (hra : A8 G a ca) (hrb : A8 G b cb) : Fn Tryz.prog 243 [.agg ⟨ca⟩, .agg ⟨cb⟩] [] G (M1 (Q2 6 B2 B2 0 [a, b])) := by
 have hsma := A2z a hca
 have hP := A64 a G _ hra
 obtain ⟨ak, anm, anum, ⟨atk, atks⟩, ⟨afk, afks⟩, alb, aks⟩ := a
 obtain ⟨hN, hkk⟩ := hca.node
 have hops := hN.ops
 have hbl := hN.lbB
 have htyA := hN.tyA
 have hfrA := hN.frA
 rw [F4] at htyA hfrA
 have htyS := fun t (h : t ∈ atks) => (A1I.1 htyA.2.2 t h).small
 have hfrS := fun t (h : t ∈ afks) => (A1I.1 hfrA.2.2 t h).small
 have h14 : ak = 14 → aks.length = 1 := fun h => by rw [h] at hops; have : E2 14 = 1 := rfl; omega
 have h5 : ak = 5 → aks.length = 1 := fun h => by rw [h] at hops; have : E2 5 = 1 := rfl; omega
 obtain ⟨_, _, _, _, hksm⟩ := A0t.1 hsma
 have hbL := hrb.len
 have hbO := hrb.one
 obtain ⟨apt, act, apf, acf, ap, ac, aes, rfl, hak, hanum, halb, haty, hafr, hasl, hakl⟩ := hra.open9
 obtain ⟨tes, htS, htL⟩ := haty.kids
 obtain ⟨fes, hfS, hfL⟩ := hafr.kids
 simp only [Ty.ks] at htS htL hfS hfL
 obtain ⟨y1, y2, y3, y4, y5, y6, y7, y8, y9, rfl⟩ := nine hbL
 have hR : Q2 6 B2 B2 0 [Tm.mk ak anm anum (.mk atk atks) (.mk afk afks) alb aks, b] = (if ak = 5 then (A0D anm b (kd aks 0), 1, 0) else if (ak = 14 ∧ afk = atk ∧ (atk = 4 ∨ atk = 5)) ∧ atk = 4 then (L3 (A0r 6 [kd aks 0, L3 b (kt atks 0) (kt afks 0) (-alb)]) (kt afks 1) (kt atks 1) alb, 1, 0) else R9) := by
  unfold Q2
  rw [if_pos rfl, show kd [Tm.mk ak anm anum (.mk atk atks) (.mk afk afks) alb aks, b] 0 = Tm.mk ak anm anum (.mk atk atks) (.mk afk afks) alb aks from rfl, A2I]
  simp only [decide_eq_true_eq]
  rfl
 rw [hR]
 replace hP : Fn Tryz.prog 180 _ [] G (I5 (.bool (decide (ak = 14 ∧ afk = atk ∧ (atk = 4 ∨ atk = 5)))) G) := hP
 refine C0 Tryz.func243 rfl Tryz.ntmps243 Tryz.results243 rfl ?_
 intro w0
 refine tS (tR ?_)
 refine sE (C5 rfl rfl) rfl (fun b3 => ?_)
 refine sE (C5 rfl rfl) rfl (fun b4 => ?_)
 refine sE (A6 rfl) rfl (fun b5 => ?_)
 refine E4 ?_
 refine sB (qE rfl rfl) rfl rfl (fun h15 => ?_) (fun h15 => ?_)
 refine B6 ?_
 (have hq : ak = 5 := (by assumption); have hq1 := h5 hq; obtain ⟨bq, oq, e3, rfl, hl3, hat3, hre3, hgb3⟩ := hasl.kidTm hakl (i := 0) (by omega) (by omega); have hS := B5V anm b _ hbs aks[0] G e3 (Tm.smallL_mem hksm _ (List.getElem_mem (by omega))) hre3 hrb; refine E0 E1 rfl ?_)
 refine L7 (i := 6) (l' := [ff,ff,ff,ff,ff,ff,tt,ff,ff,ff,ff]) rfl D2 (A2 rfl rfl (A9 (by repeat first | exact mH | apply mT)) rfl) rfl (by kernel_rfl) rfl rfl ?_
 refine aP 0 rfl (B7 rfl) rfl ?_
 refine aL 1 rfl (C7 rfl rfl) rfl ?_
 refine aP 2 rfl (B3 (j := 0) rfl rfl rfl (by omega)) rfl ?_
 refine aL 3 rfl (A2 rfl rfl (hat3 _) hl3) rfl ?_
 refine aP 4 rfl (B7 rfl) rfl ?_
 refine aL 5 rfl (C7 rfl rfl) rfl ?_
 refine A3 7 ?_
 (refine H1 rfl rfl hS rfl rfl rfl (fun u G1 hle1 hh => ?_); obtain ⟨uc, rfl, hru⟩ := hh; have hwl := hru.len; have hwo := hru.one)
 refine A3 8 ?_
 (refine oS rfl rfl rfl rfl hwl hwo rfl rfl ?_ (hu := by exact D5 hwl.symm))
 refine aP 9 rfl (qA rfl) rfl ?_
 refine aP 10 rfl (qA rfl) rfl ?_
 refine B6 ?_
 refine D9 (rC rfl (A2 rfl rfl (A9 (by repeat first | exact mH | apply mT)) hwl)) (rT rfl) (rT rfl) ?_
 (exact M1.mk (by rw [if_pos hq, A0u (by omega)]) hru)
 refine E4 ?_
 focus (by_cases hpx : (ak = 14 ∧ afk = atk ∧ (atk = 4 ∨ atk = 5)); rw [decide_eq_true hpx] at hP; rotate_left; rw [decide_eq_false hpx] at hP; rotate_left; all_goals (refine H3 rfl hP rfl rfl ?_))
 refine B0 ?_
 refine sB (O9 rfl rfl) rfl rfl (fun h55 => ?_) (fun h55 => ?_)
 refine K5 ?_
 refine D9 (rC rfl (A4 rfl rfl)) (rT rfl) (rT rfl) ?_
 (exact M1.mk (by rw [if_neg (by omega), if_neg (by omega)]; rfl) (M8 _))
 refine B4 ?_
 (have hnd : ¬ak = 5 := (by omega); have hq : (ak = 14 ∧ afk = atk ∧ (atk = 4 ∨ atk = 5)) ∧ atk = 4 := ⟨hpx, by omega⟩; have hq1 := h14 hq.1.1; have hq2 := htyA.1 (by omega); have hq3 := hfrA.1 (by omega); obtain ⟨bq, oq, e3, rfl, hl3, hat3, hre3, hgb3⟩ := hasl.kidTm hakl (i := 0) (by omega) (by omega); have ho3 := hre3.one; obtain ⟨b5, o5, q5, d5, rfl, hat5, hre5, hgb5⟩ := htS.kidTy htL (i := 0) (by omega) (by omega); obtain ⟨_, _, q6, d6, hp6, hat6, hre6, hgb6⟩ := htS.kidTy htL (i := 1) (by omega) (by omega); cases hp6; obtain ⟨b7, o7, q7, d7, rfl, hat7, hre7, hgb7⟩ := hfS.kidTy hfL (i := 0) (by omega) (by omega); obtain ⟨_, _, q8, d8, hp8, hat8, hre8, hgb8⟩ := hfS.kidTy hfL (i := 1) (by omega) (by omega); cases hp8; obtain ⟨x1, x2, x3, x4, x5, x6, x7, x8, x9, rfl⟩ := nine hl3; refine E0 E1 rfl ?_)
 refine L7 (i := 0) (l' := [tt,ff,ff,ff,ff,ff,ff,ff,ff,ff,ff,ff,ff,ff,ff,ff,ff]) rfl D2 (A2 rfl rfl (A9 (by repeat first | exact mH | apply mT)) rfl) rfl (by kernel_rfl) rfl rfl ?_
 refine aP 1 rfl (B7 rfl) rfl ?_
 refine aP 2 rfl (qF rfl) rfl ?_
 refine aL 3 rfl (C7 rfl rfl) rfl ?_
 refine aP 4 rfl (B3 (j := 0) rfl rfl rfl (by omega)) rfl ?_
 refine aL 5 rfl (A2 rfl rfl (hat5 _) rfl) rfl ?_
 refine aP 6 rfl (B7 rfl) rfl ?_
 refine aP 7 rfl (qF rfl) rfl ?_
 refine aL 8 rfl (C7 rfl rfl) rfl ?_
 refine aP 9 rfl (B3 (j := 0) rfl rfl rfl (by omega)) rfl ?_
 refine aL 10 rfl (A2 rfl rfl (hat7 _) rfl) rfl ?_
 refine aP 11 rfl (B7 rfl) rfl ?_
 refine aL 12 rfl (C7 rfl rfl) rfl ?_
 refine aP 13 rfl (A4f rfl (by omega) (by omega)) rfl ?_
 refine R2 (j := 14) (j' := 15) (by kernel_rfl) ?_ ?_
 (have hcO := hnd; refine H1 rfl rfl (A0N b atks[0] afks[0] (-alb) G _ _ _ ⟨by omega, by omega⟩ hrb hre5 hre7 (htyS _ (List.getElem_mem (by omega))) (hfrS _ (List.getElem_mem (by omega)))) rfl rfl rfl (fun u G1 hle1 hh => ?_); obtain ⟨uc, rfl, hru⟩ := hh; have hul := hru.len; have huo := hru.one; obtain ⟨z1, z2, z3, z4, z5, z6, z7, z8, z9, rfl⟩ := nine hul; replace hre3 := hre3.mono hle1; replace hre6 := hre6.mono hle1; replace hre8 := hre8.mono hle1)
 refine A3 15 ?_
 (refine E6 rfl (A6 rfl) rfl rfl ?_; rintro _ ⟨b97, rfl⟩)
 refine A3 16 ?_
 (refine oS rfl rfl rfl rfl rfl huo rfl rfl ?_ (hu := by exact D5 rfl))
 refine E8 (nS (tS ?_))
 refine E0 E1 rfl ?_
 refine L7 (i := 4) (l' := [ff,ff,ff,ff,tt,ff,ff,ff,ff]) rfl D2 (A2 rfl rfl (A9 (by repeat first | exact mH | apply mT)) rfl) rfl (by kernel_rfl) rfl rfl ?_
 refine aP 0 rfl (B7 rfl) rfl ?_
 refine aL 1 rfl (C7 rfl rfl) rfl ?_
 refine aP 2 rfl (B3 (j := 0) rfl rfl rfl (by omega)) rfl ?_
 refine aL 3 rfl (A2 rfl rfl (At.mono' hle1 (hat3 _)) rfl) rfl ?_
 refine R2 (j := 5) (j' := 7) (by kernel_rfl) ?_ ?_
 (refine E6 rfl (C9 rfl rfl rfl (by omega) (by unfold maxLen; omega) rfl) rfl rfl ?_; rintro _ ⟨b110, rfl⟩)
 refine R2 (j := 6) (j' := 7) (by kernel_rfl) ?_ ?_
 (refine A1d (cs := [x1, x2, x3, x4, x5, x6, x7, x8, x9, z1, z2, z3, z4, z5, z6, z7, z8, z9]) (by repeat (first | exact Pk.here | apply Pk.there)) (fun G2 hle2 hsl2 hno2 => ?_); have hrN := A0T (k := 6) (ks := [aks[0], L3 b atks[0] afks[0] (-alb)]) (es := [[x1, x2, x3, x4, x5, x6, x7, x8, x9], [z1, z2, z3, z4, z5, z6, z7, z8, z9]]) ⟨by decide, by decide⟩ rfl (D1.of hsl2 rfl (by simp) (by intro x hx; rcases List.mem_cons.1 hx with rfl | hx; exact ho3; obtain rfl := List.mem_singleton.1 hx; exact huo)) (by simp only [C6]; exact ⟨_, _, rfl, hre3.mono hle2, _, _, rfl, hru.mono hle2, rfl⟩); replace hre6 := hre6.mono hle2; replace hre8 := hre8.mono hle2; refine O2 rfl rfl (A0C _ _ _ _ _) rfl rfl rfl ?_)
 refine A3 7 ?_
 (refine E6 rfl (A6 rfl) rfl rfl ?_; rintro _ ⟨b114, rfl⟩)
 refine A3 8 ?_
 refine H8 rfl ?_
 refine E8 (nS (tS ?_))
 refine E0 E1 rfl ?_
 refine L7 (i := 0) (l' := [tt,ff,ff,ff,ff,ff,ff,ff,ff,ff,ff,ff,ff,ff,ff,ff,ff]) rfl D2 (A2 rfl rfl (A9 (by repeat first | exact mH | apply mT)) rfl) rfl (by kernel_rfl) rfl rfl ?_
 refine aP 1 rfl (B7 rfl) rfl ?_
 refine aP 2 rfl (qF rfl) rfl ?_
 refine aL 3 rfl (C7 rfl rfl) rfl ?_
 refine aP 4 rfl (B3 (j := 1) rfl rfl rfl (by omega)) rfl ?_
 refine aL 5 rfl (A2 rfl rfl (At.mono' (hle1.trans hle2) (hat8 _)) rfl) rfl ?_
 refine aP 6 rfl (B7 rfl) rfl ?_
 refine aP 7 rfl (qF rfl) rfl ?_
 refine aL 8 rfl (C7 rfl rfl) rfl ?_
 refine aP 9 rfl (B3 (j := 1) rfl rfl rfl (by omega)) rfl ?_
 refine aL 10 rfl (A2 rfl rfl (At.mono' (hle1.trans hle2) (hat6 _)) rfl) rfl ?_
 refine aP 11 rfl (B7 rfl) rfl ?_
 refine aL 12 rfl (C7 rfl rfl) rfl ?_
 refine A3 13 ?_
 (refine H1 rfl rfl (A0N _ afks[1] atks[1] alb G2 _ _ _ ⟨by omega, by omega⟩ hrN hre8 hre6 (hfrS _ (List.getElem_mem (by omega))) (htyS _ (List.getElem_mem (by omega)))) rfl rfl rfl (fun u G3 hle3 hh => ?_); obtain ⟨wc, rfl, hrw⟩ := hh; have hwl := hrw.len; have hwo := hrw.one)
 refine A3 14 ?_
 (refine oS rfl rfl rfl rfl hwl hwo rfl rfl ?_ (hu := by exact D5 hwl.symm))
 refine aP 15 rfl (qA rfl) rfl ?_
 refine aP 16 rfl (qA rfl) rfl ?_
 refine E8 (nS (tT ?_))
 refine D9 (rC rfl (A2 rfl rfl (A9 (by repeat first | exact mH | apply mT)) hwl)) (rT rfl) (rT rfl) ?_
 (exact M1.mk (by rw [if_neg hnd, if_pos hq, A0u (by omega), P4 (by omega), P4 (by omega), P4 (by omega), P4 (by omega)]) hrw)
 (refine E6 rfl (A6 rfl) rfl rfl ?_; rintro _ ⟨b145, rfl⟩)
 refine A3 6 ?_
 (refine A1d (cs := [x1, x2, x3, x4, x5, x6, x7, x8, x9, z1, z2, z3, z4, z5, z6, z7, z8, z9]) (by repeat (first | exact Pk.here | apply Pk.there)) (fun G2 hle2 hsl2 hno2 => ?_); have hrN := A0T (k := 6) (ks := [aks[0], L3 b atks[0] afks[0] (-alb)]) (es := [[x1, x2, x3, x4, x5, x6, x7, x8, x9], [z1, z2, z3, z4, z5, z6, z7, z8, z9]]) ⟨by decide, by decide⟩ rfl (D1.of hsl2 rfl (by simp) (by intro x hx; rcases List.mem_cons.1 hx with rfl | hx; exact ho3; obtain rfl := List.mem_singleton.1 hx; exact huo)) (by simp only [C6]; exact ⟨_, _, rfl, hre3.mono hle2, _, _, rfl, hru.mono hle2, rfl⟩); replace hre6 := hre6.mono hle2; replace hre8 := hre8.mono hle2; refine O2 rfl rfl (A0C _ _ _ _ _) rfl rfl rfl ?_)
 refine A3 8 ?_
 refine H8 rfl ?_
 refine E8 (nS (tS ?_))
 refine E0 E1 rfl ?_
 refine L7 (i := 0) (l' := [tt,ff,ff,ff,ff,ff,ff,ff,ff,ff,ff,ff,ff,ff,ff,ff,ff]) rfl D2 (A2 rfl rfl (A9 (by repeat first | exact mH | apply mT)) rfl) rfl (by kernel_rfl) rfl rfl ?_
 refine aP 1 rfl (B7 rfl) rfl ?_
 refine aP 2 rfl (qF rfl) rfl ?_
 refine aL 3 rfl (C7 rfl rfl) rfl ?_
 refine aP 4 rfl (B3 (j := 1) rfl rfl rfl (by omega)) rfl ?_
 refine aL 5 rfl (A2 rfl rfl (At.mono' (hle1.trans hle2) (hat8 _)) rfl) rfl ?_
 refine aP 6 rfl (B7 rfl) rfl ?_
 refine aP 7 rfl (qF rfl) rfl ?_
 refine aL 8 rfl (C7 rfl rfl) rfl ?_
 refine aP 9 rfl (B3 (j := 1) rfl rfl rfl (by omega)) rfl ?_
 refine aL 10 rfl (A2 rfl rfl (At.mono' (hle1.trans hle2) (hat6 _)) rfl) rfl ?_
 refine aP 11 rfl (B7 rfl) rfl ?_
 refine aL 12 rfl (C7 rfl rfl) rfl ?_
 refine A3 13 ?_
 (refine H1 rfl rfl (A0N _ afks[1] atks[1] alb G2 _ _ _ ⟨by omega, by omega⟩ hrN hre8 hre6 (hfrS _ (List.getElem_mem (by omega))) (htyS _ (List.getElem_mem (by omega)))) rfl rfl rfl (fun u G3 hle3 hh => ?_); obtain ⟨wc, rfl, hrw⟩ := hh; have hwl := hrw.len; have hwo := hrw.one)
 refine A3 14 ?_
 (refine oS rfl rfl rfl rfl hwl hwo rfl rfl ?_ (hu := by exact D5 hwl.symm))
 refine aP 15 rfl (qA rfl) rfl ?_
 refine aP 16 rfl (qA rfl) rfl ?_
 refine E8 (nS (tT ?_))
 refine D9 (rC rfl (A2 rfl rfl (A9 (by repeat first | exact mH | apply mT)) hwl)) (rT rfl) (rT rfl) ?_
 (exact M1.mk (by rw [if_neg hnd, if_pos hq, A0u (by omega), P4 (by omega), P4 (by omega), P4 (by omega), P4 (by omega)]) hrw)
 (refine E6 rfl (A6 rfl) rfl rfl ?_; rintro _ ⟨b178, rfl⟩)
 refine A3 5 ?_
 (refine E6 rfl (C9 rfl rfl rfl (by omega) (by unfold maxLen; omega) rfl) rfl rfl ?_; rintro _ ⟨b180, rfl⟩)
 refine A3 6 ?_
 (refine A1d (cs := [x1, x2, x3, x4, x5, x6, x7, x8, x9, z1, z2, z3, z4, z5, z6, z7, z8, z9]) (by repeat (first | exact Pk.here | apply Pk.there)) (fun G2 hle2 hsl2 hno2 => ?_); have hrN := A0T (k := 6) (ks := [aks[0], L3 b atks[0] afks[0] (-alb)]) (es := [[x1, x2, x3, x4, x5, x6, x7, x8, x9], [z1, z2, z3, z4, z5, z6, z7, z8, z9]]) ⟨by decide, by decide⟩ rfl (D1.of hsl2 rfl (by simp) (by intro x hx; rcases List.mem_cons.1 hx with rfl | hx; exact ho3; obtain rfl := List.mem_singleton.1 hx; exact huo)) (by simp only [C6]; exact ⟨_, _, rfl, hre3.mono hle2, _, _, rfl, hru.mono hle2, rfl⟩); replace hre6 := hre6.mono hle2; replace hre8 := hre8.mono hle2; refine O2 rfl rfl (A0C _ _ _ _ _) rfl rfl rfl ?_)
 refine A3 8 ?_
 refine H8 rfl ?_
 refine E8 (nS (tS ?_))
 refine E0 E1 rfl ?_
 refine L7 (i := 0) (l' := [tt,ff,ff,ff,ff,ff,ff,ff,ff,ff,ff,ff,ff,ff,ff,ff,ff]) rfl D2 (A2 rfl rfl (A9 (by repeat first | exact mH | apply mT)) rfl) rfl (by kernel_rfl) rfl rfl ?_
 refine aP 1 rfl (B7 rfl) rfl ?_
 refine aP 2 rfl (qF rfl) rfl ?_
 refine aL 3 rfl (C7 rfl rfl) rfl ?_
 refine aP 4 rfl (B3 (j := 1) rfl rfl rfl (by omega)) rfl ?_
 refine aL 5 rfl (A2 rfl rfl (At.mono' (hle1.trans hle2) (hat8 _)) rfl) rfl ?_
 refine aP 6 rfl (B7 rfl) rfl ?_
 refine aP 7 rfl (qF rfl) rfl ?_
 refine aL 8 rfl (C7 rfl rfl) rfl ?_
 refine aP 9 rfl (B3 (j := 1) rfl rfl rfl (by omega)) rfl ?_
 refine aL 10 rfl (A2 rfl rfl (At.mono' (hle1.trans hle2) (hat6 _)) rfl) rfl ?_
 refine aP 11 rfl (B7 rfl) rfl ?_
 refine aL 12 rfl (C7 rfl rfl) rfl ?_
 refine A3 13 ?_
 (refine H1 rfl rfl (A0N _ afks[1] atks[1] alb G2 _ _ _ ⟨by omega, by omega⟩ hrN hre8 hre6 (hfrS _ (List.getElem_mem (by omega))) (htyS _ (List.getElem_mem (by omega)))) rfl rfl rfl (fun u G3 hle3 hh => ?_); obtain ⟨wc, rfl, hrw⟩ := hh; have hwl := hrw.len; have hwo := hrw.one)
 refine A3 14 ?_
 (refine oS rfl rfl rfl rfl hwl hwo rfl rfl ?_ (hu := by exact D5 hwl.symm))
 refine aP 15 rfl (qA rfl) rfl ?_
 refine aP 16 rfl (qA rfl) rfl ?_
 refine E8 (nS (tT ?_))
 refine D9 (rC rfl (A2 rfl rfl (A9 (by repeat first | exact mH | apply mT)) hwl)) (rT rfl) (rT rfl) ?_
 (exact M1.mk (by rw [if_neg hnd, if_pos hq, A0u (by omega), P4 (by omega), P4 (by omega), P4 (by omega), P4 (by omega)]) hrw)
 (refine E6 rfl (A6 rfl) rfl rfl ?_; rintro _ ⟨b213, rfl⟩)
 refine A3 14 ?_
 (have hcO := hnd; refine H1 rfl rfl (A0N b atks[0] afks[0] (-alb) G _ _ _ ⟨by omega, by omega⟩ hrb hre5 hre7 (htyS _ (List.getElem_mem (by omega))) (hfrS _ (List.getElem_mem (by omega)))) rfl rfl rfl (fun u G1 hle1 hh => ?_); obtain ⟨uc, rfl, hru⟩ := hh; have hul := hru.len; have huo := hru.one; obtain ⟨z1, z2, z3, z4, z5, z6, z7, z8, z9, rfl⟩ := nine hul; replace hre3 := hre3.mono hle1; replace hre6 := hre6.mono hle1; replace hre8 := hre8.mono hle1)
 refine A3 16 ?_
 (refine oS rfl rfl rfl rfl rfl huo rfl rfl ?_ (hu := by exact D5 rfl))
 refine E8 (nS (tS ?_))
 refine E0 E1 rfl ?_
 refine L7 (i := 4) (l' := [ff,ff,ff,ff,tt,ff,ff,ff,ff]) rfl D2 (A2 rfl rfl (A9 (by repeat first | exact mH | apply mT)) rfl) rfl (by kernel_rfl) rfl rfl ?_
 refine aP 0 rfl (B7 rfl) rfl ?_
 refine aL 1 rfl (C7 rfl rfl) rfl ?_
 refine aP 2 rfl (B3 (j := 0) rfl rfl rfl (by omega)) rfl ?_
 refine aL 3 rfl (A2 rfl rfl (At.mono' hle1 (hat3 _)) rfl) rfl ?_
 refine R2 (j := 5) (j' := 7) (by kernel_rfl) ?_ ?_
 (refine E6 rfl (C9 rfl rfl rfl (by omega) (by unfold maxLen; omega) rfl) rfl rfl ?_; rintro _ ⟨b228, rfl⟩)
 refine R2 (j := 6) (j' := 7) (by kernel_rfl) ?_ ?_
 (refine A1d (cs := [x1, x2, x3, x4, x5, x6, x7, x8, x9, z1, z2, z3, z4, z5, z6, z7, z8, z9]) (by repeat (first | exact Pk.here | apply Pk.there)) (fun G2 hle2 hsl2 hno2 => ?_); have hrN := A0T (k := 6) (ks := [aks[0], L3 b atks[0] afks[0] (-alb)]) (es := [[x1, x2, x3, x4, x5, x6, x7, x8, x9], [z1, z2, z3, z4, z5, z6, z7, z8, z9]]) ⟨by decide, by decide⟩ rfl (D1.of hsl2 rfl (by simp) (by intro x hx; rcases List.mem_cons.1 hx with rfl | hx; exact ho3; obtain rfl := List.mem_singleton.1 hx; exact huo)) (by simp only [C6]; exact ⟨_, _, rfl, hre3.mono hle2, _, _, rfl, hru.mono hle2, rfl⟩); replace hre6 := hre6.mono hle2; replace hre8 := hre8.mono hle2; refine O2 rfl rfl (A0C _ _ _ _ _) rfl rfl rfl ?_)
 refine A3 7 ?_
 (refine E6 rfl (A6 rfl) rfl rfl ?_; rintro _ ⟨b232, rfl⟩)
 refine A3 8 ?_
 refine H8 rfl ?_
 refine E8 (nS (tS ?_))
 refine E0 E1 rfl ?_
 refine L7 (i := 0) (l' := [tt,ff,ff,ff,ff,ff,ff,ff,ff,ff,ff,ff,ff,ff,ff,ff,ff]) rfl D2 (A2 rfl rfl (A9 (by repeat first | exact mH | apply mT)) rfl) rfl (by kernel_rfl) rfl rfl ?_
 refine aP 1 rfl (B7 rfl) rfl ?_
 refine aP 2 rfl (qF rfl) rfl ?_
 refine aL 3 rfl (C7 rfl rfl) rfl ?_
 refine aP 4 rfl (B3 (j := 1) rfl rfl rfl (by omega)) rfl ?_
 refine aL 5 rfl (A2 rfl rfl (At.mono' (hle1.trans hle2) (hat8 _)) rfl) rfl ?_
 refine aP 6 rfl (B7 rfl) rfl ?_
 refine aP 7 rfl (qF rfl) rfl ?_
 refine aL 8 rfl (C7 rfl rfl) rfl ?_
 refine aP 9 rfl (B3 (j := 1) rfl rfl rfl (by omega)) rfl ?_
 refine aL 10 rfl (A2 rfl rfl (At.mono' (hle1.trans hle2) (hat6 _)) rfl) rfl ?_
 refine aP 11 rfl (B7 rfl) rfl ?_
 refine aL 12 rfl (C7 rfl rfl) rfl ?_
 refine A3 13 ?_
 (refine H1 rfl rfl (A0N _ afks[1] atks[1] alb G2 _ _ _ ⟨by omega, by omega⟩ hrN hre8 hre6 (hfrS _ (List.getElem_mem (by omega))) (htyS _ (List.getElem_mem (by omega)))) rfl rfl rfl (fun u G3 hle3 hh => ?_); obtain ⟨wc, rfl, hrw⟩ := hh; have hwl := hrw.len; have hwo := hrw.one)
 refine A3 14 ?_
 (refine oS rfl rfl rfl rfl hwl hwo rfl rfl ?_ (hu := by exact D5 hwl.symm))
 refine aP 15 rfl (qA rfl) rfl ?_
 refine aP 16 rfl (qA rfl) rfl ?_
 refine E8 (nS (tT ?_))
 refine D9 (rC rfl (A2 rfl rfl (A9 (by repeat first | exact mH | apply mT)) hwl)) (rT rfl) (rT rfl) ?_
 (exact M1.mk (by rw [if_neg hnd, if_pos hq, A0u (by omega), P4 (by omega), P4 (by omega), P4 (by omega), P4 (by omega)]) hrw)
 (refine E6 rfl (A6 rfl) rfl rfl ?_; rintro _ ⟨b263, rfl⟩)
 refine A3 6 ?_
 (refine A1d (cs := [x1, x2, x3, x4, x5, x6, x7, x8, x9, z1, z2, z3, z4, z5, z6, z7, z8, z9]) (by repeat (first | exact Pk.here | apply Pk.there)) (fun G2 hle2 hsl2 hno2 => ?_); have hrN := A0T (k := 6) (ks := [aks[0], L3 b atks[0] afks[0] (-alb)]) (es := [[x1, x2, x3, x4, x5, x6, x7, x8, x9], [z1, z2, z3, z4, z5, z6, z7, z8, z9]]) ⟨by decide, by decide⟩ rfl (D1.of hsl2 rfl (by simp) (by intro x hx; rcases List.mem_cons.1 hx with rfl | hx; exact ho3; obtain rfl := List.mem_singleton.1 hx; exact huo)) (by simp only [C6]; exact ⟨_, _, rfl, hre3.mono hle2, _, _, rfl, hru.mono hle2, rfl⟩); replace hre6 := hre6.mono hle2; replace hre8 := hre8.mono hle2; refine O2 rfl rfl (A0C _ _ _ _ _) rfl rfl rfl ?_)
 refine A3 8 ?_
 refine H8 rfl ?_
 refine E8 (nS (tS ?_))
 refine E0 E1 rfl ?_
 refine L7 (i := 0) (l' := [tt,ff,ff,ff,ff,ff,ff,ff,ff,ff,ff,ff,ff,ff,ff,ff,ff]) rfl D2 (A2 rfl rfl (A9 (by repeat first | exact mH | apply mT)) rfl) rfl (by kernel_rfl) rfl rfl ?_
 refine aP 1 rfl (B7 rfl) rfl ?_
 refine aP 2 rfl (qF rfl) rfl ?_
 refine aL 3 rfl (C7 rfl rfl) rfl ?_
 refine aP 4 rfl (B3 (j := 1) rfl rfl rfl (by omega)) rfl ?_
 refine aL 5 rfl (A2 rfl rfl (At.mono' (hle1.trans hle2) (hat8 _)) rfl) rfl ?_
 refine aP 6 rfl (B7 rfl) rfl ?_
 refine aP 7 rfl (qF rfl) rfl ?_
 refine aL 8 rfl (C7 rfl rfl) rfl ?_
 refine aP 9 rfl (B3 (j := 1) rfl rfl rfl (by omega)) rfl ?_
 refine aL 10 rfl (A2 rfl rfl (At.mono' (hle1.trans hle2) (hat6 _)) rfl) rfl ?_
 refine aP 11 rfl (B7 rfl) rfl ?_
 refine aL 12 rfl (C7 rfl rfl) rfl ?_
 refine A3 13 ?_
 (refine H1 rfl rfl (A0N _ afks[1] atks[1] alb G2 _ _ _ ⟨by omega, by omega⟩ hrN hre8 hre6 (hfrS _ (List.getElem_mem (by omega))) (htyS _ (List.getElem_mem (by omega)))) rfl rfl rfl (fun u G3 hle3 hh => ?_); obtain ⟨wc, rfl, hrw⟩ := hh; have hwl := hrw.len; have hwo := hrw.one)
 refine A3 14 ?_
 (refine oS rfl rfl rfl rfl hwl hwo rfl rfl ?_ (hu := by exact D5 hwl.symm))
 refine aP 15 rfl (qA rfl) rfl ?_
 refine aP 16 rfl (qA rfl) rfl ?_
 refine E8 (nS (tT ?_))
 refine D9 (rC rfl (A2 rfl rfl (A9 (by repeat first | exact mH | apply mT)) hwl)) (rT rfl) (rT rfl) ?_
 (exact M1.mk (by rw [if_neg hnd, if_pos hq, A0u (by omega), P4 (by omega), P4 (by omega), P4 (by omega), P4 (by omega)]) hrw)
 (refine E6 rfl (A6 rfl) rfl rfl ?_; rintro _ ⟨b296, rfl⟩)
 refine A3 5 ?_
 (refine E6 rfl (C9 rfl rfl rfl (by omega) (by unfold maxLen; omega) rfl) rfl rfl ?_; rintro _ ⟨b298, rfl⟩)
 refine A3 6 ?_
 (refine A1d (cs := [x1, x2, x3, x4, x5, x6, x7, x8, x9, z1, z2, z3, z4, z5, z6, z7, z8, z9]) (by repeat (first | exact Pk.here | apply Pk.there)) (fun G2 hle2 hsl2 hno2 => ?_); have hrN := A0T (k := 6) (ks := [aks[0], L3 b atks[0] afks[0] (-alb)]) (es := [[x1, x2, x3, x4, x5, x6, x7, x8, x9], [z1, z2, z3, z4, z5, z6, z7, z8, z9]]) ⟨by decide, by decide⟩ rfl (D1.of hsl2 rfl (by simp) (by intro x hx; rcases List.mem_cons.1 hx with rfl | hx; exact ho3; obtain rfl := List.mem_singleton.1 hx; exact huo)) (by simp only [C6]; exact ⟨_, _, rfl, hre3.mono hle2, _, _, rfl, hru.mono hle2, rfl⟩); replace hre6 := hre6.mono hle2; replace hre8 := hre8.mono hle2; refine O2 rfl rfl (A0C _ _ _ _ _) rfl rfl rfl ?_)
 refine A3 8 ?_
 refine H8 rfl ?_
 refine E8 (nS (tS ?_))
 refine E0 E1 rfl ?_
 refine L7 (i := 0) (l' := [tt,ff,ff,ff,ff,ff,ff,ff,ff,ff,ff,ff,ff,ff,ff,ff,ff]) rfl D2 (A2 rfl rfl (A9 (by repeat first | exact mH | apply mT)) rfl) rfl (by kernel_rfl) rfl rfl ?_
 refine aP 1 rfl (B7 rfl) rfl ?_
 refine aP 2 rfl (qF rfl) rfl ?_
 refine aL 3 rfl (C7 rfl rfl) rfl ?_
 refine aP 4 rfl (B3 (j := 1) rfl rfl rfl (by omega)) rfl ?_
 refine aL 5 rfl (A2 rfl rfl (At.mono' (hle1.trans hle2) (hat8 _)) rfl) rfl ?_
 refine aP 6 rfl (B7 rfl) rfl ?_
 refine aP 7 rfl (qF rfl) rfl ?_
 refine aL 8 rfl (C7 rfl rfl) rfl ?_
 refine aP 9 rfl (B3 (j := 1) rfl rfl rfl (by omega)) rfl ?_
 refine aL 10 rfl (A2 rfl rfl (At.mono' (hle1.trans hle2) (hat6 _)) rfl) rfl ?_
 refine aP 11 rfl (B7 rfl) rfl ?_
 refine aL 12 rfl (C7 rfl rfl) rfl ?_
 refine A3 13 ?_
 (refine H1 rfl rfl (A0N _ afks[1] atks[1] alb G2 _ _ _ ⟨by omega, by omega⟩ hrN hre8 hre6 (hfrS _ (List.getElem_mem (by omega))) (htyS _ (List.getElem_mem (by omega)))) rfl rfl rfl (fun u G3 hle3 hh => ?_); obtain ⟨wc, rfl, hrw⟩ := hh; have hwl := hrw.len; have hwo := hrw.one)
 refine A3 14 ?_
 (refine oS rfl rfl rfl rfl hwl hwo rfl rfl ?_ (hu := by exact D5 hwl.symm))
 refine aP 15 rfl (qA rfl) rfl ?_
 refine aP 16 rfl (qA rfl) rfl ?_
 refine E8 (nS (tT ?_))
 refine D9 (rC rfl (A2 rfl rfl (A9 (by repeat first | exact mH | apply mT)) hwl)) (rT rfl) (rT rfl) ?_
 (exact M1.mk (by rw [if_neg hnd, if_pos hq, A0u (by omega), P4 (by omega), P4 (by omega), P4 (by omega), P4 (by omega)]) hrw)
 refine A0n ?_
 refine D9 (rC rfl (A4 rfl rfl)) (rT rfl) (rT rfl) ?_
 (exact M1.mk (by rw [if_neg (by omega), if_neg (by omega)]; rfl) (M8 _))
theorem B0O (k : Int) (a : Tm) (G : IM) (ca : List Value) (hk1 : k = 11 ∨ k = 12) (hca : cv a) (hra : A8 G a ca) : Fn Tryz.prog 244 [.int .i64 k, .agg ⟨ca⟩] [] G (M1 (Q2 k B2 B2 0 [a])) := by
 have hP := A64 a G _ hra
 obtain ⟨ak, anm, anum, ⟨atk, atks⟩, ⟨afk, afks⟩, alb, aks⟩ := a
 obtain ⟨hN, hkk⟩ := hca.node
 have hops := hN.ops
 have hbl := hN.lbB
 have htyA := hN.tyA
 have hfrA := hN.frA
 rw [F4] at htyA hfrA
 have htyS := fun t (h : t ∈ atks) => (A1I.1 htyA.2.2 t h).small
 have hfrS := fun t (h : t ∈ afks) => (A1I.1 hfrA.2.2 t h).small
 have h14 : ak = 14 → aks.length = 1 := fun h => by rw [h] at hops; have : E2 14 = 1 := rfl; omega
 have h10 : ak = 10 → aks.length = 2 := fun h => by rw [h] at hops; have : E2 10 = 2 := rfl; omega
 obtain ⟨apt, act, apf, acf, ap, ac, aes, rfl, hak, hanum, halb, haty, hafr, hasl, hakl⟩ := hra.open9
 obtain ⟨tes, htS, htL⟩ := haty.kids
 obtain ⟨fes, hfS, hfL⟩ := hafr.kids
 simp only [Ty.ks] at htS htL hfS hfL
 obtain ⟨i, hi⟩ : ∃ i : Nat, (k - 11).toNat = i := ⟨_, rfl⟩
 have hR : Q2 k B2 B2 0 [Tm.mk ak anm anum (.mk atk atks) (.mk afk afks) alb aks] = (if ak = 10 then (kd aks i, 1, 0) else if (ak = 14 ∧ afk = atk ∧ (atk = 4 ∨ atk = 5)) ∧ atk = 5 then (L3 (A0r k [kd aks 0]) (kt afks i) (kt atks i) alb, 1, 0) else R9) := by
  unfold Q2
  rw [if_neg (by omega), if_neg (by omega), if_neg (by omega), if_pos hk1, hi, show kd [Tm.mk ak anm anum (.mk atk atks) (.mk afk afks) alb aks] 0 = Tm.mk ak anm anum (.mk atk atks) (.mk afk afks) alb aks from rfl, A2I]
  simp only [decide_eq_true_eq]
  rfl
 rw [hR]
 replace hP : Fn Tryz.prog 180 _ [] G (I5 (.bool (decide (ak = 14 ∧ afk = atk ∧ (atk = 4 ∨ atk = 5)))) G) := hP
 refine C0 Tryz.func244 rfl Tryz.ntmps244 Tryz.results244 rfl ?_
 intro w0
 refine tS (tR ?_)
 refine sE (C5 rfl rfl) rfl (fun b3 => ?_)
 refine sE (A6 rfl) rfl (fun b4 => ?_)
 refine B4 ?_
 refine sP (P2 rfl rfl (by omega) (by omega)) rfl rfl ?_
 (rw [show (k - 11 : Int) = ((i : Nat) : Int) from (by omega)]; refine sQ (qA rfl) rfl ?_)
 refine B4 ?_
 refine sB (qE rfl rfl) rfl rfl (fun h21 => ?_) (fun h21 => ?_)
 refine D6 ?_
 (have hq := h10 (by omega); obtain ⟨bq, oq, e3, rfl, hl3, hat3, hre3, hgb3⟩ := hasl.kidTm hakl (i := i) (by omega) (by omega); have ho3 := hre3.one; refine sP (B3 (j := i) rfl rfl rfl (by omega)) rfl rfl ?_)
 refine sL (A2 rfl rfl (hat3 _) hl3) rfl rfl ?_
 refine sS rfl rfl rfl hl3 ho3 rfl ?_ (hu := by exact D5 hl3.symm)
 refine A7 ?_
 refine D9 (rC rfl (A2 rfl rfl (A9 (by repeat first | exact mH | apply mT)) hl3)) (rT rfl) (rT rfl) ?_
 (exact M1.mk (by rw [if_pos (by omega), A0u (by omega)]) hre3)
 refine E4 ?_
 focus (by_cases hpx : (ak = 14 ∧ afk = atk ∧ (atk = 4 ∨ atk = 5)); rw [decide_eq_true hpx] at hP; rotate_left; rw [decide_eq_false hpx] at hP; rotate_left; all_goals (refine H3 rfl hP rfl rfl ?_))
 refine B0 ?_
 refine sB (O9 rfl rfl) rfl rfl (fun h56 => ?_) (fun h56 => ?_)
 refine K5 ?_
 refine D9 (rC rfl (A4 rfl rfl)) (rT rfl) (rT rfl) ?_
 (exact M1.mk (by rw [if_neg (by omega), if_neg (by omega)]; rfl) (M8 _))
 refine B4 ?_
 (have hnd : ¬ak = 10 := (by omega); have hq : (ak = 14 ∧ afk = atk ∧ (atk = 4 ∨ atk = 5)) ∧ atk = 5 := ⟨hpx, by omega⟩; have hq1 := h14 hq.1.1; have hq2 := htyA.1 (by omega); have hq3 := hfrA.1 (by omega); obtain ⟨bq, oq, e3, rfl, hl3, hat3, hre3, hgb3⟩ := hasl.kidTm hakl (i := 0) (by omega) (by omega); have ho3 := hre3.one; obtain ⟨b5, o5, q5, d5, rfl, hat5, hre5, hgb5⟩ := htS.kidTy htL (i := i) (by omega) (by omega); obtain ⟨b7, o7, q7, d7, rfl, hat7, hre7, hgb7⟩ := hfS.kidTy hfL (i := i) (by omega) (by omega); obtain ⟨x1, x2, x3, x4, x5, x6, x7, x8, x9, rfl⟩ := nine hl3; refine E0 E1 rfl ?_)
 refine I8 (i := 0) (l' := [tt,ff,ff,ff,ff,ff,ff,ff,ff,ff,ff,ff,ff,ff,ff,ff,ff,ff,ff,ff,ff,ff,ff,ff,ff]) rfl D2 (qM rfl) rfl (by kernel_rfl) rfl rfl ?_
 refine aP 1 rfl (B7 rfl) rfl ?_
 refine aL 2 rfl (C7 rfl rfl) rfl ?_
 refine aP 3 rfl (B3 (j := 0) rfl rfl rfl (by omega)) rfl ?_
 refine aL 4 rfl (A2 rfl rfl (hat3 _) rfl) rfl ?_
 refine aP 7 rfl (B7 rfl) rfl ?_
 refine aP 8 rfl (qF rfl) rfl ?_
 refine aL 9 rfl (C7 rfl rfl) rfl ?_
 refine aP 10 rfl (qM rfl) rfl ?_
 refine aP 11 rfl (B3 (j := i) rfl rfl rfl (by omega)) rfl ?_
 refine aL 12 rfl (A2 rfl rfl (hat7 _) rfl) rfl ?_
 refine aP 13 rfl (B7 rfl) rfl ?_
 refine aP 14 rfl (qF rfl) rfl ?_
 refine aL 15 rfl (C7 rfl rfl) rfl ?_
 refine aP 16 rfl (qM rfl) rfl ?_
 refine aP 17 rfl (B3 (j := i) rfl rfl rfl (by omega)) rfl ?_
 refine aL 18 rfl (A2 rfl rfl (hat5 _) rfl) rfl ?_
 refine aP 19 rfl (B7 rfl) rfl ?_
 refine aL 20 rfl (C7 rfl rfl) rfl ?_
 refine A3 5 ?_
 (refine E6 rfl (C9 rfl rfl rfl (by omega) (by unfold maxLen; omega) rfl) rfl rfl ?_; rintro _ ⟨b101, rfl⟩)
 refine A3 6 ?_
 (refine A1d (cs := [x1, x2, x3, x4, x5, x6, x7, x8, x9]) (by repeat (first | exact Pk.here | apply Pk.there)) (fun G2 hle2 hsl2 hno2 => ?_); have hrN := A0T (k := k) (ks := [aks[0]]) (es := [[x1, x2, x3, x4, x5, x6, x7, x8, x9]]) ⟨by omega, by omega⟩ rfl (D1.of hsl2 rfl (by simp) (by intro x hx; obtain rfl := List.mem_singleton.1 hx; exact ho3)) (by simp only [C6]; exact ⟨_, _, rfl, hre3.mono hle2, rfl⟩); replace hre5 := hre5.mono hle2; replace hre7 := hre7.mono hle2; refine O2 rfl rfl (A0C _ _ _ _ _) rfl rfl rfl ?_)
 refine A3 21 ?_
 (refine H1 rfl rfl (A0N _ afks[i] atks[i] alb G2 _ _ _ ⟨by omega, by omega⟩ hrN hre7 hre5 (hfrS _ (List.getElem_mem (by omega))) (htyS _ (List.getElem_mem (by omega)))) rfl rfl rfl (fun u G3 hle3 hh => ?_); obtain ⟨wc, rfl, hrw⟩ := hh; have hwl := hrw.len; have hwo := hrw.one)
 refine A3 22 ?_
 (refine oS rfl rfl rfl rfl hwl hwo rfl rfl ?_ (hu := by exact D5 hwl.symm))
 refine aP 23 rfl (qA rfl) rfl ?_
 refine aP 24 rfl (qA rfl) rfl ?_
 refine E8 (nS (tT ?_))
 refine D9 (rC rfl (A2 rfl rfl (A9 (by repeat first | exact mH | apply mT)) hwl)) (rT rfl) (rT rfl) ?_
 (exact M1.mk (by rw [if_neg hnd, if_pos hq, A0u (by omega), P4 (by omega), P4 (by omega)]) hrw)
 refine A0n ?_
 refine D9 (rC rfl (A4 rfl rfl)) (rT rfl) (rT rfl) ?_
 (exact M1.mk (by rw [if_neg (by omega), if_neg (by omega)]; rfl) (M8 _))
theorem B5X (a : Tm) (nm : ByteArray) (num : Int) (ty fr : Ty) (lb : Int) (G : IM) (cells : List Value) (hc : cv (.mk 14 nm num ty fr lb [a])) (hr : A8 G (.mk 14 nm num ty fr lb [a]) cells) : Fn Tryz.prog 245 [.agg ⟨cells⟩] [] G (M1 (Q2 14 ty fr lb [a])) := by
 obtain ⟨hNe, hkk0⟩ := hc.node
 have hca := hkk0 a (by simp)
 have hlb9 := hNe.lbB
 obtain ⟨hcons, htv, hfv⟩ := hNe.c14 rfl
 have hji := @A9i a
 have hjk := @A6s a
 obtain ⟨ak, anm, anum, ⟨atk, atks⟩, ⟨afk, afks⟩, alb, aks⟩ := a
 obtain ⟨hN, hkk⟩ := hca.node
 have hops := hN.ops
 have h14 : ak = 14 → aks.length = 1 := fun h => by rw [h] at hops; have : E2 14 = 1 := rfl; omega
 obtain ⟨tk, tks⟩ := ty
 obtain ⟨fk, fks⟩ := fr
 rw [S7] at hcons
 simp only [Bool.or_eq_true, Bool.and_eq_true, decide_eq_true_eq] at hcons
 have hcc : fk ≠ tk → tk ≠ 1 → fk = 1 := fun h1 h2 => by rcases hcons with (h | h) | h; exact h; exact absurd h h2; exact absurd h.1 h1
 have hta := A6N htv
 have hfa := A6N hfv
 obtain ⟨pt, ct, pf, cf, p, c, es, rfl, hk, hnum, hlb, hty, hfr, hsl, hkl⟩ := hr.open9
 obtain ⟨bx, ox, e0, rfl, hl0, hat0, hre0, hgb0⟩ := hsl.kidTm hkl (i := 0) (by simp) (by simp)
 replace hre0 : A8 G (Tm.mk ak anm anum (.mk atk atks) (.mk afk afks) alb aks) e0 := hre0
 have hI := B0L (Tm.mk ak anm anum (.mk atk atks) (.mk afk afks) alb aks) G _ hN.frA hre0
 have ho0 := hre0.one
 obtain ⟨apt, act, apf, acf, ap, ac, aes, rfl, hak, hanum, halb, haty, hafr, hasl, hakl⟩ := hre0.open9
 obtain ⟨J, hJ⟩ : ∃ J, inj (Tm.mk ak anm anum (.mk atk atks) (.mk afk afks) alb aks) = J := ⟨_, rfl⟩
 obtain ⟨D, hD⟩ : ∃ D, W7 (.mk tk tks) = D := ⟨_, rfl⟩
 have hGr := B0K (.mk tk tks) G _ hta hty
 rw [hD] at hGr
 rw [hJ] at hI hji hjk
 have hR : Q2 14 (.mk tk tks) (.mk fk fks) lb [Tm.mk ak anm anum (.mk atk atks) (.mk afk afks) alb aks] = (if fk = tk then (Tm.mk ak anm anum (.mk atk atks) (.mk afk afks) alb aks, 1, 0)
   else if tk = 1 then (L3 (L3 (Tm.mk ak anm anum (.mk atk atks) (.mk afk afks) alb aks) (.mk fk fks) (V7 (.mk fk fks)) lb) (V7 (.mk fk fks)) (.mk tk tks) lb, 1, 0)
   else if D = false then (L3 (L3 (Tm.mk ak anm anum (.mk atk atks) (.mk afk afks) alb aks) (.mk fk fks) (V7 (.mk tk tks)) lb) (V7 (.mk tk tks)) (.mk tk tks) lb, 1, 0)
   else if J = false then R9
   else if afk = tk then (kd aks 0, 1, 0)
   else (K1, 2, lb)) := by
  rw [← hJ, ← hD]; rfl
 rw [hR]
 refine C0 Tryz.func245 rfl Tryz.ntmps245 Tryz.results245 rfl ?_
 intro w0
 refine tS (tR ?_)
 refine sE (C5 rfl rfl) rfl (fun b3 => ?_)
 refine sE (A6 rfl) rfl (fun b4 => ?_)
 refine D6 ?_
 refine sP (B3 (j := 0) rfl rfl rfl (by simp)) rfl rfl ?_
 refine sL (A2 rfl rfl (hat0 _) rfl) rfl rfl ?_
 refine sE (A6 rfl) rfl (fun b15 => ?_)
 refine B6 ?_
 refine B8 ?_
 refine D6 ?_
 refine sB (qE rfl rfl) rfl rfl (fun h29 => ?_) (fun h29 => ?_)
 refine I6 ?_
 refine D9 (rC rfl (A4 rfl rfl)) (rT rfl) (rT rfl) ?_
 (exact M1.mk (by rw [if_pos (by omega)]) hre0)
 refine E4 ?_
 refine sB (qE rfl rfl) rfl rfl (fun h56 => ?_) (fun h56 => ?_)
 refine D6 ?_
 (have hgk : tk = 1 := (by omega); refine D8 rfl (A63 (.mk fk fks) G _ hfa hfr) rfl rfl (fun u G1 hle1 hh => ?_); obtain ⟨gc, rfl, hrg⟩ := hh; have hgs := A28 (.mk fk fks); generalize V7 (.mk fk fks) = g at hrg hgs ⊢; obtain ⟨pg, cg, eg, rfl, _⟩ := hrg.open; replace hre0 := hre0.mono hle1; replace hfr := hfr.mono hle1; replace hty := hty.mono hle1)
 refine sE (A6 rfl) rfl (fun b66 => ?_)
 refine B6 ?_
 refine E0 E1 rfl ?_
 refine L7 (i := 0) (l' := [tt,ff,ff,ff,ff,ff,ff,ff,ff,ff,ff,ff,ff,ff,ff,ff]) rfl D2 (A2 rfl rfl (A9 (by repeat first | exact mH | apply mT)) rfl) rfl (by kernel_rfl) rfl rfl ?_
 refine aL 3 rfl (A2 rfl rfl (A9 (by repeat first | exact mH | apply mT)) rfl) rfl ?_
 refine aL 7 rfl (A2 rfl rfl (A9 (by repeat first | exact mH | apply mT)) rfl) rfl ?_
 refine aP 1 rfl (B7 rfl) rfl ?_
 refine aL 2 rfl (A4 rfl rfl) rfl ?_
 refine aP 4 rfl (B7 rfl) rfl ?_
 refine aL 5 rfl (C7 rfl rfl) rfl ?_
 refine aP 8 rfl (B7 rfl) rfl ?_
 refine aL 9 rfl (A4 rfl rfl) rfl ?_
 refine aP 10 rfl (B7 rfl) rfl ?_
 refine aL 11 rfl (C7 rfl rfl) rfl ?_
 refine A3 6 ?_
 (refine H1 rfl rfl (A0N _ (.mk fk fks) _ lb G1 _ _ _ ⟨by omega, by omega⟩ hre0 hfr hrg hfa.small hgs) rfl rfl rfl (fun u G3 hle3 hh => ?_); obtain ⟨wc, rfl, hrw⟩ := hh; have hwl := hrw.len; have hwo := hrw.one; replace hrg := hrg.mono hle3; replace hty := hty.mono hle3)
 refine A3 12 ?_
 (refine H1 rfl rfl (A0N _ _ (.mk tk tks) lb G3 _ _ _ ⟨by omega, by omega⟩ hrw hrg hty hgs hta.small) rfl rfl rfl (fun u G4 hle4 hh => ?_); obtain ⟨xc, rfl, hrx⟩ := hh; have hxl := hrx.len; have hxo := hrx.one)
 refine A3 13 ?_
 (refine oS rfl rfl rfl rfl hxl hxo rfl rfl ?_ (hu := by exact D5 hxl.symm))
 refine aP 14 rfl (qA rfl) rfl ?_
 refine aP 15 rfl (qA rfl) rfl ?_
 refine B0 ?_
 refine D9 (rC rfl (A2 rfl rfl (A9 (by repeat first | exact mH | apply mT)) hxl)) (rT rfl) (rT rfl) ?_
 (exact M1.mk (by rw [if_neg (by omega), if_pos (by omega)]) hrx)
 refine E4 ?_
 refine sP (A1D rfl rfl (by omega)) rfl rfl ?_
 refine D6 ?_
 focus (cases hDD : D; all_goals (rw [hDD] at hGr; refine H3 rfl hGr rfl rfl ?_))
 refine E4 ?_
 (refine D8 rfl (A63 (.mk tk tks) G _ hta hty) rfl rfl (fun u G1 hle1 hh => ?_); obtain ⟨gc, rfl, hrg⟩ := hh; have hgs := A28 (.mk tk tks); generalize V7 (.mk tk tks) = g at hrg hgs ⊢; obtain ⟨pg, cg, eg, rfl, _⟩ := hrg.open; replace hre0 := hre0.mono hle1; replace hfr := hfr.mono hle1; replace hty := hty.mono hle1)
 refine sE (A6 rfl) rfl (fun b127 => ?_)
 refine B6 ?_
 refine E0 E1 rfl ?_
 refine L7 (i := 0) (l' := [tt,ff,ff,ff,ff,ff,ff,ff,ff,ff,ff,ff,ff,ff,ff,ff]) rfl D2 (A2 rfl rfl (A9 (by repeat first | exact mH | apply mT)) rfl) rfl (by kernel_rfl) rfl rfl ?_
 refine aL 3 rfl (A2 rfl rfl (A9 (by repeat first | exact mH | apply mT)) rfl) rfl ?_
 refine aL 7 rfl (A2 rfl rfl (A9 (by repeat first | exact mH | apply mT)) rfl) rfl ?_
 refine aP 1 rfl (B7 rfl) rfl ?_
 refine aL 2 rfl (A4 rfl rfl) rfl ?_
 refine aP 4 rfl (B7 rfl) rfl ?_
 refine aL 5 rfl (C7 rfl rfl) rfl ?_
 refine aP 8 rfl (B7 rfl) rfl ?_
 refine aL 9 rfl (A4 rfl rfl) rfl ?_
 refine aP 10 rfl (B7 rfl) rfl ?_
 refine aL 11 rfl (C7 rfl rfl) rfl ?_
 refine A3 6 ?_
 (refine H1 rfl rfl (A0N _ (.mk fk fks) _ lb G1 _ _ _ ⟨by omega, by omega⟩ hre0 hfr hrg hfa.small hgs) rfl rfl rfl (fun u G3 hle3 hh => ?_); obtain ⟨wc, rfl, hrw⟩ := hh; have hwl := hrw.len; have hwo := hrw.one; replace hrg := hrg.mono hle3; replace hty := hty.mono hle3)
 refine A3 12 ?_
 (refine H1 rfl rfl (A0N _ _ (.mk tk tks) lb G3 _ _ _ ⟨by omega, by omega⟩ hrw hrg hty hgs hta.small) rfl rfl rfl (fun u G4 hle4 hh => ?_); obtain ⟨xc, rfl, hrx⟩ := hh; have hxl := hrx.len; have hxo := hrx.one)
 refine A3 13 ?_
 (refine oS rfl rfl rfl rfl hxl hxo rfl rfl ?_ (hu := by exact D5 hxl.symm))
 refine aP 14 rfl (qA rfl) rfl ?_
 refine aP 15 rfl (qA rfl) rfl ?_
 refine B0 ?_
 refine D9 (rC rfl (A2 rfl rfl (A9 (by repeat first | exact mH | apply mT)) hxl)) (rT rfl) (rT rfl) ?_
 (exact M1.mk (by rw [if_neg (by omega), if_neg (by omega), if_pos rfl]) hrx)
 refine D6 ?_
 focus (cases hJJ : J; all_goals (rw [hJJ] at hI; refine H3 rfl hI rfl rfl ?_))
 refine J9 ?_
 refine D9 (rC rfl (A4 rfl rfl)) (rT rfl) (rT rfl) ?_
 (exact M1.mk (by rw [if_neg (by omega), if_neg (by omega), if_neg (by decide), if_pos rfl]; rfl) (M8 _))
 refine K3 ?_
 refine sB (qE rfl rfl) rfl rfl (fun h199 => ?_) (fun h199 => ?_)
 refine D6 ?_
 (have hq1 := h14 (hjk (by assumption)); obtain ⟨bq, oq, e3, rfl, hl3, hat3, hre3, hgb3⟩ := hasl.kidTm hakl (i := 0) (by omega) (by omega); have ho3 := hre3.one; refine sP (B3 (j := 0) rfl rfl rfl (by omega)) rfl rfl ?_)
 refine sL (A2 rfl rfl (hat3 _) hl3) rfl rfl ?_
 refine sS rfl rfl rfl hl3 ho3 rfl ?_ (hu := by exact D5 hl3.symm)
 refine B4 ?_
 refine D9 (rC rfl (A2 rfl rfl (A9 (by repeat first | exact mH | apply mT)) hl3)) (rT rfl) (rT rfl) ?_
 (exact M1.mk (by rw [if_neg (by omega), if_neg (by omega), if_neg (by decide), if_neg (by decide), if_pos (by assumption), A0u (by omega)]) hre3)
 refine D6 ?_
 refine E0 E1 rfl ?_
 refine I8 (i := 0) (l' := [tt,ff,ff,ff,ff,ff]) rfl D2 (W4 rfl rfl) rfl (by kernel_rfl) rfl rfl ?_
 refine aP 1 rfl (B7 rfl) rfl ?_
 refine aL 2 rfl (C7 rfl rfl) rfl ?_
 refine A3 3 ?_
 refine H8 rfl ?_
 refine aP 4 rfl (qA rfl) rfl ?_
 refine aP 5 rfl (qA rfl) rfl ?_
 refine E8 (nS (tT ?_))
 refine D9 (rC rfl (A4 rfl rfl)) (rT rfl) (rT rfl) ?_
 (exact M1.mk (by rw [if_neg (by omega), if_neg (by omega), if_neg (by decide), if_neg (by decide), if_neg (by assumption)]) (M8 _))
theorem A66 {k : Int} {ty fr ty' fr' : Ty} {lb lb' : Int} {ks : List Tm} (h : k ≠ 14) : Q2 k ty fr lb ks = Q2 k ty' fr' lb' ks := by
 unfold Q2
 rw [if_neg h, if_neg h]
theorem B5Y (k : Int) (nm : ByteArray) (num : Int) (ty fr : Ty) (lb : Int) (ks : List Tm) (G : IM) (cells : List Value) (h7 : k = 1 ∨ k = 6 ∨ k = 7 ∨ k = 8 ∨ k = 11 ∨ k = 12 ∨ k = 14) (hc : cv (.mk k nm num ty fr lb ks)) (hr : A8 G (.mk k nm num ty fr lb ks) cells) : Fn Tryz.prog 235 [.agg ⟨cells⟩] [] G (M1 (Q2 k ty fr lb ks)) := by
 have hr0 := hr
 obtain ⟨hN, hkk⟩ := hc.node
 have hops := hN.ops
 have hL2 : k = 6 ∨ k = 7 ∨ k = 8 → ∃ a b, ks = [a, b] := fun h => ks2 (by
  rcases h with rfl | rfl | rfl
  ·have : E2 6 = 2 := rfl; omega
  ·have : E2 7 = 2 := rfl; omega
  ·have : E2 8 = 2 := rfl; omega)
 have hL1 : k = 11 ∨ k = 12 ∨ k = 14 → ∃ a, ks = [a] := fun h => ks1 (by
  rcases h with rfl | rfl | rfl
  ·have : E2 11 = 1 := rfl; omega
  ·have : E2 12 = 1 := rfl; omega
  ·have : E2 14 = 1 := rfl; omega)
 have hC : k = 14 → Fn Tryz.prog 245 [.agg ⟨cells⟩] [] G (M1 (Q2 k ty fr lb ks)) := by
  rintro rfl
  obtain ⟨a, rfl⟩ := hL1 (by omega)
  exact B5X a nm num ty fr lb G cells hc hr
 have hA : k = 6 → ∀ a b, ks = [a, b] → Q2 k ty fr lb ks = Q2 6 B2 B2 0 [a, b] := by rintro rfl a b rfl; exact A66 (by decide)
 have hB : k = 7 ∨ k = 8 → ∀ a b, ks = [a, b] → Q2 k ty fr lb ks = Q2 k B2 B2 0 [a, b] := by rintro h a b rfl; exact A66 (by omega)
 have hD : k = 11 ∨ k = 12 → ∀ a, ks = [a] → Q2 k ty fr lb ks = Q2 k B2 B2 0 [a] := by rintro h a rfl; exact A66 (by omega)
 have hO : k = 1 → Q2 k ty fr lb ks = R9 := by rintro rfl; rfl
 generalize Q2 k ty fr lb ks = R at hC hA hB hD hO ⊢
 obtain ⟨tk, tks⟩ := ty
 obtain ⟨fk, fks⟩ := fr
 obtain ⟨pt, ct, pf, cf, p, c, es, rfl, hk, hnum, hlb, hty, hfr, hsl, hkl⟩ := hr.open9
 refine C0 Tryz.func235 rfl Tryz.ntmps235 Tryz.results235 rfl ?_
 intro w0
 refine tS (tR ?_)
 refine sE (C5 rfl rfl) rfl (fun b3 => ?_)
 refine sE (A6 rfl) rfl (fun b4 => ?_)
 refine J2 ?_
 refine B8 (tS (tR (sB (qE rfl rfl) rfl rfl (fun h19 => ?_) (fun h19 => ?_))))
 refine B0 ?_
 (have hq : k = 6 := (by assumption); obtain ⟨x, y, hxy⟩ := hL2 (by omega); have hAq := hA hq x y hxy; subst hxy; obtain ⟨bx, ox, e0, rfl, hl0, hat0, hre0, hgb0⟩ := hsl.kidTm hkl (i := 0) (by simp) (by simp); obtain ⟨_, _, e1, hp1, hl1, hat1, hre1, hgb1⟩ := hsl.kidTm hkl (i := 1) (by simp) (by simp); cases hp1; have hF := B5W x y G e0 e1 (hkk x (by simp)) (A2z y (hkk y (by simp))) hre0 hre1; rw [← hAq] at hF; refine E0 E1 rfl ?_)
 refine I8 (i := 0) (l' := [tt,ff,ff,ff,ff,ff,ff,ff,ff,ff,ff,ff,ff,ff,ff]) rfl D2 (B7 rfl) rfl (by kernel_rfl) rfl rfl ?_
 refine aL 1 rfl (C7 rfl rfl) rfl ?_
 refine aP 2 rfl (B3 (j := 0) rfl rfl rfl (by simp)) rfl ?_
 refine aL 3 rfl (A2 rfl rfl (hat0 _) hl0) rfl ?_
 refine aP 4 rfl (B7 rfl) rfl ?_
 refine aL 5 rfl (C7 rfl rfl) rfl ?_
 refine aP 6 rfl (B3 (j := 1) rfl rfl rfl (by simp)) rfl ?_
 refine aL 7 rfl (A2 rfl rfl (hat1 _) hl1) rfl ?_
 refine A3 8 ?_
 (refine H1 rfl rfl hF rfl rfl rfl (fun v G1 hle1 hh => ?_); obtain ⟨wc, rfl, hrw⟩ := hh; have hwl := hrw.len; have hwo := hrw.one)
 refine aP 9 rfl (pX rfl rfl) rfl ?_
 refine aP 10 rfl (pX rfl rfl) rfl ?_
 refine aP 11 rfl (pX rfl rfl) rfl ?_
 refine A3 12 ?_
 (refine oS rfl rfl rfl rfl hwl hwo rfl rfl ?_ (hu := by exact D5 hwl.symm))
 refine aP 13 rfl (qA rfl) rfl ?_
 refine aP 14 rfl (qA rfl) rfl ?_
 refine B0 ?_
 refine D9 (rC rfl (A2 rfl rfl (A9 (by repeat first | exact mH | apply mT)) hwl)) (rT rfl) (rT rfl) ?_
 (exact ⟨rfl, _, rfl, hrw⟩)
 refine B4 ?_
 refine sB (qE rfl rfl) rfl rfl (fun h57 => ?_) (fun h57 => ?_)
 refine D6 ?_
 (have hq : k = 7 ∨ k = 8 := (by omega); obtain ⟨x, y, hxy⟩ := hL2 (by omega); have hBq := hB hq x y hxy; subst hxy; obtain ⟨bx, ox, e0, rfl, hl0, hat0, hre0, hgb0⟩ := hsl.kidTm hkl (i := 0) (by simp) (by simp); obtain ⟨_, _, e1, hp1, hl1, hat1, hre1, hgb1⟩ := hsl.kidTm hkl (i := 1) (by simp) (by simp); cases hp1; have hF := B0N k x y G e0 e1 hq (by have := (hkk x (by simp)); cases x; exact this.node.1.num0) (by have := (hkk y (by simp)); cases y; exact this.node.1.num0) hre0 hre1; rw [← hBq] at hF; refine E0 E1 rfl ?_)
 refine I8 (i := 0) (l' := [tt,ff,ff,ff,ff,ff,ff,ff,ff,ff,ff,ff,ff,ff,ff,ff,ff]) rfl D2 (B7 rfl) rfl (by kernel_rfl) rfl rfl ?_
 refine aL 1 rfl (C7 rfl rfl) rfl ?_
 refine aP 2 rfl (B7 rfl) rfl ?_
 refine aL 3 rfl (C7 rfl rfl) rfl ?_
 refine aP 4 rfl (B3 (j := 0) rfl rfl rfl (by simp)) rfl ?_
 refine aL 5 rfl (A2 rfl rfl (hat0 _) hl0) rfl ?_
 refine aP 6 rfl (B7 rfl) rfl ?_
 refine aL 7 rfl (C7 rfl rfl) rfl ?_
 refine aP 8 rfl (B3 (j := 1) rfl rfl rfl (by simp)) rfl ?_
 refine aL 9 rfl (A2 rfl rfl (hat1 _) hl1) rfl ?_
 refine A3 10 ?_
 (refine H1 rfl rfl hF rfl rfl rfl (fun v G1 hle1 hh => ?_); obtain ⟨wc, rfl, hrw⟩ := hh; have hwl := hrw.len; have hwo := hrw.one)
 refine aP 11 rfl (pX rfl rfl) rfl ?_
 refine aP 12 rfl (pX rfl rfl) rfl ?_
 refine aP 13 rfl (pX rfl rfl) rfl ?_
 refine A3 14 ?_
 (refine oS rfl rfl rfl rfl hwl hwo rfl rfl ?_ (hu := by exact D5 hwl.symm))
 refine aP 15 rfl (qA rfl) rfl ?_
 refine aP 16 rfl (qA rfl) rfl ?_
 refine B0 ?_
 refine D9 (rC rfl (A2 rfl rfl (A9 (by repeat first | exact mH | apply mT)) hwl)) (rT rfl) (rT rfl) ?_
 (exact ⟨rfl, _, rfl, hrw⟩)
 refine B0 ?_
 refine sB (qE rfl rfl) rfl rfl (fun h98 => ?_) (fun h98 => ?_)
 refine B0 ?_
 (have hq : k = 7 ∨ k = 8 := (by omega); obtain ⟨x, y, hxy⟩ := hL2 (by omega); have hBq := hB hq x y hxy; subst hxy; obtain ⟨bx, ox, e0, rfl, hl0, hat0, hre0, hgb0⟩ := hsl.kidTm hkl (i := 0) (by simp) (by simp); obtain ⟨_, _, e1, hp1, hl1, hat1, hre1, hgb1⟩ := hsl.kidTm hkl (i := 1) (by simp) (by simp); cases hp1; have hF := B0N k x y G e0 e1 hq (by have := (hkk x (by simp)); cases x; exact this.node.1.num0) (by have := (hkk y (by simp)); cases y; exact this.node.1.num0) hre0 hre1; rw [← hBq] at hF; refine E0 E1 rfl ?_)
 refine I8 (i := 0) (l' := [tt,ff,ff,ff,ff,ff,ff,ff,ff,ff,ff,ff,ff,ff,ff,ff,ff]) rfl D2 (B7 rfl) rfl (by kernel_rfl) rfl rfl ?_
 refine aL 1 rfl (C7 rfl rfl) rfl ?_
 refine aP 2 rfl (B7 rfl) rfl ?_
 refine aL 3 rfl (C7 rfl rfl) rfl ?_
 refine aP 4 rfl (B3 (j := 0) rfl rfl rfl (by simp)) rfl ?_
 refine aL 5 rfl (A2 rfl rfl (hat0 _) hl0) rfl ?_
 refine aP 6 rfl (B7 rfl) rfl ?_
 refine aL 7 rfl (C7 rfl rfl) rfl ?_
 refine aP 8 rfl (B3 (j := 1) rfl rfl rfl (by simp)) rfl ?_
 refine aL 9 rfl (A2 rfl rfl (hat1 _) hl1) rfl ?_
 refine A3 10 ?_
 (refine H1 rfl rfl hF rfl rfl rfl (fun v G1 hle1 hh => ?_); obtain ⟨wc, rfl, hrw⟩ := hh; have hwl := hrw.len; have hwo := hrw.one)
 refine aP 11 rfl (pX rfl rfl) rfl ?_
 refine aP 12 rfl (pX rfl rfl) rfl ?_
 refine aP 13 rfl (pX rfl rfl) rfl ?_
 refine A3 14 ?_
 (refine oS rfl rfl rfl rfl hwl hwo rfl rfl ?_ (hu := by exact D5 hwl.symm))
 refine aP 15 rfl (qA rfl) rfl ?_
 refine aP 16 rfl (qA rfl) rfl ?_
 refine B0 ?_
 refine D9 (rC rfl (A2 rfl rfl (A9 (by repeat first | exact mH | apply mT)) hwl)) (rT rfl) (rT rfl) ?_
 (exact ⟨rfl, _, rfl, hrw⟩)
 refine B4 ?_
 refine sB (qE rfl rfl) rfl rfl (fun h138 => ?_) (fun h138 => ?_)
 refine D6 ?_
 (have hq : k = 11 ∨ k = 12 := (by omega); obtain ⟨x, hxy⟩ := hL1 (by omega); have hDq := hD hq x hxy; subst hxy; obtain ⟨bx, ox, e0, rfl, hl0, hat0, hre0, hgb0⟩ := hsl.kidTm hkl (i := 0) (by simp) (by simp); have hF := B0O k x G e0 hq (hkk x (by simp)) hre0; rw [← hDq] at hF; refine E0 E1 rfl ?_)
 refine I8 (i := 0) (l' := [tt,ff,ff,ff,ff,ff,ff,ff,ff,ff,ff,ff,ff]) rfl D2 (B7 rfl) rfl (by kernel_rfl) rfl rfl ?_
 refine aL 1 rfl (C7 rfl rfl) rfl ?_
 refine aP 2 rfl (B7 rfl) rfl ?_
 refine aL 3 rfl (C7 rfl rfl) rfl ?_
 refine aP 4 rfl (B3 (j := 0) rfl rfl rfl (by simp)) rfl ?_
 refine aL 5 rfl (A2 rfl rfl (hat0 _) hl0) rfl ?_
 refine A3 6 ?_
 (refine H1 rfl rfl hF rfl rfl rfl (fun v G1 hle1 hh => ?_); obtain ⟨wc, rfl, hrw⟩ := hh; have hwl := hrw.len; have hwo := hrw.one)
 refine aP 7 rfl (pX rfl rfl) rfl ?_
 refine aP 8 rfl (pX rfl rfl) rfl ?_
 refine aP 9 rfl (pX rfl rfl) rfl ?_
 refine A3 10 ?_
 (refine oS rfl rfl rfl rfl hwl hwo rfl rfl ?_ (hu := by exact D5 hwl.symm))
 refine aP 11 rfl (qA rfl) rfl ?_
 refine aP 12 rfl (qA rfl) rfl ?_
 refine B0 ?_
 refine D9 (rC rfl (A2 rfl rfl (A9 (by repeat first | exact mH | apply mT)) hwl)) (rT rfl) (rT rfl) ?_
 (exact ⟨rfl, _, rfl, hrw⟩)
 refine B0 ?_
 refine sB (qE rfl rfl) rfl rfl (fun h175 => ?_) (fun h175 => ?_)
 refine B0 ?_
 (have hq : k = 11 ∨ k = 12 := (by omega); obtain ⟨x, hxy⟩ := hL1 (by omega); have hDq := hD hq x hxy; subst hxy; obtain ⟨bx, ox, e0, rfl, hl0, hat0, hre0, hgb0⟩ := hsl.kidTm hkl (i := 0) (by simp) (by simp); have hF := B0O k x G e0 hq (hkk x (by simp)) hre0; rw [← hDq] at hF; refine E0 E1 rfl ?_)
 refine I8 (i := 0) (l' := [tt,ff,ff,ff,ff,ff,ff,ff,ff,ff,ff,ff,ff]) rfl D2 (B7 rfl) rfl (by kernel_rfl) rfl rfl ?_
 refine aL 1 rfl (C7 rfl rfl) rfl ?_
 refine aP 2 rfl (B7 rfl) rfl ?_
 refine aL 3 rfl (C7 rfl rfl) rfl ?_
 refine aP 4 rfl (B3 (j := 0) rfl rfl rfl (by simp)) rfl ?_
 refine aL 5 rfl (A2 rfl rfl (hat0 _) hl0) rfl ?_
 refine A3 6 ?_
 (refine H1 rfl rfl hF rfl rfl rfl (fun v G1 hle1 hh => ?_); obtain ⟨wc, rfl, hrw⟩ := hh; have hwl := hrw.len; have hwo := hrw.one)
 refine aP 7 rfl (pX rfl rfl) rfl ?_
 refine aP 8 rfl (pX rfl rfl) rfl ?_
 refine aP 9 rfl (pX rfl rfl) rfl ?_
 refine A3 10 ?_
 (refine oS rfl rfl rfl rfl hwl hwo rfl rfl ?_ (hu := by exact D5 hwl.symm))
 refine aP 11 rfl (qA rfl) rfl ?_
 refine aP 12 rfl (qA rfl) rfl ?_
 refine B0 ?_
 refine D9 (rC rfl (A2 rfl rfl (A9 (by repeat first | exact mH | apply mT)) hwl)) (rT rfl) (rT rfl) ?_
 (exact ⟨rfl, _, rfl, hrw⟩)
 refine A7 ?_
 refine sB (qE rfl rfl) rfl rfl (fun h210 => ?_) (fun h210 => ?_)
 refine B4 ?_
 (refine D8 rfl (hC (by omega)) rfl rfl (fun v G1 hle1 hh => ?_); obtain ⟨wc, rfl, hrw⟩ := hh; have hwl := hrw.len; have hwo := hrw.one)
 refine E3 ?_
 refine sS rfl rfl rfl hwl hwo rfl ?_ (hu := by exact D5 hwl.symm)
 refine B4 ?_
 refine D9 (rC rfl (A2 rfl rfl (A9 (by repeat first | exact mH | apply mT)) hwl)) (rT rfl) (rT rfl) ?_
 (exact ⟨rfl, _, rfl, hrw⟩)
 refine J9 ?_
 refine D9 (rC rfl (A4 rfl rfl)) (rT rfl) (rT rfl) ?_
 (rw [hO (by omega)]; exact M1.mk rfl (M8 _))
theorem B5Z {k : Int} {nm : ByteArray} {num : Int} {ty fr : Ty} {lb : Int} {ks : List Tm} {i : Nat} (hi : i < ks.length) (hn : i < (if k = 9 then 1 else ks.length)) (hj : ∀ j, j < i → (h : j < ks.length) → K6 ks[j] = true) (hv : K6 ks[i] = false) :
  K2 (.mk k nm num ty fr lb ks) = if (K2 ks[i]).2.1 = 1 then (.mk k nm num ty fr lb (ks.set i (K2 ks[i]).1), 1, 0) else (K1, (K2 ks[i]).2.1, (K2 ks[i]).2.2) := by
 rw [K2, A6v _ ks i hi hn hj hv]
theorem B50 {k : Int} {nm : ByteArray} {num : Int} {ty fr : Ty} {lb : Int} {ks : List Tm} (h : ∀ i, i < (if k = 9 then 1 else ks.length) → (hl : i < ks.length) → K6 ks[i] = true) : K2 (.mk k nm num ty fr lb ks) = Q2 k ty fr lb ks := by
 rw [K2, A6u _ _ h]
theorem B51 {ty fr : Ty} {lb : Int} {a b c : Tm} : Q2 9 ty fr lb [a, b, c] = (if a.k = 3 then (b, 1, 0) else if a.k = 4 then (c, 1, 0) else R9) := rfl
theorem B52 : ∀ (t : Tm) (G : IM) (cells : List Value), cv t → K6 t = false → A8 G t cells → Fn Tryz.prog 204 [.agg ⟨cells⟩] [] G (M1 (K2 t)) := by
 refine Tm.ind fun k nm num ty fr lb ks ih G cells hc hv hr => ?_
 have hr0 := hr
 have hRl := hr.len
 have hN := hc.node.1
 have hkk := hc.node.2
 have hops := hN.ops
 have hle3 := A1o k
 have hkd := @A9k k nm num ty fr lb ks hc hv
 have hkX := fun (i : Nat) => @B5Z k nm num ty fr lb ks i
 have hrX := @B50 k nm num ty fr lb ks
 have hRd := fun h7 => B5Y k nm num ty fr lb ks G cells h7 hc hr
 obtain ⟨C, hC⟩ : ∃ C : Nat, (if k = 9 then 1 else ks.length : Nat) = C := ⟨_, rfl⟩
 rw [hC] at hkd hrX
 have hkX' := fun (i : Nat) (hi : i < ks.length) (hn : i < C) => hkX i hi (by rw [hC]; exact hn)
 have h93 : k = 9 → ks.length = 3 := fun h => by rw [h] at hops; have : E2 9 = 3 := rfl; omega
 have hC1 : k = 9 → C = 1 := fun h => by rw [← hC, if_pos h]
 have hC2 : k ≠ 9 → C = ks.length := fun h => by rw [← hC, if_neg h]
 have hC9 : C ≤ ks.length := by by_cases h9 : k = 9; have := h93 h9; have := hC1 h9; omega; have := hC2 h9; omega
 generalize K2 (.mk k nm num ty fr lb ks) = R at hkX hkX' hrX ⊢
 obtain ⟨tk, tks⟩ := ty
 obtain ⟨fk, fks⟩ := fr
 obtain ⟨pt, ct, pf, cf, p, c, es, rfl, hk, hnum, hlb, hty, hfr, hsl, hkl⟩ := hr.open9
 have hn := hsl.le
 have hnc := hsl.sl.2.1
 have hes1 : ∀ u ∈ es.flatten, u.oneCell' = true := by
  intro u hu
  obtain ⟨e, he, hue⟩ := List.mem_flatten.1 hu
  exact List.all_eq_true.1 (hsl.one e he) u hue
 refine C0 Tryz.func204 rfl Tryz.ntmps204 Tryz.results204 rfl ?_
 intro w0
 refine tS (tR ?_)
 refine sE (C5 rfl rfl) rfl (fun b3 => ?_)
 refine sE (A6 rfl) rfl (fun b4 => ?_)
 refine S6 ?_
 refine sB (qE rfl rfl) rfl rfl (fun h22 => ?_) (fun h22 => ?_)
 refine sD (nS ?_)
 (show J1 _ _ (.cond (.tmp 16) _ _) _ _; refine A0g (fun (_ : Unit) => ⟨[(5, .int .i64 (C : Int)), (1, .pointer (some ⟨b3, 0, none⟩)), (2, .pointer (some ⟨b4, 0, none⟩))], [.blk b4 [.int .i64 0, .string ⟨⟨[]⟩⟩, .int .i64 0, .int .i64 0, .slice none 0 0, .int .i64 0, .slice none 0 0, .int .i64 0, .slice none 0 0], .blk b3 [.int .i64 k, .string nm, .int .i64 num, .int .i64 tk, .slice pt tks.length ct, .int .i64 fk, .slice pf fks.length cf, .int .i64 lb, .slice p ks.length c]], G⟩) (fun _ => True) (qT rfl ?_) ?_)
 refine E3 ?_
 (have hCC := hC1 (by omega); subst hCC; refine Q0 () (J8 (by repeat (first | exact D4.nil | refine D4.cons rfl ?_)) (by repeat (first | exact A0.refl | exact A0.nil | refine A0.cons (by repeat (first | exact Pk.here | apply Pk.there)) ?_ | apply A0.drop))) trivial)
 (rintro (_ : Unit) _)
 refine A7 ?_
 refine B8 ?_
 (refine I2 (fun (i : Nat) => ⟨[(6, .int .i64 (i : Int)), (5, .int .i64 (C : Int)), (1, .pointer (some ⟨b3, 0, none⟩)), (2, .pointer (some ⟨b4, 0, none⟩))], [.blk b4 [.int .i64 0, .string ⟨⟨[]⟩⟩, .int .i64 0, .int .i64 0, .slice none 0 0, .int .i64 0, .slice none 0 0, .int .i64 0, .slice none 0 0], .blk b3 [.int .i64 k, .string nm, .int .i64 num, .int .i64 tk, .slice pt tks.length ct, .int .i64 fk, .slice pf fks.length cf, .int .i64 lb, .slice p ks.length c]], G⟩) (fun i => i ≤ C ∧ ∀ j, j < i → (h : j < ks.length) → K6 ks[j] = true) (fun i => C - i) 0 ?_ ?_ ?_)
 exact D3
 (exact ⟨Nat.zero_le _, fun j hj => absurd hj (Nat.not_lt_zero j)⟩)
 (rintro i ⟨hi, hj⟩)
 refine B0 ?_
 refine sB (I0 rfl rfl) rfl rfl (fun h47 => ?_) (fun h47 => ?_)
 refine A7 ?_
 refine B8 ?_
 refine A7 ?_
 (have hiC : i < C := (by omega); obtain ⟨bx, ox, e, rfl, hl, hat, hre, hgb⟩ := hsl.kidTm hkl (i := i) (by omega) (by omega); have heo := hre.one; have hVi := A65 ks[i] G e (hkk _ (List.getElem_mem (by omega))) hre; refine sP (B3 (j := i) rfl rfl rfl (by omega)) rfl rfl ?_)
 refine sL (A2 rfl rfl (hat _) hl) rfl rfl ?_
 refine H4 rfl (hVi) rfl rfl (fun h63 => ?_) (fun h63 => ?_)
 refine E4 ?_
 refine sP (H2 rfl rfl (by omega) (by omega)) rfl rfl ?_
 refine D7 ?_
 refine H9 (i + 1) ?_ ?_ ?_
 exact D3
 (exact ⟨by omega, fun j hji hl2 => (by by_cases he : j = i; (subst he; assumption); exact hj j (by omega) hl2)⟩)
 (show C - (i + 1) < C - i; omega)
 refine J5 ?_
 refine sP (B3 (j := i) rfl rfl rfl (by omega)) rfl rfl ?_
 refine sL (A2 rfl rfl (hat _) hl) rfl rfl ?_
 (have hvF : K6 ks[i] = false := (by assumption); have hst := hkX' i (by omega) hiC (fun j hji hl2 => hj j hji hl2) hvF; refine D8 rfl (ih ks[i] (List.getElem_mem (by omega)) G e (hkk _ (List.getElem_mem (by omega))) hvF hre) rfl rfl (fun v G1 hle1 hh => ?_); obtain ⟨uc, hvv, hru⟩ := hh; have hul := hru.len; have huo := hru.one; generalize K2 ks[i] = r at hvv hru hst; obtain ⟨u, cc, ll⟩ := r; simp only at hvv hru hst; subst hvv)
 refine B6 ?_
 refine sE (A6 rfl) rfl (fun b97 => ?_)
 refine sS rfl rfl rfl hul huo rfl ?_ (hu := by exact D5 hul.symm)
 refine D6 ?_
 refine sB (O9 rfl rfl) rfl rfl (fun h107 => ?_) (fun h107 => ?_)
 refine A0n ?_
 refine D9 (rC rfl (A4 rfl rfl)) (rT rfl) (rT rfl) ?_
 (rw [hst, if_neg (by omega)]; exact M1.mk rfl (M8 _))
 refine D6 ?_
 refine sE (A6 rfl) rfl (fun b138 => ?_)
 refine B0 ?_
 (refine I1 (C9 rfl rfl rfl (by omega) (by unfold maxLen; omega) rfl) rfl ?_; rintro _ ⟨b144, rfl⟩)
 refine D7 ?_
 (refine A2v rfl rfl rfl rfl rfl (fun _ _ => by repeat (first | exact Sw.here | apply Sw.there)) (hsl.mono hle1).sl hes1 (Nat.zero_le _) (by unfold maxLen; omega) (by omega) rfl (fun p4 c4 => ?_); simp only [Nat.zero_add, List.nil_append]; refine A3N (cs := es.flatten) (by repeat (first | exact Pk.here | apply Pk.there)) (by omega) (fun bc Cc hpe hnc1 hcm => ?_); subst hpe)
 refine E4 ?_
 refine sL (A2 rfl rfl (A9 (by repeat first | exact mH | apply mT)) hul) rfl rfl ?_
 refine sP (B3 (j := i) rfl rfl rfl (by omega)) rfl rfl ?_
 refine U8 rfl rfl rfl hul huo rfl (by repeat first | exact Sw.here | apply Sw.there) (by exact A3O (by rw [hkl.len]; omega) (fun e he => (hsl.all e he)) hul) ?_
 refine J5 ?_
 (refine A2q (bs := [(bc, (es.set i uc).flatten ++ Cc)]) (Pk.perm (by repeat (first | exact Pk.here | apply Pk.there))) (fun hn2 hd2 hle2 => ?_))
 refine A7 ?_
 refine D9 (rC rfl (A4 rfl rfl)) (rT rfl) (rT rfl) ?_
 (have hks2 := C6.set (j := i) ((hkl.mono hle1).mono hle2) (hru.mono hle2); rw [hst, if_pos (by omega)]; exact M1.mk rfl (A8.put (us := ks.set i u) (es := es.set i uc) hk hnum hlb ((hty.mono hle1).mono hle2) ((hfr.mono hle1).mono hle2) (by rw [List.length_set]) (D1.of (Sl.of_blk (A := []) (by rw [A02 hks2.all, hks2.len, List.length_set]) (by omega) hcm (Wi.in hn2 List.mem_cons_self)) (by rw [hks2.len, List.length_set]) hks2.all (fun e he => by obtain ⟨q, hq⟩ := List.getElem?_of_mem he; exact (hks2.inv hq K1).2.one)) hks2))
 refine K3 ?_
 refine sP (A1D rfl rfl (by omega)) rfl rfl ?_
 refine J5 ?_
 (have hall : ∀ i, i < C → (hl : i < ks.length) → K6 ks[i] = true := (fun j hjc hl2 => hj j (by omega) hl2); have hrd' := hrX hall; have h9 : k = 9 := (by omega); subst h9; obtain ⟨xa, xb, xc, hxs⟩ := ks3 (h93 rfl); subst hxs; rw [B51] at hrd'; obtain ⟨bx, ox, e0, rfl, hl0, hat0, hre0, hgb0⟩ := hsl.kidTm hkl (i := 0) (by simp) (by simp); obtain ⟨_, _, e1, hp1, hl1, hat1, hre1, hgb1⟩ := hsl.kidTm hkl (i := 1) (by simp) (by simp); cases hp1; obtain ⟨_, _, e2, hp2, hl2, hat2, hre2, hgb2⟩ := hsl.kidTm hkl (i := 2) (by simp) (by simp); cases hp2; replace hre0 : A8 G xa e0 := hre0; replace hre1 : A8 G xb e1 := hre1; replace hre2 : A8 G xc e2 := hre2; have ho1 := hre1.one; have ho2 := hre2.one; obtain ⟨ak, anm, anum, ⟨atk, atks⟩, ⟨afk, afks⟩, alb, aks⟩ := xa; obtain ⟨apt, act, apf, acf, ap, ac, aes, rfl, hak, hanum, halb, haty, hafr, hasl, hakl⟩ := hre0.open9; replace hrd' : R = (if ak = 3 then (xb, 1, 0) else if ak = 4 then (xc, 1, 0) else R9) := hrd'; refine sP (B3 (j := 0) rfl rfl rfl (by simp)) rfl rfl ?_)
 refine sQ (qF rfl) rfl ?_
 refine sL (R3 rfl rfl ((hat0 _).sub (j := 0) rfl)) rfl rfl ?_
 refine sD (nS ?_)
 refine B8 (tS (tR (sB (qE rfl rfl) rfl rfl (fun h211 => ?_) (fun h211 => ?_))))
 refine D6 ?_
 refine sP (B3 (j := 1) rfl rfl rfl (by simp)) rfl rfl ?_
 refine sL (A2 rfl rfl (hat1 _) hl1) rfl rfl ?_
 refine sS rfl rfl rfl hl1 ho1 rfl ?_ (hu := by exact D5 hl1.symm)
 refine B4 ?_
 refine D9 (rC rfl (A2 rfl rfl (A9 (by repeat first | exact mH | apply mT)) hl1)) (rT rfl) (rT rfl) ?_
 (rw [hrd', if_pos (by omega)]; exact M1.mk rfl hre1)
 refine A7 ?_
 refine sB (qE rfl rfl) rfl rfl (fun h238 => ?_) (fun h238 => ?_)
 refine D6 ?_
 refine sP (B3 (j := 2) rfl rfl rfl (by simp)) rfl rfl ?_
 refine sL (A2 rfl rfl (hat2 _) hl2) rfl rfl ?_
 refine sS rfl rfl rfl hl2 ho2 rfl ?_ (hu := by exact D5 hl2.symm)
 refine B4 ?_
 refine D9 (rC rfl (A2 rfl rfl (A9 (by repeat first | exact mH | apply mT)) hl2)) (rT rfl) (rT rfl) ?_
 (rw [hrd', if_neg (by omega), if_pos (by omega)]; exact M1.mk rfl hre2)
 refine J9 ?_
 refine D9 (rC rfl (A4 rfl rfl)) (rT rfl) (rT rfl) ?_
 (rw [hrd', if_neg (by omega), if_neg (by omega)]; exact M1.mk rfl (M8 _))
 refine sD (nS ?_)
 (show J1 _ _ (.cond (.tmp 16) _ _) _ _; refine A0g (fun (_ : Unit) => ⟨[(5, .int .i64 (C : Int)), (1, .pointer (some ⟨b3, 0, none⟩)), (2, .pointer (some ⟨b4, 0, none⟩))], [.blk b4 [.int .i64 0, .string ⟨⟨[]⟩⟩, .int .i64 0, .int .i64 0, .slice none 0 0, .int .i64 0, .slice none 0 0, .int .i64 0, .slice none 0 0], .blk b3 [.int .i64 k, .string nm, .int .i64 num, .int .i64 tk, .slice pt tks.length ct, .int .i64 fk, .slice pf fks.length cf, .int .i64 lb, .slice p ks.length c]], G⟩) (fun _ => True) (cF rfl ?_) ?_)
 refine tK ?_
 (have hCC := hC2 (by omega); subst hCC; refine Q0 () (J8 (by repeat (first | exact D4.nil | refine D4.cons rfl ?_)) (by repeat (first | exact A0.refl | exact A0.nil | refine A0.cons (by repeat (first | exact Pk.here | apply Pk.there)) ?_ | apply A0.drop))) trivial)
 (rintro (_ : Unit) _)
 refine A7 ?_
 refine B8 ?_
 (refine I2 (fun (i : Nat) => ⟨[(6, .int .i64 (i : Int)), (5, .int .i64 (C : Int)), (1, .pointer (some ⟨b3, 0, none⟩)), (2, .pointer (some ⟨b4, 0, none⟩))], [.blk b4 [.int .i64 0, .string ⟨⟨[]⟩⟩, .int .i64 0, .int .i64 0, .slice none 0 0, .int .i64 0, .slice none 0 0, .int .i64 0, .slice none 0 0], .blk b3 [.int .i64 k, .string nm, .int .i64 num, .int .i64 tk, .slice pt tks.length ct, .int .i64 fk, .slice pf fks.length cf, .int .i64 lb, .slice p ks.length c]], G⟩) (fun i => i ≤ C ∧ ∀ j, j < i → (h : j < ks.length) → K6 ks[j] = true) (fun i => C - i) 0 ?_ ?_ ?_)
 exact D3
 (exact ⟨Nat.zero_le _, fun j hj => absurd hj (Nat.not_lt_zero j)⟩)
 (rintro i ⟨hi, hj⟩)
 refine B0 ?_
 refine sB (I0 rfl rfl) rfl rfl (fun h299 => ?_) (fun h299 => ?_)
 refine A7 ?_
 refine B8 ?_
 refine A7 ?_
 (have hiC : i < C := (by omega); obtain ⟨bx, ox, e, rfl, hl, hat, hre, hgb⟩ := hsl.kidTm hkl (i := i) (by omega) (by omega); have heo := hre.one; have hVi := A65 ks[i] G e (hkk _ (List.getElem_mem (by omega))) hre; refine sP (B3 (j := i) rfl rfl rfl (by omega)) rfl rfl ?_)
 refine sL (A2 rfl rfl (hat _) hl) rfl rfl ?_
 refine H4 rfl (hVi) rfl rfl (fun h315 => ?_) (fun h315 => ?_)
 refine E4 ?_
 refine sP (H2 rfl rfl (by omega) (by omega)) rfl rfl ?_
 refine D7 ?_
 refine H9 (i + 1) ?_ ?_ ?_
 exact D3
 (exact ⟨by omega, fun j hji hl2 => (by by_cases he : j = i; (subst he; assumption); exact hj j (by omega) hl2)⟩)
 (show C - (i + 1) < C - i; omega)
 refine J5 ?_
 refine sP (B3 (j := i) rfl rfl rfl (by omega)) rfl rfl ?_
 refine sL (A2 rfl rfl (hat _) hl) rfl rfl ?_
 (have hvF : K6 ks[i] = false := (by assumption); have hst := hkX' i (by omega) hiC (fun j hji hl2 => hj j hji hl2) hvF; refine D8 rfl (ih ks[i] (List.getElem_mem (by omega)) G e (hkk _ (List.getElem_mem (by omega))) hvF hre) rfl rfl (fun v G1 hle1 hh => ?_); obtain ⟨uc, hvv, hru⟩ := hh; have hul := hru.len; have huo := hru.one; generalize K2 ks[i] = r at hvv hru hst; obtain ⟨u, cc, ll⟩ := r; simp only at hvv hru hst; subst hvv)
 refine B6 ?_
 refine sE (A6 rfl) rfl (fun b349 => ?_)
 refine sS rfl rfl rfl hul huo rfl ?_ (hu := by exact D5 hul.symm)
 refine D6 ?_
 refine sB (O9 rfl rfl) rfl rfl (fun h359 => ?_) (fun h359 => ?_)
 refine A0n ?_
 refine D9 (rC rfl (A4 rfl rfl)) (rT rfl) (rT rfl) ?_
 (rw [hst, if_neg (by omega)]; exact M1.mk rfl (M8 _))
 refine D6 ?_
 refine sE (A6 rfl) rfl (fun b390 => ?_)
 refine B0 ?_
 (refine I1 (C9 rfl rfl rfl (by omega) (by unfold maxLen; omega) rfl) rfl ?_; rintro _ ⟨b396, rfl⟩)
 refine D7 ?_
 (refine A2v rfl rfl rfl rfl rfl (fun _ _ => by repeat (first | exact Sw.here | apply Sw.there)) (hsl.mono hle1).sl hes1 (Nat.zero_le _) (by unfold maxLen; omega) (by omega) rfl (fun p4 c4 => ?_); simp only [Nat.zero_add, List.nil_append]; refine A3N (cs := es.flatten) (by repeat (first | exact Pk.here | apply Pk.there)) (by omega) (fun bc Cc hpe hnc1 hcm => ?_); subst hpe)
 refine E4 ?_
 refine sL (A2 rfl rfl (A9 (by repeat first | exact mH | apply mT)) hul) rfl rfl ?_
 refine sP (B3 (j := i) rfl rfl rfl (by omega)) rfl rfl ?_
 refine U8 rfl rfl rfl hul huo rfl (by repeat first | exact Sw.here | apply Sw.there) (by exact A3O (by rw [hkl.len]; omega) (fun e he => (hsl.all e he)) hul) ?_
 refine J5 ?_
 (refine A2q (bs := [(bc, (es.set i uc).flatten ++ Cc)]) (Pk.perm (by repeat (first | exact Pk.here | apply Pk.there))) (fun hn2 hd2 hle2 => ?_))
 refine A7 ?_
 refine D9 (rC rfl (A4 rfl rfl)) (rT rfl) (rT rfl) ?_
 (have hks2 := C6.set (j := i) ((hkl.mono hle1).mono hle2) (hru.mono hle2); rw [hst, if_pos (by omega)]; exact M1.mk rfl (A8.put (us := ks.set i u) (es := es.set i uc) hk hnum hlb ((hty.mono hle1).mono hle2) ((hfr.mono hle1).mono hle2) (by rw [List.length_set]) (D1.of (Sl.of_blk (A := []) (by rw [A02 hks2.all, hks2.len, List.length_set]) (by omega) hcm (Wi.in hn2 List.mem_cons_self)) (by rw [hks2.len, List.length_set]) hks2.all (fun e he => by obtain ⟨q, hq⟩ := List.getElem?_of_mem he; exact (hks2.inv hq K1).2.one)) hks2))
 refine K3 ?_
 refine sP (A0y rfl rfl (by omega)) rfl rfl ?_
 refine A7 ?_
 (have hall : ∀ i, i < C → (hl : i < ks.length) → K6 ks[i] = true := (fun j hjc hl2 => hj j (by omega) hl2); have hk8 := hkd hall; have hrd' := hrX hall; refine D8 rfl (hRd (by omega)) rfl rfl (fun v G1 hle1 hh => ?_); obtain ⟨uc, rfl, hru⟩ := hh; have hul := hru.len; have huo := hru.one)
 refine E3 ?_
 refine sS rfl rfl rfl hul huo rfl ?_ (hu := by exact D5 hul.symm)
 refine A7 ?_
 refine D9 (rC rfl (A2 rfl rfl (A9 (by repeat first | exact mH | apply mT)) hul)) (rT rfl) (rT rfl) ?_
 (rw [hrd']; exact ⟨rfl, _, rfl, hru⟩)
theorem B53 {t : Tm} (h : P0 t = true) : (K2 t).1.small ∧ D0 (K2 t).1 ≤ 40300 := by
 obtain ⟨h1, h2⟩ := A1O h
 have := B21 t (A2z t h1) h2
 exact ⟨this.1, by omega⟩
theorem B54 (t : Tm) (G : IM) (cells : List Value) (hcnt : D0 t ≤ 4294967296) (hr : A8 G t cells) : Fn Tryz.prog 149 [.agg ⟨cells⟩] [] G (M1 (J6 t)) := by
 have hRl := hr.len
 have hRo := hr.one
 have hV := A8u t G cells hcnt hr
 have e1 := @A6w t
 have e2 := @A6x t
 have e3 := @A6y t
 have e4 := @A6z t
 have e5 := @A6A t
 have hsc := @B53 t
 refine C0 Tryz.func149 rfl Tryz.ntmps149 Tryz.results149 rfl ?_
 intro w0
 refine tS (tR ?_)
 refine sE (C5 rfl rfl) rfl (fun b3 => ?_)
 refine sE (A6 rfl) rfl (fun b4 => ?_)
 refine B4 ?_
 refine sL (A2 rfl rfl (A9 (by repeat first | exact mH | apply mT)) hRl) rfl rfl ?_
 refine H4 rfl (hV) rfl rfl (fun h13 => ?_) (fun h13 => ?_)
 refine E4 ?_
 refine sL (A2 rfl rfl (A9 (by repeat first | exact mH | apply mT)) hRl) rfl rfl ?_
 refine H4 rfl ((A65 t G cells (A1O (by assumption)).1 hr)) rfl rfl (fun h24 => ?_) (fun h24 => ?_)
 refine B0 ?_
 refine sL (A2 rfl rfl (A9 (by repeat first | exact mH | apply mT)) hRl) rfl rfl ?_
 (refine D8 rfl (A20 t G cells (A43 (by assumption)) hr) rfl rfl (fun v G1 hle1 hh => ?_); obtain ⟨cs1, F1, rfl, hs1, hn1⟩ := hh; have hul := hs1.R.len; have huo := hs1.R.one)
 refine sS rfl rfl rfl hul huo rfl ?_ (hu := by exact D5 hul.symm)
 refine A7 ?_
 refine D9 (rC rfl (A2 rfl rfl (A9 (by repeat first | exact mH | apply mT)) hul)) (rT rfl) (rT rfl) ?_
 (exact M1.mk (e2 (by assumption) (by assumption)) (hs1.R.mono (C4.le _ _)))
 refine B4 ?_
 refine sL (A2 rfl rfl (A9 (by repeat first | exact mH | apply mT)) hRl) rfl rfl ?_
 (have hcv : P0 t = true := (by assumption); have hnv : K6 t = false := (by assumption); obtain ⟨hsc1, hsc2⟩ := hsc hcv; replace e3 := e3 hcv hnv; replace e4 := e4 hcv hnv; replace e5 := e5 hcv hnv; refine D8 rfl (B52 t G cells (A1O hcv).1 hnv hr) rfl rfl (fun v G1 hle1 hh => ?_); obtain ⟨uc, hvv, hru⟩ := hh; have hul := hru.len; have huo := hru.one; generalize K2 t = r at hvv hru hsc1 hsc2 e3 e4 e5; obtain ⟨u, cc, ll⟩ := r; simp only at hvv hru hsc1 hsc2 e3 e4 e5; subst hvv; have hVu := A8u u G1 uc (by omega) hru)
 refine B6 ?_
 refine sE (A6 rfl) rfl (fun b54 => ?_)
 refine sS rfl rfl rfl hul huo rfl ?_ (hu := by exact D5 hul.symm)
 refine D6 ?_
 refine sB (O9 rfl rfl) rfl rfl (fun h64 => ?_) (fun h64 => ?_)
 refine I6 ?_
 refine D9 (rC rfl (A4 rfl rfl)) (rT rfl) (rT rfl) ?_
 (exact M1.mk (e3 (by omega)) (M8 _))
 refine D6 ?_
 refine sL (A2 rfl rfl (A9 (by repeat first | exact mH | apply mT)) hul) rfl rfl ?_
 refine H4 rfl (hVu) rfl rfl (fun h91 => ?_) (fun h91 => ?_)
 refine D6 ?_
 refine sL (A2 rfl rfl (A9 (by repeat first | exact mH | apply mT)) hul) rfl rfl ?_
 (refine D8 rfl (A20 u G1 uc hsc1 hru) rfl rfl (fun v G2 hle2 hh => ?_); obtain ⟨cs2, F2, rfl, hs2, hn2⟩ := hh; have hwl := hs2.R.len; have hwo := hs2.R.one)
 refine sS rfl rfl rfl hwl hwo rfl ?_ (hu := by exact D5 hwl.symm)
 refine B0 ?_
 refine D9 (rC rfl (A2 rfl rfl (A9 (by repeat first | exact mH | apply mT)) hwl)) (rT rfl) (rT rfl) ?_
 (exact M1.mk (e5 (by omega) (by assumption)) (hs2.R.mono (C4.le _ _)))
 refine K5 ?_
 refine D9 (rC rfl (A4 rfl rfl)) (rT rfl) (rT rfl) ?_
 (exact M1.mk (e4 (by omega) (by assumption)) (M8 _))
 refine K5 ?_
 refine D9 (rC rfl (A4 rfl rfl)) (rT rfl) (rT rfl) ?_
 (exact M1.mk (e1 (by assumption)) (M8 _))
theorem B55 {m i : Nat} {e : Tm} (h : (J6 e).2.1 ≠ 1) : A0h i (S9 m e) = ((J6 e).1, (J6 e).2.1, (J6 e).2.2, i) := by
 cases m with
 | zero => rw [S9, if_neg h]; simp [A0h]
 | succ m => rw [S9, if_neg h]; simp [A0h]
theorem B56 {m i : Nat} {e : Tm} (h : (J6 e).2.1 = 1) (hm : m = 0) : A0h i (S9 m e) = (K1, 5, 0, i) := by
 subst hm; rw [S9, if_pos h]; simp [A0h]
theorem B57 {m i : Nat} {e : Tm} (h : (J6 e).2.1 = 1) (hm : 0 < m) : A0h i (S9 m e) = A0h (i + 1) (S9 (m - 1) (J6 e).1) := by
 obtain ⟨k, rfl⟩ : ∃ k, m = k + 1 := ⟨m - 1, by omega⟩
 rw [S9, if_pos h]; simp only [A0h, Nat.add_sub_cancel, Nat.add_assoc, Nat.add_comm 1 i]
theorem B58 (e : Tm) (n : Nat) (hn : n ≤ 300) (G : IM) (cells : List Value) (hcnt : D0 e ≤ 4294967296) (hr : A8 G e cells) : Fn Tryz.prog 104 [.agg ⟨cells⟩, .int .i64 (n : Int)] [] G (EvP (S9 n e)) := by
 have hRl := hr.len
 have hRo := hr.one
 refine C0 Tryz.func104 rfl Tryz.ntmps104 Tryz.results104 rfl ?_
 intro w0
 refine tS (tR ?_)
 refine sE (C5 rfl rfl) rfl (fun b3 => ?_)
 refine sE (A6 rfl) rfl (fun b4 => ?_)
 refine J5 ?_
 refine B8 ?_
 (refine I2 (fun (x : Nat × Tm × List Value × IM) => ⟨[(8, .int .i64 (x.1 : Int)), (1, .int .i64 (n : Int)), (2, .pointer (some ⟨b3, 0, none⟩)), (4, .pointer (some ⟨b4, 0, none⟩))], [.blk b3 x.2.2.1, .blk b4 [.int .i64 0, .string ⟨⟨[]⟩⟩, .int .i64 0, .int .i64 0, .slice none 0 0, .int .i64 0, .slice none 0 0, .int .i64 0, .slice none 0 0]], x.2.2.2⟩) (fun x => x.1 ≤ n ∧ B9 G x.2.2.2 ∧ A8 x.2.2.2 x.2.1 x.2.2.1 ∧ D0 x.2.1 ≤ 4294967296 ∧ A0h x.1 (S9 (n - x.1) x.2.1) = S9 n e) (fun x => n - x.1) (0, e, cells, G) ?_ ?_ ?_)
 (simp only [H6]; exact D3)
 (exact ⟨Nat.zero_le _, B9.refl _, hr, hcnt, rfl⟩)
 (rintro ⟨i, u, uc, Gi⟩ ⟨hi, hle, hru, hcu, hev⟩; simp only [] at hi hle hru hcu hev ⊢; have hul := hru.len; have huo := hru.one)
 refine tS ?_
 refine B8 ?_
 refine tS (tR ?_)
 refine sL (A2 rfl rfl (A9 (by repeat first | exact mH | apply mT)) hul) rfl rfl ?_
 (refine D8 rfl (B54 u Gi uc hcu hru) rfl rfl (fun v G1 hle1 hh => ?_); obtain ⟨wc, hv, hrw⟩ := hh; have hwl := hrw.len; have hwo := hrw.one; have hend := @B55 (n - i) i u; have hmu := @B56 (n - i) i u; have hgo := @B57 (n - i) i u; have hval := @B34 u; generalize J6 u = r at hv hrw hend hmu hgo hval; obtain ⟨w, c, l⟩ := r; simp only at hv hrw hend hmu hgo hval; subst hv)
 refine B6 ?_
 refine sE (A6 rfl) rfl (fun b30 => ?_)
 refine sS rfl rfl rfl hwl hwo rfl ?_ (hu := by exact D5 hwl.symm)
 refine D6 ?_
 refine sB (O9 rfl rfl) rfl rfl (fun h40 => ?_) (fun h40 => ?_)
 refine B0 ?_
 refine sL (A2 rfl rfl (A9 (by repeat first | exact mH | apply mT)) hwl) rfl rfl ?_
 refine E3 ?_
 refine sS rfl rfl rfl hwl hwo rfl ?_ (hu := by exact D5 hwl.symm)
 refine J2 ?_
 refine A44 (rC rfl (A2 rfl rfl (A9 (by repeat first | exact mH | apply mT)) hwl)) (rT rfl) (rT rfl) (rT rfl) ?_
 (exact EvP.mk (by rw [← hev]; exact hend (by omega)) hrw)
 refine J5 ?_
 refine sB (qE rfl rfl) rfl rfl (fun h74 => ?_) (fun h74 => ?_)
 refine A0m ?_
 refine A44 (rC rfl (A4 rfl rfl)) (rT rfl) (rT rfl) (rT rfl) ?_
 (exact EvP.mk (by rw [← hev]; exact hmu (by omega) (by omega)) (M8 _))
 refine A7 ?_
 refine sL (A2 rfl rfl (A9 (by repeat first | exact mH | apply mT)) hwl) rfl rfl ?_
 refine U8 rfl rfl rfl hwl hwo rfl (by repeat first | exact Sw.here | apply Sw.there) (by exact D5 (hul.trans hwl.symm)) ?_
 refine B0 ?_
 refine sP (H2 rfl rfl (by omega) (by omega)) rfl rfl ?_
 refine D7 ?_
 refine H9 (i + 1, w, wc, G1) ?_ ?_ ?_
 (simp only [H6]; exact D3)
 (dsimp only; exact ⟨by omega, hle.trans hle1, hrw, by have := B1U (hval (by omega)); omega, by rw [← hev, hgo (by omega) (by omega), show n - (i + 1) = n - i - 1 by omega]⟩)
 (show n - (i + 1) < n - i; omega)
theorem B0P {ks : List Tm} {i : Nat} (h : i < ks.length) : (O8 (ks.take (i + 1))).length = (O8 (ks.take i)).length + (Q4 ks[i]).length := by
 rw [List.take_succ_eq_append_getElem h, A6V, List.length_append, O8, O8, List.append_nil]
theorem B59 : ∀ (t : Tm) (G : IM) (cells : List Value), D0 t ≤ 4294967296 → A8 G t cells → Fn Tryz.prog 73 [.agg ⟨cells⟩] [] G (I5 (.int .i64 ((Q4 t).length : Int)) G) := by
 refine Tm.ind fun k nm num ty fr lb ks ih G cells hcnt hr => ?_
 have hone := hr.one
 have hl9 := hr.len
 have hc14 : k = 14 → ((Q4 (.mk k nm num ty fr lb ks)).length : Int) = 1 + ((O8 ks).length : Int) := fun h => by rw [Q4, if_pos h, List.length_append]; simp
 have hcne : k ≠ 14 → ((Q4 (.mk k nm num ty fr lb ks)).length : Int) = 0 + ((O8 ks).length : Int) := fun h => by rw [Q4, if_neg h, List.length_append]; simp
 have hmx := A1U ks
 rw [D0] at hcnt
 obtain ⟨tk, tks⟩ := ty
 obtain ⟨fk, fks⟩ := fr
 obtain ⟨pt, ct, pf, cf, q, cq, ek, rfl, hk, hnum, hlb, hty, hfr, hsl, hkl⟩ := hr.open9
 have hn := hsl.le
 refine C0 Tryz.func73 rfl Tryz.ntmps73 Tryz.results73 rfl ?_
 intro w0
 refine tS (tR ?_)
 refine sE (C5 rfl rfl) rfl (fun b3 => ?_)
 refine K3 ?_
 refine sB (qE rfl rfl) rfl rfl (fun h17 => ?_) (fun h17 => ?_)
 refine K3 ?_
 refine B8 ?_
 (have h14 := hc14 (by omega); refine I2 (fun (i : Nat) => ⟨[(4, .int .i64 i), (3, .int .i64 ((1 + (O8 (ks.take i)).length : Nat) : Int)), (1, .pointer (some ⟨b3, 0, none⟩))], [.blk b3 [.int .i64 k, .string nm, .int .i64 num, .int .i64 tk, .slice pt tks.length ct, .int .i64 fk, .slice pf fks.length cf, .int .i64 lb, .slice q ks.length cq]], G⟩) (fun i => i ≤ ks.length) (fun i => ks.length - i) 0 ?_ ?_ ?_)
 exact D3
 exact Nat.zero_le _
 (rintro (i : Nat) hi; replace hi : i ≤ ks.length := hi; have hb1 := A1U (ks.take i); have hb2 := Z6 (ks := ks) (i := i))
 refine B4 ?_
 refine sB (I0 rfl rfl) rfl rfl (fun h43 => ?_) (fun h43 => ?_)
 refine A7 ?_
 refine B8 ?_
 refine B0 ?_
 (have hiK : i < ks.length := (by omega); obtain ⟨b, o, e, rfl, hl, hat, hre, hgb⟩ := hsl.kidTm hkl (i := i) hiK hiK; have hih := ih ks[i] (List.getElem_mem hiK) G e (by have := hb2 hiK; omega) hre; have hsu := B0P (ks := ks) (i := i) hiK; have hb3 := A2N ks[i]; have hb4 := hb2 hiK; have hb5 := hmx; refine sP (B3 rfl rfl rfl hiK) rfl rfl ?_)
 refine sL (A2 rfl rfl (hat _) hl) rfl rfl ?_
 refine H3 rfl (hih) rfl rfl ?_
 refine sP (H2 rfl rfl (by omega) (by omega)) rfl rfl ?_
 refine A7 ?_
 refine sP (H2 rfl rfl (by omega) (by omega)) rfl rfl ?_
 refine D7 ?_
 refine H9 (i + 1) (by rw [hsu, ← Nat.add_assoc]; exact (J8 (by repeat (first | exact D4.nil | refine D4.cons rfl ?_)) (by repeat (first | exact A0.refl | exact A0.nil | refine A0.cons (by repeat (first | exact Pk.here | apply Pk.there)) ?_ | apply A0.drop)))) ?_ ?_
 (show i + 1 ≤ ks.length; omega)
 (show ks.length - (i + 1) < ks.length - i; omega)
 refine J9 ?_
 (obtain rfl : i = ks.length := (by omega); rw [List.take_length]; exact ⟨rfl, by rw [h14]; rfl, rfl⟩)
 refine J2 ?_
 refine B8 ?_
 (have h14 := hcne (by omega); refine I2 (fun (i : Nat) => ⟨[(4, .int .i64 i), (3, .int .i64 ((0 + (O8 (ks.take i)).length : Nat) : Int)), (1, .pointer (some ⟨b3, 0, none⟩))], [.blk b3 [.int .i64 k, .string nm, .int .i64 num, .int .i64 tk, .slice pt tks.length ct, .int .i64 fk, .slice pf fks.length cf, .int .i64 lb, .slice q ks.length cq]], G⟩) (fun i => i ≤ ks.length) (fun i => ks.length - i) 0 ?_ ?_ ?_)
 exact D3
 exact Nat.zero_le _
 (rintro (i : Nat) hi; replace hi : i ≤ ks.length := hi; have hb1 := A1U (ks.take i); have hb2 := Z6 (ks := ks) (i := i))
 refine B4 ?_
 refine sB (I0 rfl rfl) rfl rfl (fun h112 => ?_) (fun h112 => ?_)
 refine A7 ?_
 refine B8 ?_
 refine B0 ?_
 (have hiK : i < ks.length := (by omega); obtain ⟨b, o, e, rfl, hl, hat, hre, hgb⟩ := hsl.kidTm hkl (i := i) hiK hiK; have hih := ih ks[i] (List.getElem_mem hiK) G e (by have := hb2 hiK; omega) hre; have hsu := B0P (ks := ks) (i := i) hiK; have hb3 := A2N ks[i]; have hb4 := hb2 hiK; have hb5 := hmx; refine sP (B3 rfl rfl rfl hiK) rfl rfl ?_)
 refine sL (A2 rfl rfl (hat _) hl) rfl rfl ?_
 refine H3 rfl (hih) rfl rfl ?_
 refine sP (H2 rfl rfl (by omega) (by omega)) rfl rfl ?_
 refine A7 ?_
 refine sP (H2 rfl rfl (by omega) (by omega)) rfl rfl ?_
 refine D7 ?_
 refine H9 (i + 1) (by rw [hsu, ← Nat.add_assoc]; exact (J8 (by repeat (first | exact D4.nil | refine D4.cons rfl ?_)) (by repeat (first | exact A0.refl | exact A0.nil | refine A0.cons (by repeat (first | exact Pk.here | apply Pk.there)) ?_ | apply A0.drop)))) ?_ ?_
 (show i + 1 ≤ ks.length; omega)
 (show ks.length - (i + 1) < ks.length - i; omega)
 refine J9 ?_
 (obtain rfl : i = ks.length := (by omega); rw [List.take_length]; exact ⟨rfl, by rw [h14]; rfl, rfl⟩)
def B63 (G : IM) : Prop := ∃ g, Tryz.prog.globalNamed "internal/strconv.uint64pow10" = some g ∧ G g = some (Lib.pow10Tab.map fun z => Value.int .u64 z)
inductive MV where
 | mk (k num : Int) (env parts : List MV)
def MV.k : MV → Int | .mk k _ _ _ => k
def MV.num : MV → Int | .mk _ n _ _ => n
def MV.env : MV → List MV | .mk _ _ e _ => e
def MV.parts : MV → List MV | .mk _ _ _ p => p
def mv0 : MV := .mk 0 0 [] []
mutual
def RMv (kc : Int → Int) (G : IM) : MV → List Value → Prop
 | .mk k num env parts, cells => ∃ p c es q d fs, cells = [.int .i64 (kc k), .int .i64 num, .slice p env.length c, .slice q parts.length d] ∧ F8 num ∧ F8 (kc k) ∧ D1 G p env.length c 4 es ∧ A3p kc G env es ∧ D1 G q parts.length d 4 fs ∧ A3p kc G parts fs
def A3p (kc : Int → Int) (G : IM) : List MV → List (List Value) → Prop
 | [], es => es = []
 | t :: ts, es => ∃ a r, es = a :: r ∧ RMv kc G t a ∧ A3p kc G ts r
end
section
variable {kc : Int → Int} {G : IM}
end

def RFr (kc : Int → Int) (G : IM) (f : Int × List MV) (cells : List Value) : Prop := ∃ p c es, cells = [.int .i64 f.1, .slice p f.2.length c] ∧ F8 f.1 ∧ D1 G p f.2.length c 4 es ∧ A3p kc G f.2 es
def B0Q (kc : Int → Int) (G : IM) : List (Int × List MV) → List (List Value) → Prop
 | [], es => es = []
 | t :: ts, es => ∃ a r, es = a :: r ∧ RFr kc G t a ∧ B0Q kc G ts r
section
variable {kc : Int → Int} {G : IM}
end

structure MSt where
 at' : Int
 st : List MV
 env : List MV
 fr : List (Int × List MV)
def RSs (kc : Int → Int) (G : IM) (s : MSt) (cells : List Value) : Prop := ∃ pe ce ps cs pf cf ee es ef, cells = [.int .i64 s.at', .slice pe s.env.length ce, .slice ps s.st.length cs, .slice pf s.fr.length cf] ∧ F8 s.at' ∧
 D1 G pe s.env.length ce 4 ee ∧ A3p kc G s.env ee ∧ D1 G ps s.st.length cs 4 es ∧ A3p kc G s.st es ∧ D1 G pf s.fr.length cf 2 ef ∧ B0Q kc G s.fr ef
def A5o (k : Int) : Nat := if k = 6 ∨ k = 7 ∨ k = 8 ∨ k = 11 then 2 else if k = 9 ∨ k = 12 ∨ k = 13 then 1 else 0
def A67 (k : Int) : Int × Nat × Int := if k = 6 then (2, 1, 1) else if k = 7 ∨ k = 8 then (0, 2, 2) else if k = 9 then (1, 1, 3) else if k = 12 ∨ k = 13 then (3, 1, 4) else (0, 0, 0)
def A2i (s : MSt) (v : MV) : MSt := { s with st := s.st ++ [v] }
def mGo (k a : Int) (s : MSt) (v : List MV) : MSt ⊕ (Int × Int) :=
 if k = 1 then .inl (A2i s (.mk 0 a [] []))
 else if k = 2 then .inl (A2i s (.mk 1 a [] []))
 else if k = 3 then (if (s.env.length : Int) - 1 - a < 0 then .inr (3, 0) else .inl (A2i s (s.env.getD ((s.env.length : Int) - 1 - a).toNat mv0)))
 else if k = 4 then .inl { A2i s (.mk 2 s.at' s.env []) with at' := s.at' + a }
 else if k = 5 then (if s.fr.length = 0 then .inr (3, 0) else .inl { s with at' := (s.fr.getD (s.fr.length - 1) (0, [])).1, env := (s.fr.getD (s.fr.length - 1) (0, [])).2, fr := s.fr.take (s.fr.length - 1) })
 else if k = 6 then .inl { s with at' := (v.getD 0 mv0).num, env := (v.getD 0 mv0).env ++ [v.getD 1 mv0], fr := s.fr ++ [(s.at', s.env)] }
 else if k = 7 then .inl (A2i s (.mk 0 (((v.getD 0 mv0).num + (v.getD 1 mv0).num) % 1000) [] []))
 else if k = 8 then .inl (A2i s (.mk 1 (if (v.getD 0 mv0).num < (v.getD 1 mv0).num then 1 else 0) [] []))
 else if k = 9 then .inl (if (v.getD 0 mv0).num = 0 then { s with at' := s.at' + a } else s)
 else if k = 10 then .inl { s with at' := s.at' + a }
 else if k = 11 then .inl (A2i s (.mk 3 0 [] v))
 else .inl (A2i s ((v.getD 0 mv0).parts.getD (k - 12).toNat mv0))
def B6a (k : Int) (v : List MV) : Bool := (v.take (A67 k).2.1).all fun u => decide (u.k = (A67 k).1)
def B6b (k a : Int) (s : MSt) : MSt ⊕ (Int × Int) :=
 if s.st.length < A5o k then .inr (3, 0)
 else if B6a k (s.st.drop (s.st.length - A5o k)) = true then mGo k a { s with at' := s.at' + 1, st := s.st.take (s.st.length - A5o k) } (s.st.drop (s.st.length - A5o k))
 else .inr (2, (A67 k).2.2)
def B6c (v : MV) : ByteArray := if v.k = 0 then ⟨(Lib.decDigits v.num.toNat).toArray⟩ else if v.k = 1 then (if v.num = 0 then ⟨#[70]⟩ else ⟨#[84]⟩) else if v.k = 2 then ⟨⟨[102, 117, 110, 99, 116, 105, 111, 110]⟩⟩ else ⟨⟨[112, 97, 105, 114]⟩⟩
def B6d (s : MSt) : ByteArray × Int × Int := if s.st.length ≠ 1 ∨ 0 < s.fr.length then (⟨#[]⟩, 3, 0) else (B6c (s.st.getD 0 mv0), 0, 0)
def B0R (ops : List (Int × Int)) : Nat → MSt → ByteArray × Int × Int
 | t, s => if (ops.length : Int) ≤ s.at' then B6d s else match t with
  | 0 => (⟨#[]⟩, 5, 0)
  | t + 1 => match B6b (ops.getD s.at'.toNat (0, 0)).1 (ops.getD s.at'.toNat (0, 0)).2 s with
   | .inl s' => B0R ops t s'
   | .inr (c, e) => (⟨#[]⟩, c, e)
def B6e (k behind : Int) : Int := if k = 1 then 999 else if k = 2 then 1 else if k = 3 then 11 else if k = 4 ∨ k = 9 ∨ k = 10 then behind else 0
def B6f (n : Nat) (i : Nat) (x : Int × Int) : Bool := decide (1 ≤ x.1 ∧ x.1 ≤ 13 ∧ 0 ≤ x.2 ∧ x.2 ≤ B6e x.1 ((n : Int) - 1 - i))
def B6g (ops : List (Int × Int)) : Bool := decide (1 ≤ ops.length ∧ ops.length ≤ 120) && (List.range ops.length).all fun i => B6f ops.length i (ops.getD i (0, 0))
def B64 (ops : List (Int × Int)) (ticks : Int) : ByteArray × Int × Int :=
 if B6g ops = true ∧ 0 ≤ ticks ∧ ticks ≤ 2000 then B0R ops ticks.toNat ⟨0, [], [], []⟩ else (⟨#[]⟩, 3, 0)
def B6h (e : Tm) (fuel : Int) : Option (List Int) := if R8 fuel 0 300 = true then (V2 e).map (List.map fun x => (A3Y x fuel).2.1) else none
end Gw
end Go.Proofs.YtfpgncjeejickaaGreat
