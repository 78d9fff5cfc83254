/-
  The program reads a number: its walk.
-/
import Derived.Test.YtgodjiieijekiaaGreatDoorKh3
import Derived.Test.YtgodjiieijekiaaGreatDoorKh2
import Derived.Test.YtgodjiieijekiaaGreatDoorKh0
import Derived.Test.YtgodjiieijekiaaGreatDoorKh1
set_option linter.unusedVariables false
set_option linter.unusedSimpArgs false
set_option maxHeartbeats 0
set_option maxRecDepth 100000
set_option synthInstance.maxSize 4000
set_option synthInstance.maxHeartbeats 0
namespace Go.Proofs.YtgodjiieijekiaaGreatDoor
open Go Go.RowKit
namespace Gw
theorem A4E : ∀ {r : A0} {i : Nat}, i ≤ M5 r → (hi : i < r.length) → D9 r[i] → i + 1 ≤ M5 r
 | [], i, _, hi, _ => by simp at hi
 | c :: r, 0, _, _, h => by
  have h : D9 c := h
  rw [M5, if_pos h]; omega
 | c :: r, i + 1, h, hi, hd => by
  rw [M5] at h ⊢
  split at h
  ·rename_i hc
   rw [if_pos hc]
   have := A4E (r := r) (i := i) (by omega) (by simpa using hi) (by simpa using hd)
   omega
  ·omega
theorem A4F : ∀ {r : A0} {i : Nat}, i ≤ M5 r → (∀ hi : i < r.length, ¬D9 r[i]) → i = M5 r
 | [], i, h, _ => by rw [M5] at h ⊢; omega
 | c :: r, 0, _, h => by
  have h : ¬D9 c := h (by simp)
  rw [M5, if_neg h]
 | c :: r, i + 1, h, hd => by
  rw [M5] at h ⊢
  split at h
  ·rename_i hc
   rw [if_pos hc]
   have := A4F (r := r) (i := i) (by omega) (fun hi => hd (by rw [List.length_cons]; omega))
   omega
  ·omega
theorem A7n {l : A0} {i : Nat} (h : i ≤ L7 l) (hi : i < l.length) (hc : D9 l[i] ∨ (i = 0 ∧ l[i] = 45)) : i + 1 ≤ L7 l := by
 cases l with
 | nil => simp at hi
 | cons c r =>
  cases i with
  | zero =>
   have hc : D9 c ∨ c = 45 := hc.imp id (fun h => h.2)
   rw [L7, if_pos hc]; omega
  | succ i =>
   rw [L7] at h ⊢
   split at h
   ·rename_i h1
    rw [if_pos h1]
    have := A4E (r := r) (i := i) (by omega) (by simpa using hi) (by rcases hc with hc | ⟨hc, _⟩; exact (by simpa using hc); omega)
    omega
   ·omega
theorem A2x {l : A0} {i : Nat} (h : i ≤ L7 l) (hc : ∀ hi : i < l.length, ¬(D9 l[i] ∨ (i = 0 ∧ l[i] = 45))) : i = L7 l := by
 cases l with
 | nil => rw [L7] at h ⊢; omega
 | cons c r =>
  cases i with
  | zero =>
   have hc : ¬(D9 c ∨ c = 45) := fun h => hc (by simp) (h.imp id (fun h => ⟨rfl, h⟩))
   rw [L7, if_neg hc]
  | succ i =>
   rw [L7] at h ⊢
   split at h
   ·rename_i h1
    rw [if_pos h1]
    have := A4F (r := r) (i := i) (by omega) (fun hi hd => hc (by simpa using hi) (.inl (by simpa using hd)))
    omega
   ·omega
theorem A4G : ∀ l : A0, M5 l ≤ l.length
 | [] => Nat.le_refl _
 | c :: r => by rw [M5]; split; have := A4G r; simp only [List.length_cons]; omega; exact Nat.zero_le _
theorem B0K (l : A0) : L7 l ≤ l.length := by
 cases l with
 | nil => exact Nat.le_refl _
 | cons c r => rw [L7]; split; have := A4G r; simp only [List.length_cons]; omega; exact Nat.zero_le _
theorem A2y {l : A0} {i : Nat} (h : i < l.length) : (B3 l)[((i : Nat) : Int).toNat]? = some l[i] := by
 show (B3 l)[i]? = some l[i]
 rw [getElem?_pos (B3 l) i (by rw [I6]; exact h)]
 rfl
theorem A2z (l : A0) (i : Nat) : (B3 l).extract 0 i = B3 (l.take i) := by rw [Z1]; simp
theorem R8 (l : A0) (i : Nat) : (B3 l).extract i (B3 l).size = B3 (l.drop i) := by
 rw [Z1, I6, List.take_of_length_le]
 rw [List.length_drop]; omega
theorem A0y {l : A0} {n : Int} (h : Lib.atoiAll (l.take (L7 l)) = .ok n) : T6 l = some (n, l.drop (L7 l)) := by unfold T6; rw [h]
theorem A0z {l : A0} (h : ∀ m, Lib.atoiAll (l.take (L7 l)) ≠ .ok m) : T6 l = none := by
 unfold T6
 split
 ·rename_i v hv; exact absurd hv (h v)
 ·rfl
def A7o (b : Nat) (m : Option (Int × A0)) (G : IM) : IM → Value → List A1 → Prop := fun G' v outs => G' = G ∧ ∃ cs' n, outs = [.blk b cs'] ∧ O4 (m.map Prod.snd) cs' ∧ v = .int .i64 n ∧ D7 n ∧ ∀ x, m = some x → n = x.1
theorem A7p (b : Nat) (l : A0) (bad : Bool) (G : IM) (hE : X2 G) (hl : l.length ≤ 4294967296) : Fn Tryz.prog 151 [.pointer (some ⟨b, 0, none⟩)] [.blk b [.string (B3 l), .bool bad]] G (A7o b (if bad = true then none else T6 l) G) := by
 have hnl := B0K l
 refine B5 Tryz.func151 rfl Tryz.ntmps151 Tryz.results151 rfl ?_
 intro w0
 refine I3 ?_
 refine D2 ?_
 (refine Q5 (fun (i : Nat) => ⟨[(3, .int .i64 (i : Int)), (0, .pointer (some ⟨b, 0, none⟩))], [.blk b [.string (B3 l), .bool bad]], G⟩) (fun i => i ≤ L7 l) (fun i => L7 l - i) 0 ?_ ?_ ?_)
 exact I9
 (exact Nat.zero_le _)
 (rintro (i : Nat) hi; replace hi : i ≤ L7 l := hi; have hbs := I6 l)
 refine tS (tS (tR (sQ (qM rfl) rfl (sQ (qM rfl) rfl ?_))))
 refine sQ (A6 rfl) rfl ?_
 refine sQ (A5 rfl) rfl (sL (C1 rfl rfl) rfl rfl ?_)
 refine sQ (M0 rfl rfl) rfl (sB (M9 rfl rfl) rfl rfl (fun h26 => ?_) (fun h26 => ?_))
 refine sQ (qM rfl) rfl (sQ (qM rfl) rfl ?_)
 refine sQ (A6 rfl) rfl ?_
 refine F9 ?_
 (have hil : i < l.length := (by omega); refine sP (N1 rfl rfl rfl (by omega) (A2y hil)) rfl rfl ?_)
 refine sB (P6 rfl rfl) rfl rfl (fun h34 => ?_) (fun h34 => ?_)
 refine sQ (qM rfl) rfl (sQ (qM rfl) rfl ?_)
 refine sQ (A6 rfl) rfl ?_
 refine F9 ?_
 (have hil : i < l.length := (by omega); refine sP (N1 rfl rfl rfl (by omega) (A2y hil)) rfl rfl ?_)
 refine sB (T2 rfl rfl) rfl rfl (fun h42 => ?_) (fun h42 => ?_)
 refine Y5 ?_
 refine D2 ?_
 refine tR (sQ (qM rfl) rfl ?_)
 refine sP (H4 (n := 1) rfl rfl (by omega)) rfl rfl ?_
 refine sQ (qA rfl) rfl (sD (P7 ?_))
 (have hgo := A7n hi hil (by unfold D9; first | (left; omega) | (right; exact ⟨by omega, E9 (b := 45) (by show _ = (45 : Int); omega)⟩)); refine P5 (i + 1) ?_ ?_ ?_)
 exact I9
 (show i + 1 ≤ L7 l; omega)
 (show L7 l - (i + 1) < L7 l - i; omega)
 refine sQ (L4 rfl rfl) rfl (sQ (qM rfl) rfl (sQ (qM rfl) rfl ?_))
 refine sB (qE rfl rfl) rfl rfl (fun h77 => ?_) (fun h77 => ?_)
 refine sQ (qM rfl) rfl (sQ (qM rfl) rfl ?_)
 refine sQ (A6 rfl) rfl ?_
 refine F9 ?_
 (have hil : i < l.length := (by omega); refine sP (N1 rfl rfl rfl (by omega) (A2y hil)) rfl rfl ?_)
 refine sP (I0 rfl rfl (by omega)) rfl rfl ?_
 refine O3 ?_
 refine sQ (A6 rfl) rfl ?_
 refine F9 ?_
 (obtain rfl : i = L7 l := A2x hi (by unfold D9; intro hil2 hc; rcases hc with hc | ⟨hc, hc2⟩; omega; (have hx : (l[i].toNat : Int) = 45 := (by rw [hc2]; rfl); omega)); refine sP (A02 rfl rfl rfl (by omega)) rfl rfl ?_; rw [A2z])
 (refine B4 rfl (A2w (B3 (l.take (L7 l))) G hE (by rw [I6, List.length_take]; omega)) (List.Perm.refl _) rfl rfl (fun v G1 outs hle1 hh => ?_); obtain ⟨hG, rfl, hv⟩ := hh; replace hG := hG.symm; subst hG; rcases hv with ⟨nv, hok, hI, rfl⟩ | ⟨nv, tv, qv, hno, hI, rfl⟩)
 refine E0 ?_
 (cases bad <;> refine I7 J0 rfl ?_)
 refine H2 (i := 0) (l' := [tt,ff,ff,ff,ff,ff,ff,ff,ff,ff,ff,ff,ff,ff,ff,ff,ff,ff,ff,ff,ff,ff]) rfl E8 (qM rfl) rfl (by kernel_rfl) rfl rfl ?_
 refine aP 1 rfl (qM rfl) rfl ?_
 refine aP 2 rfl (qM rfl) rfl ?_
 refine aP 3 rfl (A6 rfl) rfl ?_
 refine aP 4 rfl (A5 rfl) rfl ?_
 refine aL 5 rfl (C1 rfl rfl) rfl ?_
 refine aP 6 rfl (qM rfl) rfl ?_
 refine aP 7 rfl (P4 rfl rfl rfl (by omega)) rfl ?_
 refine aP 8 rfl (qM rfl) rfl ?_
 refine aP 9 rfl (A6 rfl) rfl ?_
 refine aP 10 rfl (A5 rfl) rfl ?_
 refine aL 11 rfl (C1 rfl rfl) rfl ?_
 refine aP 12 rfl (qM rfl) rfl ?_
 refine aP 13 rfl (qM rfl) rfl ?_
 refine aP 14 rfl (A2v A0x rfl) rfl ?_
 refine aP 15 rfl (M2 rfl rfl) rfl ?_
 refine aP 16 rfl (A6 rfl) rfl ?_
 refine aP 17 rfl (A5 rfl) rfl ?_
 refine A8 18 ?_
 refine Q7 rfl ?_
 refine aP 19 rfl (A6 rfl) rfl ?_
 refine aP 20 rfl (A5 rfl) rfl ?_
 refine A8 21 ?_
 refine N2 rfl rfl rfl rfl rfl rfl rfl rfl (by decide +kernel) (by repeat first | exact Sw.here | apply Sw.there) (by rfl) ?_
 refine C2 ?_
 refine B2 (rT rfl) (.cons (by repeat (first | exact Pk.here | apply Pk.there)) .nil) ?_
 (rw [R8]; exact ⟨rfl, _, nv, rfl, by rw [if_neg (by simp), A0y hok]; exact .yes (by rw [List.length_drop]; omega), rfl, hI, fun x hx => by rw [if_neg (by simp), A0y hok] at hx; cases hx; rfl⟩)
 refine H2 (i := 0) (l' := [tt,ff,ff,ff,ff,ff,ff,ff,ff,ff,ff,ff,ff,ff,ff,ff,ff,ff,ff,ff,ff,ff]) rfl E8 (qM rfl) rfl (by kernel_rfl) rfl rfl ?_
 refine aP 1 rfl (qM rfl) rfl ?_
 refine aP 2 rfl (qM rfl) rfl ?_
 refine aP 3 rfl (A6 rfl) rfl ?_
 refine aP 4 rfl (A5 rfl) rfl ?_
 refine aL 5 rfl (C1 rfl rfl) rfl ?_
 refine aP 6 rfl (qM rfl) rfl ?_
 refine aP 7 rfl (P4 rfl rfl rfl (by omega)) rfl ?_
 refine aP 8 rfl (qM rfl) rfl ?_
 refine aP 9 rfl (A6 rfl) rfl ?_
 refine aP 10 rfl (A5 rfl) rfl ?_
 refine aL 11 rfl (C1 rfl rfl) rfl ?_
 refine aP 12 rfl (qM rfl) rfl ?_
 refine D6 13 rfl rfl rfl ?_
 refine D6 14 rfl rfl rfl ?_
 refine aP 15 rfl (L4 rfl rfl) rfl ?_
 refine aP 16 rfl (A6 rfl) rfl ?_
 refine aP 17 rfl (A5 rfl) rfl ?_
 refine A8 18 ?_
 refine Q7 rfl ?_
 refine aP 19 rfl (A6 rfl) rfl ?_
 refine aP 20 rfl (A5 rfl) rfl ?_
 refine A8 21 ?_
 refine N2 rfl rfl rfl rfl rfl rfl rfl rfl (by decide +kernel) (by repeat first | exact Sw.here | apply Sw.there) (by rfl) ?_
 refine C2 ?_
 refine B2 (rT rfl) (.cons (by repeat (first | exact Pk.here | apply Pk.there)) .nil) ?_
 (rw [R8]; exact ⟨rfl, _, nv, rfl, .no (by rw [I6, List.length_drop]; omega), rfl, hI, fun x hx => by cases hx⟩)
 refine E0 ?_
 (cases bad <;> refine I7 J0 rfl ?_)
 refine H2 (i := 0) (l' := [tt,ff,ff,ff,ff,ff,ff,ff,ff,ff,ff,ff,ff,ff,ff,ff,ff,ff,ff,ff,ff,ff]) rfl E8 (qM rfl) rfl (by kernel_rfl) rfl rfl ?_
 refine aP 1 rfl (qM rfl) rfl ?_
 refine aP 2 rfl (qM rfl) rfl ?_
 refine aP 3 rfl (A6 rfl) rfl ?_
 refine aP 4 rfl (A5 rfl) rfl ?_
 refine aL 5 rfl (C1 rfl rfl) rfl ?_
 refine aP 6 rfl (qM rfl) rfl ?_
 refine aP 7 rfl (P4 rfl rfl rfl (by omega)) rfl ?_
 refine aP 8 rfl (qM rfl) rfl ?_
 refine aP 9 rfl (A6 rfl) rfl ?_
 refine aP 10 rfl (A5 rfl) rfl ?_
 refine aL 11 rfl (C1 rfl rfl) rfl ?_
 refine aP 12 rfl (qM rfl) rfl ?_
 refine aP 13 rfl (qM rfl) rfl ?_
 refine aP 14 rfl (A2u A0x rfl rfl) rfl ?_
 refine aP 15 rfl (M2 rfl rfl) rfl ?_
 refine aP 16 rfl (A6 rfl) rfl ?_
 refine aP 17 rfl (A5 rfl) rfl ?_
 refine A8 18 ?_
 refine Q7 rfl ?_
 refine aP 19 rfl (A6 rfl) rfl ?_
 refine aP 20 rfl (A5 rfl) rfl ?_
 refine A8 21 ?_
 refine N2 rfl rfl rfl rfl rfl rfl rfl rfl (by decide +kernel) (by repeat first | exact Sw.here | apply Sw.there) (by rfl) ?_
 refine C2 ?_
 refine B2 (rT rfl) (.cons (by repeat (first | exact Pk.here | apply Pk.there)) .nil) ?_
 (rw [R8]; exact ⟨rfl, _, nv, rfl, by rw [if_neg (by simp), A0z hno]; exact .no (by rw [I6, List.length_drop]; omega), rfl, hI, fun x hx => by rw [if_neg (by simp), A0z hno] at hx; cases hx⟩)
 refine H2 (i := 0) (l' := [tt,ff,ff,ff,ff,ff,ff,ff,ff,ff,ff,ff,ff,ff,ff,ff,ff,ff,ff,ff,ff,ff]) rfl E8 (qM rfl) rfl (by kernel_rfl) rfl rfl ?_
 refine aP 1 rfl (qM rfl) rfl ?_
 refine aP 2 rfl (qM rfl) rfl ?_
 refine aP 3 rfl (A6 rfl) rfl ?_
 refine aP 4 rfl (A5 rfl) rfl ?_
 refine aL 5 rfl (C1 rfl rfl) rfl ?_
 refine aP 6 rfl (qM rfl) rfl ?_
 refine aP 7 rfl (P4 rfl rfl rfl (by omega)) rfl ?_
 refine aP 8 rfl (qM rfl) rfl ?_
 refine aP 9 rfl (A6 rfl) rfl ?_
 refine aP 10 rfl (A5 rfl) rfl ?_
 refine aL 11 rfl (C1 rfl rfl) rfl ?_
 refine aP 12 rfl (qM rfl) rfl ?_
 refine D6 13 rfl rfl rfl ?_
 refine D6 14 rfl rfl rfl ?_
 refine aP 15 rfl (L4 rfl rfl) rfl ?_
 refine aP 16 rfl (A6 rfl) rfl ?_
 refine aP 17 rfl (A5 rfl) rfl ?_
 refine A8 18 ?_
 refine Q7 rfl ?_
 refine aP 19 rfl (A6 rfl) rfl ?_
 refine aP 20 rfl (A5 rfl) rfl ?_
 refine A8 21 ?_
 refine N2 rfl rfl rfl rfl rfl rfl rfl rfl (by decide +kernel) (by repeat first | exact Sw.here | apply Sw.there) (by rfl) ?_
 refine C2 ?_
 refine B2 (rT rfl) (.cons (by repeat (first | exact Pk.here | apply Pk.there)) .nil) ?_
 (rw [R8]; exact ⟨rfl, _, nv, rfl, .no (by rw [I6, List.length_drop]; omega), rfl, hI, fun x hx => by cases hx⟩)
 refine A1E ?_
 refine sQ (A6 rfl) rfl ?_
 refine F9 ?_
 (obtain rfl : i = L7 l := A2x hi (by unfold D9; intro hil2 hc; rcases hc with hc | ⟨hc, hc2⟩; omega; (have hx : (l[i].toNat : Int) = 45 := (by rw [hc2]; rfl); omega)); refine sP (A02 rfl rfl rfl (by omega)) rfl rfl ?_; rw [A2z])
 (refine B4 rfl (A2w (B3 (l.take (L7 l))) G hE (by rw [I6, List.length_take]; omega)) (List.Perm.refl _) rfl rfl (fun v G1 outs hle1 hh => ?_); obtain ⟨hG, rfl, hv⟩ := hh; replace hG := hG.symm; subst hG; rcases hv with ⟨nv, hok, hI, rfl⟩ | ⟨nv, tv, qv, hno, hI, rfl⟩)
 refine E0 ?_
 (cases bad <;> refine I7 J0 rfl ?_)
 refine H2 (i := 0) (l' := [tt,ff,ff,ff,ff,ff,ff,ff,ff,ff,ff,ff,ff,ff,ff,ff,ff,ff,ff,ff,ff,ff]) rfl E8 (qM rfl) rfl (by kernel_rfl) rfl rfl ?_
 refine aP 1 rfl (qM rfl) rfl ?_
 refine aP 2 rfl (qM rfl) rfl ?_
 refine aP 3 rfl (A6 rfl) rfl ?_
 refine aP 4 rfl (A5 rfl) rfl ?_
 refine aL 5 rfl (C1 rfl rfl) rfl ?_
 refine aP 6 rfl (qM rfl) rfl ?_
 refine aP 7 rfl (P4 rfl rfl rfl (by omega)) rfl ?_
 refine aP 8 rfl (qM rfl) rfl ?_
 refine aP 9 rfl (A6 rfl) rfl ?_
 refine aP 10 rfl (A5 rfl) rfl ?_
 refine aL 11 rfl (C1 rfl rfl) rfl ?_
 refine aP 12 rfl (qM rfl) rfl ?_
 refine aP 13 rfl (qM rfl) rfl ?_
 refine aP 14 rfl (A2v A0x rfl) rfl ?_
 refine aP 15 rfl (M2 rfl rfl) rfl ?_
 refine aP 16 rfl (A6 rfl) rfl ?_
 refine aP 17 rfl (A5 rfl) rfl ?_
 refine A8 18 ?_
 refine Q7 rfl ?_
 refine aP 19 rfl (A6 rfl) rfl ?_
 refine aP 20 rfl (A5 rfl) rfl ?_
 refine A8 21 ?_
 refine N2 rfl rfl rfl rfl rfl rfl rfl rfl (by decide +kernel) (by repeat first | exact Sw.here | apply Sw.there) (by rfl) ?_
 refine C2 ?_
 refine B2 (rT rfl) (.cons (by repeat (first | exact Pk.here | apply Pk.there)) .nil) ?_
 (rw [R8]; exact ⟨rfl, _, nv, rfl, by rw [if_neg (by simp), A0y hok]; exact .yes (by rw [List.length_drop]; omega), rfl, hI, fun x hx => by rw [if_neg (by simp), A0y hok] at hx; cases hx; rfl⟩)
 refine H2 (i := 0) (l' := [tt,ff,ff,ff,ff,ff,ff,ff,ff,ff,ff,ff,ff,ff,ff,ff,ff,ff,ff,ff,ff,ff]) rfl E8 (qM rfl) rfl (by kernel_rfl) rfl rfl ?_
 refine aP 1 rfl (qM rfl) rfl ?_
 refine aP 2 rfl (qM rfl) rfl ?_
 refine aP 3 rfl (A6 rfl) rfl ?_
 refine aP 4 rfl (A5 rfl) rfl ?_
 refine aL 5 rfl (C1 rfl rfl) rfl ?_
 refine aP 6 rfl (qM rfl) rfl ?_
 refine aP 7 rfl (P4 rfl rfl rfl (by omega)) rfl ?_
 refine aP 8 rfl (qM rfl) rfl ?_
 refine aP 9 rfl (A6 rfl) rfl ?_
 refine aP 10 rfl (A5 rfl) rfl ?_
 refine aL 11 rfl (C1 rfl rfl) rfl ?_
 refine aP 12 rfl (qM rfl) rfl ?_
 refine D6 13 rfl rfl rfl ?_
 refine D6 14 rfl rfl rfl ?_
 refine aP 15 rfl (L4 rfl rfl) rfl ?_
 refine aP 16 rfl (A6 rfl) rfl ?_
 refine aP 17 rfl (A5 rfl) rfl ?_
 refine A8 18 ?_
 refine Q7 rfl ?_
 refine aP 19 rfl (A6 rfl) rfl ?_
 refine aP 20 rfl (A5 rfl) rfl ?_
 refine A8 21 ?_
 refine N2 rfl rfl rfl rfl rfl rfl rfl rfl (by decide +kernel) (by repeat first | exact Sw.here | apply Sw.there) (by rfl) ?_
 refine C2 ?_
 refine B2 (rT rfl) (.cons (by repeat (first | exact Pk.here | apply Pk.there)) .nil) ?_
 (rw [R8]; exact ⟨rfl, _, nv, rfl, .no (by rw [I6, List.length_drop]; omega), rfl, hI, fun x hx => by cases hx⟩)
 refine E0 ?_
 (cases bad <;> refine I7 J0 rfl ?_)
 refine H2 (i := 0) (l' := [tt,ff,ff,ff,ff,ff,ff,ff,ff,ff,ff,ff,ff,ff,ff,ff,ff,ff,ff,ff,ff,ff]) rfl E8 (qM rfl) rfl (by kernel_rfl) rfl rfl ?_
 refine aP 1 rfl (qM rfl) rfl ?_
 refine aP 2 rfl (qM rfl) rfl ?_
 refine aP 3 rfl (A6 rfl) rfl ?_
 refine aP 4 rfl (A5 rfl) rfl ?_
 refine aL 5 rfl (C1 rfl rfl) rfl ?_
 refine aP 6 rfl (qM rfl) rfl ?_
 refine aP 7 rfl (P4 rfl rfl rfl (by omega)) rfl ?_
 refine aP 8 rfl (qM rfl) rfl ?_
 refine aP 9 rfl (A6 rfl) rfl ?_
 refine aP 10 rfl (A5 rfl) rfl ?_
 refine aL 11 rfl (C1 rfl rfl) rfl ?_
 refine aP 12 rfl (qM rfl) rfl ?_
 refine aP 13 rfl (qM rfl) rfl ?_
 refine aP 14 rfl (A2u A0x rfl rfl) rfl ?_
 refine aP 15 rfl (M2 rfl rfl) rfl ?_
 refine aP 16 rfl (A6 rfl) rfl ?_
 refine aP 17 rfl (A5 rfl) rfl ?_
 refine A8 18 ?_
 refine Q7 rfl ?_
 refine aP 19 rfl (A6 rfl) rfl ?_
 refine aP 20 rfl (A5 rfl) rfl ?_
 refine A8 21 ?_
 refine N2 rfl rfl rfl rfl rfl rfl rfl rfl (by decide +kernel) (by repeat first | exact Sw.here | apply Sw.there) (by rfl) ?_
 refine C2 ?_
 refine B2 (rT rfl) (.cons (by repeat (first | exact Pk.here | apply Pk.there)) .nil) ?_
 (rw [R8]; exact ⟨rfl, _, nv, rfl, by rw [if_neg (by simp), A0z hno]; exact .no (by rw [I6, List.length_drop]; omega), rfl, hI, fun x hx => by rw [if_neg (by simp), A0z hno] at hx; cases hx⟩)
 refine H2 (i := 0) (l' := [tt,ff,ff,ff,ff,ff,ff,ff,ff,ff,ff,ff,ff,ff,ff,ff,ff,ff,ff,ff,ff,ff]) rfl E8 (qM rfl) rfl (by kernel_rfl) rfl rfl ?_
 refine aP 1 rfl (qM rfl) rfl ?_
 refine aP 2 rfl (qM rfl) rfl ?_
 refine aP 3 rfl (A6 rfl) rfl ?_
 refine aP 4 rfl (A5 rfl) rfl ?_
 refine aL 5 rfl (C1 rfl rfl) rfl ?_
 refine aP 6 rfl (qM rfl) rfl ?_
 refine aP 7 rfl (P4 rfl rfl rfl (by omega)) rfl ?_
 refine aP 8 rfl (qM rfl) rfl ?_
 refine aP 9 rfl (A6 rfl) rfl ?_
 refine aP 10 rfl (A5 rfl) rfl ?_
 refine aL 11 rfl (C1 rfl rfl) rfl ?_
 refine aP 12 rfl (qM rfl) rfl ?_
 refine D6 13 rfl rfl rfl ?_
 refine D6 14 rfl rfl rfl ?_
 refine aP 15 rfl (L4 rfl rfl) rfl ?_
 refine aP 16 rfl (A6 rfl) rfl ?_
 refine aP 17 rfl (A5 rfl) rfl ?_
 refine A8 18 ?_
 refine Q7 rfl ?_
 refine aP 19 rfl (A6 rfl) rfl ?_
 refine aP 20 rfl (A5 rfl) rfl ?_
 refine A8 21 ?_
 refine N2 rfl rfl rfl rfl rfl rfl rfl rfl (by decide +kernel) (by repeat first | exact Sw.here | apply Sw.there) (by rfl) ?_
 refine C2 ?_
 refine B2 (rT rfl) (.cons (by repeat (first | exact Pk.here | apply Pk.there)) .nil) ?_
 (rw [R8]; exact ⟨rfl, _, nv, rfl, .no (by rw [I6, List.length_drop]; omega), rfl, hI, fun x hx => by cases hx⟩)
 refine I3 ?_
 refine sB (qE rfl rfl) rfl rfl (fun h461 => ?_) (fun h461 => ?_)
 refine sQ (qM rfl) rfl (sQ (qM rfl) rfl ?_)
 refine sQ (A6 rfl) rfl ?_
 refine F9 ?_
 (have hil : i < l.length := (by omega); refine sP (N1 rfl rfl rfl (by omega) (A2y hil)) rfl rfl ?_)
 refine sB (qE rfl rfl) rfl rfl (fun h469 => ?_) (fun h469 => ?_)
 refine E0 ?_
 refine D2 ?_
 refine tR (sQ (qM rfl) rfl ?_)
 refine sP (H4 (n := 1) rfl rfl (by omega)) rfl rfl ?_
 refine sQ (qA rfl) rfl (sD (P7 ?_))
 (have hgo := A7n hi hil (by unfold D9; first | (left; omega) | (right; exact ⟨by omega, E9 (b := 45) (by show _ = (45 : Int); omega)⟩)); refine P5 (i + 1) ?_ ?_ ?_)
 exact I9
 (show i + 1 ≤ L7 l; omega)
 (show L7 l - (i + 1) < L7 l - i; omega)
 refine O3 ?_
 refine sQ (A6 rfl) rfl ?_
 refine F9 ?_
 (obtain rfl : i = L7 l := A2x hi (by unfold D9; intro hil2 hc; rcases hc with hc | ⟨hc, hc2⟩; omega; (have hx : (l[i].toNat : Int) = 45 := (by rw [hc2]; rfl); omega)); refine sP (A02 rfl rfl rfl (by omega)) rfl rfl ?_; rw [A2z])
 (refine B4 rfl (A2w (B3 (l.take (L7 l))) G hE (by rw [I6, List.length_take]; omega)) (List.Perm.refl _) rfl rfl (fun v G1 outs hle1 hh => ?_); obtain ⟨hG, rfl, hv⟩ := hh; replace hG := hG.symm; subst hG; rcases hv with ⟨nv, hok, hI, rfl⟩ | ⟨nv, tv, qv, hno, hI, rfl⟩)
 refine E0 ?_
 (cases bad <;> refine I7 J0 rfl ?_)
 refine H2 (i := 0) (l' := [tt,ff,ff,ff,ff,ff,ff,ff,ff,ff,ff,ff,ff,ff,ff,ff,ff,ff,ff,ff,ff,ff]) rfl E8 (qM rfl) rfl (by kernel_rfl) rfl rfl ?_
 refine aP 1 rfl (qM rfl) rfl ?_
 refine aP 2 rfl (qM rfl) rfl ?_
 refine aP 3 rfl (A6 rfl) rfl ?_
 refine aP 4 rfl (A5 rfl) rfl ?_
 refine aL 5 rfl (C1 rfl rfl) rfl ?_
 refine aP 6 rfl (qM rfl) rfl ?_
 refine aP 7 rfl (P4 rfl rfl rfl (by omega)) rfl ?_
 refine aP 8 rfl (qM rfl) rfl ?_
 refine aP 9 rfl (A6 rfl) rfl ?_
 refine aP 10 rfl (A5 rfl) rfl ?_
 refine aL 11 rfl (C1 rfl rfl) rfl ?_
 refine aP 12 rfl (qM rfl) rfl ?_
 refine aP 13 rfl (qM rfl) rfl ?_
 refine aP 14 rfl (A2v A0x rfl) rfl ?_
 refine aP 15 rfl (M2 rfl rfl) rfl ?_
 refine aP 16 rfl (A6 rfl) rfl ?_
 refine aP 17 rfl (A5 rfl) rfl ?_
 refine A8 18 ?_
 refine Q7 rfl ?_
 refine aP 19 rfl (A6 rfl) rfl ?_
 refine aP 20 rfl (A5 rfl) rfl ?_
 refine A8 21 ?_
 refine N2 rfl rfl rfl rfl rfl rfl rfl rfl (by decide +kernel) (by repeat first | exact Sw.here | apply Sw.there) (by rfl) ?_
 refine C2 ?_
 refine B2 (rT rfl) (.cons (by repeat (first | exact Pk.here | apply Pk.there)) .nil) ?_
 (rw [R8]; exact ⟨rfl, _, nv, rfl, by rw [if_neg (by simp), A0y hok]; exact .yes (by rw [List.length_drop]; omega), rfl, hI, fun x hx => by rw [if_neg (by simp), A0y hok] at hx; cases hx; rfl⟩)
 refine H2 (i := 0) (l' := [tt,ff,ff,ff,ff,ff,ff,ff,ff,ff,ff,ff,ff,ff,ff,ff,ff,ff,ff,ff,ff,ff]) rfl E8 (qM rfl) rfl (by kernel_rfl) rfl rfl ?_
 refine aP 1 rfl (qM rfl) rfl ?_
 refine aP 2 rfl (qM rfl) rfl ?_
 refine aP 3 rfl (A6 rfl) rfl ?_
 refine aP 4 rfl (A5 rfl) rfl ?_
 refine aL 5 rfl (C1 rfl rfl) rfl ?_
 refine aP 6 rfl (qM rfl) rfl ?_
 refine aP 7 rfl (P4 rfl rfl rfl (by omega)) rfl ?_
 refine aP 8 rfl (qM rfl) rfl ?_
 refine aP 9 rfl (A6 rfl) rfl ?_
 refine aP 10 rfl (A5 rfl) rfl ?_
 refine aL 11 rfl (C1 rfl rfl) rfl ?_
 refine aP 12 rfl (qM rfl) rfl ?_
 refine D6 13 rfl rfl rfl ?_
 refine D6 14 rfl rfl rfl ?_
 refine aP 15 rfl (L4 rfl rfl) rfl ?_
 refine aP 16 rfl (A6 rfl) rfl ?_
 refine aP 17 rfl (A5 rfl) rfl ?_
 refine A8 18 ?_
 refine Q7 rfl ?_
 refine aP 19 rfl (A6 rfl) rfl ?_
 refine aP 20 rfl (A5 rfl) rfl ?_
 refine A8 21 ?_
 refine N2 rfl rfl rfl rfl rfl rfl rfl rfl (by decide +kernel) (by repeat first | exact Sw.here | apply Sw.there) (by rfl) ?_
 refine C2 ?_
 refine B2 (rT rfl) (.cons (by repeat (first | exact Pk.here | apply Pk.there)) .nil) ?_
 (rw [R8]; exact ⟨rfl, _, nv, rfl, .no (by rw [I6, List.length_drop]; omega), rfl, hI, fun x hx => by cases hx⟩)
 refine E0 ?_
 (cases bad <;> refine I7 J0 rfl ?_)
 refine H2 (i := 0) (l' := [tt,ff,ff,ff,ff,ff,ff,ff,ff,ff,ff,ff,ff,ff,ff,ff,ff,ff,ff,ff,ff,ff]) rfl E8 (qM rfl) rfl (by kernel_rfl) rfl rfl ?_
 refine aP 1 rfl (qM rfl) rfl ?_
 refine aP 2 rfl (qM rfl) rfl ?_
 refine aP 3 rfl (A6 rfl) rfl ?_
 refine aP 4 rfl (A5 rfl) rfl ?_
 refine aL 5 rfl (C1 rfl rfl) rfl ?_
 refine aP 6 rfl (qM rfl) rfl ?_
 refine aP 7 rfl (P4 rfl rfl rfl (by omega)) rfl ?_
 refine aP 8 rfl (qM rfl) rfl ?_
 refine aP 9 rfl (A6 rfl) rfl ?_
 refine aP 10 rfl (A5 rfl) rfl ?_
 refine aL 11 rfl (C1 rfl rfl) rfl ?_
 refine aP 12 rfl (qM rfl) rfl ?_
 refine aP 13 rfl (qM rfl) rfl ?_
 refine aP 14 rfl (A2u A0x rfl rfl) rfl ?_
 refine aP 15 rfl (M2 rfl rfl) rfl ?_
 refine aP 16 rfl (A6 rfl) rfl ?_
 refine aP 17 rfl (A5 rfl) rfl ?_
 refine A8 18 ?_
 refine Q7 rfl ?_
 refine aP 19 rfl (A6 rfl) rfl ?_
 refine aP 20 rfl (A5 rfl) rfl ?_
 refine A8 21 ?_
 refine N2 rfl rfl rfl rfl rfl rfl rfl rfl (by decide +kernel) (by repeat first | exact Sw.here | apply Sw.there) (by rfl) ?_
 refine C2 ?_
 refine B2 (rT rfl) (.cons (by repeat (first | exact Pk.here | apply Pk.there)) .nil) ?_
 (rw [R8]; exact ⟨rfl, _, nv, rfl, by rw [if_neg (by simp), A0z hno]; exact .no (by rw [I6, List.length_drop]; omega), rfl, hI, fun x hx => by rw [if_neg (by simp), A0z hno] at hx; cases hx⟩)
 refine H2 (i := 0) (l' := [tt,ff,ff,ff,ff,ff,ff,ff,ff,ff,ff,ff,ff,ff,ff,ff,ff,ff,ff,ff,ff,ff]) rfl E8 (qM rfl) rfl (by kernel_rfl) rfl rfl ?_
 refine aP 1 rfl (qM rfl) rfl ?_
 refine aP 2 rfl (qM rfl) rfl ?_
 refine aP 3 rfl (A6 rfl) rfl ?_
 refine aP 4 rfl (A5 rfl) rfl ?_
 refine aL 5 rfl (C1 rfl rfl) rfl ?_
 refine aP 6 rfl (qM rfl) rfl ?_
 refine aP 7 rfl (P4 rfl rfl rfl (by omega)) rfl ?_
 refine aP 8 rfl (qM rfl) rfl ?_
 refine aP 9 rfl (A6 rfl) rfl ?_
 refine aP 10 rfl (A5 rfl) rfl ?_
 refine aL 11 rfl (C1 rfl rfl) rfl ?_
 refine aP 12 rfl (qM rfl) rfl ?_
 refine D6 13 rfl rfl rfl ?_
 refine D6 14 rfl rfl rfl ?_
 refine aP 15 rfl (L4 rfl rfl) rfl ?_
 refine aP 16 rfl (A6 rfl) rfl ?_
 refine aP 17 rfl (A5 rfl) rfl ?_
 refine A8 18 ?_
 refine Q7 rfl ?_
 refine aP 19 rfl (A6 rfl) rfl ?_
 refine aP 20 rfl (A5 rfl) rfl ?_
 refine A8 21 ?_
 refine N2 rfl rfl rfl rfl rfl rfl rfl rfl (by decide +kernel) (by repeat first | exact Sw.here | apply Sw.there) (by rfl) ?_
 refine C2 ?_
 refine B2 (rT rfl) (.cons (by repeat (first | exact Pk.here | apply Pk.there)) .nil) ?_
 (rw [R8]; exact ⟨rfl, _, nv, rfl, .no (by rw [I6, List.length_drop]; omega), rfl, hI, fun x hx => by cases hx⟩)
 refine A1E ?_
 refine sQ (A6 rfl) rfl ?_
 refine F9 ?_
 (obtain rfl : i = L7 l := A2x hi (by unfold D9; intro hil2 hc; rcases hc with hc | ⟨hc, hc2⟩; omega; (have hx : (l[i].toNat : Int) = 45 := (by rw [hc2]; rfl); omega)); refine sP (A02 rfl rfl rfl (by omega)) rfl rfl ?_; rw [A2z])
 (refine B4 rfl (A2w (B3 (l.take (L7 l))) G hE (by rw [I6, List.length_take]; omega)) (List.Perm.refl _) rfl rfl (fun v G1 outs hle1 hh => ?_); obtain ⟨hG, rfl, hv⟩ := hh; replace hG := hG.symm; subst hG; rcases hv with ⟨nv, hok, hI, rfl⟩ | ⟨nv, tv, qv, hno, hI, rfl⟩)
 refine E0 ?_
 (cases bad <;> refine I7 J0 rfl ?_)
 refine H2 (i := 0) (l' := [tt,ff,ff,ff,ff,ff,ff,ff,ff,ff,ff,ff,ff,ff,ff,ff,ff,ff,ff,ff,ff,ff]) rfl E8 (qM rfl) rfl (by kernel_rfl) rfl rfl ?_
 refine aP 1 rfl (qM rfl) rfl ?_
 refine aP 2 rfl (qM rfl) rfl ?_
 refine aP 3 rfl (A6 rfl) rfl ?_
 refine aP 4 rfl (A5 rfl) rfl ?_
 refine aL 5 rfl (C1 rfl rfl) rfl ?_
 refine aP 6 rfl (qM rfl) rfl ?_
 refine aP 7 rfl (P4 rfl rfl rfl (by omega)) rfl ?_
 refine aP 8 rfl (qM rfl) rfl ?_
 refine aP 9 rfl (A6 rfl) rfl ?_
 refine aP 10 rfl (A5 rfl) rfl ?_
 refine aL 11 rfl (C1 rfl rfl) rfl ?_
 refine aP 12 rfl (qM rfl) rfl ?_
 refine aP 13 rfl (qM rfl) rfl ?_
 refine aP 14 rfl (A2v A0x rfl) rfl ?_
 refine aP 15 rfl (M2 rfl rfl) rfl ?_
 refine aP 16 rfl (A6 rfl) rfl ?_
 refine aP 17 rfl (A5 rfl) rfl ?_
 refine A8 18 ?_
 refine Q7 rfl ?_
 refine aP 19 rfl (A6 rfl) rfl ?_
 refine aP 20 rfl (A5 rfl) rfl ?_
 refine A8 21 ?_
 refine N2 rfl rfl rfl rfl rfl rfl rfl rfl (by decide +kernel) (by repeat first | exact Sw.here | apply Sw.there) (by rfl) ?_
 refine C2 ?_
 refine B2 (rT rfl) (.cons (by repeat (first | exact Pk.here | apply Pk.there)) .nil) ?_
 (rw [R8]; exact ⟨rfl, _, nv, rfl, by rw [if_neg (by simp), A0y hok]; exact .yes (by rw [List.length_drop]; omega), rfl, hI, fun x hx => by rw [if_neg (by simp), A0y hok] at hx; cases hx; rfl⟩)
 refine H2 (i := 0) (l' := [tt,ff,ff,ff,ff,ff,ff,ff,ff,ff,ff,ff,ff,ff,ff,ff,ff,ff,ff,ff,ff,ff]) rfl E8 (qM rfl) rfl (by kernel_rfl) rfl rfl ?_
 refine aP 1 rfl (qM rfl) rfl ?_
 refine aP 2 rfl (qM rfl) rfl ?_
 refine aP 3 rfl (A6 rfl) rfl ?_
 refine aP 4 rfl (A5 rfl) rfl ?_
 refine aL 5 rfl (C1 rfl rfl) rfl ?_
 refine aP 6 rfl (qM rfl) rfl ?_
 refine aP 7 rfl (P4 rfl rfl rfl (by omega)) rfl ?_
 refine aP 8 rfl (qM rfl) rfl ?_
 refine aP 9 rfl (A6 rfl) rfl ?_
 refine aP 10 rfl (A5 rfl) rfl ?_
 refine aL 11 rfl (C1 rfl rfl) rfl ?_
 refine aP 12 rfl (qM rfl) rfl ?_
 refine D6 13 rfl rfl rfl ?_
 refine D6 14 rfl rfl rfl ?_
 refine aP 15 rfl (L4 rfl rfl) rfl ?_
 refine aP 16 rfl (A6 rfl) rfl ?_
 refine aP 17 rfl (A5 rfl) rfl ?_
 refine A8 18 ?_
 refine Q7 rfl ?_
 refine aP 19 rfl (A6 rfl) rfl ?_
 refine aP 20 rfl (A5 rfl) rfl ?_
 refine A8 21 ?_
 refine N2 rfl rfl rfl rfl rfl rfl rfl rfl (by decide +kernel) (by repeat first | exact Sw.here | apply Sw.there) (by rfl) ?_
 refine C2 ?_
 refine B2 (rT rfl) (.cons (by repeat (first | exact Pk.here | apply Pk.there)) .nil) ?_
 (rw [R8]; exact ⟨rfl, _, nv, rfl, .no (by rw [I6, List.length_drop]; omega), rfl, hI, fun x hx => by cases hx⟩)
 refine E0 ?_
 (cases bad <;> refine I7 J0 rfl ?_)
 refine H2 (i := 0) (l' := [tt,ff,ff,ff,ff,ff,ff,ff,ff,ff,ff,ff,ff,ff,ff,ff,ff,ff,ff,ff,ff,ff]) rfl E8 (qM rfl) rfl (by kernel_rfl) rfl rfl ?_
 refine aP 1 rfl (qM rfl) rfl ?_
 refine aP 2 rfl (qM rfl) rfl ?_
 refine aP 3 rfl (A6 rfl) rfl ?_
 refine aP 4 rfl (A5 rfl) rfl ?_
 refine aL 5 rfl (C1 rfl rfl) rfl ?_
 refine aP 6 rfl (qM rfl) rfl ?_
 refine aP 7 rfl (P4 rfl rfl rfl (by omega)) rfl ?_
 refine aP 8 rfl (qM rfl) rfl ?_
 refine aP 9 rfl (A6 rfl) rfl ?_
 refine aP 10 rfl (A5 rfl) rfl ?_
 refine aL 11 rfl (C1 rfl rfl) rfl ?_
 refine aP 12 rfl (qM rfl) rfl ?_
 refine aP 13 rfl (qM rfl) rfl ?_
 refine aP 14 rfl (A2u A0x rfl rfl) rfl ?_
 refine aP 15 rfl (M2 rfl rfl) rfl ?_
 refine aP 16 rfl (A6 rfl) rfl ?_
 refine aP 17 rfl (A5 rfl) rfl ?_
 refine A8 18 ?_
 refine Q7 rfl ?_
 refine aP 19 rfl (A6 rfl) rfl ?_
 refine aP 20 rfl (A5 rfl) rfl ?_
 refine A8 21 ?_
 refine N2 rfl rfl rfl rfl rfl rfl rfl rfl (by decide +kernel) (by repeat first | exact Sw.here | apply Sw.there) (by rfl) ?_
 refine C2 ?_
 refine B2 (rT rfl) (.cons (by repeat (first | exact Pk.here | apply Pk.there)) .nil) ?_
 (rw [R8]; exact ⟨rfl, _, nv, rfl, by rw [if_neg (by simp), A0z hno]; exact .no (by rw [I6, List.length_drop]; omega), rfl, hI, fun x hx => by rw [if_neg (by simp), A0z hno] at hx; cases hx⟩)
 refine H2 (i := 0) (l' := [tt,ff,ff,ff,ff,ff,ff,ff,ff,ff,ff,ff,ff,ff,ff,ff,ff,ff,ff,ff,ff,ff]) rfl E8 (qM rfl) rfl (by kernel_rfl) rfl rfl ?_
 refine aP 1 rfl (qM rfl) rfl ?_
 refine aP 2 rfl (qM rfl) rfl ?_
 refine aP 3 rfl (A6 rfl) rfl ?_
 refine aP 4 rfl (A5 rfl) rfl ?_
 refine aL 5 rfl (C1 rfl rfl) rfl ?_
 refine aP 6 rfl (qM rfl) rfl ?_
 refine aP 7 rfl (P4 rfl rfl rfl (by omega)) rfl ?_
 refine aP 8 rfl (qM rfl) rfl ?_
 refine aP 9 rfl (A6 rfl) rfl ?_
 refine aP 10 rfl (A5 rfl) rfl ?_
 refine aL 11 rfl (C1 rfl rfl) rfl ?_
 refine aP 12 rfl (qM rfl) rfl ?_
 refine D6 13 rfl rfl rfl ?_
 refine D6 14 rfl rfl rfl ?_
 refine aP 15 rfl (L4 rfl rfl) rfl ?_
 refine aP 16 rfl (A6 rfl) rfl ?_
 refine aP 17 rfl (A5 rfl) rfl ?_
 refine A8 18 ?_
 refine Q7 rfl ?_
 refine aP 19 rfl (A6 rfl) rfl ?_
 refine aP 20 rfl (A5 rfl) rfl ?_
 refine A8 21 ?_
 refine N2 rfl rfl rfl rfl rfl rfl rfl rfl (by decide +kernel) (by repeat first | exact Sw.here | apply Sw.there) (by rfl) ?_
 refine C2 ?_
 refine B2 (rT rfl) (.cons (by repeat (first | exact Pk.here | apply Pk.there)) .nil) ?_
 (rw [R8]; exact ⟨rfl, _, nv, rfl, .no (by rw [I6, List.length_drop]; omega), rfl, hI, fun x hx => by cases hx⟩)
 refine S7 ?_
 refine Q6 ?_
 refine sQ (A6 rfl) rfl ?_
 refine F9 ?_
 (obtain rfl : i = L7 l := A2x hi (by unfold D9; intro hil2 hc; rcases hc with hc | ⟨hc, hc2⟩; omega; (have hx : (l[i].toNat : Int) = 45 := (by rw [hc2]; rfl); omega)); refine sP (A02 rfl rfl rfl (by omega)) rfl rfl ?_; rw [A2z])
 (refine B4 rfl (A2w (B3 (l.take (L7 l))) G hE (by rw [I6, List.length_take]; omega)) (List.Perm.refl _) rfl rfl (fun v G1 outs hle1 hh => ?_); obtain ⟨hG, rfl, hv⟩ := hh; replace hG := hG.symm; subst hG; rcases hv with ⟨nv, hok, hI, rfl⟩ | ⟨nv, tv, qv, hno, hI, rfl⟩)
 refine E0 ?_
 (cases bad <;> refine I7 J0 rfl ?_)
 refine H2 (i := 0) (l' := [tt,ff,ff,ff,ff,ff,ff,ff,ff,ff,ff,ff,ff,ff,ff,ff,ff,ff,ff,ff,ff,ff]) rfl E8 (qM rfl) rfl (by kernel_rfl) rfl rfl ?_
 refine aP 1 rfl (qM rfl) rfl ?_
 refine aP 2 rfl (qM rfl) rfl ?_
 refine aP 3 rfl (A6 rfl) rfl ?_
 refine aP 4 rfl (A5 rfl) rfl ?_
 refine aL 5 rfl (C1 rfl rfl) rfl ?_
 refine aP 6 rfl (qM rfl) rfl ?_
 refine aP 7 rfl (P4 rfl rfl rfl (by omega)) rfl ?_
 refine aP 8 rfl (qM rfl) rfl ?_
 refine aP 9 rfl (A6 rfl) rfl ?_
 refine aP 10 rfl (A5 rfl) rfl ?_
 refine aL 11 rfl (C1 rfl rfl) rfl ?_
 refine aP 12 rfl (qM rfl) rfl ?_
 refine aP 13 rfl (qM rfl) rfl ?_
 refine aP 14 rfl (A2v A0x rfl) rfl ?_
 refine aP 15 rfl (M2 rfl rfl) rfl ?_
 refine aP 16 rfl (A6 rfl) rfl ?_
 refine aP 17 rfl (A5 rfl) rfl ?_
 refine A8 18 ?_
 refine Q7 rfl ?_
 refine aP 19 rfl (A6 rfl) rfl ?_
 refine aP 20 rfl (A5 rfl) rfl ?_
 refine A8 21 ?_
 refine N2 rfl rfl rfl rfl rfl rfl rfl rfl (by decide +kernel) (by repeat first | exact Sw.here | apply Sw.there) (by rfl) ?_
 refine C2 ?_
 refine B2 (rT rfl) (.cons (by repeat (first | exact Pk.here | apply Pk.there)) .nil) ?_
 (rw [R8]; exact ⟨rfl, _, nv, rfl, by rw [if_neg (by simp), A0y hok]; exact .yes (by rw [List.length_drop]; omega), rfl, hI, fun x hx => by rw [if_neg (by simp), A0y hok] at hx; cases hx; rfl⟩)
 refine H2 (i := 0) (l' := [tt,ff,ff,ff,ff,ff,ff,ff,ff,ff,ff,ff,ff,ff,ff,ff,ff,ff,ff,ff,ff,ff]) rfl E8 (qM rfl) rfl (by kernel_rfl) rfl rfl ?_
 refine aP 1 rfl (qM rfl) rfl ?_
 refine aP 2 rfl (qM rfl) rfl ?_
 refine aP 3 rfl (A6 rfl) rfl ?_
 refine aP 4 rfl (A5 rfl) rfl ?_
 refine aL 5 rfl (C1 rfl rfl) rfl ?_
 refine aP 6 rfl (qM rfl) rfl ?_
 refine aP 7 rfl (P4 rfl rfl rfl (by omega)) rfl ?_
 refine aP 8 rfl (qM rfl) rfl ?_
 refine aP 9 rfl (A6 rfl) rfl ?_
 refine aP 10 rfl (A5 rfl) rfl ?_
 refine aL 11 rfl (C1 rfl rfl) rfl ?_
 refine aP 12 rfl (qM rfl) rfl ?_
 refine D6 13 rfl rfl rfl ?_
 refine D6 14 rfl rfl rfl ?_
 refine aP 15 rfl (L4 rfl rfl) rfl ?_
 refine aP 16 rfl (A6 rfl) rfl ?_
 refine aP 17 rfl (A5 rfl) rfl ?_
 refine A8 18 ?_
 refine Q7 rfl ?_
 refine aP 19 rfl (A6 rfl) rfl ?_
 refine aP 20 rfl (A5 rfl) rfl ?_
 refine A8 21 ?_
 refine N2 rfl rfl rfl rfl rfl rfl rfl rfl (by decide +kernel) (by repeat first | exact Sw.here | apply Sw.there) (by rfl) ?_
 refine C2 ?_
 refine B2 (rT rfl) (.cons (by repeat (first | exact Pk.here | apply Pk.there)) .nil) ?_
 (rw [R8]; exact ⟨rfl, _, nv, rfl, .no (by rw [I6, List.length_drop]; omega), rfl, hI, fun x hx => by cases hx⟩)
 refine E0 ?_
 (cases bad <;> refine I7 J0 rfl ?_)
 refine H2 (i := 0) (l' := [tt,ff,ff,ff,ff,ff,ff,ff,ff,ff,ff,ff,ff,ff,ff,ff,ff,ff,ff,ff,ff,ff]) rfl E8 (qM rfl) rfl (by kernel_rfl) rfl rfl ?_
 refine aP 1 rfl (qM rfl) rfl ?_
 refine aP 2 rfl (qM rfl) rfl ?_
 refine aP 3 rfl (A6 rfl) rfl ?_
 refine aP 4 rfl (A5 rfl) rfl ?_
 refine aL 5 rfl (C1 rfl rfl) rfl ?_
 refine aP 6 rfl (qM rfl) rfl ?_
 refine aP 7 rfl (P4 rfl rfl rfl (by omega)) rfl ?_
 refine aP 8 rfl (qM rfl) rfl ?_
 refine aP 9 rfl (A6 rfl) rfl ?_
 refine aP 10 rfl (A5 rfl) rfl ?_
 refine aL 11 rfl (C1 rfl rfl) rfl ?_
 refine aP 12 rfl (qM rfl) rfl ?_
 refine aP 13 rfl (qM rfl) rfl ?_
 refine aP 14 rfl (A2u A0x rfl rfl) rfl ?_
 refine aP 15 rfl (M2 rfl rfl) rfl ?_
 refine aP 16 rfl (A6 rfl) rfl ?_
 refine aP 17 rfl (A5 rfl) rfl ?_
 refine A8 18 ?_
 refine Q7 rfl ?_
 refine aP 19 rfl (A6 rfl) rfl ?_
 refine aP 20 rfl (A5 rfl) rfl ?_
 refine A8 21 ?_
 refine N2 rfl rfl rfl rfl rfl rfl rfl rfl (by decide +kernel) (by repeat first | exact Sw.here | apply Sw.there) (by rfl) ?_
 refine C2 ?_
 refine B2 (rT rfl) (.cons (by repeat (first | exact Pk.here | apply Pk.there)) .nil) ?_
 (rw [R8]; exact ⟨rfl, _, nv, rfl, by rw [if_neg (by simp), A0z hno]; exact .no (by rw [I6, List.length_drop]; omega), rfl, hI, fun x hx => by rw [if_neg (by simp), A0z hno] at hx; cases hx⟩)
 refine H2 (i := 0) (l' := [tt,ff,ff,ff,ff,ff,ff,ff,ff,ff,ff,ff,ff,ff,ff,ff,ff,ff,ff,ff,ff,ff]) rfl E8 (qM rfl) rfl (by kernel_rfl) rfl rfl ?_
 refine aP 1 rfl (qM rfl) rfl ?_
 refine aP 2 rfl (qM rfl) rfl ?_
 refine aP 3 rfl (A6 rfl) rfl ?_
 refine aP 4 rfl (A5 rfl) rfl ?_
 refine aL 5 rfl (C1 rfl rfl) rfl ?_
 refine aP 6 rfl (qM rfl) rfl ?_
 refine aP 7 rfl (P4 rfl rfl rfl (by omega)) rfl ?_
 refine aP 8 rfl (qM rfl) rfl ?_
 refine aP 9 rfl (A6 rfl) rfl ?_
 refine aP 10 rfl (A5 rfl) rfl ?_
 refine aL 11 rfl (C1 rfl rfl) rfl ?_
 refine aP 12 rfl (qM rfl) rfl ?_
 refine D6 13 rfl rfl rfl ?_
 refine D6 14 rfl rfl rfl ?_
 refine aP 15 rfl (L4 rfl rfl) rfl ?_
 refine aP 16 rfl (A6 rfl) rfl ?_
 refine aP 17 rfl (A5 rfl) rfl ?_
 refine A8 18 ?_
 refine Q7 rfl ?_
 refine aP 19 rfl (A6 rfl) rfl ?_
 refine aP 20 rfl (A5 rfl) rfl ?_
 refine A8 21 ?_
 refine N2 rfl rfl rfl rfl rfl rfl rfl rfl (by decide +kernel) (by repeat first | exact Sw.here | apply Sw.there) (by rfl) ?_
 refine C2 ?_
 refine B2 (rT rfl) (.cons (by repeat (first | exact Pk.here | apply Pk.there)) .nil) ?_
 (rw [R8]; exact ⟨rfl, _, nv, rfl, .no (by rw [I6, List.length_drop]; omega), rfl, hI, fun x hx => by cases hx⟩)
theorem A7q (b : Nat) (S : Option A0) (cs : List Value) (G : IM) (hE : X2 G) (h : O4 S cs) : Fn Tryz.prog 151 [.pointer (some ⟨b, 0, none⟩)] [.blk b cs] G (A7o b (S.bind T6) G) := by
 rcases h with ⟨rfl, s, hs, rfl⟩ | ⟨l, rfl, hl, rfl⟩
 ·have := A7p b s.data.toList true G hE hs
  rw [A4v] at this
  exact this
 ·exact A7p b l false G hE hl
theorem R9 (G : IM) : K4 G A4 [.int .i64 0, .slice none 0 0] [] := by
 simp only [A4, K4, J5]
 exact ⟨none, 0, [], [], rfl, ⟨by omega, by omega⟩, D0.nil _ _, ⟨rfl, rfl⟩, rfl, by simp [E5]⟩
def B3w (t : Tm) : Tm × Bool := if N5 t = true ∨ U5 t = true then (A1n t, true) else (K1, false)
section tvlaws
variable {P : Program} {Γ : F8} {env : H1} {hp : List A1} {G : IM} {K : Po} {ops : Array Oper} {ty : TypeId} {pos : String} {af : Array Edge} {gd : Option (Nat × Bool)}
theorem A4H {H H' : List (Nat × Nat)} {fuel : Nat} {listed l' : List Bool} {j d : Nat} {f : FuncId} [hF : B1 P f] {g : Operand} {xs : List Operand} {ats : Array TypeId} {us cs vs : List Value} {e : A1} {rst : List A1} {post : IM → Value → List A1 → Prop}
  (hi : ops[j]? = some ⟨some d, .call ⟨.value g, ⟨xs⟩, ats⟩, ty, pos, af, gd⟩) (hg : evo env g = some (.func (.func f) ⟨us⟩ ⟨cs⟩)) (hx : evl env xs = some vs) (h : Fn P f (us ++ vs ++ cs) [e] G post) (hp' : hp.Perm ([e] ++ rst)) (hw : J1 ops env gd = some true) (hd : Nat.blt d Γ.n = true) (hl : listed.set j true = l')
  (hok : B7 ops j hp G e H H')
  (k : ∀ v G' outs, A9 G G' → post G' v outs → K7 P Γ ops K H' fuel l' ⟨(d, v) :: env, outs ++ rst, G'⟩) : T1 P Γ ops K H fuel listed j ⟨env, hp, G⟩ :=
 A2b hi (N9 hg hx h hp' hd) hw hl (fun _ _ hs => by simpa [Fp] using hok.spec hs) hok.filter (by rintro _ ⟨v, G', outs, rfl, hle, hq⟩; exact k v G' outs hle hq)
end tvlaws
theorem A1b (G : IM) {k num : Int} (nm : ByteArray) (hk : D7 k) (hnum : D7 num) : L8 G (.mk k nm num A4 A4 0 []) [.int .i64 k, .string nm, .int .i64 num, .int .i64 0, .slice none 0 0, .int .i64 0, .slice none 0 0, .int .i64 0, .slice none 0 0] [] := by
 simp only [L8]
 exact ⟨[.int .i64 0, .slice none 0 0], [.int .i64 0, .slice none 0 0], none, 0, [], [], [], [], rfl, hk, hnum, ⟨by decide, by decide⟩, R9 G, R9 G, D0.nil G 9, ⟨rfl, rfl⟩, rfl, fun b hb => by simp [E5] at hb⟩
theorem A0g {G Gi G2 : IM} {k num lb : Int} {nm : ByteArray} {ty fr : Ty} {ks : List Tm} {tc fc : List Value} {es : List (List Value)} {p : Option Addr} {c : Nat} {Ft Ff Fk : List Nat} (hk : D7 k) (hnum : D7 num) (hlb : D7 lb) (hle : A9 G Gi) (hle2 : A9 Gi G2)
  (ht : K4 (B0 Gi G) ty tc Ft) (hf : K4 (B0 Gi G) fr fc Ff) (hks : J6 (B0 Gi G) ks es Fk) (hn : (Ft ++ (Ff ++ Fk)).Nodup) (hsl : Sl G2 p ks.length c 9 es.flatten) (hnn : ∀ b ∈ E5 p, Gi b = none ∧ G2 b ≠ none) :
  ∃ F, L8 (B0 G2 G) (.mk k nm num ty fr lb ks) ([.int .i64 k, .string nm, .int .i64 num] ++ tc ++ fc ++ [.int .i64 lb, .slice p ks.length c]) F ∧ F.Nodup := by
 have hR := hks.R
 have hin : ∀ b ∈ E5 p, B0 G2 G b ≠ none := by
  intro b hb
  have h0 := (hnn b hb).1
  cases hg : G b with
  | none => simpa [B0, hg] using (hnn b hb).2
  | some l => rw [hle b l hg] at h0; cases h0
 have hout : ∀ b ∈ E5 p, ∀ x ∈ Ft ++ (Ff ++ Fk), x ≠ b := by
  rintro b hb x hx rfl
  have h1 : B0 Gi G x ≠ none := by
   rcases List.mem_append.1 hx with hx | hx
   ·exact ht.inG x hx
   rcases List.mem_append.1 hx with hx | hx
   ·exact hf.inG x hx
   ·exact hks.inG x hx
  have h2 := (hnn x hb).1
  apply h1
  cases hd : B0 Gi G x with
  | none => rfl
  | some l => rw [B0.le _ _ x l hd] at h2; cases h2
 refine ⟨Ft ++ (Ff ++ (E5 p ++ Fk)), ?_, ?_⟩
 ·simp only [L8]
  refine ⟨tc, fc, p, c, es, Ft, Ff, Fk, rfl, hk, hnum, hlb, ht.mono (B0.mono hle2), hf.mono (B0.mono hle2), D0.of (hsl.dif (fun b hb => (hnn b hb).1) hle) hR.len hR.all ?_, hks.mono (B0.mono hle2), rfl, hin⟩
  intro e he
  obtain ⟨i, hi⟩ := List.getElem?_of_mem he
  have hlt : i < ks.length := by have := (List.getElem?_eq_some_iff.1 hi).1; rw [hR.len] at this; exact this
  obtain ⟨e', he', hr⟩ := hR.get (i := i) (t := ks[i]) (by simp [hlt])
  rw [hi] at he'; cases he'; exact hr.one
 ·have hp : (Ft ++ (Ff ++ (E5 p ++ Fk))).Perm (E5 p ++ (Ft ++ (Ff ++ Fk))) :=
   (List.Perm.append_left Ft (List.perm_append_comm_assoc Ff (E5 p) Fk)).trans (List.perm_append_comm_assoc Ft (E5 p) (Ff ++ Fk))
  rw [hp.nodup_iff, List.nodup_append]
  exact ⟨A5A p, hn, fun x hx y hy he => hout x hx y hy he.symm⟩
theorem A0h {G G1 : IM} {a : Tm} {ca : List Value} {Fa : List Nat} (ha : L8 (B0 G1 G) a ca Fa) : J6 (B0 G1 G) [a] [ca] Fa := by
 simp only [J6]; exact ⟨ca, [], Fa, [], rfl, ha, ⟨rfl, rfl⟩, by simp⟩
theorem A1W {G Gi G1 : IM} {ks : List Tm} {es : List (List Value)} {t : Tm} {a : List Value} {F F' : List Nat} (h : J6 (B0 Gi G) ks es F) (hn : F.Nodup) (hle : A9 G Gi) (hle1 : A9 Gi G1) (ha : L8 (B0 G1 Gi) t a F') (hn' : F'.Nodup) :
  J6 (B0 G1 G) (ks ++ [t]) (es ++ [a]) (F ++ F') ∧ (F ++ F').Nodup :=
 ⟨J6.snoc (h.mono (B0.mono hle1)) (ha.mono (B0.anti hle)), by rw [List.nodup_append]; exact ⟨hn, hn', A0s h.inG ha.inG⟩⟩
def A3k (b : Nat) (m : Option (Tm × A0)) (G : IM) : IM → Value → List A1 → Prop := fun G' v outs => ∃ cs' t cells F, outs = [.blk b cs'] ∧ O4 (m.map Prod.snd) cs' ∧ v = .agg ⟨cells⟩ ∧ L8 (B0 G' G) t cells F ∧ F.Nodup ∧ ∀ x, m = some x → t = x.1
theorem T5 {G : IM} {t : Tm} {cells : List Value} {F : List Nat} (h : L8 G t cells F) : ∃ x1 x2 x3 x4 x5 x6 x7 x8 x9, cells = [x1, x2, x3, x4, x5, x6, x7, x8, x9] := by
 obtain ⟨_, _, _, _, _, _, _, _, _, rfl, _⟩ := h.R.open; exact ⟨_, _, _, _, _, _, _, _, _, rfl⟩
theorem A4I {G : IM} {t : Ty} {cells : List Value} {F : List Nat} (h : K4 G t cells F) : ∃ x1 x2, cells = [x1, x2] := by
 obtain ⟨_, _, _, rfl, _⟩ := h.R.open; exact ⟨_, _, rfl⟩
def A7r (b : Nat) (f : A0 → Option (Tm × A0)) (fid : FuncId) (us cs : List Value) (G : IM) : Prop := ∀ (S : Option A0) (c' : List Value) (G' : IM), A9 G G' → O4 S c' → Fn Tryz.prog fid (us ++ [] ++ cs) [.blk b c'] G' (A3k b (S.bind f) G')
section done
variable {f : A0 → Option (Tm × A0)} {S : Option A0}
theorem A4J {k : Int} {c : UInt8} (hk : (c = 32 ∧ k = 6) ∨ (c = 43 ∧ k = 7) ∨ (c = 60 ∧ k = 8)) {a b : Tm} (hc : C6 ((S.bind f).map Prod.snd) = c) (ha : ∀ x, S.bind f = some x → a = x.1) (hb : ∀ x, (K9 ((S.bind f).map Prod.snd)).bind f = some x → b = x.1) :
  (S.bind (Q9 f)).map Prod.snd = (((K9 ((S.bind f).map Prod.snd)).bind f).map Prod.snd).bind (C3 41) ∧ ∀ x, S.bind (Q9 f) = some x → nd k [a, b] = x.1 := by
 rcases S with _ | l
 ·exact ⟨rfl, fun x hx => by cases hx⟩
 simp only [Option.bind_some] at ha hb hc ⊢
 unfold Q9
 cases hA : f l with
 | none => exact ⟨rfl, fun x hx => by cases hx⟩
 | some x =>
  rw [hA] at ha hb hc
  simp only [Option.bind_some, Option.map_some] at ha hb hc ⊢
  obtain ⟨xa, xl⟩ := x
  cases xl with
  | nil =>
   have hc : (0 : UInt8) = c := hc
   subst hc
   rcases hk with ⟨h, _⟩ | ⟨h, _⟩ | ⟨h, _⟩ <;> exact absurd h (by decide)
  | cons d r =>
   have hc : d = c := hc
   have e : Q9 f l = A0R f k xa r := by
    unfold Q9
    rw [hA]
    simp only [Option.bind_some, P0]
    rcases hk with ⟨rfl, rfl⟩ | ⟨rfl, rfl⟩ | ⟨rfl, rfl⟩ <;> subst hc
    ·rw [if_pos rfl]
    ·rw [if_neg (by decide), if_pos rfl]
    ·rw [if_neg (by decide), if_neg (by decide), if_pos rfl]
   unfold Q9 at e
   rw [hA] at e
   simp only [Option.bind_some] at e
   rw [e]
   have hb : ∀ x, f r = some x → b = x.1 := hb
   show (A0R f k xa r).map Prod.snd = ((f r).map Prod.snd).bind (C3 41) ∧ _
   unfold A0R
   cases hB : f r with
   | none => exact ⟨rfl, fun x hx => by cases hx⟩
   | some y =>
    simp only [Option.bind_some, Option.map_some]
    cases hW : C3 41 y.2 with
    | none => exact ⟨rfl, fun x hx => by cases hx⟩
    | some w => exact ⟨rfl, fun q hq => by cases hq; rw [ha _ rfl, hb y hB]⟩
theorem B0L (h1 : C6 ((S.bind f).map Prod.snd) ≠ 32) (h2 : C6 ((S.bind f).map Prod.snd) ≠ 43) (h3 : C6 ((S.bind f).map Prod.snd) ≠ 60) (h4 : C6 ((S.bind f).map Prod.snd) ≠ 58) : S.bind (Q9 f) = none := by
 rcases S with _ | l
 ·rfl
 simp only [Option.bind_some] at h1 h2 h3 h4 ⊢
 unfold Q9
 cases hA : f l with
 | none => rfl
 | some x =>
  rw [hA] at h1 h2 h3 h4
  obtain ⟨xa, xl⟩ := x
  cases xl with
  | nil => rfl
  | cons d r =>
   have h1 : d ≠ 32 := h1
   have h2 : d ≠ 43 := h2
   have h3 : d ≠ 60 := h3
   have h4 : d ≠ 58 := h4
   simp only [Option.bind_some, P0]
   rw [if_neg h1, if_neg h2, if_neg h3, if_neg h4]
theorem A7s (hc : C6 ((S.bind f).map Prod.snd) = 58) : ∃ X : Option (Tm × A0), S.bind f = X ∧ S.bind (Q9 f) = X.bind fun a => (K9 (some a.2)).bind fun l => pAs a.1 l := by
 refine ⟨_, rfl, ?_⟩
 rcases S with _ | l
 ·rfl
 simp only [Option.bind_some] at hc ⊢
 unfold Q9
 cases hA : f l with
 | none => rfl
 | some x =>
  rw [hA] at hc
  obtain ⟨xa, xl⟩ := x
  cases xl with
  | nil => rfl
  | cons d r =>
   have hc : d = 58 := hc
   subst hc
   rfl
theorem B0M {a : Tm} {ty : Ty} (hc : C6 ((S.bind f).map Prod.snd) = 58) (ha : ∀ x, S.bind f = some x → a = x.1) (ht : ∀ x, (K9 ((S.bind f).map Prod.snd)).bind (K3 4) = some x → ty = x.1) (hn : C6 (((K9 ((S.bind f).map Prod.snd)).bind (K3 4)).map Prod.snd) ≠ 126) :
  (S.bind (Q9 f)).map Prod.snd = (((K9 ((S.bind f).map Prod.snd)).bind (K3 4)).map Prod.snd).bind (C3 41) ∧ ∀ x, S.bind (Q9 f) = some x → Tm.mk 13 ⟨#[]⟩ 0 ty A4 0 [a] = x.1 := by
 obtain ⟨X, hX, hR⟩ := A7s hc
 rw [hR]
 rw [hX] at ha ht hn ⊢
 cases X with
 | none => exact ⟨rfl, fun x hx => by cases hx⟩
 | some x =>
  simp only [Option.bind_some, Option.map_some] at ha ht hn ⊢
  cases hl : K9 (some x.2) with
  | none => exact ⟨rfl, fun x hx => by cases hx⟩
  | some l =>
   rw [hl] at ht hn
   simp only [Option.bind_some] at ht hn ⊢
   unfold pAs
   cases hT : K3 4 l with
   | none => exact ⟨rfl, fun x hx => by cases hx⟩
   | some t =>
    rw [hT] at hn
    simp only [Option.bind_some, Option.map_some] at hn ⊢
    have hh : t.2.headD 0 = C6 (some t.2) := by cases t.2 <;> rfl
    rw [if_neg (by rw [hh]; exact hn)]
    cases hW : C3 41 t.2 with
    | none => exact ⟨rfl, fun x hx => by cases hx⟩
    | some w => exact ⟨rfl, fun q hq => by cases hq; rw [ha _ rfl, ht _ hT]⟩
theorem B0N {a : Tm} {ty fr : Ty} {lb : Int} (hc : C6 ((S.bind f).map Prod.snd) = 58) (ha : ∀ x, S.bind f = some x → a = x.1) {T U : Option (Ty × A0)} {M : Option (Int × A0)} (hT : (K9 ((S.bind f).map Prod.snd)).bind (K3 4) = T) (hf : ∀ x, T = some x → fr = x.1) (hn : C6 (T.map Prod.snd) = 126)
  (hU : (K9 (T.map Prod.snd)).bind (K3 4) = U) (ht : ∀ x, U = some x → ty = x.1) (hM : ((U.map Prod.snd).bind (C3 35)).bind T6 = M) (hl : ∀ x, M = some x → lb = x.1) :
  (S.bind (Q9 f)).map Prod.snd = (M.map Prod.snd).bind (C3 41) ∧ ∀ x, S.bind (Q9 f) = some x → Tm.mk 14 ⟨#[]⟩ 0 ty fr lb [a] = x.1 := by
 obtain ⟨X, hX, hR⟩ := A7s hc
 rw [hR]
 rw [hX] at ha hT
 subst hM hU hT
 cases X with
 | none => exact ⟨rfl, fun x hx => by cases hx⟩
 | some x =>
  simp only [Option.bind_some, Option.map_some] at ha hf hn ht hl ⊢
  cases hl' : K9 (some x.2) with
  | none => exact ⟨rfl, fun x hx => by cases hx⟩
  | some l =>
   rw [hl'] at hf hn ht hl
   simp only [Option.bind_some] at hf hn ht hl ⊢
   unfold pAs
   cases hT : K3 4 l with
   | none => exact ⟨rfl, fun x hx => by cases hx⟩
   | some t =>
    rw [hT] at hn hf ht hl
    simp only [Option.bind_some, Option.map_some] at hn hf ht hl ⊢
    have hh : t.2.headD 0 = C6 (some t.2) := by cases t.2 <;> rfl
    have ha' : K9 (some t.2) = some t.2.tail := by
     obtain ⟨t1, t2⟩ := t
     cases t2 with
     | nil => cases hn
     | cons d r => rfl
    rw [if_pos (by rw [hh]; exact hn)]
    rw [ha'] at ht hl ⊢
    simp only [Option.bind_some] at ht hl ⊢
    cases hU : K3 4 t.2.tail with
    | none => exact ⟨rfl, fun x hx => by cases hx⟩
    | some u =>
     rw [hU] at ht hl
     simp only [Option.bind_some, Option.map_some] at ht hl ⊢
     cases hS : C3 35 u.2 with
     | none => exact ⟨rfl, fun x hx => by cases hx⟩
     | some r2 =>
      rw [hS] at hl
      simp only [Option.bind_some] at hl ⊢
      cases hM : T6 r2 with
      | none => exact ⟨rfl, fun x hx => by cases hx⟩
      | some m =>
       simp only [Option.bind_some, Option.map_some]
       cases hW : C3 41 m.2 with
       | none => exact ⟨rfl, fun x hx => by cases hx⟩
       | some w => exact ⟨rfl, fun q hq => by cases hq; rw [ha _ rfl, ht _ rfl, hf _ rfl, hl _ hM]⟩
end done
theorem A4K {A B C : List Nat} (ha : A.Nodup) (hb : B.Nodup) (hc : C.Nodup) (h1 : ∀ x ∈ A, ∀ y ∈ B, x ≠ y) (h2 : ∀ x ∈ A, ∀ y ∈ C, x ≠ y) (h3 : ∀ x ∈ B, ∀ y ∈ C, x ≠ y) : (A ++ (B ++ C)).Nodup := by
 rw [List.nodup_append, List.nodup_append]
 refine ⟨ha, ⟨hb, hc, h3⟩, fun x hx y hy => ?_⟩
 rcases List.mem_append.1 hy with hy | hy
 ·exact h1 x hx y hy
 ·exact h2 x hx y hy
theorem B0O (b : Nat) (f : A0 → Option (Tm × A0)) (fid : FuncId) [B1 Tryz.prog fid] (us cs : List Value) (G : IM) (hE : X2 G) (hsub : A7r b f fid us cs G) (S : Option A0) (c0 : List Value) (h : O4 S c0) :
  Fn Tryz.prog 156 [.pointer (some ⟨b, 0, none⟩), .func (.func fid) ⟨us⟩ ⟨cs⟩] [.blk b c0] G (A3k b (S.bind (Q9 f)) G) := by
 refine B5 Tryz.func156 rfl Tryz.ntmps156 Tryz.results156 rfl ?_
 intro w0
 refine tS (tR ?_)
 refine sE (C0 rfl) rfl (fun b3 => ?_)
 refine sD (nS (tS (tR (sQ (qM rfl) rfl ?_))))
 (refine D1 (N9 rfl rfl (hsub S c0 G (A9.refl _) h) (Pk.perm (by repeat (first | exact Pk.here | apply Pk.there))) rfl) rfl ?_; rintro _ ⟨v, G1, outs, rfl, hle1, csa, ta, ca, Fa, rfl, hRa, rfl, hsa, hna, hva⟩; have hoa := hsa.R.one; obtain ⟨x1, x2, x3, x4, x5, x6, x7, x8, x9, rfl⟩ := T5 hsa; replace hE := hE.mono hle1)
 (refine D1 (I4 rfl rfl rfl (by omega) (by unfold maxLen; omega) rfl) rfl ?_; rintro _ ⟨b10, rfl⟩)
 refine sQ (W0 rfl rfl) rfl ?_
 refine sE (C0 rfl) rfl (fun b12 => ?_)
 refine I8 ?_
 refine sD (nS (tS (tS (tR (sQ (qM rfl) rfl ?_)))))
 (refine B4 rfl (A0w b ((S.bind f).map Prod.snd) csa G1 hRa) (Pk.perm (by repeat (first | exact Pk.here | apply Pk.there))) rfl rfl (fun v G2 outs hle2 hh => ?_); obtain ⟨V9, rfl, hR1, hG, rfl⟩ := hh; replace hG := hG.symm; subst hG; obtain ⟨s1, bad1, rfl, hs1⟩ := hR1.open; have hnB := hR1.bad; obtain ⟨c, hc⟩ : ∃ c, C6 ((S.bind f).map Prod.snd) = c := ⟨_, rfl⟩; rw [hc])
 refine sD (nS ?_)
 refine D2 (tS (tR (sB (qE rfl rfl) rfl rfl (fun h26 => ?_) (fun h26 => ?_))))
 refine L6 ?_
 refine sP (V2 rfl rfl (by omega)) rfl rfl ?_
 refine F9 ?_
 refine sP (V2 rfl rfl (by omega)) rfl rfl ?_
 refine sQ (L4 rfl rfl) rfl (sD (nS (qT rfl ?_)))
 refine I7 J0 rfl ?_
 refine H2 (i := 0) (l' := [tt,ff,ff,ff,ff,ff,ff,ff]) rfl E8 (A5 rfl) rfl (by kernel_rfl) rfl rfl ?_
 refine aL 1 rfl (C1 rfl rfl) rfl ?_
 refine aP 2 rfl (qM rfl) rfl ?_
 refine A8 3 ?_
 (refine A4H (l' := [tt,tt,tt,tt,ff,ff,ff,ff]) rfl rfl rfl (hsub _ _ G1 hle1 hR1) (Pk.perm (by repeat (first | exact Pk.here | apply Pk.there))) rfl rfl rfl (by repeat (first | exact B7.nil | apply B7.dep (by decide +kernel) | apply B7.im (by decide +kernel) (by assumption) (by repeat first | exact mH | apply mT) | apply B7.blk (by decide +kernel) (by repeat (first | exact Pk.here | apply Pk.there)) (by repeat first | exact mH | apply mT))) (fun v G2 outs hle2 hh => ?_); obtain ⟨csb, tb, cb, Fb, rfl, hRb, rfl, hsb, hnb, hvb⟩ := hh; have hob := hsb.R.one; obtain ⟨y1, y2, y3, y4, y5, y6, y7, y8, y9, rfl⟩ := T5 hsb)
 refine A8 4 ?_
 (refine T4 rfl (I4 rfl rfl rfl (by omega) (by unfold maxLen; omega) rfl) rfl rfl ?_; rintro _ ⟨b58, rfl⟩)
 refine A8 5 ?_
 (refine A0p rfl rfl rfl rfl rfl rfl (fun _ _ => by repeat (first | exact Sw.here | apply Sw.there)) (U2 (by repeat first | exact mH | apply mT)) rfl (fun u hu => List.all_eq_true.1 hob u hu) (by unfold maxLen; omega) (by omega) rfl rfl (by repeat (first | exact B7.nil | apply B7.dep (by decide +kernel) | apply B7.im (by decide +kernel) (by assumption) (by repeat first | exact mH | apply mT) | apply B7.blk (by decide +kernel) (by repeat (first | exact Pk.here | apply Pk.there)) (by repeat first | exact mH | apply mT))) (fun p7 c7 => ?_))
 refine aP 6 rfl (A5 rfl) rfl ?_
 refine A8 7 ?_
 refine N2 rfl rfl rfl rfl rfl rfl rfl rfl (by decide +kernel) (by repeat first | exact Sw.here | apply Sw.there) (by rfl) ?_
 refine M7 (nS (tS (tR (sQ (qM rfl) rfl ?_))))
 (have hcc : c = 32 := E9 (b := 32) (by show _ = (32 : Int); omega); subst hcc; refine N4 (cs := [x1, x2, x3, x4, x5, x6, x7, x8, x9, y1, y2, y3, y4, y5, y6, y7, y8, y9]) (by repeat (first | exact Pk.here | apply Pk.there)) (fun G7 hle7 hsl7 hno7 => ?_); obtain ⟨k1, k2⟩ := A1W (A0h hsa) hna hle1 hle2 hsb hnb; obtain ⟨F7, f1, f2⟩ := A0g (k := 6) (num := 0) (lb := 0) (nm := ⟨#[]⟩) (ty := A4) (fr := A4) ⟨by decide, by decide⟩ ⟨by decide, by decide⟩ ⟨by decide, by decide⟩ (hle1.trans hle2) hle7 (R9 _) (R9 _) k1 (by simpa using k2) hsl7 hno7; obtain ⟨d1, d2⟩ := A4J (k := 6) (by decide) hc hva hvb; refine B4 rfl (V6 b 41 _ csb G7 hRb) (Pk.perm (by repeat (first | exact Pk.here | apply Pk.there))) rfl rfl (fun v G8 outs hle8 hh => ?_); obtain ⟨cs8, rfl, hR8, hG, rfl⟩ := hh; replace hG := hG.symm; subst hG; rw [← d1] at hR8)
 refine sD (nS (tS (tR (sL (A7 rfl rfl) rfl rfl ?_))))
 refine S0 rfl rfl rfl rfl (by exact f1.R.one) rfl (by repeat first | exact Sw.here | apply Sw.there) (by rfl) ?_
 refine sD (nS (tT ?_))
 refine B2 (rC rfl (A7 rfl rfl)) (.cons (by repeat (first | exact Pk.here | apply Pk.there)) .nil) ?_
 (exact ⟨cs8, _, _, F7, rfl, hR8, rfl, f1, f2, d2⟩)
 refine sQ (qA rfl) rfl (sD (nS (cF rfl (tS (tR ?_)))))
 refine sB (qE rfl rfl) rfl rfl (fun h87 => ?_) (fun h87 => ?_)
 refine L6 ?_
 refine sP (V2 rfl rfl (by omega)) rfl rfl ?_
 refine F9 ?_
 refine sP (V2 rfl rfl (by omega)) rfl rfl ?_
 refine sQ (L4 rfl rfl) rfl (sD (nS (qT rfl ?_)))
 refine I7 J0 rfl ?_
 refine H2 (i := 0) (l' := [tt,ff,ff,ff,ff,ff,ff,ff]) rfl E8 (A5 rfl) rfl (by kernel_rfl) rfl rfl ?_
 refine aL 1 rfl (C1 rfl rfl) rfl ?_
 refine aP 2 rfl (qM rfl) rfl ?_
 refine A8 3 ?_
 (refine A4H (l' := [tt,tt,tt,tt,ff,ff,ff,ff]) rfl rfl rfl (hsub _ _ G1 hle1 hR1) (Pk.perm (by repeat (first | exact Pk.here | apply Pk.there))) rfl rfl rfl (by repeat (first | exact B7.nil | apply B7.dep (by decide +kernel) | apply B7.im (by decide +kernel) (by assumption) (by repeat first | exact mH | apply mT) | apply B7.blk (by decide +kernel) (by repeat (first | exact Pk.here | apply Pk.there)) (by repeat first | exact mH | apply mT))) (fun v G2 outs hle2 hh => ?_); obtain ⟨csb, tb, cb, Fb, rfl, hRb, rfl, hsb, hnb, hvb⟩ := hh; have hob := hsb.R.one; obtain ⟨y1, y2, y3, y4, y5, y6, y7, y8, y9, rfl⟩ := T5 hsb)
 refine A8 4 ?_
 (refine T4 rfl (I4 rfl rfl rfl (by omega) (by unfold maxLen; omega) rfl) rfl rfl ?_; rintro _ ⟨b119, rfl⟩)
 refine A8 5 ?_
 (refine A0p rfl rfl rfl rfl rfl rfl (fun _ _ => by repeat (first | exact Sw.here | apply Sw.there)) (U2 (by repeat first | exact mH | apply mT)) rfl (fun u hu => List.all_eq_true.1 hob u hu) (by unfold maxLen; omega) (by omega) rfl rfl (by repeat (first | exact B7.nil | apply B7.dep (by decide +kernel) | apply B7.im (by decide +kernel) (by assumption) (by repeat first | exact mH | apply mT) | apply B7.blk (by decide +kernel) (by repeat (first | exact Pk.here | apply Pk.there)) (by repeat first | exact mH | apply mT))) (fun p7 c7 => ?_))
 refine aP 6 rfl (A5 rfl) rfl ?_
 refine A8 7 ?_
 refine N2 rfl rfl rfl rfl rfl rfl rfl rfl (by decide +kernel) (by repeat first | exact Sw.here | apply Sw.there) (by rfl) ?_
 refine M7 (nS (tS (tR (sQ (qM rfl) rfl ?_))))
 (have hcc : c = 43 := E9 (b := 43) (by show _ = (43 : Int); omega); subst hcc; refine N4 (cs := [x1, x2, x3, x4, x5, x6, x7, x8, x9, y1, y2, y3, y4, y5, y6, y7, y8, y9]) (by repeat (first | exact Pk.here | apply Pk.there)) (fun G7 hle7 hsl7 hno7 => ?_); obtain ⟨k1, k2⟩ := A1W (A0h hsa) hna hle1 hle2 hsb hnb; obtain ⟨F7, f1, f2⟩ := A0g (k := 7) (num := 0) (lb := 0) (nm := ⟨#[]⟩) (ty := A4) (fr := A4) ⟨by decide, by decide⟩ ⟨by decide, by decide⟩ ⟨by decide, by decide⟩ (hle1.trans hle2) hle7 (R9 _) (R9 _) k1 (by simpa using k2) hsl7 hno7; obtain ⟨d1, d2⟩ := A4J (k := 7) (by decide) hc hva hvb; refine B4 rfl (V6 b 41 _ csb G7 hRb) (Pk.perm (by repeat (first | exact Pk.here | apply Pk.there))) rfl rfl (fun v G8 outs hle8 hh => ?_); obtain ⟨cs8, rfl, hR8, hG, rfl⟩ := hh; replace hG := hG.symm; subst hG; rw [← d1] at hR8)
 refine sD (nS (tS (tR (sL (A7 rfl rfl) rfl rfl ?_))))
 refine S0 rfl rfl rfl rfl (by exact f1.R.one) rfl (by repeat first | exact Sw.here | apply Sw.there) (by rfl) ?_
 refine sD (nS (tT ?_))
 refine B2 (rC rfl (A7 rfl rfl)) (.cons (by repeat (first | exact Pk.here | apply Pk.there)) .nil) ?_
 (exact ⟨cs8, _, _, F7, rfl, hR8, rfl, f1, f2, d2⟩)
 refine sQ (qA rfl) rfl (sD (nS (cF rfl (tS (tR ?_)))))
 refine sB (qE rfl rfl) rfl rfl (fun h148 => ?_) (fun h148 => ?_)
 refine L6 ?_
 refine sP (V2 rfl rfl (by omega)) rfl rfl ?_
 refine F9 ?_
 refine sP (V2 rfl rfl (by omega)) rfl rfl ?_
 refine sQ (L4 rfl rfl) rfl (sD (nS (qT rfl ?_)))
 refine I7 J0 rfl ?_
 refine H2 (i := 0) (l' := [tt,ff,ff,ff,ff,ff,ff,ff]) rfl E8 (A5 rfl) rfl (by kernel_rfl) rfl rfl ?_
 refine aL 1 rfl (C1 rfl rfl) rfl ?_
 refine aP 2 rfl (qM rfl) rfl ?_
 refine A8 3 ?_
 (refine A4H (l' := [tt,tt,tt,tt,ff,ff,ff,ff]) rfl rfl rfl (hsub _ _ G1 hle1 hR1) (Pk.perm (by repeat (first | exact Pk.here | apply Pk.there))) rfl rfl rfl (by repeat (first | exact B7.nil | apply B7.dep (by decide +kernel) | apply B7.im (by decide +kernel) (by assumption) (by repeat first | exact mH | apply mT) | apply B7.blk (by decide +kernel) (by repeat (first | exact Pk.here | apply Pk.there)) (by repeat first | exact mH | apply mT))) (fun v G2 outs hle2 hh => ?_); obtain ⟨csb, tb, cb, Fb, rfl, hRb, rfl, hsb, hnb, hvb⟩ := hh; have hob := hsb.R.one; obtain ⟨y1, y2, y3, y4, y5, y6, y7, y8, y9, rfl⟩ := T5 hsb)
 refine A8 4 ?_
 (refine T4 rfl (I4 rfl rfl rfl (by omega) (by unfold maxLen; omega) rfl) rfl rfl ?_; rintro _ ⟨b180, rfl⟩)
 refine A8 5 ?_
 (refine A0p rfl rfl rfl rfl rfl rfl (fun _ _ => by repeat (first | exact Sw.here | apply Sw.there)) (U2 (by repeat first | exact mH | apply mT)) rfl (fun u hu => List.all_eq_true.1 hob u hu) (by unfold maxLen; omega) (by omega) rfl rfl (by repeat (first | exact B7.nil | apply B7.dep (by decide +kernel) | apply B7.im (by decide +kernel) (by assumption) (by repeat first | exact mH | apply mT) | apply B7.blk (by decide +kernel) (by repeat (first | exact Pk.here | apply Pk.there)) (by repeat first | exact mH | apply mT))) (fun p7 c7 => ?_))
 refine aP 6 rfl (A5 rfl) rfl ?_
 refine A8 7 ?_
 refine N2 rfl rfl rfl rfl rfl rfl rfl rfl (by decide +kernel) (by repeat first | exact Sw.here | apply Sw.there) (by rfl) ?_
 refine M7 (nS (tS (tR (sQ (qM rfl) rfl ?_))))
 (have hcc : c = 60 := E9 (b := 60) (by show _ = (60 : Int); omega); subst hcc; refine N4 (cs := [x1, x2, x3, x4, x5, x6, x7, x8, x9, y1, y2, y3, y4, y5, y6, y7, y8, y9]) (by repeat (first | exact Pk.here | apply Pk.there)) (fun G7 hle7 hsl7 hno7 => ?_); obtain ⟨k1, k2⟩ := A1W (A0h hsa) hna hle1 hle2 hsb hnb; obtain ⟨F7, f1, f2⟩ := A0g (k := 8) (num := 0) (lb := 0) (nm := ⟨#[]⟩) (ty := A4) (fr := A4) ⟨by decide, by decide⟩ ⟨by decide, by decide⟩ ⟨by decide, by decide⟩ (hle1.trans hle2) hle7 (R9 _) (R9 _) k1 (by simpa using k2) hsl7 hno7; obtain ⟨d1, d2⟩ := A4J (k := 8) (by decide) hc hva hvb; refine B4 rfl (V6 b 41 _ csb G7 hRb) (Pk.perm (by repeat (first | exact Pk.here | apply Pk.there))) rfl rfl (fun v G8 outs hle8 hh => ?_); obtain ⟨cs8, rfl, hR8, hG, rfl⟩ := hh; replace hG := hG.symm; subst hG; rw [← d1] at hR8)
 refine sD (nS (tS (tR (sL (A7 rfl rfl) rfl rfl ?_))))
 refine S0 rfl rfl rfl rfl (by exact f1.R.one) rfl (by repeat first | exact Sw.here | apply Sw.there) (by rfl) ?_
 refine sD (nS (tT ?_))
 refine B2 (rC rfl (A7 rfl rfl)) (.cons (by repeat (first | exact Pk.here | apply Pk.there)) .nil) ?_
 (exact ⟨cs8, _, _, F7, rfl, hR8, rfl, f1, f2, d2⟩)
 refine sQ (qA rfl) rfl (sD (nS (cF rfl (tS (tR ?_)))))
 refine sB (qE rfl rfl) rfl rfl (fun h209 => ?_) (fun h209 => ?_)
 refine B8 ?_
 (have h58 : c = 58 := E9 (b := 58) (by show _ = (58 : Int); omega); subst h58; refine B4 rfl (A4y b 4 1 _ _ G1 (by omega) (by omega) hR1) (Pk.perm (by repeat (first | exact Pk.here | apply Pk.there))) rfl rfl (fun v G2 outs hle2 hh => ?_); obtain ⟨cst, tt1, ct, Ft, rfl, hRt, rfl, hst, hnt, hvt⟩ := hh; have hot := hst.R.one; obtain ⟨t1, t2, rfl⟩ := A4I hst; replace hE := hE.mono hle2; obtain ⟨T, hT⟩ : ∃ T, (K9 ((S.bind f).map Prod.snd)).bind (K3 4) = T := ⟨_, rfl⟩; rw [hT] at hRt hvt)
 refine sQ (A5 rfl) rfl (I8 ?_)
 refine sQ (A5 rfl) rfl ?_
 refine sS rfl rfl rfl rfl hot rfl ?_
 refine sD (nS (tS (tR (sQ (qM rfl) rfl ?_))))
 (refine B4 rfl (A2t b _ _ G2 hRt) (Pk.perm (by repeat (first | exact Pk.here | apply Pk.there))) rfl rfl (fun v G3 outs hle3 hh => ?_); obtain ⟨hG, rfl, rfl⟩ := hh; replace hG := hG.symm; subst hG)
 refine sB (qE rfl rfl) rfl rfl (fun h228 => ?_) (fun h228 => ?_)
 refine sD (nS (qT rfl (tS (tR (sQ (qM rfl) rfl ?_)))))
 (have h126 : C6 (T.map Prod.snd) = 126 := E9 (b := 126) (by show _ = (126 : Int); omega); refine B4 rfl (A0w b (T.map Prod.snd) cst G2 hRt) (Pk.perm (by repeat (first | exact Pk.here | apply Pk.there))) rfl rfl (fun v G3 outs hle3 hh => ?_); obtain ⟨cs3, rfl, hR3, hG, rfl⟩ := hh; replace hG := hG.symm; subst hG)
 refine sD (nS (tS ?_))
 refine I7 J0 rfl ?_
 refine H2 (i := 0) (l' := [tt,ff,ff,ff,ff,ff,ff,ff,ff,ff]) rfl E8 (A5 rfl) rfl (by kernel_rfl) rfl rfl ?_
 refine aL 1 rfl (A7 rfl rfl) rfl ?_
 refine aP 2 rfl (qM rfl) rfl ?_
 refine aP 4 rfl (A5 rfl) rfl ?_
 refine A8 3 ?_
 (refine A1L (l' := [tt,tt,tt,tt,tt,ff,ff,ff,ff,ff]) rfl rfl (A4y b 4 1 _ _ G2 (by omega) (by omega) hR3) (Pk.perm (by repeat (first | exact Pk.here | apply Pk.there))) rfl rfl rfl (by repeat (first | exact B7.nil | apply B7.dep (by decide +kernel) | apply B7.im (by decide +kernel) (by assumption) (by repeat first | exact mH | apply mT) | apply B7.blk (by decide +kernel) (by repeat (first | exact Pk.here | apply Pk.there)) (by repeat first | exact mH | apply mT))) (fun v G4 outs hle4 hh => ?_); obtain ⟨cs4, tt2, cu, Fu, rfl, hR4, rfl, hsu, hnu, hvu⟩ := hh; have hou := hsu.R.one; obtain ⟨u1, u2, rfl⟩ := A4I hsu; replace hE := hE.mono hle4; obtain ⟨U, hU⟩ : ∃ U, (K9 (T.map Prod.snd)).bind (K3 4) = U := ⟨_, rfl⟩; rw [hU] at hR4 hvu)
 refine A8 5 ?_
 refine Q7 rfl ?_
 refine aP 6 rfl (A5 rfl) rfl ?_
 refine A8 7 ?_
 refine oS rfl rfl rfl rfl rfl hot rfl rfl ?_
 refine aP 8 rfl (A5 rfl) rfl ?_
 refine A8 9 ?_
 refine oS rfl rfl rfl rfl rfl hou rfl rfl ?_
 refine M7 (nS (tS (tR (sQ (qM rfl) rfl ?_))))
 (refine B4 rfl (V6 b 35 _ cs4 G4 hR4) (Pk.perm (by repeat (first | exact Pk.here | apply Pk.there))) rfl rfl (fun v G5 outs hle5 hh => ?_); obtain ⟨cs5, rfl, hR5, hG, rfl⟩ := hh; replace hG := hG.symm; subst hG)
 refine sD (nS (tR (sQ (qM rfl) rfl ?_)))
 (refine B4 rfl (A7q b _ cs5 G4 hE hR5) (Pk.perm (by repeat (first | exact Pk.here | apply Pk.there))) rfl rfl (fun v G6 outs hle6 hh => ?_); obtain ⟨hG, cs6, lb, rfl, hR6, rfl, hlb, hvl⟩ := hh; replace hG := hG.symm; subst hG; obtain ⟨M, hM⟩ : ∃ M, ((U.map Prod.snd).bind (C3 35)).bind T6 = M := ⟨_, rfl⟩; rw [hM] at hR6 hvl)
 refine O2 ?_
 refine sP (V2 rfl rfl (by omega)) rfl rfl ?_
 refine F9 ?_
 refine sP (A1B rfl rfl (by omega)) rfl rfl ?_
 refine C2 ?_
 (refine N4 (cs := [x1, x2, x3, x4, x5, x6, x7, x8, x9]) (by repeat (first | exact Pk.here | apply Pk.there)) (fun G7 hle7 hsl7 hno7 => ?_); obtain ⟨F7, f1, f2⟩ := A0g (k := 14) (num := 0) (lb := lb) (nm := ⟨#[]⟩) (ty := tt2) (fr := tt1) ⟨by decide, by decide⟩ ⟨by decide, by decide⟩ hlb (hle1.trans (hle2.trans hle4)) hle7 (hsu.mono (B0.anti (hle1.trans hle2))) (hst.mono (fun b l h => B0.mono hle4 b l (B0.anti hle1 b l h))) ((A0h hsa).mono (B0.mono (hle2.trans hle4))) (A4K hnu hnt hna (fun x hx y hy he => A0s hst.inG hsu.inG y hy x hx he.symm) (fun x hx y hy he => A0s (G := G) (Gi := G2) (A2S (B0.mono hle2) hsa.inG) hsu.inG y hy x hx he.symm) (fun x hx y hy he => A0s hsa.inG hst.inG y hy x hx he.symm)) hsl7 hno7; obtain ⟨d1, d2⟩ := B0N hc hva hT hvt h126 hU hvu hM hvl; refine B4 rfl (V6 b 41 _ cs6 G7 hR6) (Pk.perm (by repeat (first | exact Pk.here | apply Pk.there))) rfl rfl (fun v G8 outs hle8 hh => ?_); obtain ⟨cs8, rfl, hR8, hG, rfl⟩ := hh; replace hG := hG.symm; subst hG; rw [← d1] at hR8)
 refine sD (nS (tS (tR (sL (A7 rfl rfl) rfl rfl ?_))))
 refine S0 rfl rfl rfl rfl (by exact f1.R.one) rfl (by repeat first | exact Sw.here | apply Sw.there) (by rfl) ?_
 refine sD (nS (tT ?_))
 refine B2 (rC rfl (A7 rfl rfl)) (.cons (by repeat (first | exact Pk.here | apply Pk.there)) .nil) ?_
 (exact ⟨cs8, _, _, F7, rfl, hR8, rfl, f1, f2, d2⟩)
 refine I3 ?_
 refine sP (A1B rfl rfl (by omega)) rfl rfl ?_
 refine H3 ?_
 (have h126 : C6 (T.map Prod.snd) ≠ 126 := E4 (by show _ ≠ (126 : Int); omega); refine N4 (cs := [x1, x2, x3, x4, x5, x6, x7, x8, x9]) (by repeat (first | exact Pk.here | apply Pk.there)) (fun G7 hle7 hsl7 hno7 => ?_); obtain ⟨F7, f1, f2⟩ := A0g (k := 13) (num := 0) (lb := 0) (nm := ⟨#[]⟩) (ty := tt1) (fr := A4) ⟨by decide, by decide⟩ ⟨by decide, by decide⟩ ⟨by decide, by decide⟩ (hle1.trans hle2) hle7 (hst.mono (B0.anti hle1)) (R9 _) ((A0h hsa).mono (B0.mono hle2)) (A4K hnt List.nodup_nil hna (fun x hx y hy he => by cases hy) (fun x hx y hy he => A0s hsa.inG hst.inG y hy x hx he.symm) (fun x hx y hy he => by cases hx)) hsl7 hno7; subst hT; obtain ⟨d1, d2⟩ := B0M hc hva hvt h126; refine B4 rfl (V6 b 41 _ cst G7 hRt) (Pk.perm (by repeat (first | exact Pk.here | apply Pk.there))) rfl rfl (fun v G8 outs hle8 hh => ?_); obtain ⟨cs8, rfl, hR8, hG, rfl⟩ := hh; replace hG := hG.symm; subst hG; rw [← d1] at hR8)
 refine sD (nS (tS (tR (sL (A7 rfl rfl) rfl rfl ?_))))
 refine sS rfl rfl rfl rfl hot rfl ?_
 refine sD (nS (tT ?_))
 refine B2 (rC rfl (A7 rfl rfl)) (.cons (by repeat (first | exact Pk.here | apply Pk.there)) .nil) ?_
 (exact ⟨cs8, _, _, F7, rfl, hR8, rfl, f1, f2, d2⟩)
 refine B8 ?_
 refine sQ (A6 rfl) rfl ?_
 refine sQ (A5 rfl) rfl (I8 ?_)
 refine sD (nS (tS (tR ?_)))
 (refine N4 (cs := [x1, x2, x3, x4, x5, x6, x7, x8, x9]) (by repeat (first | exact Pk.here | apply Pk.there)) (fun G3 hle3 hsl3 hno3 => ?_); have hbad : True := trivial; have hz := B0L (S := S) (f := f) (by rw [hc]; exact E4 (by show _ ≠ (32 : Int); omega)) (by rw [hc]; exact E4 (by show _ ≠ (43 : Int); omega)) (by rw [hc]; exact E4 (by show _ ≠ (60 : Int); omega)) (by rw [hc]; exact E4 (by show _ ≠ (58 : Int); omega)); obtain ⟨F7, f1, f2⟩ := A0g (k := 0) (num := 0) (lb := 0) (nm := ⟨#[]⟩) (ty := A4) (fr := A4) ⟨by decide, by decide⟩ ⟨by decide, by decide⟩ ⟨by decide, by decide⟩ hle1 hle3 (R9 _) (R9 _) (A0h hsa) (by simpa using hna) hsl3 hno3)
 refine sL (A7 rfl rfl) rfl rfl ?_
 refine S0 rfl rfl rfl rfl (by exact f1.R.one) rfl (by repeat first | exact Sw.here | apply Sw.there) (by rfl) ?_
 refine sD (nS (tT (rB (rS ?_))))
 refine B2 (rC rfl (A7 rfl rfl)) (.cons (by repeat (first | exact Pk.here | apply Pk.there)) .nil) ?_
 (rw [hz]; exact ⟨_, _, _, F7, rfl, hnB, rfl, f1, f2, fun x hx => by cases hx⟩)
section tm
variable {S : Option A0} {n : Nat}
theorem B0P : S.bind (D5 0) = none := by cases S <;> rfl
theorem B0Q (h : 97 ≤ (C6 S).toNat ∧ (C6 S).toNat ≤ 122) : S.bind (D5 (n + 1)) = (K9 S).map fun r => (.mk 1 ⟨#[C6 S]⟩ 0 A4 A4 0 [], r) := by
 rcases S with _ | _ | ⟨b, l⟩
 ·exact absurd h.1 (by decide)
 ·exact absurd h.1 (by decide)
 ·have h : 97 ≤ b.toNat ∧ b.toNat ≤ 122 := h
  show D5 (n + 1) (b :: l) = _
  rw [D5, if_pos h]; rfl
theorem B0R (h : D9 (C6 S)) : S.bind (D5 (n + 1)) = (S.bind T6).map fun x => (.mk 2 ⟨#[]⟩ x.1 A4 A4 0 [], x.2) := by
 rcases S with _ | _ | ⟨b, l⟩
 ·exact absurd h (by decide)
 ·exact absurd h (by decide)
 ·have h : D9 b := h
  have h2 := h
  unfold D9 at h2
  show D5 (n + 1) (b :: l) = _
  rw [D5, if_neg (by omega), if_pos h]; rfl
theorem A1c (h : C6 S ≠ 0) : ∃ l, S = some (C6 S :: l) ∧ K9 S = some l := by
 rcases S with _ | _ | ⟨b, l⟩
 ·exact absurd rfl h
 ·exact absurd rfl h
 ·exact ⟨l, rfl, rfl⟩
theorem B0S (h : C6 S = 84) : S.bind (D5 (n + 1)) = (K9 S).map fun r => (nd 3 [], r) := by
 obtain ⟨l, h1, h2⟩ := A1c (S := S) (by rw [h]; decide)
 rw [h] at h1
 rw [h2, h1]
 show D5 (n + 1) (84 :: l) = _
 rw [D5, if_neg (by decide), if_neg (by decide), if_pos rfl]; rfl
theorem B0T (h : C6 S = 70) : S.bind (D5 (n + 1)) = (K9 S).map fun r => (nd 4 [], r) := by
 obtain ⟨l, h1, h2⟩ := A1c (S := S) (by rw [h]; decide)
 rw [h] at h1
 rw [h2, h1]
 show D5 (n + 1) (70 :: l) = _
 rw [D5, if_neg (by decide), if_neg (by decide), if_neg (by decide), if_pos rfl]; rfl
theorem B0U (h : C6 S = 33) : S.bind (D5 (n + 1)) = (K9 S).bind (A1U (D5 n)) := by
 obtain ⟨l, h1, h2⟩ := A1c (S := S) (by rw [h]; decide)
 rw [h] at h1
 rw [h2, h1]
 show D5 (n + 1) (33 :: l) = _
 rw [D5, if_neg (by decide), if_neg (by decide), if_neg (by decide), if_neg (by decide), if_pos rfl]; rfl
theorem B0V (h : C6 S = 123) : S.bind (D5 (n + 1)) = (K9 S).bind (pIf (D5 n)) := by
 obtain ⟨l, h1, h2⟩ := A1c (S := S) (by rw [h]; decide)
 rw [h] at h1
 rw [h2, h1]
 show D5 (n + 1) (123 :: l) = _
 rw [D5, if_neg (by decide), if_neg (by decide), if_neg (by decide), if_neg (by decide), if_neg (by decide), if_pos rfl]; rfl
theorem B0W (h : C6 S = 91) : S.bind (D5 (n + 1)) = (K9 S).bind (A1V (D5 n)) := by
 obtain ⟨l, h1, h2⟩ := A1c (S := S) (by rw [h]; decide)
 rw [h] at h1
 rw [h2, h1]
 show D5 (n + 1) (91 :: l) = _
 rw [D5, if_neg (by decide), if_neg (by decide), if_neg (by decide), if_neg (by decide), if_neg (by decide), if_neg (by decide), if_pos rfl]; rfl
theorem B0X (h : C6 S = 36) : S.bind (D5 (n + 1)) = (K9 S).bind (Q3 (D5 n) 11) := by
 obtain ⟨l, h1, h2⟩ := A1c (S := S) (by rw [h]; decide)
 rw [h] at h1
 rw [h2, h1]
 show D5 (n + 1) (36 :: l) = _
 rw [D5, if_neg (by decide), if_neg (by decide), if_neg (by decide), if_neg (by decide), if_neg (by decide), if_neg (by decide), if_neg (by decide), if_pos rfl]; rfl
theorem B0Y (h : C6 S = 37) : S.bind (D5 (n + 1)) = (K9 S).bind (Q3 (D5 n) 12) := by
 obtain ⟨l, h1, h2⟩ := A1c (S := S) (by rw [h]; decide)
 rw [h] at h1
 rw [h2, h1]
 show D5 (n + 1) (37 :: l) = _
 rw [D5, if_neg (by decide), if_neg (by decide), if_neg (by decide), if_neg (by decide), if_neg (by decide), if_neg (by decide), if_neg (by decide), if_neg (by decide), if_pos rfl]; rfl
theorem B0Z (h : C6 S = 40) : S.bind (D5 (n + 1)) = (K9 S).bind (Q9 (D5 n)) := by
 obtain ⟨l, h1, h2⟩ := A1c (S := S) (by rw [h]; decide)
 rw [h] at h1
 rw [h2, h1]
 show D5 (n + 1) (40 :: l) = _
 rw [D5, if_neg (by decide), if_neg (by decide), if_neg (by decide), if_neg (by decide), if_neg (by decide), if_neg (by decide), if_neg (by decide), if_neg (by decide), if_neg (by decide), if_pos rfl]; rfl
theorem A4L (h1 : ¬(97 ≤ (C6 S).toNat ∧ (C6 S).toNat ≤ 122)) (h2 : ¬D9 (C6 S)) (g1 : C6 S ≠ 84) (g2 : C6 S ≠ 70) (g3 : C6 S ≠ 33) (g4 : C6 S ≠ 123) (g5 : C6 S ≠ 91) (g6 : C6 S ≠ 36) (g7 : C6 S ≠ 37) (g8 : C6 S ≠ 40) : S.bind (D5 (n + 1)) = none := by
 rcases S with _ | _ | ⟨b, l⟩
 ·rfl
 ·rfl
 ·show D5 (n + 1) (b :: l) = _
  have h1 : ¬(97 ≤ b.toNat ∧ b.toNat ≤ 122) := h1
  have h2 : ¬D9 b := h2
  have g1 : b ≠ 84 := g1
  have g2 : b ≠ 70 := g2
  have g3 : b ≠ 33 := g3
  have g4 : b ≠ 123 := g4
  have g5 : b ≠ 91 := g5
  have g6 : b ≠ 36 := g6
  have g7 : b ≠ 37 := g7
  have g8 : b ≠ 40 := g8
  rw [D5, if_neg h1, if_neg h2, if_neg g1, if_neg g2, if_neg g3, if_neg g4, if_neg g5, if_neg g6, if_neg g7, if_neg g8]
end tm
section done
variable {f : A0 → Option (Tm × A0)} {S : Option A0}
theorem A7t {k : Int} {a : Tm} (ha : ∀ x, S.bind f = some x → a = x.1) : (S.bind (Q3 f k)).map Prod.snd = (S.bind f).map Prod.snd ∧ ∀ x, S.bind (Q3 f k) = some x → nd k [a] = x.1 := by
 rcases S with _ | l
 ·exact ⟨rfl, fun x hx => by cases hx⟩
 simp only [Option.bind_some] at ha ⊢
 unfold Q3
 cases hA : f l with
 | none => exact ⟨rfl, fun x hx => by cases hx⟩
 | some x => exact ⟨rfl, fun q hq => by cases hq; rw [ha x hA]⟩
theorem B00 {a b : Tm} {A B : Option (Tm × A0)} (hA : S.bind f = A) (ha : ∀ x, A = some x → a = x.1) (hB : ((A.map Prod.snd).bind (C3 44)).bind f = B) (hb : ∀ x, B = some x → b = x.1) :
  (S.bind (A1V f)).map Prod.snd = (B.map Prod.snd).bind (C3 93) ∧ ∀ x, S.bind (A1V f) = some x → nd 10 [a, b] = x.1 := by
 subst hB hA
 rcases S with _ | l
 ·exact ⟨rfl, fun x hx => by cases hx⟩
 simp only [Option.bind_some] at ha hb ⊢
 unfold A1V
 cases hA : f l with
 | none => exact ⟨rfl, fun x hx => by cases hx⟩
 | some x =>
  rw [hA] at ha hb
  simp only [Option.bind_some, Option.map_some] at ha hb ⊢
  cases h1 : C3 44 x.2 with
  | none => exact ⟨rfl, fun x hx => by cases hx⟩
  | some r =>
   rw [h1] at hb
   simp only [Option.bind_some] at hb ⊢
   cases hB : f r with
   | none => exact ⟨rfl, fun x hx => by cases hx⟩
   | some y =>
    simp only [Option.bind_some, Option.map_some]
    cases h2 : C3 93 y.2 with
    | none => exact ⟨rfl, fun x hx => by cases hx⟩
    | some w => exact ⟨rfl, fun q hq => by cases hq; rw [ha _ rfl, hb _ hB]⟩
theorem B01 {a b c : Tm} {A B C : Option (Tm × A0)} (hA : S.bind f = A) (ha : ∀ x, A = some x → a = x.1) (hB : ((A.map Prod.snd).bind (C3 63)).bind f = B) (hb : ∀ x, B = some x → b = x.1) (hC : ((B.map Prod.snd).bind (C3 58)).bind f = C) (hc : ∀ x, C = some x → c = x.1) :
  (S.bind (pIf f)).map Prod.snd = (C.map Prod.snd).bind (C3 125) ∧ ∀ x, S.bind (pIf f) = some x → nd 9 [a, b, c] = x.1 := by
 subst hC hB hA
 rcases S with _ | l
 ·exact ⟨rfl, fun x hx => by cases hx⟩
 simp only [Option.bind_some] at ha hb hc ⊢
 unfold pIf
 cases hA : f l with
 | none => exact ⟨rfl, fun x hx => by cases hx⟩
 | some x =>
  rw [hA] at ha hb hc
  simp only [Option.bind_some, Option.map_some] at ha hb hc ⊢
  cases h1 : C3 63 x.2 with
  | none => exact ⟨rfl, fun x hx => by cases hx⟩
  | some r =>
   rw [h1] at hb hc
   simp only [Option.bind_some] at hb hc ⊢
   cases hB : f r with
   | none => exact ⟨rfl, fun x hx => by cases hx⟩
   | some y =>
    rw [hB] at hb hc
    simp only [Option.bind_some, Option.map_some] at hb hc ⊢
    cases h2 : C3 58 y.2 with
    | none => exact ⟨rfl, fun x hx => by cases hx⟩
    | some r2 =>
     rw [h2] at hc
     simp only [Option.bind_some] at hc ⊢
     cases hC : f r2 with
     | none => exact ⟨rfl, fun x hx => by cases hx⟩
     | some z =>
      simp only [Option.bind_some, Option.map_some]
      cases h3 : C3 125 z.2 with
      | none => exact ⟨rfl, fun x hx => by cases hx⟩
      | some w => exact ⟨rfl, fun q hq => by cases hq; rw [ha _ rfl, hb _ rfl, hc _ hC]⟩
theorem B02 {a : Tm} {ty : Ty} {T : Option (Ty × A0)} {A : Option (Tm × A0)} (hT : ((K9 S).bind (C3 58)).bind (K3 4) = T) (ht : ∀ x, T = some x → ty = x.1) (hA : ((T.map Prod.snd).bind (C3 46)).bind f = A) (ha : ∀ x, A = some x → a = x.1) :
  (S.bind (A1U f)).map Prod.snd = A.map Prod.snd ∧ ∀ x, S.bind (A1U f) = some x → Tm.mk 5 ⟨#[C6 S]⟩ 0 ty A4 0 [a] = x.1 := by
 subst hA hT
 rcases S with _ | _ | ⟨d, l⟩
 ·exact ⟨rfl, fun x hx => by cases hx⟩
 ·exact ⟨rfl, fun x hx => by cases hx⟩
 simp only [K9, C6, Option.bind_some] at ha ht ⊢
 unfold A1U
 simp only [P0, Option.bind_some]
 cases h1 : C3 58 l with
 | none => exact ⟨rfl, fun x hx => by cases hx⟩
 | some r =>
  rw [h1] at ha ht
  simp only [Option.bind_some] at ha ht ⊢
  cases hT : K3 4 r with
  | none => exact ⟨rfl, fun x hx => by cases hx⟩
  | some t =>
   rw [hT] at ha ht
   simp only [Option.bind_some, Option.map_some] at ha ht ⊢
   cases h2 : C3 46 t.2 with
   | none => exact ⟨rfl, fun x hx => by cases hx⟩
   | some r2 =>
    rw [h2] at ha
    simp only [Option.bind_some] at ha ⊢
    cases hA : f r2 with
    | none => exact ⟨rfl, fun x hx => by cases hx⟩
    | some z => exact ⟨rfl, fun q hq => by cases hq; rw [ht _ rfl, ha _ hA]⟩
end done
theorem A7u (c : UInt8) : strOfNums [(c.toNat : Int)] = ⟨#[c]⟩ := by
 simp [strOfNums]
theorem B03 (b b2 b3 : Nat) (n : Nat) (d : Int) (G : IM) (hd : -100 ≤ d ∧ d ≤ 100) (hE : X2 G) (h2 : G b2 = some [.pointer (some ⟨b, 0, none⟩)]) (h3 : G b3 = some [.int .i64 d])
  (ih : ∀ (S : Option A0) (cs : List Value) (G' : IM), X2 G' → O4 S cs → Fn Tryz.prog 87 [.pointer (some ⟨b, 0, none⟩), .int .i64 (d + 1)] [.blk b cs] G' (A3k b (S.bind (D5 n)) G')) :
  A7r b (D5 n) 152 [] [.pointer (some ⟨b2, 0, none⟩), .pointer (some ⟨b3, 0, none⟩)] G := by
 intro S c' G' hle hR
 have h2' := hle _ _ h2
 have h3' := hle _ _ h3
 have hE' := hE.mono hle
 show Fn _ _ [.pointer (some ⟨b2, 0, none⟩), .pointer (some ⟨b3, 0, none⟩)] _ _ _
 refine B5 Tryz.func152 rfl Tryz.ntmps152 Tryz.results152 rfl ?_
 intro w0
 refine tS (tR ?_)
 refine sE (C0 rfl) rfl (fun b3 => ?_)
 refine sD (nS (tS (tR ?_)))
 refine sL (J2 rfl rfl (M6 h2' (fun j v h => by simpa using h))) rfl rfl ?_
 refine sL (J2 rfl rfl (M6 h3' (fun j v h => by simpa using h))) rfl rfl ?_
 refine sP (O6 rfl rfl (by omega) (by omega)) rfl rfl ?_
 (refine B4 rfl (ih S c' G' hE' hR) (Pk.perm (by repeat (first | exact Pk.here | apply Pk.there))) rfl rfl (fun v G2 outs hle2 hh => ?_); obtain ⟨cs2, ta, ca, Fa, rfl, hR2, rfl, hsa, hna, hva⟩ := hh; have hla := hsa.R.len; have hoa := hsa.R.one)
 refine sS rfl rfl rfl hla hoa rfl ?_ (hu := by exact M1 hla.symm)
 refine sD (nS (tT ?_))
 refine B2 (rC rfl (C4 rfl rfl (E7 (by repeat first | exact mH | apply mT)) hla)) (.cons (by repeat (first | exact Pk.here | apply Pk.there)) .nil) ?_
 (exact ⟨cs2, ta, ca, Fa, rfl, hR2, rfl, hsa, hna, hva⟩)
theorem A1X (o : Option A0) (t : Tm) : (o.map fun r => (t, r)).map Prod.snd = o ∧ ∀ x, (o.map fun r => (t, r)) = some x → t = x.1 := by
 cases o with
 | none => exact ⟨rfl, fun x hx => by cases hx⟩
 | some r => exact ⟨rfl, fun x hx => by cases hx; rfl⟩
theorem A7v {o : Option (Int × A0)} {nv : Int} (h : ∀ x, o = some x → nv = x.1) : (o.map fun x => (Tm.mk 2 ⟨#[]⟩ x.1 A4 A4 0 [], x.2)).map Prod.snd = o.map Prod.snd ∧ ∀ x, (o.map fun x => (Tm.mk 2 ⟨#[]⟩ x.1 A4 A4 0 [], x.2)) = some x → Tm.mk 2 ⟨#[]⟩ nv A4 A4 0 [] = x.1 := by
 cases o with
 | none => exact ⟨rfl, fun x hx => by cases hx⟩
 | some r => exact ⟨rfl, fun x hx => by cases hx; rw [h r rfl]⟩
theorem B04 (b : Nat) : ∀ (n : Nat) (d : Int) (S : Option A0) (cs : List Value) (G : IM), d + n = 41 → 1 ≤ d → X2 G → O4 S cs →
  Fn Tryz.prog 87 [.pointer (some ⟨b, 0, none⟩), .int .i64 d] [.blk b cs] G (A3k b (S.bind (D5 n)) G) := by
 intro n
 induction n with
 | zero =>
  intro d S cs G hd hd1 hE h
  obtain ⟨s, bad, rfl, hs⟩ := h.open
  have hB : O4 none [.string s, .bool true] := h.bad
  rw [B0P]
  refine B5 Tryz.func87 rfl Tryz.ntmps87 Tryz.results87 rfl ?_
  intro w0
  refine tS (tR ?_)
  (refine D1 (A17 rfl rfl rfl) rfl ?_; rintro _ ⟨b3, rfl⟩)
  (refine D1 (A17 rfl rfl rfl) rfl ?_; rintro _ ⟨b4, rfl⟩)
  refine sE (C0 rfl) rfl (fun b5 => ?_)
  refine sD (nS (tS (tS (tR (sL (C1 rfl rfl) rfl rfl ?_)))))
  refine sP (A3H rfl rfl (by omega)) rfl rfl ?_
  refine sD (nS (qT rfl (tR (sL (C1 rfl rfl) rfl rfl ?_))))
  refine sQ (A6 rfl) rfl ?_
  refine B8 ?_
  (refine B4 rfl (A2t b none _ G hB) (Pk.perm (by repeat (first | exact Pk.here | apply Pk.there))) rfl rfl (fun v G1 outs hle1 hh => ?_); obtain ⟨hG, rfl, rfl⟩ := hh; replace hG := hG.symm; subst hG; have hz0 : ((C6 none).toNat : Int) = 0 := rfl)
  refine sQ (qA rfl) rfl (sD (nS (tS ?_)))
  refine D2 ?_
  refine tS (tR (sQ (qM rfl) rfl ?_))
  refine sP (A2L rfl rfl (by omega)) rfl rfl ?_
  refine I3 ?_
  refine sP (A2L rfl rfl (by omega)) rfl rfl ?_
  refine O3 ?_
  (refine B4 rfl (A0w b none _ G hB) (Pk.perm (by repeat (first | exact Pk.here | apply Pk.there))) rfl rfl (fun v G1 outs hle1 hh => ?_); obtain ⟨V9, rfl, hR1, hG, rfl⟩ := hh; replace hG := hG.symm; subst hG; obtain ⟨s1, bad1, rfl, hs1⟩ := hR1.open; have hnB := hR1.bad)
  refine sD (nS (tS (tR ?_)))
  refine sQ (A0l rfl rfl) rfl ?_
  refine C2 ?_
  refine D2 ?_
  refine tS (tR ?_)
  refine sP (I0 rfl rfl (by omega)) rfl rfl ?_
  refine sQ (qA rfl) rfl (sD (nS (cF rfl (tS (tR ?_)))))
  refine sP (I0 rfl rfl (by omega)) rfl rfl ?_
  refine sQ (qA rfl) rfl (sD (nS (cF rfl (tS (tR ?_)))))
  refine sP (I0 rfl rfl (by omega)) rfl rfl ?_
  refine sQ (qA rfl) rfl (sD (nS (cF rfl (tS (tR ?_)))))
  refine sP (I0 rfl rfl (by omega)) rfl rfl ?_
  refine sQ (qA rfl) rfl (sD (nS (cF rfl (tS (tR ?_)))))
  refine sP (I0 rfl rfl (by omega)) rfl rfl ?_
  refine sQ (qA rfl) rfl (sD (nS (cF rfl (tS (tR ?_)))))
  refine sP (I0 rfl rfl (by omega)) rfl rfl ?_
  refine sQ (qA rfl) rfl (sD (nS (cF rfl (tS (tR ?_)))))
  refine sP (I0 rfl rfl (by omega)) rfl rfl ?_
  refine sQ (qA rfl) rfl (sD (nS (cF rfl (tS (tR ?_)))))
  refine sP (I0 rfl rfl (by omega)) rfl rfl ?_
  refine O2 ?_
  refine sQ (A6 rfl) rfl ?_
  refine I3 ?_
  refine B2 (outs := [.blk b _]) (rC rfl (A7 rfl rfl)) (.cons (by repeat (first | exact Pk.here | apply Pk.there)) .nil) ?_
  (exact ⟨_, _, _, [], rfl, hnB, rfl, A1b _ ⟨#[]⟩ (k := 0) (num := 0) ⟨by decide, by decide⟩ ⟨by decide, by decide⟩, List.nodup_nil, fun x hx => by cases hx⟩)
 | succ n ih =>
  intro d S cs G hd hd1 hE h
  refine B5 Tryz.func87 rfl Tryz.ntmps87 Tryz.results87 rfl ?_
  intro w0
  refine tS (tR ?_)
  (refine D1 (A17 rfl rfl rfl) rfl ?_; rintro _ ⟨b3, rfl⟩)
  (refine D1 (A17 rfl rfl rfl) rfl ?_; rintro _ ⟨b4, rfl⟩)
  refine sE (C0 rfl) rfl (fun b5 => ?_)
  refine sD (nS (tS (tS ?_)))
  (refine A5r (bs := [(b3, [.pointer (some ⟨b, 0, none⟩)]), (b4, [.int .i64 d])]) ((Pk.perm (by repeat (first | exact Pk.here | apply Pk.there))).trans ((Pk.perm (by repeat (first | exact Pk.here | apply Pk.there))).cons _)) (fun hf1 hf2 hle0 => ?_); have hb2 : Wi G [(b3, [.pointer (some ⟨b, 0, none⟩)]), (b4, [.int .i64 d])] b3 = some [.pointer (some ⟨b, 0, none⟩)] := Wi.in hf1 List.mem_cons_self; have hb3 : Wi G [(b3, [.pointer (some ⟨b, 0, none⟩)]), (b4, [.int .i64 d])] b4 = some [.int .i64 d] := Wi.in hf1 (List.mem_cons_of_mem _ List.mem_cons_self); generalize Wi G [(b3, [.pointer (some ⟨b, 0, none⟩)]), (b4, [.int .i64 d])] = G0 at hle0 hb2 hb3 ⊢; have hE0 := hE.mono hle0; have hsub := B03 b _ _ n d G0 ⟨by omega, by omega⟩ hE0 hb2 hb3 (fun S cs G' hE' hR => ih (d + 1) S cs G' (by omega) (by omega) hE' hR))
  refine tR ?_
  refine sL (J2 rfl rfl (M6 hb3 (fun j v h => by simpa using h))) rfl rfl ?_
  refine sP (A19 rfl rfl (by omega)) rfl rfl ?_
  refine sD (nS (cF rfl (tK (nS (tS (tR ?_))))))
  refine sL (J2 rfl rfl (M6 hb2 (fun j v h => by simpa using h))) rfl rfl ?_
  (refine B4 rfl (A2t b S cs G0 h) (Pk.perm (by repeat (first | exact Pk.here | apply Pk.there))) rfl rfl (fun v G1 outs hle1 hh => ?_); obtain ⟨hG, rfl, rfl⟩ := hh; replace hG := hG.symm; subst hG; obtain ⟨c, hc⟩ : ∃ c, C6 S = c := ⟨_, rfl⟩; rw [hc])
  refine sQ (qA rfl) rfl (sD (nS (tS ?_)))
  refine D2 ?_
  refine tS (tR (sQ (qM rfl) rfl ?_))
  refine sB (P6 rfl rfl) rfl rfl (fun h31 => ?_) (fun h31 => ?_)
  refine sQ (qM rfl) rfl (sQ (qM rfl) rfl ?_)
  refine sB (T2 rfl rfl) rfl rfl (fun h34 => ?_) (fun h34 => ?_)
  refine B8 ?_
  refine sL (J2 rfl rfl (M6 hb2 (fun j v h => by simpa using h))) rfl rfl ?_
  (refine B4 rfl (A0w b S cs G0 h) (Pk.perm (by repeat (first | exact Pk.here | apply Pk.there))) rfl rfl (fun v G1 outs hle1 hh => ?_); obtain ⟨V9, rfl, hR1, hG, rfl⟩ := hh; replace hG := hG.symm; subst hG; obtain ⟨s1, bad1, rfl, hs1⟩ := hR1.open; have hnB := hR1.bad)
  refine sD (nS (tS (tR (sQ (qM rfl) rfl ?_))))
  (refine D1 (I4 rfl rfl rfl (by omega) (by unfold maxLen; omega) rfl) rfl ?_; rintro _ ⟨b49, rfl⟩)
  (refine sL (A2T (xs := [(c.toNat : Int)]) rfl rfl rfl rfl rfl (U2 (by repeat first | exact mH | apply mT))) rfl rfl ?_; rw [A7u])
  refine sQ (W0 rfl rfl) rfl (I8 ?_)
  refine sD (nS (tT (rB (rS ?_))))
  refine B2 (outs := [.blk b _]) (rC rfl (A7 rfl rfl)) (.cons (by repeat (first | exact Pk.here | apply Pk.there)) .nil) ?_
  (have hlet : 97 ≤ (C6 S).toNat ∧ (C6 S).toNat ≤ 122 := (by rw [hc]; omega); rw [B0Q hlet, hc]; exact ⟨_, _, _, [], rfl, by rw [(A1X _ _).1]; exact hR1, rfl, A1b _ ⟨#[c]⟩ ⟨by decide, by decide⟩ ⟨by decide, by decide⟩, List.nodup_nil, (A1X _ _).2⟩)
  refine E0 ?_
  refine sP (A2K rfl rfl (by omega)) rfl rfl ?_
  refine sQ (qM rfl) rfl (sQ (qM rfl) rfl ?_)
  refine sP (A8x rfl rfl (by omega)) rfl rfl ?_
  refine O2 ?_
  refine sL (J2 rfl rfl (M6 hb2 (fun j v h => by simpa using h))) rfl rfl ?_
  (refine B4 rfl (A0w b S cs G0 h) (Pk.perm (by repeat (first | exact Pk.here | apply Pk.there))) rfl rfl (fun v G1 outs hle1 hh => ?_); obtain ⟨V9, rfl, hR1, hG, rfl⟩ := hh; replace hG := hG.symm; subst hG; obtain ⟨s1, bad1, rfl, hs1⟩ := hR1.open; have hnB := hR1.bad)
  refine sD (nS (tS (tR ?_)))
  refine sQ (A0l rfl rfl) rfl ?_
  refine C2 ?_
  refine D2 ?_
  refine tS (tR ?_)
  refine sP (I0 rfl rfl (by omega)) rfl rfl ?_
  refine sQ (qA rfl) rfl (sD (nS (cF rfl (tS (tR ?_)))))
  refine sP (I0 rfl rfl (by omega)) rfl rfl ?_
  refine sQ (qA rfl) rfl (sD (nS (cF rfl (tS (tR ?_)))))
  refine sP (I0 rfl rfl (by omega)) rfl rfl ?_
  refine sQ (qA rfl) rfl (sD (nS (cF rfl (tS (tR ?_)))))
  refine sB (qE rfl rfl) rfl rfl (fun h122 => ?_) (fun h122 => ?_)
  refine B8 ?_
  (refine D1 (N9 rfl rfl (hsub (K9 S) _ G0 (A9.refl _) hR1) (Pk.perm (by repeat (first | exact Pk.here | apply Pk.there))) rfl) rfl ?_; rintro _ ⟨v, G1, outs, rfl, hle1, csa, ta, ca, Fa, rfl, hRa, rfl, hsa, hna, hva⟩; have hoa := hsa.R.one; obtain ⟨x1, x2, x3, x4, x5, x6, x7, x8, x9, rfl⟩ := T5 hsa; replace hsa := hsa.mono (B0.anti hle0); replace hb2 := hle1 _ _ hb2; have hle01 := hle0.trans hle1)
  refine sE (C0 rfl) rfl (fun b131 => ?_)
  refine sS rfl rfl rfl rfl hoa rfl ?_
  refine sD (nS (tS (tR ?_)))
  refine sL (J2 rfl rfl (M6 hb2 (fun j v h => by simpa using h))) rfl rfl ?_
  (refine B4 rfl (V6 b 63 _ csa G1 hRa) (Pk.perm (by repeat (first | exact Pk.here | apply Pk.there))) rfl rfl (fun v G9 outs hle9 hh => ?_); obtain ⟨csp, rfl, hRp, hG, rfl⟩ := hh; replace hG := hG.symm; subst hG)
  refine sD (nS (tS (tR (sQ (qM rfl) rfl ?_))))
  (refine D1 (N9 rfl rfl (hsub _ csp G1 hle1 hRp) (Pk.perm (by repeat (first | exact Pk.here | apply Pk.there))) rfl) rfl ?_; rintro _ ⟨v, G2, outs, rfl, hle2, csb, tb, cb, Fb, rfl, hRb, rfl, hsb, hnb, hvb⟩; have hob := hsb.R.one; obtain ⟨y1, y2, y3, y4, y5, y6, y7, y8, y9, rfl⟩ := T5 hsb; replace hb2 := hle2 _ _ hb2; obtain ⟨k1, k2⟩ := A1W (A0h hsa) hna hle01 hle2 hsb hnb)
  refine sE (C0 rfl) rfl (fun b145 => ?_)
  refine sS rfl rfl rfl rfl hob rfl ?_
  refine sD (nS (tS (tR ?_)))
  refine sL (J2 rfl rfl (M6 hb2 (fun j v h => by simpa using h))) rfl rfl ?_
  (refine B4 rfl (V6 b 58 _ csb G2 hRb) (Pk.perm (by repeat (first | exact Pk.here | apply Pk.there))) rfl rfl (fun v G9 outs hle9 hh => ?_); obtain ⟨csq, rfl, hRq, hG, rfl⟩ := hh; replace hG := hG.symm; subst hG)
  refine sD (nS (tS (tR (sQ (qM rfl) rfl ?_))))
  (refine D1 (N9 rfl rfl (hsub _ csq G2 (hle1.trans hle2) hRq) (Pk.perm (by repeat (first | exact Pk.here | apply Pk.there))) rfl) rfl ?_; rintro _ ⟨v, G3, outs, rfl, hle3, csc, tc, cc, Fc, rfl, hRc, rfl, hsc, hnc, hvc⟩; have hoc := hsc.R.one; obtain ⟨z1, z2, z3, z4, z5, z6, z7, z8, z9, rfl⟩ := T5 hsc; replace hb2 := hle3 _ _ hb2; obtain ⟨k3, k4⟩ := A1W k1 k2 (hle01.trans hle2) hle3 hsc hnc)
  refine sE (C0 rfl) rfl (fun b159 => ?_)
  refine sS rfl rfl rfl rfl hoc rfl ?_
  refine sD (nS (tS (tR ?_)))
  refine sL (J2 rfl rfl (M6 hb2 (fun j v h => by simpa using h))) rfl rfl ?_
  (refine B4 rfl (V6 b 125 _ csc G3 hRc) (Pk.perm (by repeat (first | exact Pk.here | apply Pk.there))) rfl rfl (fun v G9 outs hle9 hh => ?_); obtain ⟨csr, rfl, hRr, hG, rfl⟩ := hh; replace hG := hG.symm; subst hG)
  refine B8 ?_
  (refine D1 (I4 rfl rfl rfl (by omega) (by unfold maxLen; omega) rfl) rfl ?_; rintro _ ⟨b174, rfl⟩)
  (refine N4 (cs := [x1, x2, x3, x4, x5, x6, x7, x8, x9, y1, y2, y3, y4, y5, y6, y7, y8, y9, z1, z2, z3, z4, z5, z6, z7, z8, z9]) (by repeat (first | exact Pk.here | apply Pk.there)) (fun G7 hle7 hsl7 hno7 => ?_); obtain ⟨F7, f1, f2⟩ := A0g (k := 9) (num := 0) (lb := 0) (nm := ⟨#[]⟩) (ty := A4) (fr := A4) ⟨by decide, by decide⟩ ⟨by decide, by decide⟩ ⟨by decide, by decide⟩ (hle01.trans (hle2.trans hle3)) hle7 (R9 _) (R9 _) k3 (by simpa using k4) hsl7 hno7; obtain ⟨d1, d2⟩ := B01 (S := K9 S) rfl hva rfl hvb rfl hvc; refine J9 rfl (A1P _ _ _ _ _) rfl rfl ?_)
  refine S0 rfl rfl rfl rfl (by exact f1.R.one) rfl (by repeat first | exact Sw.here | apply Sw.there) (by rfl) ?_
  refine sD (nS (tT (rB (rS ?_))))
  refine B2 (outs := [.blk b _]) (rC rfl (A7 rfl rfl)) (.cons (by repeat (first | exact Pk.here | apply Pk.there)) .nil) ?_
  (have hcc : C6 S = 123 := (by rw [hc]; exact E9 (b := 123) (by show _ = (123 : Int); omega)); rw [B0V hcc]; exact ⟨csr, _, _, F7, rfl, by rw [d1]; exact hRr, rfl, f1, f2, d2⟩)
  refine sQ (qA rfl) rfl (sD (nS (cF rfl (tS (tR ?_)))))
  refine sP (I0 rfl rfl (by omega)) rfl rfl ?_
  refine sQ (qA rfl) rfl (sD (nS (cF rfl (tS (tR ?_)))))
  refine sP (I0 rfl rfl (by omega)) rfl rfl ?_
  refine sQ (qA rfl) rfl (sD (nS (cF rfl (tS (tR ?_)))))
  refine sP (I0 rfl rfl (by omega)) rfl rfl ?_
  refine sQ (qA rfl) rfl (sD (nS (cF rfl (tS (tR ?_)))))
  refine sP (I0 rfl rfl (by omega)) rfl rfl ?_
  refine C2 ?_
  refine sL (J2 rfl rfl (M6 hb2 (fun j v h => by simpa using h))) rfl rfl ?_
  refine sQ (A6 rfl) rfl ?_
  refine I3 ?_
  refine B2 (outs := [.blk b _]) (rC rfl (A7 rfl rfl)) (.cons (by repeat (first | exact Pk.here | apply Pk.there)) .nil) ?_
  (rw [A4L (n := n) (by rw [hc]; omega) (by rw [hc]; unfold D9; omega) (by rw [hc]; exact E4 (by show _ ≠ (84 : Int); omega)) (by rw [hc]; exact E4 (by show _ ≠ (70 : Int); omega)) (by rw [hc]; exact E4 (by show _ ≠ (33 : Int); omega)) (by rw [hc]; exact E4 (by show _ ≠ (123 : Int); omega)) (by rw [hc]; exact E4 (by show _ ≠ (91 : Int); omega)) (by rw [hc]; exact E4 (by show _ ≠ (36 : Int); omega)) (by rw [hc]; exact E4 (by show _ ≠ (37 : Int); omega)) (by rw [hc]; exact E4 (by show _ ≠ (40 : Int); omega))]; exact ⟨_, _, _, [], rfl, hnB, rfl, A1b _ ⟨#[]⟩ (k := 0) (num := 0) ⟨by decide, by decide⟩ ⟨by decide, by decide⟩, List.nodup_nil, fun x hx => by cases hx⟩)
  refine I3 ?_
  refine sB (P6 rfl rfl) rfl rfl (fun h247 => ?_) (fun h247 => ?_)
  refine sQ (qM rfl) rfl (sQ (qM rfl) rfl ?_)
  refine sB (T2 rfl rfl) rfl rfl (fun h250 => ?_) (fun h250 => ?_)
  refine B8 ?_
  refine sL (J2 rfl rfl (M6 hb2 (fun j v h => by simpa using h))) rfl rfl ?_
  (have hdg : D9 (C6 S) := (by rw [hc]; unfold D9; omega); refine B4 rfl (A7q b S cs G0 hE0 h) (Pk.perm (by repeat (first | exact Pk.here | apply Pk.there))) rfl rfl (fun v G6 outs hle6 hh => ?_); obtain ⟨hG, csn, nv, rfl, hRn, rfl, hIn, hvn⟩ := hh; replace hG := hG.symm; subst hG)
  refine sQ (W0 rfl rfl) rfl (I8 ?_)
  refine sD (nS (tT (rB (rS ?_))))
  refine B2 (outs := [.blk b _]) (rC rfl (A7 rfl rfl)) (.cons (by repeat (first | exact Pk.here | apply Pk.there)) .nil) ?_
  (rw [B0R hdg]; exact ⟨csn, _, _, [], rfl, by rw [(A7v hvn).1]; exact hRn, rfl, A1b _ ⟨#[]⟩ ⟨by decide, by decide⟩ hIn, List.nodup_nil, (A7v hvn).2⟩)
  refine O2 ?_
  refine sL (J2 rfl rfl (M6 hb2 (fun j v h => by simpa using h))) rfl rfl ?_
  (refine B4 rfl (A0w b S cs G0 h) (Pk.perm (by repeat (first | exact Pk.here | apply Pk.there))) rfl rfl (fun v G1 outs hle1 hh => ?_); obtain ⟨V9, rfl, hR1, hG, rfl⟩ := hh; replace hG := hG.symm; subst hG; obtain ⟨s1, bad1, rfl, hs1⟩ := hR1.open; have hnB := hR1.bad)
  refine sD (nS (tS (tR ?_)))
  refine sQ (A0l rfl rfl) rfl ?_
  refine C2 ?_
  refine D2 (tS (tR (sB (qE rfl rfl) rfl rfl (fun h298 => ?_) (fun h298 => ?_))))
  refine sQ (qA rfl) rfl (sD (nS (qT rfl (tS (tR ?_)))))
  refine J9 rfl ((A1P _ _ _ _ _)) rfl rfl ?_
  refine I8 ?_
  refine sD (nS (tT (rB (rS ?_))))
  refine B2 (outs := [.blk b _]) (rC rfl (A7 rfl rfl)) (.cons (by repeat (first | exact Pk.here | apply Pk.there)) .nil) ?_
  (have hcc : C6 S = 84 := (by rw [hc]; exact E9 (b := 84) (by show _ = (84 : Int); omega)); rw [B0S hcc]; exact ⟨_, _, _, [], rfl, by rw [(A1X _ _).1]; exact hR1, rfl, A1b _ ⟨#[]⟩ ⟨by decide, by decide⟩ ⟨by decide, by decide⟩, List.nodup_nil, (A1X _ _).2⟩)
  refine sQ (qA rfl) rfl (sD (nS (cF rfl (tS (tR ?_)))))
  refine sB (qE rfl rfl) rfl rfl (fun h320 => ?_) (fun h320 => ?_)
  refine sQ (qA rfl) rfl (sD (nS (qT rfl (tS (tR ?_)))))
  refine J9 rfl ((A1P _ _ _ _ _)) rfl rfl ?_
  refine I8 ?_
  refine sD (nS (tT (rB (rS ?_))))
  refine B2 (outs := [.blk b _]) (rC rfl (A7 rfl rfl)) (.cons (by repeat (first | exact Pk.here | apply Pk.there)) .nil) ?_
  (have hcc : C6 S = 70 := (by rw [hc]; exact E9 (b := 70) (by show _ = (70 : Int); omega)); rw [B0T hcc]; exact ⟨_, _, _, [], rfl, by rw [(A1X _ _).1]; exact hR1, rfl, A1b _ ⟨#[]⟩ ⟨by decide, by decide⟩ ⟨by decide, by decide⟩, List.nodup_nil, (A1X _ _).2⟩)
  refine sQ (qA rfl) rfl (sD (nS (cF rfl (tS (tR ?_)))))
  refine sP (I0 rfl rfl (by omega)) rfl rfl ?_
  refine sQ (qA rfl) rfl (sD (nS (cF rfl (tS (tR ?_)))))
  refine sP (I0 rfl rfl (by omega)) rfl rfl ?_
  refine sQ (qA rfl) rfl (sD (nS (cF rfl (tS (tR ?_)))))
  refine sB (qE rfl rfl) rfl rfl (fun h356 => ?_) (fun h356 => ?_)
  refine B8 ?_
  (refine D1 (N9 rfl rfl (hsub (K9 S) _ G0 (A9.refl _) hR1) (Pk.perm (by repeat (first | exact Pk.here | apply Pk.there))) rfl) rfl ?_; rintro _ ⟨v, G1, outs, rfl, hle1, csa, ta, ca, Fa, rfl, hRa, rfl, hsa, hna, hva⟩; have hoa := hsa.R.one; obtain ⟨x1, x2, x3, x4, x5, x6, x7, x8, x9, rfl⟩ := T5 hsa; replace hsa := hsa.mono (B0.anti hle0); replace hb2 := hle1 _ _ hb2; have hle01 := hle0.trans hle1)
  refine sE (C0 rfl) rfl (fun b365 => ?_)
  refine sS rfl rfl rfl rfl hoa rfl ?_
  refine sD (nS (tS (tR ?_)))
  refine sL (J2 rfl rfl (M6 hb2 (fun j v h => by simpa using h))) rfl rfl ?_
  (refine B4 rfl (V6 b 44 _ csa G1 hRa) (Pk.perm (by repeat (first | exact Pk.here | apply Pk.there))) rfl rfl (fun v G9 outs hle9 hh => ?_); obtain ⟨csp, rfl, hRp, hG, rfl⟩ := hh; replace hG := hG.symm; subst hG)
  refine sD (nS (tS (tR (sQ (qM rfl) rfl ?_))))
  (refine D1 (N9 rfl rfl (hsub _ csp G1 hle1 hRp) (Pk.perm (by repeat (first | exact Pk.here | apply Pk.there))) rfl) rfl ?_; rintro _ ⟨v, G2, outs, rfl, hle2, csb, tb, cb, Fb, rfl, hRb, rfl, hsb, hnb, hvb⟩; have hob := hsb.R.one; obtain ⟨y1, y2, y3, y4, y5, y6, y7, y8, y9, rfl⟩ := T5 hsb; replace hb2 := hle2 _ _ hb2; obtain ⟨k1, k2⟩ := A1W (A0h hsa) hna hle01 hle2 hsb hnb)
  refine sE (C0 rfl) rfl (fun b379 => ?_)
  refine sS rfl rfl rfl rfl hob rfl ?_
  refine sD (nS (tS (tR ?_)))
  refine sL (J2 rfl rfl (M6 hb2 (fun j v h => by simpa using h))) rfl rfl ?_
  (refine B4 rfl (V6 b 93 _ csb G2 hRb) (Pk.perm (by repeat (first | exact Pk.here | apply Pk.there))) rfl rfl (fun v G9 outs hle9 hh => ?_); obtain ⟨csq, rfl, hRq, hG, rfl⟩ := hh; replace hG := hG.symm; subst hG)
  refine K8 ?_
  (refine D1 (I4 rfl rfl rfl (by omega) (by unfold maxLen; omega) rfl) rfl ?_; rintro _ ⟨b393, rfl⟩)
  (refine N4 (cs := [x1, x2, x3, x4, x5, x6, x7, x8, x9, y1, y2, y3, y4, y5, y6, y7, y8, y9]) (by repeat (first | exact Pk.here | apply Pk.there)) (fun G7 hle7 hsl7 hno7 => ?_); obtain ⟨F7, f1, f2⟩ := A0g (k := 10) (num := 0) (lb := 0) (nm := ⟨#[]⟩) (ty := A4) (fr := A4) ⟨by decide, by decide⟩ ⟨by decide, by decide⟩ ⟨by decide, by decide⟩ (hle01.trans hle2) hle7 (R9 _) (R9 _) k1 (by simpa using k2) hsl7 hno7; obtain ⟨d1, d2⟩ := B00 (S := K9 S) rfl hva rfl hvb; refine J9 rfl (A1P _ _ _ _ _) rfl rfl ?_)
  refine S0 rfl rfl rfl rfl (by exact f1.R.one) rfl (by repeat first | exact Sw.here | apply Sw.there) (by rfl) ?_
  refine sD (nS (tT (rB (rS ?_))))
  refine B2 (outs := [.blk b _]) (rC rfl (A7 rfl rfl)) (.cons (by repeat (first | exact Pk.here | apply Pk.there)) .nil) ?_
  (have hcc : C6 S = 91 := (by rw [hc]; exact E9 (b := 91) (by show _ = (91 : Int); omega)); rw [B0W hcc]; exact ⟨csq, _, _, F7, rfl, by rw [d1]; exact hRq, rfl, f1, f2, d2⟩)
  refine sQ (qA rfl) rfl (sD (nS (cF rfl (tS (tR ?_)))))
  refine sP (I0 rfl rfl (by omega)) rfl rfl ?_
  refine sQ (qA rfl) rfl (sD (nS (cF rfl (tS (tR ?_)))))
  refine sP (I0 rfl rfl (by omega)) rfl rfl ?_
  refine sQ (qA rfl) rfl (sD (nS (cF rfl (tS (tR ?_)))))
  refine sP (I0 rfl rfl (by omega)) rfl rfl ?_
  refine C2 ?_
  refine sL (J2 rfl rfl (M6 hb2 (fun j v h => by simpa using h))) rfl rfl ?_
  refine sQ (A6 rfl) rfl ?_
  refine I3 ?_
  refine B2 (outs := [.blk b _]) (rC rfl (A7 rfl rfl)) (.cons (by repeat (first | exact Pk.here | apply Pk.there)) .nil) ?_
  (rw [A4L (n := n) (by rw [hc]; omega) (by rw [hc]; unfold D9; omega) (by rw [hc]; exact E4 (by show _ ≠ (84 : Int); omega)) (by rw [hc]; exact E4 (by show _ ≠ (70 : Int); omega)) (by rw [hc]; exact E4 (by show _ ≠ (33 : Int); omega)) (by rw [hc]; exact E4 (by show _ ≠ (123 : Int); omega)) (by rw [hc]; exact E4 (by show _ ≠ (91 : Int); omega)) (by rw [hc]; exact E4 (by show _ ≠ (36 : Int); omega)) (by rw [hc]; exact E4 (by show _ ≠ (37 : Int); omega)) (by rw [hc]; exact E4 (by show _ ≠ (40 : Int); omega))]; exact ⟨_, _, _, [], rfl, hnB, rfl, A1b _ ⟨#[]⟩ (k := 0) (num := 0) ⟨by decide, by decide⟩ ⟨by decide, by decide⟩, List.nodup_nil, fun x hx => by cases hx⟩)
  refine H3 ?_
  refine sL (J2 rfl rfl (M6 hb2 (fun j v h => by simpa using h))) rfl rfl ?_
  (refine B4 rfl (A0w b S cs G0 h) (Pk.perm (by repeat (first | exact Pk.here | apply Pk.there))) rfl rfl (fun v G1 outs hle1 hh => ?_); obtain ⟨V9, rfl, hR1, hG, rfl⟩ := hh; replace hG := hG.symm; subst hG; obtain ⟨s1, bad1, rfl, hs1⟩ := hR1.open; have hnB := hR1.bad)
  refine sD (nS (tS (tR ?_)))
  refine sQ (A0l rfl rfl) rfl ?_
  refine C2 ?_
  refine D2 ?_
  refine tS (tR ?_)
  refine sP (I0 rfl rfl (by omega)) rfl rfl ?_
  refine sQ (qA rfl) rfl (sD (nS (cF rfl (tS (tR ?_)))))
  refine sP (I0 rfl rfl (by omega)) rfl rfl ?_
  refine sQ (qA rfl) rfl (sD (nS (cF rfl (tS (tR ?_)))))
  refine sB (qE rfl rfl) rfl rfl (fun h494 => ?_) (fun h494 => ?_)
  refine sQ (qA rfl) rfl (sD (nS (qT rfl (tS (tR ?_)))))
  refine sL (J2 rfl rfl (M6 hb2 (fun j v h => by simpa using h))) rfl rfl ?_
  (have hcc : C6 S = 33 := (by rw [hc]; exact E9 (b := 33) (by show _ = (33 : Int); omega)); refine B4 rfl (A0w b (K9 S) _ G0 hR1) (Pk.perm (by repeat (first | exact Pk.here | apply Pk.there))) rfl rfl (fun v G1 outs hle1 hh => ?_); obtain ⟨cs2, rfl, hR2, hG, rfl⟩ := hh; replace hG := hG.symm; subst hG; obtain ⟨c2, hc2⟩ : ∃ c2, C6 (K9 S) = c2 := ⟨_, rfl⟩; rw [hc2])
  (refine D1 (I4 rfl rfl rfl (by omega) (by unfold maxLen; omega) rfl) rfl ?_; rintro _ ⟨b503, rfl⟩)
  (refine sL (A2T (xs := [(c2.toNat : Int)]) rfl rfl rfl rfl rfl (U2 (by repeat first | exact mH | apply mT))) rfl rfl ?_; rw [A7u])
  refine sQ (W0 rfl rfl) rfl ?_
  refine sE (C0 rfl) rfl (fun b506 => ?_)
  refine I8 ?_
  refine sD (nS (tS (tR ?_)))
  refine sL (J2 rfl rfl (M6 hb2 (fun j v h => by simpa using h))) rfl rfl ?_
  (refine B4 rfl (V6 b 58 _ cs2 G0 hR2) (Pk.perm (by repeat (first | exact Pk.here | apply Pk.there))) rfl rfl (fun v G9 outs hle9 hh => ?_); obtain ⟨cs3, rfl, hR3, hG, rfl⟩ := hh; replace hG := hG.symm; subst hG)
  refine sD (nS (tS (tR ?_)))
  refine sL (J2 rfl rfl (M6 hb2 (fun j v h => by simpa using h))) rfl rfl ?_
  (refine B4 rfl (A4y b 4 1 _ cs3 G0 (by omega) (by omega) hR3) (Pk.perm (by repeat (first | exact Pk.here | apply Pk.there))) rfl rfl (fun v G1 outs hle1 hh => ?_); obtain ⟨cst, tt1, ct, Ft, rfl, hRt, rfl, hst, hnt, hvt⟩ := hh; have hot := hst.R.one; obtain ⟨t1, t2, rfl⟩ := A4I hst; replace hb2 := hle1 _ _ hb2)
  refine sQ (A5 rfl) rfl ?_
  refine sS rfl rfl rfl rfl hot rfl ?_
  refine sD (nS (tS (tR ?_)))
  refine sL (J2 rfl rfl (M6 hb2 (fun j v h => by simpa using h))) rfl rfl ?_
  (refine B4 rfl (V6 b 46 _ cst G1 hRt) (Pk.perm (by repeat (first | exact Pk.here | apply Pk.there))) rfl rfl (fun v G9 outs hle9 hh => ?_); obtain ⟨csl, rfl, hRl, hG, rfl⟩ := hh; replace hG := hG.symm; subst hG)
  refine sD (nS (tS (tR (sQ (qM rfl) rfl ?_))))
  (refine D1 (N9 rfl rfl (hsub _ csl G1 hle1 hRl) (Pk.perm (by repeat (first | exact Pk.here | apply Pk.there))) rfl) rfl ?_; rintro _ ⟨v, G2, outs, rfl, hle2, csa, ta, ca, Fa, rfl, hRa, rfl, hsa, hna, hva⟩; have hoa := hsa.R.one; obtain ⟨x1, x2, x3, x4, x5, x6, x7, x8, x9, rfl⟩ := T5 hsa; replace hb2 := hle2 _ _ hb2)
  (refine D1 (I4 rfl rfl rfl (by omega) (by unfold maxLen; omega) rfl) rfl ?_; rintro _ ⟨b534, rfl⟩)
  (refine N4 (cs := [x1, x2, x3, x4, x5, x6, x7, x8, x9]) (by repeat (first | exact Pk.here | apply Pk.there)) (fun G7 hle7 hsl7 hno7 => ?_); obtain ⟨F7, f1, f2⟩ := A0g (k := 5) (num := 0) (lb := 0) (nm := ⟨#[c2]⟩) (ty := tt1) (fr := A4) ⟨by decide, by decide⟩ ⟨by decide, by decide⟩ ⟨by decide, by decide⟩ ((hle0.trans hle1).trans hle2) hle7 (hst.mono (fun b l h => B0.mono hle2 b l (B0.anti hle0 b l h))) (R9 _) ((A0h hsa).mono (B0.anti (hle0.trans hle1))) (A4K hnt List.nodup_nil hna (fun x hx y hy he => by cases hy) (A0s hst.inG hsa.inG) (fun x hx y hy he => by cases hx)) hsl7 hno7; obtain ⟨d1, d2⟩ := B02 (S := K9 S) rfl hvt rfl hva; rw [hc2] at d2)
  refine B8 ?_
  refine sS rfl rfl rfl rfl hot rfl ?_
  refine sD (nS (tT (rB (rS ?_))))
  refine B2 (outs := [.blk b _]) (rC rfl (A7 rfl rfl)) (.cons (by repeat (first | exact Pk.here | apply Pk.there)) .nil) ?_
  (have hcc : C6 S = 33 := (by rw [hc]; exact E9 (b := 33) (by show _ = (33 : Int); omega)); rw [B0U hcc]; exact ⟨csa, _, _, F7, rfl, by rw [d1]; exact hRa, rfl, f1, f2, d2⟩)
  refine sQ (qA rfl) rfl (sD (nS (cF rfl (tS (tR ?_)))))
  refine sP (I0 rfl rfl (by omega)) rfl rfl ?_
  refine sQ (qA rfl) rfl (sD (nS (cF rfl (tS (tR ?_)))))
  refine sP (I0 rfl rfl (by omega)) rfl rfl ?_
  refine sQ (qA rfl) rfl (sD (nS (cF rfl (tS (tR ?_)))))
  refine sB (qE rfl rfl) rfl rfl (fun h571 => ?_) (fun h571 => ?_)
  refine B8 ?_
  (refine D1 (N9 rfl rfl (hsub (K9 S) _ G0 (A9.refl _) hR1) (Pk.perm (by repeat (first | exact Pk.here | apply Pk.there))) rfl) rfl ?_; rintro _ ⟨v, G1, outs, rfl, hle1, csa, ta, ca, Fa, rfl, hRa, rfl, hsa, hna, hva⟩; have hoa := hsa.R.one; obtain ⟨x1, x2, x3, x4, x5, x6, x7, x8, x9, rfl⟩ := T5 hsa; replace hsa := hsa.mono (B0.anti hle0); replace hb2 := hle1 _ _ hb2; have hle01 := hle0.trans hle1)
  (refine D1 (I4 rfl rfl rfl (by omega) (by unfold maxLen; omega) rfl) rfl ?_; rintro _ ⟨b580, rfl⟩)
  (have hcc : C6 S = 36 := (by rw [hc]; exact E9 (b := 36) (by show _ = (36 : Int); omega)); refine N4 (cs := [x1, x2, x3, x4, x5, x6, x7, x8, x9]) (by repeat (first | exact Pk.here | apply Pk.there)) (fun G7 hle7 hsl7 hno7 => ?_); obtain ⟨F7, f1, f2⟩ := A0g (k := 11) (num := 0) (lb := 0) (nm := ⟨#[]⟩) (ty := A4) (fr := A4) ⟨by decide, by decide⟩ ⟨by decide, by decide⟩ ⟨by decide, by decide⟩ hle01 hle7 (R9 _) (R9 _) (A0h hsa) (by simpa using hna) hsl7 hno7; obtain ⟨d1, d2⟩ := A7t (S := K9 S) (k := 11) hva; refine J9 rfl (A1P _ _ _ _ _) rfl rfl ?_)
  refine S0 rfl rfl rfl rfl (by exact f1.R.one) rfl (by repeat first | exact Sw.here | apply Sw.there) (by rfl) ?_
  refine sD (nS (tT (rB (rS ?_))))
  refine B2 (outs := [.blk b _]) (rC rfl (A7 rfl rfl)) (.cons (by repeat (first | exact Pk.here | apply Pk.there)) .nil) ?_
  (have hcc : C6 S = 36 := (by rw [hc]; exact E9 (b := 36) (by show _ = (36 : Int); omega)); rw [B0X hcc]; exact ⟨csa, _, _, F7, rfl, by rw [d1]; exact hRa, rfl, f1, f2, d2⟩)
  refine sQ (qA rfl) rfl (sD (nS (cF rfl (tS (tR ?_)))))
  refine sB (qE rfl rfl) rfl rfl (fun h596 => ?_) (fun h596 => ?_)
  refine B8 ?_
  (refine D1 (N9 rfl rfl (hsub (K9 S) _ G0 (A9.refl _) hR1) (Pk.perm (by repeat (first | exact Pk.here | apply Pk.there))) rfl) rfl ?_; rintro _ ⟨v, G1, outs, rfl, hle1, csa, ta, ca, Fa, rfl, hRa, rfl, hsa, hna, hva⟩; have hoa := hsa.R.one; obtain ⟨x1, x2, x3, x4, x5, x6, x7, x8, x9, rfl⟩ := T5 hsa; replace hsa := hsa.mono (B0.anti hle0); replace hb2 := hle1 _ _ hb2; have hle01 := hle0.trans hle1)
  (refine D1 (I4 rfl rfl rfl (by omega) (by unfold maxLen; omega) rfl) rfl ?_; rintro _ ⟨b605, rfl⟩)
  (have hcc : C6 S = 37 := (by rw [hc]; exact E9 (b := 37) (by show _ = (37 : Int); omega)); refine N4 (cs := [x1, x2, x3, x4, x5, x6, x7, x8, x9]) (by repeat (first | exact Pk.here | apply Pk.there)) (fun G7 hle7 hsl7 hno7 => ?_); obtain ⟨F7, f1, f2⟩ := A0g (k := 12) (num := 0) (lb := 0) (nm := ⟨#[]⟩) (ty := A4) (fr := A4) ⟨by decide, by decide⟩ ⟨by decide, by decide⟩ ⟨by decide, by decide⟩ hle01 hle7 (R9 _) (R9 _) (A0h hsa) (by simpa using hna) hsl7 hno7; obtain ⟨d1, d2⟩ := A7t (S := K9 S) (k := 12) hva; refine J9 rfl (A1P _ _ _ _ _) rfl rfl ?_)
  refine S0 rfl rfl rfl rfl (by exact f1.R.one) rfl (by repeat first | exact Sw.here | apply Sw.there) (by rfl) ?_
  refine sD (nS (tT (rB (rS ?_))))
  refine B2 (outs := [.blk b _]) (rC rfl (A7 rfl rfl)) (.cons (by repeat (first | exact Pk.here | apply Pk.there)) .nil) ?_
  (have hcc : C6 S = 37 := (by rw [hc]; exact E9 (b := 37) (by show _ = (37 : Int); omega)); rw [B0Y hcc]; exact ⟨csa, _, _, F7, rfl, by rw [d1]; exact hRa, rfl, f1, f2, d2⟩)
  refine sQ (qA rfl) rfl (sD (nS (cF rfl (tS (tR ?_)))))
  refine sB (qE rfl rfl) rfl rfl (fun h621 => ?_) (fun h621 => ?_)
  refine sQ (qA rfl) rfl (sD (nS (qT rfl (tS (tR ?_)))))
  refine sL (J2 rfl rfl (M6 hb2 (fun j v h => by simpa using h))) rfl rfl ?_
  refine sQ (qM rfl) rfl ?_
  (have hcc : C6 S = 40 := (by rw [hc]; exact E9 (b := 40) (by show _ = (40 : Int); omega)); have hP := B0O b (D5 n) 152 [] _ G0 hE0 hsub (K9 S) _ hR1; refine B4 rfl hP (Pk.perm (by repeat (first | exact Pk.here | apply Pk.there))) rfl rfl (fun v G1 outs hle1 hh => ?_); obtain ⟨csa, ta, ca, Fa, rfl, hRa, rfl, hsa, hna, hva⟩ := hh; have hoa := hsa.R.one; obtain ⟨x1, x2, x3, x4, x5, x6, x7, x8, x9, rfl⟩ := T5 hsa; have hrnd : True := trivial)
  refine sS rfl rfl rfl rfl hoa rfl ?_
  refine sD (nS (tT (rB (rS ?_))))
  refine B2 (outs := [.blk b _]) (rC rfl (A7 rfl rfl)) (.cons (by repeat (first | exact Pk.here | apply Pk.there)) .nil) ?_
  (rw [B0Z hcc]; exact ⟨csa, ta, _, Fa, rfl, hRa, rfl, hsa.mono (B0.anti hle0), hna, hva⟩)
  refine C2 ?_
  refine sL (J2 rfl rfl (M6 hb2 (fun j v h => by simpa using h))) rfl rfl ?_
  refine sQ (A6 rfl) rfl ?_
  refine I3 ?_
  refine B2 (outs := [.blk b _]) (rC rfl (A7 rfl rfl)) (.cons (by repeat (first | exact Pk.here | apply Pk.there)) .nil) ?_
  (rw [A4L (n := n) (by rw [hc]; omega) (by rw [hc]; unfold D9; omega) (by rw [hc]; exact E4 (by show _ ≠ (84 : Int); omega)) (by rw [hc]; exact E4 (by show _ ≠ (70 : Int); omega)) (by rw [hc]; exact E4 (by show _ ≠ (33 : Int); omega)) (by rw [hc]; exact E4 (by show _ ≠ (123 : Int); omega)) (by rw [hc]; exact E4 (by show _ ≠ (91 : Int); omega)) (by rw [hc]; exact E4 (by show _ ≠ (36 : Int); omega)) (by rw [hc]; exact E4 (by show _ ≠ (37 : Int); omega)) (by rw [hc]; exact E4 (by show _ ≠ (40 : Int); omega))]; exact ⟨_, _, _, [], rfl, hnB, rfl, A1b _ ⟨#[]⟩ (k := 0) (num := 0) ⟨by decide, by decide⟩ ⟨by decide, by decide⟩, List.nodup_nil, fun x hx => by cases hx⟩)
theorem A7w (k : Nat) : strOfNums [W5 k] = (⟨[UInt8.ofNat (48 + k % 10)].toArray⟩ : ByteArray) := by
 have : (W5 k).toNat = 48 + k % 10 := by unfold W5; omega
 simp [strOfNums, this]
theorem B05 (a b : List UInt8) : (⟨a.toArray⟩ : ByteArray) ++ ⟨b.toArray⟩ = ⟨(a ++ b).toArray⟩ := by
 apply ByteArray.ext; simp
theorem B06 {k : Nat} {out : ByteArray} (h : 9 < k) : (⟨(Lib.decDigits (k / 10)).toArray⟩ : ByteArray) ++ (strOfNums [W5 k] ++ out) = ⟨(Lib.decDigits k).toArray⟩ ++ out := by
 have e : (⟨(Lib.decDigits k).toArray⟩ : ByteArray) = ⟨(Lib.decDigits (k / 10)).toArray⟩ ++ ⟨[UInt8.ofNat (48 + k % 10)].toArray⟩ := by
  rw [B05 (Lib.decDigits (k / 10))]
  congr 2
  rw [Lib.decDigits, dif_neg (by omega)]
 rw [e, A7w, ByteArray.append_assoc]
theorem B07 {k : Nat} {out : ByteArray} (h : ¬9 < k) : strOfNums [W5 k] ++ out = ⟨(Lib.decDigits k).toArray⟩ ++ out := by
 rw [A7w, Lib.decDigits, dif_pos (by omega), Nat.mod_eq_of_lt (by omega)]
theorem B08 {k : Nat} (h : ¬9 < k) : W5 k = 48 + (k : Int) := by unfold W5; omega
theorem B09 (k : Nat) (hk : k < 10000) (G : IM) : Fn Tryz.prog 89 [.int .i64 (k : Int)] [] G (J8 (.string ⟨(Lib.decDigits k).toArray⟩) G) := by
 refine B5 Tryz.func89 rfl Tryz.ntmps89 Tryz.results89 rfl ?_
 intro w0
 refine C2 ?_
 refine sP (S1 rfl rfl (by omega)) rfl rfl ?_
 refine C2 ?_
 refine sP (S1 rfl rfl (by omega)) rfl rfl ?_
 refine I3 ?_
 refine D2 (Q5 (fun (x : Nat × ByteArray) => ⟨[(0, .int .i64 (x.1 : Int)), (2, .string ⟨#[]⟩), (3, .string x.2)], [], G⟩) (fun x => x.1 < 10000 ∧ x.1 + x.2.size < 10020 ∧ (⟨(Lib.decDigits x.1).toArray⟩ : ByteArray) ++ x.2 = ⟨(Lib.decDigits k).toArray⟩) (fun x => x.1) (k, ⟨#[]⟩) ?_ ?_ ?_)
 (simp only [P3]; exact I9)
 (dsimp only; exact ⟨hk, by have : (⟨#[]⟩ : ByteArray).size = 0 := rfl; omega, ByteArray.append_empty⟩)
 (rintro ⟨j, out⟩ ⟨hj, hsz, hd⟩; simp only [] at hj hsz hd ⊢)
 refine tS (tS (tR (sQ (qM rfl) rfl ?_)))
 refine sB (V8 rfl rfl) rfl rfl (fun h41 => ?_) (fun h41 => ?_)
 refine sD (nS (qT rfl (tK (nS ?_))))
 refine D2 ?_
 refine tS (tR (sQ (qM rfl) rfl ?_))
 refine sP (A3R (n := 10) rfl rfl (by omega)) rfl rfl ?_
 refine sP (O6 rfl rfl (by omega) (by omega)) rfl rfl ?_
 refine sP (A5B rfl rfl rfl (by omega) (by omega)) rfl rfl ?_
 (refine D1 (I4 rfl rfl rfl (by omega) (by unfold maxLen; omega) rfl) rfl ?_; rintro _ ⟨b54, rfl⟩)
 refine sL (A2T (xs := [W5 j]) rfl rfl rfl rfl rfl (U2 (by repeat first | exact mH | apply mT))) rfl rfl ?_
 refine sQ (qM rfl) rfl ?_
 (have hs1 := strOfNums_size [W5 j]; have hs2 : [W5 j].length = 1 := rfl; refine sP (A1g rfl rfl (by omega)) rfl rfl ?_)
 refine sQ (qA rfl) rfl (sD (nS (tR (sQ (qM rfl) rfl ?_))))
 refine sP (A3S (n := 10) rfl rfl (by omega) (by omega)) rfl rfl ?_
 refine sQ (qA rfl) rfl (sD (P7 ?_))
 refine P5 (j / 10, strOfNums [W5 j] ++ out) ?_ ?_ ?_
 (simp only [P3]; exact I9)
 (dsimp only; exact ⟨by omega, by (rw [ByteArray.size_append]; omega), by rw [← hd]; exact B06 (by omega)⟩)
 (show j / 10 < j; omega)
 refine I3 ?_
 refine sP (O6 rfl rfl (by omega) (by omega)) rfl rfl ?_
 refine sP (A5B rfl rfl rfl (by omega) (by omega)) rfl rfl ?_
 (refine D1 (I4 rfl rfl rfl (by omega) (by unfold maxLen; omega) rfl) rfl ?_; rintro _ ⟨b84, rfl⟩)
 (have hs9 := B08 (k := j) (by omega); refine sL (A2T (xs := [48 + (j : Int)]) rfl rfl rfl rfl rfl (U2 (by repeat first | exact mH | apply mT))) rfl rfl ?_; rw [← hs9])
 refine sQ (qM rfl) rfl ?_
 (have hs1 := strOfNums_size [W5 j]; have hs2 : [W5 j].length = 1 := rfl; refine sP (A1g rfl rfl (by omega)) rfl rfl ?_)
 refine sQ (qA rfl) rfl (sD (nS (tT (F0 (rT rfl) ?_))))
 exact ⟨rfl, by rw [B07 (by omega), hd], rfl⟩
section catlaws
variable {P : Program} {Γ : F8} {env : H1} {hp : List A1} {G : IM} {ty : TypeId}
theorem B1a (a b : A0) : B3 a ++ B3 b = B3 (a ++ b) := by
 apply ByteArray.ext
 simp [B3]
theorem B9 {x y : Operand} {t t' : TypeId} {a b : A0} (hx : evo env x = some (.string (B3 a))) (hy : evo env y = some (.string (B3 b))) (h : a.length + b.length ≤ 9223372036854775807) :
  C9 P Γ ⟨env, hp, G⟩ (.binOp .add t x y t') ty (.string (B3 (a ++ b))) := by
 have := A1g (P := P) (Γ := Γ) (hp := hp) (G := G) (t := t) (t' := t') (ty := ty) hx hy (by rw [I6, I6]; exact h)
 rwa [B1a] at this
end catlaws
theorem A3l (k : Int) (a b : Ty) : K6 (.mk k [a, b]) = 40 :: (K6 a ++ (V5 k :: (K6 b ++ [41]))) := by simp [K6, A07, tyN]
theorem A7x (k : Int) : K6 (.mk k []) = [V5 k] := by simp [K6, A07, tyN]
theorem B1b : ∀ (n : Nat) (t : Ty) (d : Int), H5 t d = true → 5 - d ≤ n → (K6 t).length + 3 ≤ 2 ^ (n + 1) := by
 intro n
 induction n with
 | zero => intro t d h hn; have := (A09 h).1; omega
 | succ m ih =>
  intro t d h hn
  obtain ⟨hd, hc⟩ := A09 h
  rcases hc with ⟨k, hk, rfl⟩ | ⟨k, a, b, hk, rfl, ha, hb⟩
  ·rw [A7x]
   have : 2 ^ 2 ≤ 2 ^ (m + 1 + 1) := Nat.pow_le_pow_right (by decide) (by omega)
   simp only [List.length_cons, List.length_nil]; omega
  ·have h1 := ih a (d + 1) ha (by omega)
   have h2 := ih b (d + 1) hb (by omega)
   rw [A3l]
   rw [Nat.pow_succ]
   simp only [List.length_cons, List.length_append, List.length_nil]; omega
theorem T0 {t : Ty} {d : Int} (h : H5 t d = true) (hd : 1 ≤ d) : (K6 t).length ≤ 29 := by
 have := B1b 4 t d h (by omega)
 have e : 2 ^ (4 + 1) = 32 := rfl
 omega
theorem B1c {j : Nat} (h : j < 5) : (B3 [63, 73, 66, 62, 42]).extract j (j + 1) = B3 [V5 ((j : Int) + 1)] := by
 rw [Z1]
 have : j = 0 ∨ j = 1 ∨ j = 2 ∨ j = 3 ∨ j = 4 := by omega
 rcases this with rfl | rfl | rfl | rfl | rfl <;> rfl
theorem B1d (j : Nat) (hj : j < 5) (G : IM) : Fn Tryz.prog 148 [.int .i64 ((j : Int) + 1)] [] G (J8 (.string (B3 [V5 ((j : Int) + 1)])) G) := by
 refine B5 Tryz.func148 rfl Tryz.ntmps148 Tryz.results148 rfl ?_
 intro w0
 refine E0 ?_
 (refine sP (A0V rfl rfl (by omega) (by omega)) rfl rfl ?_; rw [show (j : Int) + 1 - 1 = (j : Int) by omega])
 refine sQ (qM rfl) rfl ?_
 (refine sP (A0V rfl rfl (by omega) (by omega)) rfl rfl ?_; rw [show (j : Int) + 1 - 1 = (j : Int) by omega])
 refine sP (H4 (n := 1) rfl rfl (by omega)) rfl rfl ?_
 (refine sP (Y7 (s := B3 [63, 73, 66, 62, 42]) (l := j) (h := j + 1) rfl rfl rfl rfl (by omega) (by rw [I6]; simp only [List.length_cons, List.length_nil]; omega)) rfl rfl ?_; rw [B1c hj])
 refine sQ (qA rfl) rfl (sD (nS (tT (F0 (rT rfl) ?_))))
 (exact ⟨rfl, rfl, rfl⟩)
theorem A4M (k : Int) (hk : k = 1 ∨ k = 2 ∨ k = 3 ∨ k = 4 ∨ k = 5) (G : IM) : Fn Tryz.prog 148 [.int .i64 k] [] G (J8 (.string (B3 [V5 k])) G) := by
 obtain ⟨j, hj, rfl⟩ : ∃ j : Nat, j < 5 ∧ k = (j : Int) + 1 := ⟨(k - 1).toNat, by omega, by omega⟩
 exact B1d j hj G
theorem A3m : ∀ (t : Ty) (d : Int) (G : IM) (cells : List Value), H5 t d = true → 1 ≤ d → C5 G t cells → Fn Tryz.prog 86 [.agg ⟨cells⟩] [] G (J8 (.string (B3 (K6 t))) G) := by
 refine Ty.ind fun k ks ih d G cells hs hd hr => ?_
 obtain ⟨hd4, hc⟩ := A09 hs
 obtain ⟨p, c, es, rfl, hk, hsl, hkl⟩ := hr.open
 simp only [Ty.k, Ty.ks] at hk hsl hkl ⊢
 have hn := hsl.le
 rcases hc with ⟨k2, hkk, he⟩ | ⟨k2, a, b, hkk, he, ha, hb⟩
 ·cases he
  refine B5 Tryz.func86 rfl Tryz.ntmps86 Tryz.results86 rfl ?_
  intro w0
  refine tS (tR ?_)
  refine sE (K0 rfl rfl) rfl (fun b3 => ?_)
  refine C2 ?_
  refine sB (qE rfl rfl) rfl rfl (fun h13 => ?_) (fun h13 => ?_)
  refine B8 ?_
  refine J9 rfl ((A4M k (by omega) _)) rfl rfl ?_
  refine sQ (qA rfl) rfl (sD (nS (tT (rS (F0 (rT rfl) ?_)))))
  (rw [A7x]; exact ⟨rfl, rfl, rfl⟩)
  refine sD (nS (cF rfl (tK (nS (tS ?_)))))
  (exfalso; have hz : (([] : List Ty).length : Int) = 0 := rfl; omega)
 ·cases he
  have la := T0 ha (by omega)
  have lb := T0 hb (by omega)
  obtain ⟨bx, ox, q0, d0, rfl, hat0, hre0, hg0⟩ := hsl.kidTy hkl (i := 0) (by simp) (by simp)
  obtain ⟨_, _, q1, d1, hp1, hat1, hre1, hg1⟩ := hsl.kidTy hkl (i := 1) (by simp) (by simp)
  cases hp1
  have h0 := ih a (by simp) (d + 1) G _ ha (by omega) hre0
  have h1 := ih b (by simp) (d + 1) G _ hb (by omega) hre1
  refine B5 Tryz.func86 rfl Tryz.ntmps86 Tryz.results86 rfl ?_
  intro w0
  refine tS (tR ?_)
  refine sE (K0 rfl rfl) rfl (fun b3 => ?_)
  refine C2 ?_
  refine sB (qE rfl rfl) rfl rfl (fun h13 => ?_) (fun h13 => ?_)
  refine B8 ?_
  refine J9 rfl ((A4M k (by omega) _)) rfl rfl ?_
  refine sQ (qA rfl) rfl (sD (nS (tT (rS (F0 (rT rfl) ?_)))))
  (exfalso; simp at *)
  refine sD (nS (cF rfl (tK (nS (tS ?_)))))
  refine I7 J0 rfl ?_
  refine H2 (i := 0) (l' := [tt,ff,ff,ff,ff,ff,ff,ff,ff,ff,ff,ff,ff,ff,ff,ff,ff,ff]) rfl E8 (A5 rfl) rfl (by kernel_rfl) rfl rfl ?_
  refine aL 1 rfl (C1 rfl rfl) rfl ?_
  refine aP 2 rfl (L9 (j := 0) rfl rfl rfl (by simp)) rfl ?_
  refine aL 3 rfl (C4 rfl rfl (hat0 _) rfl) rfl ?_
  refine aP 6 rfl (A5 rfl) rfl ?_
  refine aL 7 rfl (C1 rfl rfl) rfl ?_
  refine aP 10 rfl (A5 rfl) rfl ?_
  refine aL 11 rfl (C1 rfl rfl) rfl ?_
  refine aP 12 rfl (L9 (j := 1) rfl rfl rfl (by simp)) rfl ?_
  refine aL 13 rfl (C4 rfl rfl (hat1 _) rfl) rfl ?_
  refine A8 4 ?_
  refine M3 rfl rfl (h0) rfl rfl rfl ?_
  refine aP 5 rfl (B9 rfl rfl (by simp only [List.length_append, List.length_cons, List.length_nil]; omega)) rfl ?_
  refine A8 8 ?_
  refine M3 rfl rfl ((A4M k (by omega) _)) rfl rfl rfl ?_
  refine aP 9 rfl (B9 rfl rfl (by simp only [List.length_append, List.length_cons, List.length_nil]; omega)) rfl ?_
  refine A8 14 ?_
  refine M3 rfl rfl (h1) rfl rfl rfl ?_
  refine aP 15 rfl (B9 rfl rfl (by simp only [List.length_append, List.length_cons, List.length_nil]; omega)) rfl ?_
  refine aP 16 rfl (B9 rfl rfl (by simp only [List.length_append, List.length_cons, List.length_nil]; omega)) rfl ?_
  refine aP 17 rfl (qA rfl) rfl ?_
  refine M7 (nS (tT (F0 (rT rfl) ?_)))
  (rw [A3l]; exact ⟨rfl, by simp, rfl⟩)
theorem A1Y : ∀ (t : Ty) (d : Int) (G : IM) (cells : List Value), H5 t d = true → 1 ≤ d → C5 G t cells → Fn Tryz.prog 90 [.agg ⟨cells⟩] [] G (J8 (.string (B3 (K6 t))) G) := by
 refine Ty.ind fun k ks ih d G cells hs hd hr => ?_
 obtain ⟨hd4, hc⟩ := A09 hs
 obtain ⟨p, c, es, rfl, hk, hsl, hkl⟩ := hr.open
 simp only [Ty.k, Ty.ks] at hk hsl hkl ⊢
 have hn := hsl.le
 rcases hc with ⟨k2, hkk, he⟩ | ⟨k2, a, b, hkk, he, ha, hb⟩
 ·cases he
  refine B5 Tryz.func90 rfl Tryz.ntmps90 Tryz.results90 rfl ?_
  intro w0
  refine tS (tR ?_)
  refine sE (K0 rfl rfl) rfl (fun b3 => ?_)
  refine O2 ?_
  refine D2 (tS (tR (sB (qE rfl rfl) rfl rfl (fun h17 => ?_) (fun h17 => ?_))))
  refine H3 ?_
  (obtain rfl : k = 1 := (by omega); exact ⟨rfl, rfl, rfl⟩)
  refine sQ (qA rfl) rfl (sD (nS (cF rfl (tS (tR ?_)))))
  refine sB (qE rfl rfl) rfl rfl (fun h38 => ?_) (fun h38 => ?_)
  refine H3 ?_
  (obtain rfl : k = 2 := (by omega); exact ⟨rfl, rfl, rfl⟩)
  refine sQ (qA rfl) rfl (sD (nS (cF rfl (tS (tR ?_)))))
  refine sP (Z9 rfl rfl (by omega)) rfl rfl ?_
  refine H3 ?_
  (obtain rfl : k = 3 := (by omega); exact ⟨rfl, rfl, rfl⟩)
 ·cases he
  have la := T0 ha (by omega)
  have lb := T0 hb (by omega)
  obtain ⟨bx, ox, q0, d0, rfl, hat0, hre0, hg0⟩ := hsl.kidTy hkl (i := 0) (by simp) (by simp)
  obtain ⟨_, _, q1, d1, hp1, hat1, hre1, hg1⟩ := hsl.kidTy hkl (i := 1) (by simp) (by simp)
  cases hp1
  have h0 := ih a (by simp) (d + 1) G _ ha (by omega) hre0
  have h1 := ih b (by simp) (d + 1) G _ hb (by omega) hre1
  refine B5 Tryz.func90 rfl Tryz.ntmps90 Tryz.results90 rfl ?_
  intro w0
  refine tS (tR ?_)
  refine sE (K0 rfl rfl) rfl (fun b3 => ?_)
  refine O2 ?_
  refine D2 ?_
  refine tS (tR ?_)
  refine sP (I0 rfl rfl (by omega)) rfl rfl ?_
  refine sQ (qA rfl) rfl (sD (nS (cF rfl (tS (tR ?_)))))
  refine sP (I0 rfl rfl (by omega)) rfl rfl ?_
  refine sQ (qA rfl) rfl (sD (nS (cF rfl (tS (tR ?_)))))
  refine sP (I0 rfl rfl (by omega)) rfl rfl ?_
  refine W1 ?_
  refine sB (qE rfl rfl) rfl rfl (fun h49 => ?_) (fun h49 => ?_)
  refine sD (nS (qT rfl (tR (sQ (qA rfl) rfl (sD (nS (tS ?_)))))))
  refine I7 J0 rfl ?_
  refine H2 (i := 0) (l' := [tt,ff,ff,ff,ff,ff,ff,ff,ff,ff,ff,ff,ff,ff,ff,ff]) rfl E8 (A5 rfl) rfl (by kernel_rfl) rfl rfl ?_
  refine aL 1 rfl (C1 rfl rfl) rfl ?_
  refine aP 2 rfl (L9 (j := 0) rfl rfl rfl (by simp)) rfl ?_
  refine aL 3 rfl (C4 rfl rfl (hat0 _) rfl) rfl ?_
  refine aP 6 rfl (qM rfl) rfl ?_
  refine aP 8 rfl (A5 rfl) rfl ?_
  refine aL 9 rfl (C1 rfl rfl) rfl ?_
  refine aP 10 rfl (L9 (j := 1) rfl rfl rfl (by simp)) rfl ?_
  refine aL 11 rfl (C4 rfl rfl (hat1 _) rfl) rfl ?_
  refine A8 4 ?_
  refine M3 rfl rfl (h0) rfl rfl rfl ?_
  refine aP 5 rfl (B9 rfl rfl (by simp only [List.length_append, List.length_cons, List.length_nil]; omega)) rfl ?_
  refine aP 7 rfl (B9 rfl rfl (by simp only [List.length_append, List.length_cons, List.length_nil]; omega)) rfl ?_
  refine A8 12 ?_
  refine M3 rfl rfl (h1) rfl rfl rfl ?_
  refine aP 13 rfl (B9 rfl rfl (by simp only [List.length_append, List.length_cons, List.length_nil]; omega)) rfl ?_
  refine aP 14 rfl (B9 rfl rfl (by simp only [List.length_append, List.length_cons, List.length_nil]; omega)) rfl ?_
  refine aP 15 rfl (qA rfl) rfl ?_
  refine M7 (nS (tT (F0 (rT rfl) ?_)))
  (obtain rfl : k = 5 := (by omega); rw [A3l]; exact ⟨rfl, by simp [V5], rfl⟩)
  refine sD (nS (cF rfl (tK (nS (tS ?_)))))
  refine I7 J0 rfl ?_
  refine H2 (i := 0) (l' := [tt,ff,ff,ff,ff,ff,ff,ff,ff,ff,ff,ff,ff,ff,ff,ff]) rfl E8 (A5 rfl) rfl (by kernel_rfl) rfl rfl ?_
  refine aL 1 rfl (C1 rfl rfl) rfl ?_
  refine aP 2 rfl (L9 (j := 0) rfl rfl rfl (by simp)) rfl ?_
  refine aL 3 rfl (C4 rfl rfl (hat0 _) rfl) rfl ?_
  refine aP 6 rfl (qM rfl) rfl ?_
  refine aP 8 rfl (A5 rfl) rfl ?_
  refine aL 9 rfl (C1 rfl rfl) rfl ?_
  refine aP 10 rfl (L9 (j := 1) rfl rfl rfl (by simp)) rfl ?_
  refine aL 11 rfl (C4 rfl rfl (hat1 _) rfl) rfl ?_
  refine A8 4 ?_
  refine M3 rfl rfl (h0) rfl rfl rfl ?_
  refine aP 5 rfl (B9 rfl rfl (by simp only [List.length_append, List.length_cons, List.length_nil]; omega)) rfl ?_
  refine aP 7 rfl (B9 rfl rfl (by simp only [List.length_append, List.length_cons, List.length_nil]; omega)) rfl ?_
  refine A8 12 ?_
  refine M3 rfl rfl (h1) rfl rfl rfl ?_
  refine aP 13 rfl (B9 rfl rfl (by simp only [List.length_append, List.length_cons, List.length_nil]; omega)) rfl ?_
  refine aP 14 rfl (B9 rfl rfl (by simp only [List.length_append, List.length_cons, List.length_nil]; omega)) rfl ?_
  refine aP 15 rfl (qA rfl) rfl ?_
  refine M7 (nS (tT (F0 (rT rfl) ?_)))
  (obtain rfl : k = 4 := (by omega); rw [A3l]; exact ⟨rfl, by simp [V5], rfl⟩)
theorem R5 {l : A0} {i : Nat} (h : i < l.length) : (B3 l)[((i : Nat) : Int).toNat]? = some (l.getD i 0) := by
 rw [A2y h, List.getD_eq_getElem?_getD, List.getElem?_eq_getElem h]; rfl
theorem Z2 {l : A0} {i : Nat} (h : i < l.length) : l.drop i = l.getD i 0 :: l.drop (i + 1) := by
 rw [List.drop_eq_getElem_cons h, List.getD_eq_getElem?_getD, List.getElem?_eq_getElem h]; rfl
theorem A1v {l : A0} {i : Nat} (h : l.length ≤ i) : l.drop i = [] := List.drop_eq_nil_of_le h
theorem Z3 {l : A0} {i : Nat} (h : i < l.length) : P0 (l.drop i) = some (l.getD i 0, l.drop (i + 1)) := by rw [Z2 h]; rfl
theorem A4N {l : A0} {i : Nat} (h : l.length ≤ i) : P0 (l.drop i) = none := by rw [A1v h]; rfl
theorem A0i {l : A0} {i : Nat} {c : UInt8} (h : i < l.length) (hc : l.getD i 0 = c) : C3 c (l.drop i) = some (l.drop (i + 1)) := by rw [Z2 h, C3, if_pos hc]
theorem A0T {l : A0} {i : Nat} {c : UInt8} (h : i < l.length) (hc : l.getD i 0 ≠ c) : C3 c (l.drop i) = none := by rw [Z2 h, C3, if_neg hc]
theorem A1d {l : A0} {i : Nat} {c : UInt8} (h : l.length ≤ i) : C3 c (l.drop i) = none := by rw [A1v h]; rfl
def A4O {α : Type} (L : A0) (m : Option (α × A0)) (t : α) (next : Int) : Prop := (m = none ∧ next = -1) ∨ (∃ nx : Nat, m = some (t, L.drop nx) ∧ next = (nx : Int) ∧ nx ≤ L.length)
def Q4 (L : A0) (m : Option (Ty × A0)) : IM → Value → List A1 → Prop := I1 fun G' v => ∃ t cells next, v = .tuple ⟨[.agg ⟨cells⟩, .int .i64 next]⟩ ∧ C5 G' t cells ∧ A4O L m t next
theorem Q4.no {L : A0} {m : Option (Ty × A0)} {G : IM} (h : m = none) : Q4 L m G (.tuple ⟨[.agg ⟨[.int .i64 0, .slice none 0 0]⟩, .int .i64 (-1)]⟩) [] := ⟨rfl, A4, _, _, rfl, X8 G, .inl ⟨h, rfl⟩⟩
theorem Q4.yes {L : A0} {m : Option (Ty × A0)} {G : IM} {t : Ty} {cells : List Value} {nx : Nat} (hr : C5 G t cells) (h : m = some (t, L.drop nx)) (hn : nx ≤ L.length) : Q4 L m G (.tuple ⟨[.agg ⟨cells⟩, .int .i64 (nx : Int)]⟩) [] := ⟨rfl, t, cells, _, rfl, hr, .inr ⟨nx, h, rfl, hn⟩⟩
theorem B1e (n : Nat) : J7 n [] = none := by cases n <;> rfl
theorem A1Z (n : Nat) (r : A0) : J7 (n + 1) (40 :: r) = (J7 n r).bind fun x => (P0 x.2).bind fun o => (J7 n o.2).bind fun z => if o.1 = 62 ∨ o.1 = 42 then (C3 41 z.2).map fun w => (.mk (if o.1 = 62 then 4 else 5) [x.1, z.1], w) else none := by
 rw [J7, if_neg (by decide), if_neg (by decide), if_neg (by decide), if_pos rfl]
theorem B1f (n : Nat) {c : UInt8} (r : A0) (h1 : c ≠ 63) (h2 : c ≠ 73) (h3 : c ≠ 66) (h4 : c ≠ 40) : J7 (n + 1) (c :: r) = none := by
 rw [J7, if_neg h1, if_neg h2, if_neg h3, if_neg h4]
theorem B1g {n : Nat} {L : A0} {r : A0} {t : Ty} {nx : Nat} (hm : J7 n r = some (t, L.drop nx)) (h : L.length ≤ nx) : J7 (n + 1) (40 :: r) = none := by
 rw [A1Z, hm]; simp only [Option.bind_some]; rw [A4N h]; rfl
theorem A4P {n : Nat} {L : A0} {r : A0} {t : Ty} {nx : Nat} (hm : J7 n r = some (t, L.drop nx)) (h : nx < L.length) (h2 : J7 n (L.drop (nx + 1)) = none) : J7 (n + 1) (40 :: r) = none := by
 rw [A1Z, hm]; simp only [Option.bind_some]; rw [Z3 h]; simp only [Option.bind_some]; rw [h2]; rfl
theorem B1h {n : Nat} {L : A0} {r : A0} {t u : Ty} {nx ny : Nat} (hm : J7 n r = some (t, L.drop nx)) (h : nx < L.length) (h2 : J7 n (L.drop (nx + 1)) = some (u, L.drop ny)) (h3 : L.getD nx 0 ≠ 62) (h4 : L.getD nx 0 ≠ 42) : J7 (n + 1) (40 :: r) = none := by
 rw [A1Z, hm]; simp only [Option.bind_some]; rw [Z3 h]; simp only [Option.bind_some]; rw [h2]; simp only [Option.bind_some]; rw [if_neg (by rintro (h | h); exact h3 h; exact h4 h)]
theorem A3n {n : Nat} {L : A0} {r : A0} {t u : Ty} {nx ny : Nat} (hm : J7 n r = some (t, L.drop nx)) (h : nx < L.length) (h2 : J7 n (L.drop (nx + 1)) = some (u, L.drop ny)) (h5 : C3 41 (L.drop ny) = none) : J7 (n + 1) (40 :: r) = none := by
 rw [A1Z, hm]; simp only [Option.bind_some]; rw [Z3 h]; simp only [Option.bind_some]; rw [h2]; simp only [Option.bind_some]; split <;> simp [h5]
theorem A7y {n : Nat} {L : A0} {r : A0} {t u : Ty} {nx ny : Nat} (hm : J7 n r = some (t, L.drop nx)) (h : nx < L.length) (h2 : J7 n (L.drop (nx + 1)) = some (u, L.drop ny)) {k : Int} (h3 : (L.getD nx 0 = 62 ∧ k = 4) ∨ (L.getD nx 0 = 42 ∧ k = 5)) (h4 : ny < L.length) (h5 : L.getD ny 0 = 41) : J7 (n + 1) (40 :: r) = some (.mk k [t, u], L.drop (ny + 1)) := by
 rw [A1Z, hm]; simp only [Option.bind_some]; rw [Z3 h]; simp only [Option.bind_some]; rw [h2]; simp only [Option.bind_some]
 rw [A0i h4 h5]
 rcases h3 with ⟨h3, rfl⟩ | ⟨h3, rfl⟩ <;> rw [h3] <;> rfl
theorem A4Q (L : A0) (hL : L.length ≤ 4294967296) : ∀ (n a : Nat) (G : IM), n ≤ 100 → a ≤ L.length → Fn Tryz.prog 166 [.string (B3 L), .int .i64 (a : Int), .int .i64 (n : Int)] [] G (Q4 L (J7 n (L.drop a))) := by
 intro n
 induction n with
 | zero =>
  intro a G hn ha
  refine B5 Tryz.func166 rfl Tryz.ntmps166 Tryz.results166 rfl ?_
  intro w0
  refine tS (tR ?_)
  refine sE (C0 rfl) rfl (fun b3 => ?_)
  refine B8 ?_
  refine sP (X5 rfl rfl (by omega)) rfl rfl ?_
  refine A1E ?_
  refine C8 (rC rfl (A7 rfl rfl)) (rT rfl) ?_
  (exact Q4.no rfl)
 | succ n ih =>
  intro a G hn ha
  have hsz := I6 L
  have hnil : L.length ≤ a → J7 (n + 1) (L.drop a) = none := fun h => by rw [A1v h]; exact B1e _
  obtain ⟨c, hc⟩ : ∃ c, L.getD a 0 = c := ⟨_, rfl⟩
  have hcs := fun h : a < L.length => by have := Z2 h; rw [hc] at this; exact this
  refine B5 Tryz.func166 rfl Tryz.ntmps166 Tryz.results166 rfl ?_
  intro w0
  refine tS (tR ?_)
  refine sE (C0 rfl) rfl (fun b3 => ?_)
  refine B8 ?_
  refine sP (S1 rfl rfl (by omega)) rfl rfl ?_
  refine sQ (qM rfl) rfl (sQ (qM rfl) rfl ?_)
  refine sP (S1 rfl rfl (by omega)) rfl rfl ?_
  refine I5 ?_
  refine sQ (M0 rfl rfl) rfl (sB (P6 rfl rfl) rfl rfl (fun h20 => ?_) (fun h20 => ?_))
  refine H3 ?_
  refine C8 (rC rfl (A7 rfl rfl)) (rT rfl) ?_
  (exact Q4.no (hnil (by omega)))
  refine I3 ?_
  (have hal : a < L.length := (by omega); refine sP (N1 rfl rfl rfl (by omega) (R5 hal)) rfl rfl ?_; rw [hc])
  refine sD (nS ?_)
  refine D2 (tS (tR (sB (qE rfl rfl) rfl rfl (fun h53 => ?_) (fun h53 => ?_))))
  refine E0 ?_
  refine sP (H4 (n := 1) rfl rfl (by omega)) rfl rfl ?_
  refine I8 ?_
  refine sQ (qA rfl) rfl (sD (nS (tT (rB (rS ?_)))))
  refine C8 (rC rfl (A7 rfl rfl)) (rT rfl) ?_
  (obtain rfl : c = 63 := E9 (b := 63) (by show _ = (63 : Int); omega); rw [hcs hal]; exact Q4.yes (A4e _ ⟨by decide, by decide⟩) rfl (by omega))
  refine sQ (qA rfl) rfl (sD (nS (cF rfl (tS (tR ?_)))))
  refine sB (qE rfl rfl) rfl rfl (fun h78 => ?_) (fun h78 => ?_)
  refine E0 ?_
  refine sP (H4 (n := 1) rfl rfl (by omega)) rfl rfl ?_
  refine I8 ?_
  refine sQ (qA rfl) rfl (sD (nS (tT (rB (rS ?_)))))
  refine C8 (rC rfl (A7 rfl rfl)) (rT rfl) ?_
  (obtain rfl : c = 73 := E9 (b := 73) (by show _ = (73 : Int); omega); rw [hcs hal]; exact Q4.yes (A4e _ ⟨by decide, by decide⟩) rfl (by omega))
  refine sQ (qA rfl) rfl (sD (nS (cF rfl (tS (tR ?_)))))
  refine sB (qE rfl rfl) rfl rfl (fun h103 => ?_) (fun h103 => ?_)
  refine E0 ?_
  refine sP (H4 (n := 1) rfl rfl (by omega)) rfl rfl ?_
  refine I8 ?_
  refine sQ (qA rfl) rfl (sD (nS (tT (rB (rS ?_)))))
  refine C8 (rC rfl (A7 rfl rfl)) (rT rfl) ?_
  (obtain rfl : c = 66 := E9 (b := 66) (by show _ = (66 : Int); omega); rw [hcs hal]; exact Q4.yes (A4e _ ⟨by decide, by decide⟩) rfl (by omega))
  refine sQ (qA rfl) rfl (sD (nS (cF rfl (tS (tR ?_)))))
  refine sB (qE rfl rfl) rfl rfl (fun h128 => ?_) (fun h128 => ?_)
  refine E0 ?_
  refine sP (H4 (n := 1) rfl rfl (by omega)) rfl rfl ?_
  refine sQ (qM rfl) rfl ?_
  refine sP (X7 rfl rfl (by omega)) rfl rfl ?_
  focus (refine L5 rfl (ih (a + 1) G (by omega) (by omega)) rfl rfl (fun v G1 hle1 hh => ?_); obtain ⟨ta, ca, na, rfl, hra, hm⟩ := hh; obtain ⟨pa, cca, ea, rfl, _⟩ := hra.open; rcases hm with ⟨hm, rfl⟩ | ⟨nx, hm, rfl, hnx⟩; rotate_left; obtain ⟨o, ho⟩ : ∃ o, L.getD nx 0 = o := ⟨_, rfl⟩; rotate_left)
  refine F9 ?_
  refine sE (C0 rfl) rfl (fun b144 => ?_)
  refine E0 ?_
  refine sP (X5 rfl rfl (by omega)) rfl rfl ?_
  refine Y5 ?_
  refine C8 (rC rfl (A7 rfl rfl)) (rT rfl) ?_
  (obtain rfl : c = 40 := E9 (b := 40) (by show _ = (40 : Int); omega); rw [hcs hal]; exact Q4.no (by rw [A1Z, hm]; rfl))
  refine F9 ?_
  refine sE (C0 rfl) rfl (fun b179 => ?_)
  refine E0 ?_
  refine sP (S1 rfl rfl (by omega)) rfl rfl ?_
  refine sQ (qM rfl) rfl (sQ (qM rfl) rfl (sQ (qM rfl) rfl ?_))
  refine sQ (M0 rfl rfl) rfl (sB (P6 rfl rfl) rfl rfl (fun h193 => ?_) (fun h193 => ?_))
  refine L6 ?_
  refine C8 (rC rfl (A7 rfl rfl)) (rT rfl) ?_
  (obtain rfl : c = 40 := E9 (b := 40) (by show _ = (40 : Int); omega); rw [hcs hal]; exact Q4.no (B1g hm (by omega)))
  refine M8 ?_
  (have hnl : nx < L.length := (by omega); refine sP (N1 rfl rfl rfl (by omega) (R5 hnl)) rfl rfl ?_; rw [ho])
  refine sB (qE rfl rfl) rfl rfl (fun h228 => ?_) (fun h228 => ?_)
  refine I3 ?_
  refine sP (H4 (n := 1) rfl rfl (by omega)) rfl rfl ?_
  refine sQ (qM rfl) rfl ?_
  refine sP (X7 rfl rfl (by omega)) rfl rfl ?_
  focus (refine L5 rfl (ih (nx + 1) G1 (by omega) (by omega)) rfl rfl (fun v G2 hle2 hh => ?_); obtain ⟨tb, cb, nb, rfl, hrb, hm2⟩ := hh; obtain ⟨pb, ccb, eb, rfl, _⟩ := hrb.open; replace hra := hra.mono hle2; rcases hm2 with ⟨hm2, rfl⟩ | ⟨ny, hm2, rfl, hny⟩; rotate_left; obtain ⟨q, hq⟩ : ∃ q, L.getD ny 0 = q := ⟨_, rfl⟩; rotate_left)
  refine F9 ?_
  refine sE (C0 rfl) rfl (fun b247 => ?_)
  refine C2 ?_
  (have hnl : nx < L.length := (by omega); refine sP (N1 rfl rfl rfl (by omega) (R5 hnl)) rfl rfl ?_; rw [ho])
  refine sP (A1B rfl rfl (by omega)) rfl rfl ?_
  refine E0 ?_
  refine sP (X5 rfl rfl (by omega)) rfl rfl ?_
  refine A5o ?_
  refine C8 (rC rfl (A7 rfl rfl)) (rT rfl) ?_
  (obtain rfl : c = 40 := E9 (b := 40) (by show _ = (40 : Int); omega); rw [hcs hal]; exact Q4.no (A4P hm hnl hm2))
  refine F9 ?_
  refine sE (C0 rfl) rfl (fun b300 => ?_)
  refine C2 ?_
  (have hnl : nx < L.length := (by omega); refine sP (N1 rfl rfl rfl (by omega) (R5 hnl)) rfl rfl ?_; rw [ho])
  refine sP (A1B rfl rfl (by omega)) rfl rfl ?_
  refine E0 ?_
  refine sP (S1 rfl rfl (by omega)) rfl rfl ?_
  refine I5 ?_
  refine sQ (M0 rfl rfl) rfl (sB (P6 rfl rfl) rfl rfl (fun h326 => ?_) (fun h326 => ?_))
  refine A0o ?_
  refine C8 (rC rfl (A7 rfl rfl)) (rT rfl) ?_
  (obtain rfl : c = 40 := E9 (b := 40) (by show _ = (40 : Int); omega); rw [hcs hal]; exact Q4.no (A3n hm hnl hm2 (A1d (by omega))))
  refine I5 ?_
  (have hyl : ny < L.length := (by omega); refine sP (N1 rfl rfl rfl (by omega) (R5 hyl)) rfl rfl ?_; rw [hq])
  refine sB (N8 rfl rfl) rfl rfl (fun h355 => ?_) (fun h355 => ?_)
  refine L6 ?_
  refine C8 (rC rfl (A7 rfl rfl)) (rT rfl) ?_
  (obtain rfl : c = 40 := E9 (b := 40) (by show _ = (40 : Int); omega); rw [hcs hal]; exact Q4.no (A3n hm hnl hm2 (A0T hyl (by rw [hq]; exact E4 (by show _ ≠ (41 : Int); omega)))))
  refine I3 ?_
  (refine D1 (I4 rfl rfl rfl (by omega) (by unfold maxLen; omega) rfl) rfl ?_; rintro _ ⟨b384, rfl⟩)
  refine sQ (W0 rfl rfl) rfl (sQ (qM rfl) rfl ?_)
  refine sP (H4 (n := 1) rfl rfl (by omega)) rfl rfl ?_
  refine I8 ?_
  refine sQ (qA rfl) rfl (sD (nS ?_))
  (refine Y4 (by repeat (first | exact Pk.here | apply Pk.there)) (fun G5 hle5 hsl5 hno5 => ?_))
  refine tT (rB (rS ?_))
  refine C8 (rC rfl (A7 rfl rfl)) (rT rfl) ?_
  (obtain rfl : c = 40 := E9 (b := 40) (by show _ = (40 : Int); omega); rw [hcs hal]; exact Q4.yes (A6u ⟨by decide, by decide⟩ (hra.mono hle5) (hrb.mono hle5) hsl5) (A7y hm hnl hm2 (.inl ⟨by rw [ho]; exact E9 (b := 62) (by show _ = (62 : Int); omega), rfl⟩) hyl (by rw [hq]; exact E9 (b := 41) (by show _ = (41 : Int); omega))) (by omega))
  refine C2 ?_
  refine sP (H4 (n := 1) rfl rfl (by omega)) rfl rfl ?_
  refine sQ (qM rfl) rfl ?_
  refine sP (X7 rfl rfl (by omega)) rfl rfl ?_
  focus (refine L5 rfl (ih (nx + 1) G1 (by omega) (by omega)) rfl rfl (fun v G2 hle2 hh => ?_); obtain ⟨tb, cb, nb, rfl, hrb, hm2⟩ := hh; obtain ⟨pb, ccb, eb, rfl, _⟩ := hrb.open; replace hra := hra.mono hle2; rcases hm2 with ⟨hm2, rfl⟩ | ⟨ny, hm2, rfl, hny⟩; rotate_left; obtain ⟨q, hq⟩ : ∃ q, L.getD ny 0 = q := ⟨_, rfl⟩; rotate_left)
  refine F9 ?_
  refine sE (C0 rfl) rfl (fun b414 => ?_)
  refine C2 ?_
  (have hnl : nx < L.length := (by omega); refine sP (N1 rfl rfl rfl (by omega) (R5 hnl)) rfl rfl ?_; rw [ho])
  refine sP (V2 rfl rfl (by omega)) rfl rfl ?_
  refine sQ (qM rfl) rfl (sQ (qM rfl) rfl (sQ (qM rfl) rfl ?_))
  (have hnl : nx < L.length := (by omega); refine sP (N1 rfl rfl rfl (by omega) (R5 hnl)) rfl rfl ?_; rw [ho])
  refine sB (N8 rfl rfl) rfl rfl (fun h430 => ?_) (fun h430 => ?_)
  refine S7 ?_
  refine rS ?_
  refine C8 (rC rfl (A7 rfl rfl)) (rT rfl) ?_
  (obtain rfl : c = 40 := E9 (b := 40) (by show _ = (40 : Int); omega); rw [hcs hal]; exact Q4.no (A4P hm hnl hm2))
  refine sQ (L4 rfl rfl) rfl (sQ (qM rfl) rfl (sQ (qM rfl) rfl ?_))
  refine sP (X5 rfl rfl (by omega)) rfl rfl ?_
  refine A5o ?_
  refine C8 (rC rfl (A7 rfl rfl)) (rT rfl) ?_
  (obtain rfl : c = 40 := E9 (b := 40) (by show _ = (40 : Int); omega); rw [hcs hal]; exact Q4.no (A4P hm hnl hm2))
  refine F9 ?_
  refine sE (C0 rfl) rfl (fun b500 => ?_)
  refine C2 ?_
  (have hnl : nx < L.length := (by omega); refine sP (N1 rfl rfl rfl (by omega) (R5 hnl)) rfl rfl ?_; rw [ho])
  refine sP (V2 rfl rfl (by omega)) rfl rfl ?_
  refine sQ (qM rfl) rfl (sQ (qM rfl) rfl (sQ (qM rfl) rfl ?_))
  (have hnl : nx < L.length := (by omega); refine sP (N1 rfl rfl rfl (by omega) (R5 hnl)) rfl rfl ?_; rw [ho])
  refine sB (N8 rfl rfl) rfl rfl (fun h516 => ?_) (fun h516 => ?_)
  refine S7 ?_
  refine rS ?_
  refine C8 (rC rfl (A7 rfl rfl)) (rT rfl) ?_
  (obtain rfl : c = 40 := E9 (b := 40) (by show _ = (40 : Int); omega); rw [hcs hal]; exact Q4.no (B1h hm hnl hm2 (by rw [ho]; exact E4 (by show _ ≠ (62 : Int); omega)) (by rw [ho]; exact E4 (by show _ ≠ (42 : Int); omega))))
  refine sQ (L4 rfl rfl) rfl (sQ (qM rfl) rfl (sQ (qM rfl) rfl ?_))
  refine sP (S1 rfl rfl (by omega)) rfl rfl ?_
  refine I5 ?_
  refine sQ (M0 rfl rfl) rfl (sB (P6 rfl rfl) rfl rfl (fun h559 => ?_) (fun h559 => ?_))
  refine A0o ?_
  refine C8 (rC rfl (A7 rfl rfl)) (rT rfl) ?_
  (obtain rfl : c = 40 := E9 (b := 40) (by show _ = (40 : Int); omega); rw [hcs hal]; exact Q4.no (A3n hm hnl hm2 (A1d (by omega))))
  refine I5 ?_
  (have hyl : ny < L.length := (by omega); refine sP (N1 rfl rfl rfl (by omega) (R5 hyl)) rfl rfl ?_; rw [hq])
  refine sB (N8 rfl rfl) rfl rfl (fun h588 => ?_) (fun h588 => ?_)
  refine L6 ?_
  refine C8 (rC rfl (A7 rfl rfl)) (rT rfl) ?_
  (obtain rfl : c = 40 := E9 (b := 40) (by show _ = (40 : Int); omega); rw [hcs hal]; exact Q4.no (A3n hm hnl hm2 (A0T hyl (by rw [hq]; exact E4 (by show _ ≠ (41 : Int); omega)))))
  refine I3 ?_
  (refine D1 (I4 rfl rfl rfl (by omega) (by unfold maxLen; omega) rfl) rfl ?_; rintro _ ⟨b617, rfl⟩)
  refine sQ (W0 rfl rfl) rfl (sQ (qM rfl) rfl ?_)
  refine sP (H4 (n := 1) rfl rfl (by omega)) rfl rfl ?_
  refine I8 ?_
  refine sQ (qA rfl) rfl (sD (nS ?_))
  (refine Y4 (by repeat (first | exact Pk.here | apply Pk.there)) (fun G5 hle5 hsl5 hno5 => ?_))
  refine tT (rB (rS ?_))
  refine C8 (rC rfl (A7 rfl rfl)) (rT rfl) ?_
  (obtain rfl : c = 40 := E9 (b := 40) (by show _ = (40 : Int); omega); rw [hcs hal]; exact Q4.yes (A6u ⟨by decide, by decide⟩ (hra.mono hle5) (hrb.mono hle5) hsl5) (A7y hm hnl hm2 (.inr ⟨by rw [ho]; exact E9 (b := 42) (by show _ = (42 : Int); omega), rfl⟩) hyl (by rw [hq]; exact E9 (b := 41) (by show _ = (41 : Int); omega))) (by omega))
  refine L6 ?_
  refine C8 (rC rfl (A7 rfl rfl)) (rT rfl) ?_
  (rw [hcs hal]; exact Q4.no (B1f n _ (E4 (by show _ ≠ (63 : Int); omega)) (E4 (by show _ ≠ (73 : Int); omega)) (E4 (by show _ ≠ (66 : Int); omega)) (E4 (by show _ ≠ (40 : Int); omega))))
theorem B1i (acc : Nat) (l : A0) (c : UInt8) : R4 acc (l ++ [c]) = R4 acc l * 10 + (c.toNat - 48) := by unfold R4; rw [List.foldl_append]; rfl
theorem A7z {l : A0} {i : Nat} (h : i < l.length) : R4 0 (l.take (i + 1)) = R4 0 (l.take i) * 10 + ((l.getD i 0).toNat - 48) := by
 rw [List.take_succ_eq_append_getElem h, B1i, List.getD_eq_getElem?_getD, List.getElem?_eq_getElem h]; rfl
theorem A7A : ∀ (l : A0) (acc : Nat), (∀ c ∈ l, D9 c) → R4 acc l + 1 ≤ (acc + 1) * 10 ^ l.length
 | [], acc, _ => by rw [A3f]; simp
 | c :: r, acc, h => by
  have hc := h c List.mem_cons_self
  unfold D9 at hc
  have ih := A7A r (acc * 10 + (c.toNat - 48)) (fun x hx => h x (List.mem_cons_of_mem _ hx))
  rw [A08, List.length_cons, Nat.pow_succ, Nat.mul_comm (10 ^ r.length) 10, ← Nat.mul_assoc]
  exact Nat.le_trans ih (Nat.mul_le_mul_right _ (by omega))
theorem B1j {l : A0} (h : ∀ c ∈ l, D9 c) (i : Nat) : ∀ c ∈ l.take i, D9 c := fun c hc => h c (List.mem_of_mem_take hc)
theorem B1k {l : A0} (h : ∀ c ∈ l, D9 c) {i : Nat} (hi : i < l.length) : D9 (l.getD i 0) := by
 rw [List.getD_eq_getElem?_getD, List.getElem?_eq_getElem hi]; exact h _ (List.getElem_mem hi)
theorem A7B {l : A0} (h : ∀ c ∈ l, D9 c) (hl : l.length ≤ 4) (i : Nat) : R4 0 (l.take i) ≤ 9999 := by
 have h1 := A7A (l.take i) 0 (B1j h i)
 have h2 : (l.take i).length ≤ 4 := by rw [List.length_take]; omega
 have h3 : 10 ^ (l.take i).length ≤ 10 ^ 4 := Nat.pow_le_pow_right (by decide) h2
 omega
theorem B1l (ds : A0) (G : IM) (hd : ∀ c ∈ ds, D9 c) (hl : ds.length ≤ 4) : Fn Tryz.prog 168 [.string (B3 ds)] [] G (J8 (if ds.length = 0 ∨ (ds.getD 0 0 = 48 ∧ 1 < ds.length) then .tuple ⟨[.int .i64 0, .bool false]⟩ else .tuple ⟨[.int .i64 ((R4 0 ds : Nat) : Int), .bool true]⟩) G) := by
 have hsz := I6 ds
 have hg : ∀ i, i < ds.length → 48 ≤ (ds.getD i 0).toNat ∧ (ds.getD i 0).toNat ≤ 57 := fun i hi => B1k hd hi
 have h4 := A7B hd hl
 have hg0 := hg 0
 have ht : ds.take ds.length = ds := List.take_length
 refine B5 Tryz.func168 rfl Tryz.ntmps168 Tryz.results168 rfl ?_
 intro w0
 refine C2 ?_
 refine sQ (M0 rfl rfl) rfl (sB (V8 rfl rfl) rfl rfl (fun h11 => ?_) (fun h11 => ?_))
 refine sQ (qM rfl) rfl (sQ (qM rfl) rfl ?_)
 (have h0l : 0 < ds.length := (by omega); refine sP (N1 (j := ((0 : Nat) : Int)) rfl rfl rfl (by decide) (R5 h0l)) rfl rfl ?_)
 refine sP (I0 rfl rfl (by omega)) rfl rfl ?_
 refine W1 ?_
 refine sQ (M0 rfl rfl) rfl ?_
 refine sP (I0 rfl rfl (by omega)) rfl rfl ?_
 refine sQ (qM rfl) rfl (sQ (qM rfl) rfl ?_)
 refine sQ (M0 rfl rfl) rfl ?_
 refine sP (A19 rfl rfl (by omega)) rfl rfl ?_
 refine sQ (M2 rfl rfl) rfl (sQ (qM rfl) rfl (sQ (qM rfl) rfl ?_))
 (have h0l : 0 < ds.length := (by omega); refine sP (N1 (j := ((0 : Nat) : Int)) rfl rfl rfl (by decide) (R5 h0l)) rfl rfl ?_)
 refine sB (qE rfl rfl) rfl rfl (fun h43 => ?_) (fun h43 => ?_)
 refine sQ (qM rfl) rfl (sQ (qM rfl) rfl ?_)
 refine sQ (M0 rfl rfl) rfl (sB (V8 rfl rfl) rfl rfl (fun h47 => ?_) (fun h47 => ?_))
 refine M8 ?_
 refine C8 (rT rfl) (rT rfl) ?_
 (exact ⟨rfl, by rw [if_pos (by first | (left; omega) | (right; exact ⟨E9 (b := 48) (by show _ = (48 : Int); omega), by omega⟩))], rfl⟩)
 refine A0o ?_
 refine D2 ?_
 (refine Q5 (fun (i : Nat) => ⟨[(6, .int .i64 (i : Int)), (5, .int .i64 ((R4 0 (ds.take i) : Nat) : Int)), (4, .bool false), (0, .string (B3 ds))], [], G⟩) (fun i => i ≤ ds.length) (fun i => ds.length - i) 0 ?_ ?_ ?_)
 exact I9
 (exact Nat.zero_le _)
 (rintro (i : Nat) hi; replace hi : i ≤ ds.length := hi; have hgi := hg i; have h4i := h4 i; have hti := @A7z ds i)
 refine tS (tS (tR (sQ (qM rfl) rfl (sQ (qM rfl) rfl ?_))))
 refine sQ (M0 rfl rfl) rfl (sB (M9 rfl rfl) rfl rfl (fun h98 => ?_) (fun h98 => ?_))
 refine sD (nS (qT rfl (tK (nS (tS ?_)))))
 refine D2 ?_
 refine tS (tS (tR (sQ (qM rfl) rfl (sQ (qM rfl) rfl ?_))))
 (have hil : i < ds.length := (by omega); refine sP (N1 rfl rfl rfl (by omega) (R5 hil)) rfl rfl ?_)
 refine sP (S1 rfl rfl (by omega)) rfl rfl ?_
 refine sQ (qM rfl) rfl (sQ (qM rfl) rfl (sQ (qM rfl) rfl ?_))
 (have hil : i < ds.length := (by omega); refine sP (N1 rfl rfl rfl (by omega) (R5 hil)) rfl rfl ?_)
 refine sP (A19 rfl rfl (by omega)) rfl rfl ?_
 refine E0 ?_
 refine sP (A1m (n := 10) rfl rfl (by omega)) rfl rfl ?_
 refine sQ (qM rfl) rfl (sQ (qM rfl) rfl ?_)
 (have hil : i < ds.length := (by omega); refine sP (N1 rfl rfl rfl (by omega) (R5 hil)) rfl rfl ?_)
 (have hgi2 := hgi hil; refine sP (A61 rfl rfl (by omega) (by omega)) rfl rfl ?_; rw [show (((ds.getD i 0).toNat : Nat) : Int) - 48 = (((ds.getD i 0).toNat - 48 : Nat) : Int) by omega])
 refine sP (A2o rfl rfl rfl (by omega) (by omega)) rfl rfl ?_
 (refine sP (H4 (m := R4 0 (ds.take i) * 10) rfl rfl (by omega)) rfl rfl ?_; rw [← hti hil])
 refine K8 ?_
 refine sP (H4 (n := 1) rfl rfl (by omega)) rfl rfl ?_
 refine sQ (qA rfl) rfl (sD ?_)
 refine P5 (i + 1) ?_ ?_ ?_
 exact I9
 (show i + 1 ≤ ds.length; omega)
 (show ds.length - (i + 1) < ds.length - i; omega)
 refine A1k ?_
 refine C8 (rT rfl) (rT rfl) ?_
 (obtain rfl : i = ds.length := (by omega); rw [ht]; exact ⟨rfl, by rw [if_neg (by rintro (h | ⟨h, h'⟩); omega; (have hx : ((ds.getD 0 0).toNat : Int) = 48 := (by rw [h]; rfl); omega))], rfl⟩)
 refine A1k ?_
 refine D2 ?_
 (refine Q5 (fun (i : Nat) => ⟨[(6, .int .i64 (i : Int)), (5, .int .i64 ((R4 0 (ds.take i) : Nat) : Int)), (4, .bool false), (0, .string (B3 ds))], [], G⟩) (fun i => i ≤ ds.length) (fun i => ds.length - i) 0 ?_ ?_ ?_)
 exact I9
 (exact Nat.zero_le _)
 (rintro (i : Nat) hi; replace hi : i ≤ ds.length := hi; have hgi := hg i; have h4i := h4 i; have hti := @A7z ds i)
 refine tS (tS (tR (sQ (qM rfl) rfl (sQ (qM rfl) rfl ?_))))
 refine sQ (M0 rfl rfl) rfl (sB (M9 rfl rfl) rfl rfl (fun h209 => ?_) (fun h209 => ?_))
 refine sD (nS (qT rfl (tK (nS (tS ?_)))))
 refine D2 ?_
 refine tS (tS (tR (sQ (qM rfl) rfl (sQ (qM rfl) rfl ?_))))
 (have hil : i < ds.length := (by omega); refine sP (N1 rfl rfl rfl (by omega) (R5 hil)) rfl rfl ?_)
 refine sP (S1 rfl rfl (by omega)) rfl rfl ?_
 refine sQ (qM rfl) rfl (sQ (qM rfl) rfl (sQ (qM rfl) rfl ?_))
 (have hil : i < ds.length := (by omega); refine sP (N1 rfl rfl rfl (by omega) (R5 hil)) rfl rfl ?_)
 refine sP (A19 rfl rfl (by omega)) rfl rfl ?_
 refine E0 ?_
 refine sP (A1m (n := 10) rfl rfl (by omega)) rfl rfl ?_
 refine sQ (qM rfl) rfl (sQ (qM rfl) rfl ?_)
 (have hil : i < ds.length := (by omega); refine sP (N1 rfl rfl rfl (by omega) (R5 hil)) rfl rfl ?_)
 (have hgi2 := hgi hil; refine sP (A61 rfl rfl (by omega) (by omega)) rfl rfl ?_; rw [show (((ds.getD i 0).toNat : Nat) : Int) - 48 = (((ds.getD i 0).toNat - 48 : Nat) : Int) by omega])
 refine sP (A2o rfl rfl rfl (by omega) (by omega)) rfl rfl ?_
 (refine sP (H4 (m := R4 0 (ds.take i) * 10) rfl rfl (by omega)) rfl rfl ?_; rw [← hti hil])
 refine K8 ?_
 refine sP (H4 (n := 1) rfl rfl (by omega)) rfl rfl ?_
 refine sQ (qA rfl) rfl (sD ?_)
 refine P5 (i + 1) ?_ ?_ ?_
 exact I9
 (show i + 1 ≤ ds.length; omega)
 (show ds.length - (i + 1) < ds.length - i; omega)
 refine A1k ?_
 refine C8 (rT rfl) (rT rfl) ?_
 (obtain rfl : i = ds.length := (by omega); rw [ht]; exact ⟨rfl, by rw [if_neg (by rintro (h | ⟨h, h'⟩); omega; (have hx : ((ds.getD 0 0).toNat : Int) = 48 := (by rw [h]; rfl); omega))], rfl⟩)
 refine A0o ?_
 refine sQ (M0 rfl rfl) rfl ?_
 refine sP (Z9 rfl rfl (by omega)) rfl rfl ?_
 refine A8G ?_
 refine C8 (rT rfl) (rT rfl) ?_
 (exact ⟨rfl, by rw [if_pos (by first | (left; omega) | (right; exact ⟨E9 (b := 48) (by show _ = (48 : Int); omega), by omega⟩))], rfl⟩)
def B1m (L : A0) (m : Option (Int × A0)) (G : IM) : IM → Value → List A1 → Prop := fun G' v outs => G' = G ∧ outs = [] ∧ ∃ n next, v = .tuple ⟨[.int .i64 n, .int .i64 next]⟩ ∧ 0 ≤ n ∧ n ≤ 9999 ∧ A4O L m n next
theorem A7C : ∀ l : A0, ∀ c ∈ l.take (M5 l), D9 c
 | [], c, h => by simp at h
 | d :: r, c, h => by
  rw [M5] at h
  split at h
  ·rename_i hd
   rw [List.take_succ_cons] at h
   rcases List.mem_cons.1 h with rfl | h
   ·exact hd
   ·exact A7C r c h
  ·simp at h
theorem A7D (l : A0) : M5 (l.take 4) ≤ 4 ∧ M5 (l.take 4) ≤ l.length := by
 have := A4G (l.take 4)
 rw [List.length_take] at this
 omega
theorem B1n (l : A0) : ∀ c ∈ l.take (M5 (l.take 4)), D9 c := by
 have h := A7C (l.take 4)
 rw [List.take_take, Nat.min_eq_left (A7D l).1] at h
 exact h
theorem B1o {L : A0} {a e : Nat} (h1 : a ≤ e) (h2 : e - a ≤ M5 ((L.drop a).take 4)) (h3 : e < L.length) (h4 : e < a + 4) (hd : D9 (L.getD e 0)) : e + 1 - a ≤ M5 ((L.drop a).take 4) := by
 have hl : e - a < ((L.drop a).take 4).length := by rw [List.length_take, List.length_drop]; omega
 have hx : ((L.drop a).take 4)[e - a] = L.getD e 0 := by
  rw [List.getElem_take, List.getElem_drop, List.getD_eq_getElem?_getD, List.getElem?_eq_getElem h3]
  simp only [Option.getD_some]
  congr 1; omega
 have := A4E h2 hl (by rw [hx]; exact hd)
 omega
theorem B1p {L : A0} {a e : Nat} (h1 : a ≤ e) (h2 : e - a ≤ M5 ((L.drop a).take 4)) (hd : e < L.length → e < a + 4 → ¬D9 (L.getD e 0)) : e - a = M5 ((L.drop a).take 4) := by
 refine A4F h2 (fun hl => ?_)
 have hl2 := hl
 rw [List.length_take, List.length_drop] at hl2
 have h3 : e < L.length := by omega
 have hx : ((L.drop a).take 4)[e - a] = L.getD e 0 := by
  rw [List.getElem_take, List.getElem_drop, List.getD_eq_getElem?_getD, List.getElem?_eq_getElem h3]
  simp only [Option.getD_some]
  congr 1; omega
 rw [hx]; exact hd h3 (by omega)
theorem A1e {l : A0} {m : Nat} (h : 0 < m) : (l.take m).getD 0 0 = l.headD 0 := by
 cases l with
 | nil => simp
 | cons c r =>
  obtain ⟨m, rfl⟩ : ∃ k, m = k + 1 := ⟨m - 1, by omega⟩
  rfl
theorem A4R (L : A0) (hL : L.length ≤ 4294967296) (a : Nat) (G : IM) (ha : a ≤ L.length) : Fn Tryz.prog 105 [.string (B3 L), .int .i64 (a : Int)] [] G (B1m L (X9 (L.drop a)) G) := by
 have hsz := I6 L
 obtain ⟨m, hm⟩ : ∃ m, M5 ((L.drop a).take 4) = m := ⟨_, rfl⟩
 have hm4 := A7D (L.drop a)
 have hmd := B1n (L.drop a)
 have hgo := @B1o L a
 have hst := @B1p L a
 rw [hm] at hm4 hmd
 simp only [hm] at hgo hst
 rw [List.length_drop] at hm4
 have hlen : ((L.drop a).take m).length = m := by rw [List.length_take, List.length_drop]; omega
 have hN := B1l ((L.drop a).take m) G hmd (by omega)
 rw [hlen] at hN
 have hr : X9 (L.drop a) = if m = 0 ∨ ((L.drop a).headD 0 = 48 ∧ 1 < m) then none else some (((R4 0 ((L.drop a).take m) : Nat) : Int), (L.drop a).drop m) := by unfold X9; simp only [hm]
 have h99 : R4 0 ((L.drop a).take m) ≤ 9999 := by
  have := A7B hmd (by omega) ((L.drop a).take m).length
  rwa [List.take_length] at this
 rw [hr]
 have hdd : (L.drop a).drop m = L.drop (a + m) := by rw [List.drop_drop]
 refine B5 Tryz.func105 rfl Tryz.ntmps105 Tryz.results105 rfl ?_
 intro w0
 refine H3 ?_
 refine D2 ?_
 (refine Q5 (fun (e : Nat) => ⟨[(6, .int .i64 (e : Int)), (0, .string (B3 L)), (1, .int .i64 (a : Int))], [], G⟩) (fun e => a ≤ e ∧ e - a ≤ m) (fun e => a + m - e) a ?_ ?_ ?_)
 exact I9
 (exact ⟨Nat.le_refl _, by omega⟩)
 (rintro (e : Nat) ⟨he1, he2⟩; have hgo2 := @hgo e he1 he2; have hst2 := @hst e he1 he2; unfold D9 at hgo2 hst2)
 refine tS (tS (tR (sQ (qM rfl) rfl (sQ (qM rfl) rfl ?_))))
 refine sQ (M0 rfl rfl) rfl (sB (M9 rfl rfl) rfl rfl (fun h25 => ?_) (fun h25 => ?_))
 refine sQ (qM rfl) rfl (sQ (qM rfl) rfl (sQ (qM rfl) rfl ?_))
 refine sP (O6 rfl rfl (by omega) (by omega)) rfl rfl ?_
 refine sB (M9 rfl rfl) rfl rfl (fun h30 => ?_) (fun h30 => ?_)
 refine I5 ?_
 (have hel : e < L.length := (by omega); refine sP (N1 rfl rfl rfl (by omega) (R5 hel)) rfl rfl ?_)
 refine sB (P6 rfl rfl) rfl rfl (fun h36 => ?_) (fun h36 => ?_)
 refine I5 ?_
 (have hel : e < L.length := (by omega); refine sP (N1 rfl rfl rfl (by omega) (R5 hel)) rfl rfl ?_)
 refine sB (T2 rfl rfl) rfl rfl (fun h42 => ?_) (fun h42 => ?_)
 refine sQ (L4 rfl rfl) rfl (sD (nS (qT rfl (tK (nS ?_)))))
 refine D2 ?_
 refine tR (sQ (qM rfl) rfl ?_)
 refine sP (H4 (n := 1) rfl rfl (by omega)) rfl rfl ?_
 refine sQ (qA rfl) rfl (sD (P7 ?_))
 (have hg3 := hgo2 hel (by omega) (by omega); refine P5 (e + 1) ?_ ?_ ?_)
 exact I9
 (show a ≤ e + 1 ∧ e + 1 - a ≤ m; omega)
 (show a + m - (e + 1) < a + m - e; omega)
 refine O3 ?_
 (have hem := hst2 (fun h1 h2 => by omega); refine sP (Y7 (l := a) (h := e) rfl rfl rfl rfl (by omega) (by omega)) rfl rfl ?_; rw [Z1, hem])
 focus (refine J9 rfl hN rfl rfl ?_; by_cases hcc : m = 0 ∨ (((L.drop a).take m).getD 0 0 = 48 ∧ 1 < m); (rw [if_pos hcc]); rotate_left; (rw [if_neg hcc]); rotate_left)
 refine A0K ?_
 refine C8 (rT rfl) (rT rfl) ?_
 (exact ⟨rfl, rfl, 0, -1, rfl, by omega, by omega, .inl ⟨by rw [if_pos (hcc.imp id (fun h => ⟨by rw [← A1e (m := m) (by omega)]; exact h.1, h.2⟩))], rfl⟩⟩)
 refine A1F ?_
 refine C8 (rT rfl) (rT rfl) ?_
 (exact ⟨rfl, rfl, _, _, rfl, by omega, by omega, .inr ⟨e, by rw [if_neg (fun h => hcc (h.imp id (fun h => ⟨by rw [A1e (by omega)]; exact h.1, h.2⟩))), hdd, show a + m = e by omega], rfl, by omega⟩⟩)
 refine Y5 ?_
 (have hem := hst2 (fun h1 h2 => by omega); refine sP (Y7 (l := a) (h := e) rfl rfl rfl rfl (by omega) (by omega)) rfl rfl ?_; rw [Z1, hem])
 focus (refine J9 rfl hN rfl rfl ?_; by_cases hcc : m = 0 ∨ (((L.drop a).take m).getD 0 0 = 48 ∧ 1 < m); (rw [if_pos hcc]); rotate_left; (rw [if_neg hcc]); rotate_left)
 refine A0K ?_
 refine C8 (rT rfl) (rT rfl) ?_
 (exact ⟨rfl, rfl, 0, -1, rfl, by omega, by omega, .inl ⟨by rw [if_pos (hcc.imp id (fun h => ⟨by rw [← A1e (m := m) (by omega)]; exact h.1, h.2⟩))], rfl⟩⟩)
 refine A1F ?_
 refine C8 (rT rfl) (rT rfl) ?_
 (exact ⟨rfl, rfl, _, _, rfl, by omega, by omega, .inr ⟨e, by rw [if_neg (fun h => hcc (h.imp id (fun h => ⟨by rw [A1e (by omega)]; exact h.1, h.2⟩))), hdd, show a + m = e by omega], rfl, by omega⟩⟩)
 refine A1F ?_
 (have hem := hst2 (fun h1 h2 => by omega); refine sP (Y7 (l := a) (h := e) rfl rfl rfl rfl (by omega) (by omega)) rfl rfl ?_; rw [Z1, hem])
 focus (refine J9 rfl hN rfl rfl ?_; by_cases hcc : m = 0 ∨ (((L.drop a).take m).getD 0 0 = 48 ∧ 1 < m); (rw [if_pos hcc]); rotate_left; (rw [if_neg hcc]); rotate_left)
 refine A0K ?_
 refine C8 (rT rfl) (rT rfl) ?_
 (exact ⟨rfl, rfl, 0, -1, rfl, by omega, by omega, .inl ⟨by rw [if_pos (hcc.imp id (fun h => ⟨by rw [← A1e (m := m) (by omega)]; exact h.1, h.2⟩))], rfl⟩⟩)
 refine A1F ?_
 refine C8 (rT rfl) (rT rfl) ?_
 (exact ⟨rfl, rfl, _, _, rfl, by omega, by omega, .inr ⟨e, by rw [if_neg (fun h => hcc (h.imp id (fun h => ⟨by rw [A1e (by omega)]; exact h.1, h.2⟩))), hdd, show a + m = e by omega], rfl, by omega⟩⟩)
 refine S7 ?_
 refine sQ (qM rfl) rfl ?_
 (have hem := hst2 (fun h1 h2 => by omega); refine sP (Y7 (l := a) (h := e) rfl rfl rfl rfl (by omega) (by omega)) rfl rfl ?_; rw [Z1, hem])
 focus (refine J9 rfl hN rfl rfl ?_; by_cases hcc : m = 0 ∨ (((L.drop a).take m).getD 0 0 = 48 ∧ 1 < m); (rw [if_pos hcc]); rotate_left; (rw [if_neg hcc]); rotate_left)
 refine A0K ?_
 refine C8 (rT rfl) (rT rfl) ?_
 (exact ⟨rfl, rfl, 0, -1, rfl, by omega, by omega, .inl ⟨by rw [if_pos (hcc.imp id (fun h => ⟨by rw [← A1e (m := m) (by omega)]; exact h.1, h.2⟩))], rfl⟩⟩)
 refine A1F ?_
 refine C8 (rT rfl) (rT rfl) ?_
 (exact ⟨rfl, rfl, _, _, rfl, by omega, by omega, .inr ⟨e, by rw [if_neg (fun h => hcc (h.imp id (fun h => ⟨by rw [A1e (by omega)]; exact h.1, h.2⟩))), hdd, show a + m = e by omega], rfl, by omega⟩⟩)
section bl
variable {P : Program} {Γ : F8} {env : H1} {hp : List A1} {G : IM} {ty : TypeId}
theorem B1q {x z : Operand} {t : TypeId} {i : J4} [hI : E6 P t i] (hd' : i.desc = .string) {l : A0} {h : Nat}
  (hx : evo env x = some (.string (B3 l))) (hz : evo env z = some (.int .i64 (h : Int))) (hh : h ≤ l.length) :
  C9 P Γ ⟨env, hp, G⟩ (.slice t x none (some z) none) ty (.string (B3 (l.take h))) := by
 have := A02 (t := t) (i := i) (P := P) (Γ := Γ) (hp := hp) (G := G) (ty := ty) hd' hx hz (by rw [I6]; exact hh)
 rwa [Z1, Nat.sub_zero, List.drop_zero] at this
theorem B1r {x y : Operand} {t : TypeId} {i : J4} [hI : E6 P t i] (hd' : i.desc = .string) {s : A0} {l : Nat}
  (hx : evo env x = some (.string (B3 s))) (hy : evo env y = some (.int .i64 (l : Int))) (hl : l ≤ s.length) :
  C9 P Γ ⟨env, hp, G⟩ (.slice t x (some y) none none) ty (.string (B3 (s.drop l))) := by
 have := P4 (t := t) (i := i) (P := P) (Γ := Γ) (hp := hp) (G := G) (ty := ty) hd' hx hy (by rw [I6]; exact hl)
 rwa [Z1, I6, List.take_of_length_le (by rw [List.length_drop]; exact Nat.le_refl _)] at this
end bl
def A7E (xs : List Value) : Prop := ∀ v ∈ xs, ∃ b : A0, v = .string (B3 b) ∧ b.length ≤ 1
theorem B1s (br : Nat) (pb : Option Addr) (nb cb : Nat) (bs : List UInt8) (hnb : nb ≤ 2000) (p : Nat) (G : IM) (hb : Sl G pb nb cb 1 (K2 bs)) (hp : p + 10 < 1099511627776) (l : A0) (hl : l.length ≤ 1000000)
  (q : Option Addr) (n c : Nat) (xs : List Value) (hx : Sl G q n c 1 xs) (hn : 0 < n) (hxs : A7E xs) :
  Fn Tryz.prog 49 [.pointer (some ⟨br, 0, none⟩), .string (B3 l), .slice q n c] [rd br pb nb cb p] G (W8 br pb nb cb p 4 (fun _ v => ∃ l2, v = .string (B3 l2) ∧ l2.length ≤ l.length + 1)) := by
 have hsz := I6 l
 refine B5 Tryz.func49 rfl Tryz.ntmps49 Tryz.results49 rfl ?_
 intro w0
 refine C2 ?_
 refine sQ (M0 rfl rfl) rfl (sB (qE rfl rfl) rfl rfl (fun h11 => ?_) (fun h11 => ?_))
 refine M8 ?_
 refine B2 (outs := [rd br pb nb cb p]) (rT rfl) (by repeat (first | exact A2.nil | refine A2.cons Pk.here ?_ | refine A2.cons (Pk.there Pk.here) ?_ | refine A2.cons (Pk.there (Pk.there Pk.here)) ?_ | apply A2.drop)) ?_
 (exact ⟨p, by omega, by omega, rfl, l, rfl, by omega⟩)
 refine sQ (qM rfl) rfl (sQ (qM rfl) rfl ?_)
 (refine B4 rfl (W9 _ br pb nb cb p bs 2 hb hnb (by omega)) (Pk.perm (by repeat (first | exact Pk.here | apply Pk.there))) rfl rfl (fun v Gp outs hle32 hh => ?_); obtain ⟨rfl, rfl, j1, rfl, hj1, hk1⟩ := hh)
 replace hb := hb.mono hle32
 replace hx := hx.mono hle32
 refine sB (qE rfl rfl) rfl rfl (fun h33 => ?_) (fun h33 => ?_)
 refine Q6 ?_
 refine B2 (outs := [rd br pb nb cb (p + 1)]) (rT rfl) (by repeat (first | exact A2.nil | refine A2.cons Pk.here ?_ | refine A2.cons (Pk.there Pk.here) ?_ | refine A2.cons (Pk.there (Pk.there Pk.here)) ?_ | apply A2.drop)) ?_
 (exact ⟨p + 1, by omega, by omega, rfl, l, rfl, by omega⟩)
 refine O2 ?_
 refine sQ (M0 rfl rfl) rfl ?_
 (refine B4 rfl (W9 _ br pb nb cb (p + 1) bs (l.length : Int) hb hnb (by omega)) (Pk.perm (by repeat (first | exact Pk.here | apply Pk.there))) rfl rfl (fun v Gp outs hle59 hh => ?_); obtain ⟨rfl, rfl, j0, rfl, hj0, hk0⟩ := hh)
 replace hb := hb.mono hle59
 replace hx := hx.mono hle59
 refine sQ (qA rfl) rfl (sD (nS (tS ?_)))
 (obtain ⟨k, rfl⟩ := Int.eq_ofNat_of_zero_le hj0; have hkl : k < l.length := (by omega); refine I7 J0 rfl ?_)
 refine H2 (i := 0) (l' := [tt,ff,ff,ff,ff,ff,ff,ff,ff,ff,ff,ff,ff,ff,ff]) rfl E8 (qM rfl) rfl (by kernel_rfl) rfl rfl ?_
 refine aP 1 rfl (qM rfl) rfl ?_
 refine aP 2 rfl (B1q (l := l) (h := k) rfl rfl rfl (by omega)) rfl ?_
 refine aP 3 rfl (qM rfl) rfl ?_
 refine aP 4 rfl (qM rfl) rfl ?_
 refine aP 7 rfl (qM rfl) rfl ?_
 refine aP 8 rfl (qM rfl) rfl ?_
 refine aP 9 rfl (qM rfl) rfl ?_
 refine A8 5 ?_
 (have hcall := A37 _ br pb nb cb (p + 1 + 1) bs q n c xs hb hnb (by omega) hx hn; refine A1L (l' := [tt,tt,tt,tt,tt,tt,ff,tt,tt,tt,ff,ff,ff,ff,ff]) rfl rfl hcall (Pk.perm (by repeat (first | exact Pk.here | apply Pk.there))) rfl rfl rfl (by repeat (first | exact B7.nil | apply B7.dep (by decide +kernel) | apply B7.blk (by decide +kernel) (by repeat (first | exact Pk.here | apply Pk.there)) (by repeat first | exact mH | apply mT))) (fun v Gn outs hle74 hh => ?_); obtain ⟨rfl, rfl, hv⟩ := hh; obtain ⟨ob, rfl, hob⟩ := hxs _ hv)
 replace hb := hb.mono hle74
 replace hx := hx.mono hle74
 refine aP 6 rfl (B9 rfl rfl (by simp only [List.length_append, List.length_take, List.length_drop]; omega)) rfl ?_
 refine A8 10 ?_
 (have hcall := W9 _ br pb nb cb (p + 1 + 1 + 1) bs 2 hb hnb (by omega); refine A1L (l' := [tt,tt,tt,tt,tt,tt,tt,tt,tt,tt,tt,ff,ff,ff,ff]) rfl rfl hcall (Pk.perm (by repeat (first | exact Pk.here | apply Pk.there))) rfl rfl rfl (by repeat (first | exact B7.nil | apply B7.dep (by decide +kernel) | apply B7.blk (by decide +kernel) (by repeat (first | exact Pk.here | apply Pk.there)) (by repeat first | exact mH | apply mT))) (fun v Gn outs hle77 hh => ?_); obtain ⟨rfl, rfl, j3, rfl, hj3, hk3⟩ := hh; obtain ⟨j, rfl⟩ := Int.eq_ofNat_of_zero_le hj3)
 replace hb := hb.mono hle77
 replace hx := hx.mono hle77
 refine aP 11 rfl (H4 (m := k) (n := j) rfl rfl (by omega)) rfl ?_
 refine aP 12 rfl (B1r (s := l) (l := k + j) rfl rfl rfl (by omega)) rfl ?_
 refine aP 13 rfl (B9 rfl rfl (by simp only [List.length_append, List.length_take, List.length_drop]; omega)) rfl ?_
 refine aP 14 rfl (qA rfl) rfl ?_
 refine M7 (nS (tT ?_))
 refine B2 (outs := [rd br pb nb cb (p + 1 + 1 + 1 + 1)]) (rT rfl) (by repeat (first | exact A2.nil | refine A2.cons Pk.here ?_ | refine A2.cons (Pk.there Pk.here) ?_ | refine A2.cons (Pk.there (Pk.there Pk.here)) ?_ | apply A2.drop)) ?_
 (exact ⟨p + 1 + 1 + 1 + 1, by omega, by omega, rfl, _, rfl, by simp only [List.length_append, List.length_take, List.length_drop]; omega⟩)
section
variable {k : Int} {nm : ByteArray} {num : Int} {ty fr : Ty} {lb : Int} {ks : List Tm}
end
def B3x (t : Tm) : Nat := if N5 t = true then D4 t else 0
def B3y (G : IM) : IM → Value → List A1 → Prop := I1 fun G' v => ∃ a ca b cb f, v = .tuple ⟨[.agg ⟨ca⟩, .agg ⟨cb⟩, .int .i64 f]⟩ ∧ B6 G' a ca ∧ a.fit 1100 ∧ B6 G' b cb ∧ b.fit 1100 ∧ D7 f
def B3z (G : IM) : IM → Value → List A1 → Prop := I1 fun G' v => ∃ a ca b cb d cd, v = .tuple ⟨[.agg ⟨ca⟩, .agg ⟨cb⟩, .agg ⟨cd⟩]⟩ ∧ B6 G' a ca ∧ a.fit 1100 ∧ B6 G' b cb ∧ b.fit 1100 ∧ B6 G' d cd ∧ d.fit 1100
def B3A (N : Nat) (G : IM) : IM → Value → List A1 → Prop := I1 fun G' v => ∃ a ca f, v = .tuple ⟨[.agg ⟨ca⟩, .int .i64 f]⟩ ∧ B6 G' a ca ∧ a.fit N ∧ D7 f
end Gw
end Go.Proofs.YtgodjiieijekiaaGreatDoor
