/-
  The reference's parser of terms.
-/
import Derived.Test.YtgodjiieijekiaaGreatDoorKi8
import Derived.Test.YtgodjiieijekiaaGreatDoorKi1
import Derived.Test.YtgodjiieijekiaaGreatDoorKi2
set_option linter.unusedVariables false
set_option linter.unusedSimpArgs false
set_option maxHeartbeats 0
set_option maxRecDepth 100000
set_option synthInstance.maxSize 4000
set_option synthInstance.maxHeartbeats 0
namespace Go.Proofs.YtgodjiieijekiaaGreatDoor
open Go Go.RowKit
namespace Gw
theorem B6q (c : UInt8) : V5 (D6 [c]) = decide (97 ≤ c.toNat ∧ c.toNat ≤ 122) := by
 unfold V5
 have : (D6 [c]).size = 1 := rfl
 have h2 : (D6 [c]).data.getD 0 0 = c := rfl
 rw [h2, this]
 simp
section plain
variable {n : Nat} {r : A3}
theorem B6r (n : Nat) : J2 n [] = none := by cases n <;> rfl
theorem B6s : J2 (n + 1) (84 :: r) = some (nd 3 [], r) := by rw [J2, if_pos rfl]
theorem B6t : J2 (n + 1) (70 :: r) = some (nd 4 [], r) := by rw [J2, if_neg (by decide), if_pos rfl]
theorem B6u : J2 (n + 1) (33 :: r) = A0o (J2 n) r := by rw [J2, if_neg (by decide), if_neg (by decide), if_pos rfl]
theorem B6v : J2 (n + 1) (40 :: r) = X8 (J2 n) r := by rw [J2, if_neg (by decide), if_neg (by decide), if_neg (by decide), if_pos rfl]
theorem B6w : J2 (n + 1) (123 :: r) = (U0 (J2 n) [63, 58, 125] r).map fun x => (nd 9 x.1, x.2) := by rw [J2, if_neg (by decide), if_neg (by decide), if_neg (by decide), if_neg (by decide), if_pos rfl]
theorem B6x : J2 (n + 1) (91 :: r) = (U0 (J2 n) [44, 93] r).map fun x => (nd 10 x.1, x.2) := by rw [J2, if_neg (by decide), if_neg (by decide), if_neg (by decide), if_neg (by decide), if_neg (by decide), if_pos rfl]
theorem B6y : J2 (n + 1) (36 :: r) = V1 (J2 n) 11 r := by rw [J2, if_neg (by decide), if_neg (by decide), if_neg (by decide), if_neg (by decide), if_neg (by decide), if_neg (by decide), if_pos rfl]
theorem B6z : J2 (n + 1) (37 :: r) = V1 (J2 n) 12 r := by rw [J2, if_neg (by decide), if_neg (by decide), if_neg (by decide), if_neg (by decide), if_neg (by decide), if_neg (by decide), if_neg (by decide), if_pos rfl]
theorem B6A {c : UInt8} (g0 : c ≠ 84) (g1 : c ≠ 70) (g2 : c ≠ 33) (g3 : c ≠ 40) (g4 : c ≠ 123) (g5 : c ≠ 91) (g6 : c ≠ 36) (g7 : c ≠ 37) (h : 97 ≤ c.toNat ∧ c.toNat ≤ 122) : J2 (n + 1) (c :: r) = some (.mk 1 ⟨#[c]⟩ 0 A7 A7 0 [], r) := by rw [J2, if_neg g0, if_neg g1, if_neg g2, if_neg g3, if_neg g4, if_neg g5, if_neg g6, if_neg g7, if_pos h]
theorem B6B {c : UInt8} (g0 : c ≠ 84) (g1 : c ≠ 70) (g2 : c ≠ 33) (g3 : c ≠ 40) (g4 : c ≠ 123) (g5 : c ≠ 91) (g6 : c ≠ 36) (g7 : c ≠ 37) (h : ¬(97 ≤ c.toNat ∧ c.toNat ≤ 122)) : J2 (n + 1) (c :: r) = (A0E (c :: r)).map fun x => (.mk 2 ⟨#[]⟩ x.1 A7 A7 0 [], x.2) := by rw [J2, if_neg g0, if_neg g1, if_neg g2, if_neg g3, if_neg g4, if_neg g5, if_neg g6, if_neg g7, if_neg h]
end plain
theorem B6C (L : A3) (hL : L.length ≤ 4294967296) : ∀ (n : Nat), n ≤ 100 → A5d L n := by
 intro n
 induction n with
 | zero =>
  intro hn a G ha
  refine B8 Tryz.func51 rfl Tryz.ntmps51 Tryz.results51 rfl ?_
  intro w0
  refine tS (tR ?_)
  refine sE (A8 rfl) rfl (fun b3 => ?_)
  refine B7 ?_
  refine sP (A0A rfl rfl (by omega)) rfl rfl ?_
  refine A2R ?_
  refine B4 (rC rfl (A2 rfl rfl)) (rT rfl) ?_
  (exact M9.no rfl)
 | succ n ih =>
  intro hn a G ha
  have ih := ih (by omega)
  have hsz := N3 L
  have hnil : L.length ≤ a → J2 (n + 1) (L.drop a) = none := fun h => by rw [A2J h]; exact B6r _
  obtain ⟨c, hc⟩ : ∃ c, L.getD a 0 = c := ⟨_, rfl⟩
  have hcs := fun h : a < L.length => by have := A0W h; rw [hc] at this; exact this
  refine B8 Tryz.func51 rfl Tryz.ntmps51 Tryz.results51 rfl ?_
  intro w0
  refine tS (tR ?_)
  refine sE (A8 rfl) rfl (fun b3 => ?_)
  refine B7 ?_
  refine sP (V4 rfl rfl (by omega)) rfl rfl ?_
  refine sQ (qM rfl) rfl (sQ (qM rfl) rfl ?_)
  refine sP (V4 rfl rfl (by omega)) rfl rfl ?_
  refine H9 ?_
  refine sQ (P9 rfl rfl) rfl (sB (S4 rfl rfl) rfl rfl (fun h20 => ?_) (fun h20 => ?_))
  refine I5 ?_
  refine B4 (rC rfl (A2 rfl rfl)) (rT rfl) ?_
  (exact M9.no (hnil (by omega)))
  refine I6 ?_
  refine sP (A0Y (j := a) rfl rfl rfl (by omega) hc) rfl rfl ?_
  refine sD (nS ?_)
  refine C6 (tS (tR (sB (qE rfl rfl) rfl rfl (fun h53 => ?_) (fun h53 => ?_))))
  refine F8 ?_
  refine sP (K8 (n := 1) rfl rfl (by omega)) rfl rfl ?_
  refine H2 ?_
  refine sQ (qA rfl) rfl (sD (nS (tT (rB (rS ?_)))))
  refine B4 (rC rfl (A2 rfl rfl)) (rT rfl) ?_
  (obtain rfl : c = 84 := J5 (b := 84) (by show _ = (84 : Int); omega); rw [hcs (by omega)]; exact M9.yes (A27 (k := 3) (ks := []) (es := []) ⟨by decide, by decide⟩ rfl (D5.nil _ _) rfl) B6s (by omega))
  refine sQ (qA rfl) rfl (sD (nS (cF rfl (tS (tR ?_)))))
  refine sB (qE rfl rfl) rfl rfl (fun h78 => ?_) (fun h78 => ?_)
  refine F8 ?_
  refine sP (K8 (n := 1) rfl rfl (by omega)) rfl rfl ?_
  refine H2 ?_
  refine sQ (qA rfl) rfl (sD (nS (tT (rB (rS ?_)))))
  refine B4 (rC rfl (A2 rfl rfl)) (rT rfl) ?_
  (obtain rfl : c = 70 := J5 (b := 70) (by show _ = (70 : Int); omega); rw [hcs (by omega)]; exact M9.yes (A27 (k := 4) (ks := []) (es := []) ⟨by decide, by decide⟩ rfl (D5.nil _ _) rfl) B6t (by omega))
  refine sQ (qA rfl) rfl (sD (nS (cF rfl (tS (tR ?_)))))
  refine sB (qE rfl rfl) rfl rfl (fun h103 => ?_) (fun h103 => ?_)
  refine F8 ?_
  refine sP (K8 (n := 1) rfl rfl (by omega)) rfl rfl ?_
  refine sQ (qM rfl) rfl ?_
  refine sP (T4 rfl rfl (by omega)) rfl rfl ?_
  (obtain rfl : c = 33 := J5 (b := 33) (by show _ = (33 : Int); omega); refine D9 rfl (B6n L hL n ih (a + 1) (by omega) G) rfl rfl (fun v G1 hle1 hh => ?_); obtain ⟨te, ce, ne, rfl, hre, hme⟩ := hh; have hoe := hre.one; obtain ⟨e1, e2, e3, e4, e5, e6, e7, e8, e9, rfl⟩ := rm9 hre; rw [← B6u] at hme)
  refine sQ (pX rfl rfl) rfl (sQ (pX rfl rfl) rfl ?_)
  refine sS rfl rfl rfl rfl hoe rfl ?_
  refine sQ (qA rfl) rfl (sD (nS (tT (rB (rS ?_)))))
  refine B4 (rC rfl (A2 rfl rfl)) (rT rfl) ?_
  (rw [hcs (by omega)]; exact ⟨rfl, te, _, _, rfl, hre, hme⟩)
  refine sQ (qA rfl) rfl (sD (nS (cF rfl (tS (tR ?_)))))
  refine sB (qE rfl rfl) rfl rfl (fun h133 => ?_) (fun h133 => ?_)
  refine F8 ?_
  refine sP (K8 (n := 1) rfl rfl (by omega)) rfl rfl ?_
  refine sQ (qM rfl) rfl ?_
  refine sP (T4 rfl rfl (by omega)) rfl rfl ?_
  (obtain rfl : c = 40 := J5 (b := 40) (by show _ = (40 : Int); omega); refine D9 rfl (B6p L hL n ih (a + 1) (by omega) G) rfl rfl (fun v G1 hle1 hh => ?_); obtain ⟨te, ce, ne, rfl, hre, hme⟩ := hh; have hoe := hre.one; obtain ⟨e1, e2, e3, e4, e5, e6, e7, e8, e9, rfl⟩ := rm9 hre; rw [← B6v] at hme)
  refine sQ (pX rfl rfl) rfl (sQ (pX rfl rfl) rfl ?_)
  refine sS rfl rfl rfl rfl hoe rfl ?_
  refine sQ (qA rfl) rfl (sD (nS (tT (rB (rS ?_)))))
  refine B4 (rC rfl (A2 rfl rfl)) (rT rfl) ?_
  (rw [hcs (by omega)]; exact ⟨rfl, te, _, _, rfl, hre, hme⟩)
  refine sQ (qA rfl) rfl (sD (nS (cF rfl (tS (tR ?_)))))
  refine sB (qE rfl rfl) rfl rfl (fun h163 => ?_) (fun h163 => ?_)
  refine C7 ?_
  refine sP (K8 (n := 1) rfl rfl (by omega)) rfl rfl ?_
  refine sQ (qM rfl) rfl ?_
  refine sP (T4 rfl rfl (by omega)) rfl rfl ?_
  (obtain rfl : c = 123 := J5 (b := 123) (by show _ = (123 : Int); omega); refine A7p 28 9 ?_; refine C0 rfl (A36 L hL n ih 9 ⟨by decide, by decide⟩ [] [] none 0 [63, 58, 125] (by decide) (by decide) (a + 1) (by omega) G (by simp only [E5])) (Pk.perm (by repeat (first | exact Pk.here | apply Pk.there))) rfl rfl (fun v G1 outs hle1 hh => ?_); obtain ⟨rfl, te, ce, ne, rfl, hre, hme⟩ := hh; have hoe := hre.one; obtain ⟨e1, e2, e3, e4, e5, e6, e7, e8, e9, rfl⟩ := rm9 hre; simp only [List.nil_append] at hme; rw [← B6w] at hme)
  refine sQ (pX rfl rfl) rfl (sQ (pX rfl rfl) rfl ?_)
  refine sS rfl rfl rfl rfl hoe rfl ?_
  refine sQ (qA rfl) rfl (sD (nS (tT (rB (rS ?_)))))
  refine B4 (rC rfl (A2 rfl rfl)) (rT rfl) ?_
  (rw [hcs (by omega)]; exact ⟨rfl, te, _, _, rfl, hre, hme⟩)
  refine sQ (qA rfl) rfl (sD (nS (cF rfl (tS (tR ?_)))))
  refine sB (qE rfl rfl) rfl rfl (fun h194 => ?_) (fun h194 => ?_)
  refine C7 ?_
  refine sP (K8 (n := 1) rfl rfl (by omega)) rfl rfl ?_
  refine sQ (qM rfl) rfl ?_
  refine sP (T4 rfl rfl (by omega)) rfl rfl ?_
  (obtain rfl : c = 91 := J5 (b := 91) (by show _ = (91 : Int); omega); refine A7p 28 9 ?_; refine C0 rfl (A36 L hL n ih 10 ⟨by decide, by decide⟩ [] [] none 0 [44, 93] (by decide) (by decide) (a + 1) (by omega) G (by simp only [E5])) (Pk.perm (by repeat (first | exact Pk.here | apply Pk.there))) rfl rfl (fun v G1 outs hle1 hh => ?_); obtain ⟨rfl, te, ce, ne, rfl, hre, hme⟩ := hh; have hoe := hre.one; obtain ⟨e1, e2, e3, e4, e5, e6, e7, e8, e9, rfl⟩ := rm9 hre; simp only [List.nil_append] at hme; rw [← B6x] at hme)
  refine sQ (pX rfl rfl) rfl (sQ (pX rfl rfl) rfl ?_)
  refine sS rfl rfl rfl rfl hoe rfl ?_
  refine sQ (qA rfl) rfl (sD (nS (tT (rB (rS ?_)))))
  refine B4 (rC rfl (A2 rfl rfl)) (rT rfl) ?_
  (rw [hcs (by omega)]; exact ⟨rfl, te, _, _, rfl, hre, hme⟩)
  refine sQ (qA rfl) rfl (sD (nS (cF rfl (tS (tR ?_)))))
  refine sB (qE rfl rfl) rfl rfl (fun h225 => ?_) (fun h225 => ?_)
  refine F8 ?_
  refine sP (K8 (n := 1) rfl rfl (by omega)) rfl rfl ?_
  refine sQ (qM rfl) rfl ?_
  refine sP (T4 rfl rfl (by omega)) rfl rfl ?_
  (refine D9 rfl (ih (a + 1) G (by omega)) rfl rfl (fun v G1 hle1 hh => ?_); obtain ⟨tb, cb, nb, rfl, hrb, hmb⟩ := hh; have hob := hrb.one; obtain ⟨x1, x2, x3, x4, x5, x6, x7, x8, x9, rfl⟩ := rm9 hrb)
  refine H0 ?_
  refine sE (A8 rfl) rfl (fun b241 => ?_)
  refine sS rfl rfl rfl rfl hob rfl ?_
  refine K4 ?_
  (refine D7 (D1 rfl rfl rfl (by omega) (by unfold maxLen; omega) rfl) rfl ?_; rintro _ ⟨b249, rfl⟩)
  refine K4 ?_
  (obtain rfl : c = 36 := J5 (b := 36) (by show _ = (36 : Int); omega); refine L4 (cs := [x1, x2, x3, x4, x5, x6, x7, x8, x9]) (by repeat (first | exact Pk.here | apply Pk.there)) (fun G9 hle9 hsl9 hno9 => ?_); obtain ⟨hs1, hs2⟩ := A5i hsl9 (hrb.mono hle9); have hR9 := A27 (k := 11) (ks := [tb]) ⟨by decide, by decide⟩ rfl hs1 hs2; have hun : J2 (n + 1) (36 :: L.drop (a + 1)) = V1 (J2 n) 11 (L.drop (a + 1)) := B6y; have hal : a < L.length := (by omega))
  refine tT (rB (rS ?_))
  refine B4 (rC rfl (A2 rfl rfl)) (rT rfl) ?_
  (rw [hcs hal, hun]; rcases hmb with ⟨hmb, rfl⟩ | ⟨ny, hmb, rfl, hny⟩; exact M9.noT hR9 (by unfold V1; rw [hmb]; rfl); exact M9.yes hR9 (by unfold V1; rw [hmb]; rfl) hny)
  refine sQ (qA rfl) rfl (sD (nS (cF rfl (tS (tR ?_)))))
  refine sB (qE rfl rfl) rfl rfl (fun h268 => ?_) (fun h268 => ?_)
  refine F8 ?_
  refine sP (K8 (n := 1) rfl rfl (by omega)) rfl rfl ?_
  refine sQ (qM rfl) rfl ?_
  refine sP (T4 rfl rfl (by omega)) rfl rfl ?_
  (refine D9 rfl (ih (a + 1) G (by omega)) rfl rfl (fun v G1 hle1 hh => ?_); obtain ⟨tb, cb, nb, rfl, hrb, hmb⟩ := hh; have hob := hrb.one; obtain ⟨x1, x2, x3, x4, x5, x6, x7, x8, x9, rfl⟩ := rm9 hrb)
  refine H0 ?_
  refine sE (A8 rfl) rfl (fun b284 => ?_)
  refine sS rfl rfl rfl rfl hob rfl ?_
  refine K4 ?_
  (refine D7 (D1 rfl rfl rfl (by omega) (by unfold maxLen; omega) rfl) rfl ?_; rintro _ ⟨b292, rfl⟩)
  refine K4 ?_
  (obtain rfl : c = 37 := J5 (b := 37) (by show _ = (37 : Int); omega); refine L4 (cs := [x1, x2, x3, x4, x5, x6, x7, x8, x9]) (by repeat (first | exact Pk.here | apply Pk.there)) (fun G9 hle9 hsl9 hno9 => ?_); obtain ⟨hs1, hs2⟩ := A5i hsl9 (hrb.mono hle9); have hR9 := A27 (k := 12) (ks := [tb]) ⟨by decide, by decide⟩ rfl hs1 hs2; have hun : J2 (n + 1) (37 :: L.drop (a + 1)) = V1 (J2 n) 12 (L.drop (a + 1)) := B6z; have hal : a < L.length := (by omega))
  refine tT (rB (rS ?_))
  refine B4 (rC rfl (A2 rfl rfl)) (rT rfl) ?_
  (rw [hcs hal, hun]; rcases hmb with ⟨hmb, rfl⟩ | ⟨ny, hmb, rfl, hny⟩; exact M9.noT hR9 (by unfold V1; rw [hmb]; rfl); exact M9.yes hR9 (by unfold V1; rw [hmb]; rfl) hny)
  refine I5 ?_
  refine sP (K8 (n := 1) rfl rfl (by omega)) rfl rfl ?_
  (have hal : a < L.length := (by omega); refine sP (A0Q (l := a) (h := a + 1) rfl rfl rfl rfl (by omega) (by omega)) rfl rfl ?_; rw [A67 hal, hc])
  focus (have hnm := A7X (D6 [c]) G; rw [B6q] at hnm; by_cases hlt : 97 ≤ c.toNat ∧ c.toNat ≤ 122; (rw [decide_eq_true hlt] at hnm); rotate_left; (rw [decide_eq_false hlt] at hnm); rotate_left; refine H7 rfl hnm rfl rfl ?_; rotate_left; refine H7 rfl hnm rfl rfl ?_; rotate_left)
  refine F8 ?_
  refine sP (K8 (n := 1) rfl rfl (by omega)) rfl rfl ?_
  (have hal : a < L.length := (by omega); refine sP (A0Q (l := a) (h := a + 1) rfl rfl rfl rfl (by omega) (by omega)) rfl rfl ?_; rw [A67 hal, hc])
  refine sQ (P6 rfl rfl) rfl (sQ (qM rfl) rfl ?_)
  refine sP (K8 (n := 1) rfl rfl (by omega)) rfl rfl ?_
  refine H2 ?_
  refine sQ (qA rfl) rfl (sD (nS (tT (rS ?_))))
  refine B4 (rC rfl (A2 rfl rfl)) (rT rfl) ?_
  (rw [hcs (by omega)]; exact M9.yes (A3l (k := 1) (num := 0) (lb := 0) (nm := D6 [c]) (ty := A7) (fr := A7) (ks := []) (es := []) ⟨by decide, by decide⟩ ⟨by decide, by decide⟩ ⟨by decide, by decide⟩ (A0D _) (A0D _) rfl (D5.nil _ _) rfl) (B6A (J3 (by show _ ≠ (84 : Int); omega)) (J3 (by show _ ≠ (70 : Int); omega)) (J3 (by show _ ≠ (33 : Int); omega)) (J3 (by show _ ≠ (40 : Int); omega)) (J3 (by show _ ≠ (123 : Int); omega)) (J3 (by show _ ≠ (91 : Int); omega)) (J3 (by show _ ≠ (36 : Int); omega)) (J3 (by show _ ≠ (37 : Int); omega)) hlt) (by omega))
  refine C7 ?_
  (refine C0 rfl (A60 L hL a G ha) (List.Perm.refl _) rfl rfl (fun v G2 outs hle2 hh => ?_); obtain ⟨hG, rfl, vv, nv, rfl, hv0, hv9, hmv⟩ := hh; replace hG := hG.symm; subst hG; rw [hcs (by omega)] at hmv)
  refine T5 ?_
  refine B4 (rC rfl (A2 rfl rfl)) (rT rfl) ?_
  (rw [hcs (by omega), B6B (J3 (by show _ ≠ (84 : Int); omega)) (J3 (by show _ ≠ (70 : Int); omega)) (J3 (by show _ ≠ (33 : Int); omega)) (J3 (by show _ ≠ (40 : Int); omega)) (J3 (by show _ ≠ (123 : Int); omega)) (J3 (by show _ ≠ (91 : Int); omega)) (J3 (by show _ ≠ (36 : Int); omega)) (J3 (by show _ ≠ (37 : Int); omega)) hlt]; have hR9 := A3l (G := G) (k := 2) (num := vv) (lb := 0) (nm := ⟨#[]⟩) (ty := A7) (fr := A7) (ks := []) (es := []) ⟨by decide, by decide⟩ ⟨by omega, by omega⟩ ⟨by decide, by decide⟩ (A0D _) (A0D _) rfl (D5.nil _ _) rfl; rcases hmv with ⟨hmv, rfl⟩ | ⟨ny, hmv, rfl, hny⟩; exact M9.noT hR9 (by rw [hmv]; rfl); exact M9.yes hR9 (by rw [hmv]; rfl) hny)
def PsR (V : Tm → Bool) (l : A3) : IM → Value → List A4 → Prop := L7 fun G' v => ∃ e ok cells, v = .tuple ⟨[.agg ⟨cells⟩, .bool ok]⟩ ∧ B5 G' e cells ∧ A1g V l e ok
theorem PsR.no {V : Tm → Bool} {l : A3} {G' : IM} (h : ∀ x, V x = true → B0 x ≠ l) : PsR V l G' (.tuple ⟨[.agg ⟨[.int .i64 0, .string ⟨⟨[]⟩⟩, .int .i64 0, .int .i64 0, .slice none 0 0, .int .i64 0, .slice none 0 0, .int .i64 0, .slice none 0 0]⟩, .bool false]⟩) [] :=
 ⟨rfl, K7, false, _, rfl, (P0.zero G').R, .inr ⟨rfl, rfl, h⟩⟩
theorem A68 (e : Tm) (G : IM) (cells : List Value) (hcnt : C3 e ≤ 4294967296) (hr : B5 G e cells) : Fn Tryz.prog 35 [.agg ⟨cells⟩] [] G (A2K (A1w R2 e)) := by
 have hl := hr.len
 have hone := hr.one
 have hw := A78 e G cells hcnt hr
 have hv1 := fun h : R2 e = true => A2k.2.2 e h
 refine B8 Tryz.func35 rfl Tryz.ntmps35 Tryz.results35 rfl ?_
 intro w0
 refine tS (tR ?_)
 refine sE (E7 rfl rfl) rfl (fun b3 => ?_)
 refine sQ (qA rfl) rfl (sD (nS (tS (tS (tR ?_)))))
 refine sL (A6 rfl rfl (C8 (by repeat first | exact mH | apply mT)) hl) rfl rfl ?_
 refine J4 rfl (hw) rfl rfl (fun h11 => ?_) (fun h11 => ?_)
 refine sQ (Y7 rfl) rfl (sD (nS (cF rfl (tK (nS (tS (tR ?_)))))))
 refine sL (A6 rfl rfl (C8 (by repeat first | exact mH | apply mT)) hl) rfl rfl ?_
 (have hv2 := hv1 (by assumption); refine D9 rfl (B0O 40 13 e 1 G _ hv2.1 (by omega) hr) rfl rfl (fun v G3 hle3 hh => ?_); subst hh)
 refine sQ (qA rfl) rfl (sD (nS (tT (E9 (rT rfl) ?_))))
 (exact ⟨rfl, by rw [A2M (by assumption)]⟩)
 refine Q4 ?_
 (exact ⟨rfl, by rw [A38 (by assumption)]; rfl⟩)
theorem B02 (L : A3) (hL : L.length ≤ 4294967296) (G : IM) : Fn Tryz.prog 22 [.string (D6 L)] [] G (PsR R2 L) := by
 have hsz := N3 L
 have hVO := A2k
 have hpx : ∀ x, R2 x = true → B0 x = L → J2 40 (L.drop 0) = some (x, []) := fun x hx he => by rw [← he]; exact hVO.r hx (by decide)
 have hcn := B5O 40 (L.drop 0)
 refine B8 Tryz.func22 rfl Tryz.ntmps22 Tryz.results22 rfl ?_
 intro w0
 refine tS (tR ?_)
 refine sE (A8 rfl) rfl (fun b3 => ?_)
 refine sQ (qA rfl) rfl (sD (nS (tS (tR (sQ (qM rfl) rfl ?_)))))
 (refine D9 rfl (B6C L hL 40 (by decide) 0 G (Nat.zero_le _)) rfl rfl (fun v G1 hle1 hh => ?_); obtain ⟨e, ce, ne, rfl, hre, hme⟩ := hh; have hoe := hre.one; obtain ⟨x1, x2, x3, x4, x5, x6, x7, x8, x9, rfl⟩ := rm9 hre; rcases hme with ⟨hme, rfl⟩ | ⟨nx, hme, rfl, hnx⟩)
 refine H0 ?_
 refine sE (A8 rfl) rfl (fun b14 => ?_)
 refine sS rfl rfl rfl rfl hoe rfl ?_
 refine B7 ?_
 refine sB (A02 (s := D6 []) rfl rfl) rfl rfl (fun hse => ?_) (fun hse => ?_)
 refine A1R ?_
 refine B4 (rC rfl (A2 rfl rfl)) (rT rfl) ?_
 (exact PsR.no fun x hx he => hVO.ne hx (he.trans (A45 hse)))
 refine sQ (qM rfl) rfl (sQ (qM rfl) rfl (sQ (qM rfl) rfl ?_))
 refine sQ (P9 rfl rfl) rfl ?_
 refine sP (A0h rfl rfl (by omega)) rfl rfl ?_
 refine A0v ?_
 refine B4 (rC rfl (A2 rfl rfl)) (rT rfl) ?_
 (exact PsR.no fun x hx he => by rw [hpx x hx he] at hme; cases hme)
 refine H0 ?_
 refine sE (A8 rfl) rfl (fun b79 => ?_)
 refine sS rfl rfl rfl rfl hoe rfl ?_
 refine B7 ?_
 refine sB (A02 (s := D6 []) rfl rfl) rfl rfl (fun hse => ?_) (fun hse => ?_)
 refine A1R ?_
 refine B4 (rC rfl (A2 rfl rfl)) (rT rfl) ?_
 (exact PsR.no fun x hx he => hVO.ne hx (he.trans (A45 hse)))
 refine sQ (qM rfl) rfl (sQ (qM rfl) rfl (sQ (qM rfl) rfl ?_))
 refine sQ (P9 rfl rfl) rfl (sB (P5 rfl rfl) rfl rfl (fun h119 => ?_) (fun h119 => ?_))
 refine A0v ?_
 refine B4 (rC rfl (A2 rfl rfl)) (rT rfl) ?_
 (exact PsR.no fun x hx he => by rw [hpx x hx he] at hme; have h9 := congrArg List.length (Prod.mk.inj (Option.some.inj hme)).2; rw [List.length_drop] at h9; simp only [List.length_nil] at h9; omega)
 refine H0 ?_
 (have hnl : nx = L.length := (by omega); have hc2 := hcn _ hme; simp only [List.drop_zero] at hc2; refine D9 rfl (A68 e G1 _ (by omega) hre) rfl rfl (fun v G2 hle2 hh => ?_); subst hh; replace hre := hre.mono hle2)
 refine sQ (qM rfl) rfl ?_
 refine sB (A1i rfl rfl) rfl rfl (fun hsn => ?_) (fun hsn => ?_)
 refine I5 ?_
 refine B4 (rC rfl (A2 rfl rfl)) (rT rfl) ?_
 (exact PsR.no fun x hx he => by rw [hpx x hx he] at hme; have h9 := (Prod.mk.inj (Option.some.inj hme)).1; exact hsn (by rw [← h9, A2M hx]; exact congrArg D6 he))
 refine C7 ?_
 refine sS rfl rfl rfl rfl hoe rfl ?_
 refine sQ (qA rfl) rfl (sD (nS (tT ?_)))
 refine B4 (rC rfl (A2 rfl rfl)) (rT rfl) ?_
 (have h9 := A45 (Classical.not_not.1 hsn); cases hvb : R2 e; (rw [A38 hvb] at h9; exact absurd (congrArg D6 h9.symm) hse); (rw [A2M hvb] at h9; exact ⟨rfl, e, true, _, rfl, hre, .inl ⟨rfl, hvb, h9⟩⟩))
theorem B6D {P : Program} {Γ : K0} {env : K3} {hp : List A4} {G : IM} {ty : TypeId} {x y : Operand} {t t' : TypeId} {r : ByteArray} (hx : evo env x = some (.string r)) (hy : evo env y = some (.string r)) :
  H5 P Γ ⟨env, hp, G⟩ (.binOp .eql t x y t') ty (.bool true) := by
 have h := A02 (P := P) (Γ := Γ) (hp := hp) (G := G) (t := t) (t' := t') (ty := ty) hx hy
 simpa using h
theorem B03 : ∀ (t : Ty) (G : IM) (cells cells' : List Value), B3 G t cells → B3 G t cells' → Fn Tryz.prog 46 [.agg ⟨cells⟩, .agg ⟨cells'⟩] [] G (L6 (.bool true) G) := by
 refine Ty.ind fun k ks ih G cells cells' hr hr' => ?_
 obtain ⟨p, c, es, rfl, hk, hsl, hkl⟩ := hr.open
 obtain ⟨p', c', es', rfl, hk', hsl', hkl'⟩ := hr'.open
 simp only [Ty.k, Ty.ks] at hk hsl hkl hk' hsl' hkl' ⊢
 refine B8 Tryz.func46 rfl Tryz.ntmps46 Tryz.results46 rfl ?_
 intro w0
 refine tS (tR ?_)
 refine sE (E7 rfl rfl) rfl (fun b3 => ?_)
 refine sE (E7 rfl rfl) rfl (fun b4 => ?_)
 refine C7 ?_
 refine sP (A0G rfl rfl (by omega)) rfl rfl ?_
 refine S6 ?_
 refine H7 rfl (A7U _ _ _ _ _ _ _ _ _ hsl hsl' _ [] [] [] (fun _ => true) true (by simp) (fun i e e' he he' => ih (ks.getD i A7) (hkl.inv he A7).1 _ _ _ (hkl.inv he A7).2 (hkl'.inv he' A7).2)) rfl rfl ?_
 refine K4 ?_
 exact ⟨rfl, rfl, rfl⟩
theorem B6E (G : IM) (p p' : Option Addr) (n c c' : Nat) (es es' : List (List Value)) (hsl : D5 G p n c 9 es) (hsl' : D5 G p' n c' 9 es') (fid : FuncId) [B9 Tryz.prog fid]
  (hq : ∀ (i : Nat) (e e' : List Value), es[i]? = some e → es'[i]? = some e' → Fn Tryz.prog fid [.agg ⟨e⟩, .agg ⟨e'⟩] [] G (Z9 (.bool true) [] G)) :
  Fn Tryz.prog 47 [.slice p n c, .slice p' n c', .func (.func fid) ⟨[]⟩ ⟨[]⟩] [] G (L6 (.bool true) G) := by
 have hn := hsl.le
 refine B8 Tryz.func47 rfl Tryz.ntmps47 Tryz.results47 rfl ?_
 intro w0
 refine Q4 ?_
 refine sP (A2q rfl rfl (by omega)) rfl rfl ?_
 refine I5 ?_
 refine C6 (N4 (fun i : Nat => ⟨[(17, .int .i64 i), (16, .int .i64 n), (15, .slice p n c), (2, .func (.func fid) ⟨[]⟩ ⟨[]⟩), (1, .slice p' n c'), (0, .slice p n c)], [], G⟩) (fun i => i ≤ n) (fun i => n - i) 0 ?_ ?_ ?_)
 exact E0
 exact Nat.zero_le _
 rintro i hi
 refine tS (tR ?_)
 refine sB (L9 rfl rfl) rfl rfl (fun h34 => ?_) (fun h34 => ?_)
 refine sD (nS (tS (qT rfl (tK (nS (tS ?_))))))
 refine C6 ?_
 refine tS (tR (sQ (qM rfl) rfl ?_))
 (obtain ⟨e, b, o, he, rfl, hl, _, hat, _⟩ := hsl.get (i := i) (by omega); refine sP (D0 rfl rfl rfl (by omega)) rfl rfl ?_)
 refine sL (A6 rfl rfl (hat _) hl) rfl rfl ?_
 refine sE (A8 rfl) rfl (fun b48 => ?_)
 refine sQ (qA rfl) rfl ?_
 refine M0 rfl rfl rfl (by assumption) (by assumption) rfl (by repeat first | exact Sw.here | apply Sw.there) (by exact I4 (by symm; assumption)) ?_
 refine sD (nS (tS (tR (sQ (qM rfl) rfl (sQ (qM rfl) rfl ?_)))))
 (obtain ⟨e', b', o', he', rfl, hl', _, hat', _⟩ := hsl'.get (i := i) (by omega); refine sP (D0 rfl rfl rfl (by omega)) rfl rfl ?_)
 refine sL (A6 rfl rfl (hat' _) hl') rfl rfl ?_
 refine sE (A8 rfl) rfl (fun b59 => ?_)
 refine M0 rfl rfl rfl (by assumption) (by assumption) rfl (by repeat first | exact Sw.here | apply Sw.there) (by exact I4 (by symm; assumption)) ?_
 refine sD (nS (tS (tR (sQ (qM rfl) rfl ?_))))
 refine sL (A6 rfl rfl (C8 (by repeat first | exact mH | apply mT)) (by assumption)) rfl rfl ?_
 refine sL (A6 rfl rfl (C8 (by repeat first | exact mH | apply mT)) (by assumption)) rfl rfl ?_
 refine A5E rfl rfl (hq i e e' he he') A7t rfl rfl (fun h68 => ?_) (fun h68 => ?_)
 simp only [Bool.not_eq_true', Bool.not_eq_false'] at h68
 refine F8 ?_
 refine sP (N0 rfl rfl (by omega) (by omega)) rfl rfl ?_
 refine sQ (qM rfl) rfl (sD ?_)
 refine K5 (i + 1) ?_ ?_ ?_
 exact E0
 omega
 omega
 refine N6 ?_
 (exact absurd (by assumption) (by decide))
 refine N6 ?_
 exact ⟨rfl, rfl, rfl⟩
theorem A4b : ∀ (t : Tm) (G : IM) (cells cells' : List Value), B5 G t cells → B5 G t cells' → Fn Tryz.prog 16 [.agg ⟨cells⟩, .agg ⟨cells'⟩] [] G (L6 (.bool true) G) := by
 refine Tm.ind fun k nm num ty fr lb ks ih G cells cells' hr hr' => ?_
 obtain ⟨tk, tks⟩ := ty
 obtain ⟨fk, fks⟩ := fr
 obtain ⟨pt, ct, pf, cf, p, c, es, rfl, hk, hnum, hlb, hty, hfr, hsl, hkl⟩ := hr.open9
 obtain ⟨pt', ct', pf', cf', p', c', es', rfl, _, _, _, hty', hfr', hsl', hkl'⟩ := hr'.open9
 have h1 := B03 (.mk tk tks) G _ _ hty hty'
 have h2 := B03 (.mk fk fks) G _ _ hfr hfr'
 refine B8 Tryz.func16 rfl Tryz.ntmps16 Tryz.results16 rfl ?_
 intro w0
 refine tS (tR ?_)
 refine sE (E7 rfl rfl) rfl (fun b3 => ?_)
 refine sE (E7 rfl rfl) rfl (fun b4 => ?_)
 refine C7 ?_
 refine sP (A0G rfl rfl (by omega)) rfl rfl ?_
 refine S6 ?_
 refine sQ (B6D rfl rfl) rfl ?_
 refine K4 ?_
 refine sP (A0G rfl rfl (by omega)) rfl rfl ?_
 refine K4 ?_
 refine H7 rfl (h1) rfl rfl ?_
 refine K4 ?_
 refine H7 rfl (h2) rfl rfl ?_
 refine K4 ?_
 refine sP (A0G rfl rfl (by omega)) rfl rfl ?_
 refine K4 ?_
 refine H7 rfl (B6E _ _ _ _ _ _ _ _ hsl hsl' _ (fun i e e' he he' => ih (ks.getD i K7) (hkl.inv he K7).1 _ _ _ (hkl.inv he K7).2 (hkl'.inv he' K7).2)) rfl rfl ?_
 refine K4 ?_
 exact ⟨rfl, rfl, rfl⟩
theorem B6F (bs bs2 : List UInt8) (G : IM) (p : Option Addr) (n c : Nat) (p2 : Option Addr) (n2 c2 : Nat) (hT : A1m G) (hE : A0y G) (hb : Sl G p n c 1 (N2 bs)) (hb2 : Sl G p2 n2 c2 1 (N2 bs2)) : Fn Tryz.prog 9 [.slice p n c, .slice p2 n2 c2] [] G (L7 fun _ v => v = .bool true) := by
 have hn := hb.le
 have hn2 := hb2.le
 refine B8 Tryz.func9 rfl Tryz.ntmps9 Tryz.results9 rfl ?_
 intro w0
 refine M2 ?_
 refine sB (Y2 rfl rfl) rfl rfl (fun h11 => ?_) (fun h11 => ?_)
 refine N6 ?_
 (exact ⟨rfl, rfl⟩)
 refine sQ (qM rfl) rfl (sQ (qM rfl) rfl (sQ (pLn rfl rfl) rfl ?_))
 refine sB (Y2 rfl rfl) rfl rfl (fun h32 => ?_) (fun h32 => ?_)
 refine Q4 ?_
 (exact ⟨rfl, rfl⟩)
 refine C7 ?_
 (refine D9 rfl (B56 G _ _ _ bs hb) rfl rfl (fun v G1 hle1 hh => ?_); obtain ⟨a, ca, rfl, hra, hfa⟩ := hh; replace hT := hT.mono hle1; replace hE := hE.mono hle1; replace hb2 := hb2.mono hle1; have hca := hfa.2; have hla := hra.len; have hoa := hra.one; have hlf := B5S A2k a)
 refine sE (A8 rfl) rfl (fun b56 => ?_)
 first | refine M0 rfl rfl rfl hl3 ho3 rfl (by repeat first | exact Sw.here | apply Sw.there) (by exact I4 hl3.symm) ?_ | refine sS rfl rfl rfl hla hoa rfl ?_ (hu := by exact I4 hla.symm)
 refine sD (nS (tS (tR ?_)))
 refine sL (A6 rfl rfl (C8 (by repeat first | exact mH | apply mT)) hla) rfl rfl ?_
 (refine D9 rfl (A65 a _ ca hT hra) rfl rfl (fun v2 G2 hle2 hh => ?_); subst hh; replace hT := hT.mono hle2; replace hE := hE.mono hle2; replace hb2 := hb2.mono hle2; replace hra := hra.mono hle2)
 refine sQ (qA rfl) rfl (sD (nS (tS (tR (sQ (qM rfl) rfl ?_)))))
 focus (refine D9 rfl (A64 (A1w R2 a) (by omega) _ hT hE) rfl rfl (fun v3 G3 hle3 hh => ?_); obtain ⟨e3, ok3, c3, F3, rfl, hs3, hn3, hp3⟩ := hh; replace hT := hT.mono hle3; replace hE := hE.mono hle3; replace hb2 := hb2.mono hle3; replace hra := hra.mono hle3; have hr3 := hs3.R.mono (B6.le _ _); have hl3 := hr3.len; have ho3 := hr3.one; obtain ⟨hok, heq⟩ := hp3.fmt A2k; have hV1 := fun G' (h : B2 G3 G') => A5O a G' ca (hra.mono h); have hV2 := fun G' (h : B2 G3 G') => A78 a G' ca (by omega) (hra.mono h); rw [← hok] at hV1 hV2; cases ok3; rotate_left; have heq3 := heq rfl; subst heq3; rotate_left)
 refine H0 ?_
 refine sE (A8 rfl) rfl (fun b74 => ?_)
 first | refine M0 rfl rfl rfl hl3 ho3 rfl (by repeat first | exact Sw.here | apply Sw.there) (by exact I4 hl3.symm) ?_ | refine sS rfl rfl rfl hla hoa rfl ?_ (hu := by exact I4 hla.symm)
 refine sQ (qA rfl) rfl (sD (nS (tS (tS ?_))))
 refine D3 D4 rfl ?_
 refine S3 (i := 1) (l' := [ff,tt,ff,ff,ff,ff,ff,ff,ff,ff,ff,ff,ff,ff,ff,ff,ff,ff,ff,ff,ff,ff,ff,ff,ff,ff]) rfl C5 (A6 rfl rfl (C8 (by repeat first | exact mH | apply mT)) hla) rfl (by kernel_rfl) rfl rfl ?_
 refine aP 0 rfl (qM rfl) rfl ?_
 refine A1 2 ?_
 (refine M6 rfl rfl (A68 _ _ ca (by omega) hra) rfl rfl rfl (fun v4 G4 hle4 hh => ?_); subst hh; replace hT := hT.mono hle4; replace hE := hE.mono hle4; replace hb2 := hb2.mono hle4; have hra4 := hra.mono hle4; have hr34 := hr3.mono hle4)
 refine aP 3 rfl (A7L rfl rfl) rfl ?_
 refine aP 4 rfl (qM rfl) rfl ?_
 refine aL 5 rfl (A6 rfl rfl (C8 (by repeat first | exact mH | apply mT)) hla) rfl ?_
 refine aL 7 rfl (A6 rfl rfl (C8 (by repeat first | exact mH | apply mT)) hla) rfl ?_
 refine A1 6 ?_
 refine I1 rfl rfl (hV1 _ (by assumption)) rfl rfl rfl ?_
 refine A1 8 ?_
 refine I1 rfl rfl (hV2 _ (by assumption)) rfl rfl rfl ?_
 refine aP 9 rfl (A1G rfl rfl rfl) rfl ?_
 refine aP 10 rfl (M4 rfl rfl) rfl ?_
 refine aP 11 rfl (qM rfl) rfl ?_
 refine aL 13 rfl (A6 rfl rfl (C8 (by repeat first | exact mH | apply mT)) hla) rfl ?_
 refine aP 12 rfl (qM rfl) rfl ?_
 refine A1 14 ?_
 refine I1 rfl rfl (hV2 _ (by assumption)) rfl rfl rfl ?_
 refine aP 15 rfl (A1G rfl rfl rfl) rfl ?_
 refine aP 16 rfl (M4 rfl rfl) rfl ?_
 refine aP 17 rfl (qM rfl) rfl ?_
 refine aP 18 rfl (qM rfl) rfl ?_
 refine aP 19 rfl (qM rfl) rfl ?_
 refine B1 20 rfl rfl rfl ?_
 refine B1 21 rfl rfl rfl ?_
 refine B1 22 rfl rfl rfl ?_
 refine B1 23 rfl rfl rfl ?_
 refine aP 24 rfl (M4 rfl rfl) rfl ?_
 refine aP 25 rfl (M4 rfl rfl) rfl ?_
 refine D8 (nS (cF rfl (tK (nS (tS (tR (sQ (qM rfl) rfl ?_)))))))
 (refine D9 rfl (B0Z _ _ _ _ bs2 hb2) rfl rfl (fun v5 G5 hle5 hh => ?_); obtain ⟨l, rfl, hll⟩ := hh; replace hT := hT.mono hle5; replace hE := hE.mono hle5)
 refine sQ (qA rfl) rfl (sD (nS (tS (tR (sQ (qM rfl) rfl ?_)))))
 (refine D9 rfl (A64 l (by omega) _ hT hE) rfl rfl (fun v6 G6 hle6 hh => ?_); obtain ⟨e6, ok6, c6, F6, rfl, hs6, hn6, hp6⟩ := hh; replace hT := hT.mono hle6; have hr6 := hs6.R.mono (B6.le _ _); have hl6 := hr6.len; have ho6 := hr6.one)
 refine H0 ?_
 refine sE (A8 rfl) rfl (fun b131 => ?_)
 refine sS rfl rfl rfl hl6 ho6 rfl ?_ (hu := by exact I4 hl6.symm)
 refine sQ (qA rfl) rfl (sD (nS (tS (tR (sQ (qM rfl) rfl ?_)))))
 focus (refine D9 rfl (B02 l (by omega) _) rfl rfl (fun v7 G7 hle7 hh => ?_); obtain ⟨e7, ok7, c7, rfl, hr7, hp7⟩ := hh; obtain ⟨he67, hk67⟩ := hp6.uniq A2k.inj hp7; subst he67; subst hk67; replace hT := hT.mono hle7; replace hr6 := hr6.mono hle7; have hl7 := hr7.len; have ho7 := hr7.one; have hback := fun (h : ok6 = true) => A1g.back (e := e6) (by rw [h] at hp6; exact hp6); cases ok6; rotate_left; replace hback := hback rfl; rotate_left)
 refine H0 ?_
 refine sE (A8 rfl) rfl (fun b143 => ?_)
 refine sS rfl rfl rfl hl7 ho7 rfl ?_ (hu := by exact I4 hl7.symm)
 refine B7 ?_
 refine sQ (A4e rfl rfl rfl) rfl ?_
 refine sQ (qM rfl) rfl ?_
 refine sL (A6 rfl rfl (C8 (by repeat first | exact mH | apply mT)) hl6) rfl rfl ?_
 refine sL (A6 rfl rfl (C8 (by repeat first | exact mH | apply mT)) hl7) rfl rfl ?_
 refine H7 rfl (A4b e6 _ c6 c7 hr6 hr7) rfl rfl ?_
 refine N6 ?_
 (exact ⟨rfl, rfl⟩)
 refine H0 ?_
 refine sE (A8 rfl) rfl (fun b177 => ?_)
 refine sS rfl rfl rfl hl7 ho7 rfl ?_ (hu := by exact I4 hl7.symm)
 refine B7 ?_
 refine sQ (A4e rfl rfl rfl) rfl ?_
 refine sQ (qM rfl) rfl ?_
 refine sL (A6 rfl rfl (C8 (by repeat first | exact mH | apply mT)) hl6) rfl rfl ?_
 refine sL (A6 rfl rfl (C8 (by repeat first | exact mH | apply mT)) hl7) rfl rfl ?_
 refine H7 rfl (A4b e6 _ c6 c7 hr6 hr7) rfl rfl ?_
 refine S6 ?_
 refine sL (A6 rfl rfl (C8 (by repeat first | exact mH | apply mT)) hl6) rfl rfl ?_
 (refine D9 rfl (A65 e6 _ c6 hT hr6) rfl rfl (fun v8 G8 hle8 hh => ?_); subst hh; rw [hback])
 refine sQ (qM rfl) rfl ?_
 refine sB (A02 rfl rfl) rfl rfl (fun h199 => ?_) (fun h199 => ?_)
 refine B7 ?_
 (exact ⟨rfl, rfl⟩)
 refine B7 ?_
 (exfalso; first | omega | contradiction | simp_all)
 refine H0 ?_
 refine sE (A8 rfl) rfl (fun b219 => ?_)
 first | refine M0 rfl rfl rfl hl3 ho3 rfl (by repeat first | exact Sw.here | apply Sw.there) (by exact I4 hl3.symm) ?_ | refine sS rfl rfl rfl hla hoa rfl ?_ (hu := by exact I4 hla.symm)
 refine sQ (qA rfl) rfl (sD (nS (tS (tS ?_))))
 refine D3 D4 rfl ?_
 refine S3 (i := 1) (l' := [ff,tt,ff,ff,ff,ff,ff,ff,ff,ff,ff,ff,ff,ff,ff,ff,ff,ff,ff,ff,ff,ff,ff,ff,ff,ff]) rfl C5 (A6 rfl rfl (C8 (by repeat first | exact mH | apply mT)) hla) rfl (by kernel_rfl) rfl rfl ?_
 refine aP 0 rfl (qM rfl) rfl ?_
 refine A1 2 ?_
 (refine M6 rfl rfl (A68 _ _ ca (by omega) hra) rfl rfl rfl (fun v4 G4 hle4 hh => ?_); subst hh; replace hT := hT.mono hle4; replace hE := hE.mono hle4; replace hb2 := hb2.mono hle4; have hra4 := hra.mono hle4; have hr34 := hr3.mono hle4)
 refine aP 3 rfl (A7L rfl rfl) rfl ?_
 refine aP 4 rfl (qM rfl) rfl ?_
 refine aL 5 rfl (A6 rfl rfl (C8 (by repeat first | exact mH | apply mT)) hla) rfl ?_
 refine aL 7 rfl (A6 rfl rfl (C8 (by repeat first | exact mH | apply mT)) hla) rfl ?_
 refine A1 6 ?_
 refine I1 rfl rfl (hV1 _ (by assumption)) rfl rfl rfl ?_
 refine A1 8 ?_
 refine I1 rfl rfl (hV2 _ (by assumption)) rfl rfl rfl ?_
 refine aP 9 rfl (A1G rfl rfl rfl) rfl ?_
 refine aP 10 rfl (M4 rfl rfl) rfl ?_
 refine aP 11 rfl (qM rfl) rfl ?_
 refine aL 13 rfl (A6 rfl rfl (C8 (by repeat first | exact mH | apply mT)) hla) rfl ?_
 refine aP 12 rfl (qM rfl) rfl ?_
 refine A1 14 ?_
 refine I1 rfl rfl (hV2 _ (by assumption)) rfl rfl rfl ?_
 refine aP 15 rfl (A1G rfl rfl rfl) rfl ?_
 refine aP 16 rfl (M4 rfl rfl) rfl ?_
 refine aP 17 rfl (qM rfl) rfl ?_
 refine aP 18 rfl (qM rfl) rfl ?_
 refine aP 19 rfl (qM rfl) rfl ?_
 refine aL 20 rfl (A6 rfl rfl (C8 (by repeat first | exact mH | apply mT)) hl3) rfl ?_
 refine aL 21 rfl (A6 rfl rfl (C8 (by repeat first | exact mH | apply mT)) hla) rfl ?_
 refine A1 22 ?_
 refine I1 rfl rfl (A4b _ _ c3 ca hr34 hra4) rfl rfl rfl ?_
 refine aP 23 rfl (Y7 rfl) rfl ?_
 refine aP 24 rfl (J8 rfl rfl) rfl ?_
 refine aP 25 rfl (M4 rfl rfl) rfl ?_
 refine D8 (nS (cF rfl (tK (nS (tS (tR (sQ (qM rfl) rfl ?_)))))))
 (refine D9 rfl (B0Z _ _ _ _ bs2 hb2) rfl rfl (fun v5 G5 hle5 hh => ?_); obtain ⟨l, rfl, hll⟩ := hh; replace hT := hT.mono hle5; replace hE := hE.mono hle5)
 refine sQ (qA rfl) rfl (sD (nS (tS (tR (sQ (qM rfl) rfl ?_)))))
 (refine D9 rfl (A64 l (by omega) _ hT hE) rfl rfl (fun v6 G6 hle6 hh => ?_); obtain ⟨e6, ok6, c6, F6, rfl, hs6, hn6, hp6⟩ := hh; replace hT := hT.mono hle6; have hr6 := hs6.R.mono (B6.le _ _); have hl6 := hr6.len; have ho6 := hr6.one)
 refine H0 ?_
 refine sE (A8 rfl) rfl (fun b277 => ?_)
 refine sS rfl rfl rfl hl6 ho6 rfl ?_ (hu := by exact I4 hl6.symm)
 refine sQ (qA rfl) rfl (sD (nS (tS (tR (sQ (qM rfl) rfl ?_)))))
 focus (refine D9 rfl (B02 l (by omega) _) rfl rfl (fun v7 G7 hle7 hh => ?_); obtain ⟨e7, ok7, c7, rfl, hr7, hp7⟩ := hh; obtain ⟨he67, hk67⟩ := hp6.uniq A2k.inj hp7; subst he67; subst hk67; replace hT := hT.mono hle7; replace hr6 := hr6.mono hle7; have hl7 := hr7.len; have ho7 := hr7.one; have hback := fun (h : ok6 = true) => A1g.back (e := e6) (by rw [h] at hp6; exact hp6); cases ok6; rotate_left; replace hback := hback rfl; rotate_left)
 refine H0 ?_
 refine sE (A8 rfl) rfl (fun b289 => ?_)
 refine sS rfl rfl rfl hl7 ho7 rfl ?_ (hu := by exact I4 hl7.symm)
 refine B7 ?_
 refine sQ (A4e rfl rfl rfl) rfl ?_
 refine sQ (qM rfl) rfl ?_
 refine sL (A6 rfl rfl (C8 (by repeat first | exact mH | apply mT)) hl6) rfl rfl ?_
 refine sL (A6 rfl rfl (C8 (by repeat first | exact mH | apply mT)) hl7) rfl rfl ?_
 refine H7 rfl (A4b e6 _ c6 c7 hr6 hr7) rfl rfl ?_
 refine N6 ?_
 (exact ⟨rfl, rfl⟩)
 refine H0 ?_
 refine sE (A8 rfl) rfl (fun b323 => ?_)
 refine sS rfl rfl rfl hl7 ho7 rfl ?_ (hu := by exact I4 hl7.symm)
 refine B7 ?_
 refine sQ (A4e rfl rfl rfl) rfl ?_
 refine sQ (qM rfl) rfl ?_
 refine sL (A6 rfl rfl (C8 (by repeat first | exact mH | apply mT)) hl6) rfl rfl ?_
 refine sL (A6 rfl rfl (C8 (by repeat first | exact mH | apply mT)) hl7) rfl rfl ?_
 refine H7 rfl (A4b e6 _ c6 c7 hr6 hr7) rfl rfl ?_
 refine S6 ?_
 refine sL (A6 rfl rfl (C8 (by repeat first | exact mH | apply mT)) hl6) rfl rfl ?_
 (refine D9 rfl (A65 e6 _ c6 hT hr6) rfl rfl (fun v8 G8 hle8 hh => ?_); subst hh; rw [hback])
 refine sQ (qM rfl) rfl ?_
 refine sB (A02 rfl rfl) rfl rfl (fun h345 => ?_) (fun h345 => ?_)
 refine B7 ?_
 (exact ⟨rfl, rfl⟩)
 refine B7 ?_
 (exfalso; first | omega | contradiction | simp_all)
end Gw
end Go.Proofs.YtgodjiieijekiaaGreatDoor
