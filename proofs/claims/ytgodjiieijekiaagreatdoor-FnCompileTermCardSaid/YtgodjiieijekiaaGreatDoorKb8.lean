/-
  The law FnCompileTerm.
-/
import Derived.Test.YtgodjiieijekiaaGreatDoorKb7
set_option linter.unusedVariables false
set_option linter.unusedSimpArgs false
set_option maxHeartbeats 0
set_option maxRecDepth 100000
set_option synthInstance.maxSize 4000
set_option synthInstance.maxHeartbeats 0
namespace Go.Proofs.YtgodjiieijekiaaGreatDoor
open Go Go.RowKit
namespace Gw
theorem A2k (l : J0) (G : IM) (p q : Option Addr) (n m c d : Nat) (h1 : T0 G l p n c) (h2 : T0 G l q m d) : Fn Tryz.prog 27 [.slice p n c, .slice q m d] [] G (H3 (.bool true) G) := by
 have := B6n l l G p q n m c d h1 h2
 rwa [decide_eq_true rfl] at this
theorem B09 : C6 2000 := ⟨by decide, by decide⟩
theorem B1a : C6 500 := ⟨by decide, by decide⟩
theorem B6U (bs : List UInt8) (G : IM) (p : Option Addr) (n c : Nat) (hT : A0p G) (hb : Sl G p n c 1 (N1 bs)) : Fn Tryz.prog 8 [.slice p n c] [] G (I9 fun _ v => v = .bool true) := by
 have hn := hb.le
 refine B7 Tryz.func8 rfl Tryz.ntmps8 Tryz.results8 rfl ?_
 intro w0
 refine tS (tR (sQ (qA rfl) rfl (sD (nS (tS (tS (tR (sQ (qM rfl) rfl (sQ (D8 rfl rfl) rfl ?_)))))))))
 refine sB (Y7 rfl rfl) rfl rfl (fun h11 => ?_) (fun h11 => ?_)
 refine sD (nS (qT rfl (tS (tR (sQ (qA rfl) rfl (sD (nS (tT (rS (A6 (rT rfl) ?_))))))))))
 (exact ⟨rfl, rfl⟩)
 refine sD (nS (cF rfl (tK (nS (tS (tR (sQ (qM rfl) rfl ?_)))))))
 focus (refine I5 rfl (A67 G _ _ _ bs hb) rfl rfl (fun v G1 hle1 hh => ?_); obtain ⟨a, ca, rfl, hra, hfa⟩ := hh; replace hT := hT.mono hle1; have hca := hfa.2; have hsa := hfa.1; have hla := hra.len; have hoa := hra.one; obtain ⟨l, ok, hct⟩ := A48 a; have hk : ok = true → Q6 l = true ∧ (Q7 l 2000).2.1 ≠ 3 ∧ ((Q7 l 2000).2.1 = 5 ∨ (Y5 a 300).2.1 = 5 ∨ (Y5 a 300).2.1 = 4 ∨ ((Q7 l 2000).2.1 = (Y5 a 300).2.1 ∧ (Q7 l 2000).2.2 = (Y5 a 300).2.2 ∧ (Q7 l 2000).1 = (Y5 a 300).1)) := (by intro ho; rcases hct with ⟨h1, rfl, _⟩ | ⟨_, _, h2⟩; exact ⟨h1.2.2, B6i h1⟩; (rw [h2] at ho; cases ho)); have hRO := A49 l 2000; have hRB := B6H a 300; have hOV := A6l l; obtain ⟨⟨s1, k1, e1⟩, hr1⟩ : ∃ r, Q7 l 2000 = r := ⟨_, rfl⟩; obtain ⟨⟨s2, k2, e2⟩, hr2⟩ : ∃ r, Y5 a 300 = r := ⟨_, rfl⟩; rw [hr1] at hRO hk; rw [hr2] at hRB hk; replace hk : ok = true → Q6 l = true ∧ k1 ≠ 3 ∧ (k1 = 5 ∨ k2 = 5 ∨ k2 = 4 ∨ (k1 = k2 ∧ e1 = e2 ∧ s1 = s2)) := hk; cases ok; rotate_left; obtain ⟨hk0, hk1, hk2⟩ := hk rfl; rw [hk0] at hOV; rotate_left)
 refine sE (B6 rfl) rfl (fun b33 => ?_)
 refine sS rfl rfl rfl hla hoa rfl ?_ (hu := by exact I4 hla.symm)
 refine sD (nS (tS (tR ?_)))
 refine sL (A9 rfl rfl (C7 (by repeat first | exact mH | apply mT)) hla) rfl rfl ?_
 (refine I5 rfl (A11 a _ ca l _ hct hsa hra) rfl rfl (fun v2 G2 hle2 hh => ?_); obtain ⟨p2, c2, rfl, hR2⟩ := hh; replace hra := hra.mono hle2; replace hT := hT.mono hle2)
 refine sQ (qM rfl) rfl (sQ (pX rfl rfl) rfl (sQ (pX rfl rfl) rfl (sQ (qA rfl) rfl (sQ (qA rfl) rfl (sD (nS (tS (tR ?_))))))))
 refine sL (A9 rfl rfl (C7 (by repeat first | exact mH | apply mT)) hla) rfl rfl ?_
 (refine I5 rfl (A37 a _ ca l _ hct hsa (by omega) hra) rfl rfl (fun v3 G3 hle3 hh => ?_); obtain ⟨p3, c3, rfl, hR3⟩ := hh; replace hra := hra.mono hle3; replace hT := hT.mono hle3; replace hR2 := hR2.mono hle3)
 refine R5 ?_
 refine sQ (A1s rfl rfl rfl) rfl ?_
 refine sQ (qM rfl) rfl (sQ (qM rfl) rfl (sQ (qM rfl) rfl ?_))
 refine F0 rfl ((A2k l _ _ _ _ _ _ _ hR2 hR3)) rfl rfl ?_
 refine W2 ?_
 refine sQ (A5g rfl rfl rfl) rfl ?_
 refine sQ (qM rfl) rfl (sQ (qM rfl) rfl (sQ (qM rfl) rfl ?_))
 refine F0 rfl ((A2k l _ _ _ _ _ _ _ hR2 hR3)) rfl rfl ?_
 refine sQ (C1 rfl rfl) rfl (sQ (qA rfl) rfl (sD (nS (tT (rS (A6 (rT rfl) ?_))))))
 (exact ⟨rfl, rfl⟩)
 refine sE (B6 rfl) rfl (fun b95 => ?_)
 refine sS rfl rfl rfl hla hoa rfl ?_ (hu := by exact I4 hla.symm)
 refine sD (nS (tS (tR ?_)))
 refine sL (A9 rfl rfl (C7 (by repeat first | exact mH | apply mT)) hla) rfl rfl ?_
 (refine I5 rfl (A11 a _ ca l _ hct hsa hra) rfl rfl (fun v2 G2 hle2 hh => ?_); obtain ⟨p2, c2, rfl, hR2⟩ := hh; replace hra := hra.mono hle2; replace hT := hT.mono hle2)
 refine sQ (qM rfl) rfl (sQ (pX rfl rfl) rfl (sQ (pX rfl rfl) rfl (sQ (qA rfl) rfl (sQ (qA rfl) rfl (sD (nS (tS (tR ?_))))))))
 refine sL (A9 rfl rfl (C7 (by repeat first | exact mH | apply mT)) hla) rfl rfl ?_
 (refine I5 rfl (A37 a _ ca l _ hct hsa (by omega) hra) rfl rfl (fun v3 G3 hle3 hh => ?_); obtain ⟨p3, c3, rfl, hR3⟩ := hh; replace hra := hra.mono hle3; replace hT := hT.mono hle3; replace hR2 := hR2.mono hle3)
 refine R5 ?_
 refine sQ (A1s rfl rfl rfl) rfl ?_
 refine sQ (qM rfl) rfl (sQ (qM rfl) rfl (sQ (qM rfl) rfl ?_))
 refine F0 rfl ((A2k l _ _ _ _ _ _ _ hR2 hR3)) rfl rfl ?_
 refine Y8 ?_
 (refine I5 rfl (hRO _ _ _ _ hT hR2 B09) rfl rfl (fun v4 G4 hle4 hh => ?_); replace hh : v4 = .tuple ⟨[.string s1, .int .i64 k1, .int .i64 e1]⟩ := hh; subst hh; replace hra := hra.mono hle4; replace hT := hT.mono hle4; replace hR2 := hR2.mono hle4)
 refine A0n ?_
 refine sL (A9 rfl rfl (C7 (by repeat first | exact mH | apply mT)) hla) rfl rfl ?_
 (refine I5 rfl (hRB _ ca hT hsa hra) rfl rfl (fun v5 G5 hle5 hh => ?_); replace hh : v5 = .tuple ⟨[.string s2, .int .i64 k2, .int .i64 e2]⟩ := hh; subst hh; replace hra := hra.mono hle5; replace hT := hT.mono hle5; replace hR2 := hR2.mono hle5)
 refine W2 ?_
 refine F0 rfl ((hOV _ _ _ _ hR2)) rfl rfl ?_
 refine sQ (M4 rfl) rfl (sQ (qM rfl) rfl (sQ (qM rfl) rfl ?_))
 refine sP (E9 rfl rfl (by omega)) rfl rfl ?_
 refine sQ (D7 rfl rfl) rfl (sD (nS (cF rfl (tK (nS (tS (tS (tR (sQ (qM rfl) rfl ?_)))))))))
 refine sB (qE rfl rfl) rfl rfl (fun h187 => ?_) (fun h187 => ?_)
 refine A06 ?_
 (exact ⟨rfl, rfl⟩)
 refine sQ (qM rfl) rfl (sQ (qM rfl) rfl ?_)
 refine sB (qE rfl rfl) rfl rfl (fun h210 => ?_) (fun h210 => ?_)
 refine Q9 ?_
 (exact ⟨rfl, rfl⟩)
 refine sQ (D7 rfl rfl) rfl (sQ (qM rfl) rfl (sQ (qM rfl) rfl ?_))
 refine sB (qE rfl rfl) rfl rfl (fun h231 => ?_) (fun h231 => ?_)
 refine sQ (D7 rfl rfl) rfl (sD (nS (qT rfl (tS (tR (sQ (qA rfl) rfl (sD (nS (tT (rS (A6 (rT rfl) ?_)))))))))))
 (exact ⟨rfl, rfl⟩)
 refine sQ (D7 rfl rfl) rfl (sD (nS (cF rfl (tK (nS (tS (tR (sQ (qM rfl) rfl (sQ (qM rfl) rfl ?_)))))))))
 refine sP (W9 rfl rfl (by omega)) rfl rfl ?_
 refine sQ (qM rfl) rfl (sQ (qM rfl) rfl (sQ (qM rfl) rfl ?_))
 refine sP (W9 rfl rfl (by omega)) rfl rfl ?_
 refine sQ (C1 rfl rfl) rfl (sQ (qM rfl) rfl (sQ (qM rfl) rfl (sQ (qM rfl) rfl ?_)))
 (have hs12 : s1 = s2 := (by rcases hk2 with h | h | h | h; omega; omega; omega; exact h.2.2); subst hs12; refine sQ (B08 rfl rfl) rfl ?_)
 refine sQ (C1 rfl rfl) rfl (sQ (qA rfl) rfl (sD (nS (tT (A6 (rT rfl) ?_)))))
 (exact ⟨rfl, rfl⟩)
theorem B6V {a b : Tm} (ha : a.small) (hb : b.small) : (A0K a b).small := by
 simp [A0K, Tm.small, Tm.smallL, B8, Ty.small, Ty.smallL, ha, hb, ByteArray.size]
theorem B6W (bs bs2 : List UInt8) (G : IM) (p : Option Addr) (n c : Nat) (p' : Option Addr) (n' c' : Nat) (hT : A0p G) (hb : Sl G p n c 1 (N1 bs)) (hb2 : Sl G p' n' c' 1 (N1 bs2)) : Fn Tryz.prog 6 [.slice p n c, .slice p' n' c'] [] G (I9 fun _ v => v = .bool true) := by
 have hn := hb.le
 have hn2 := hb2.le
 refine B7 Tryz.func6 rfl Tryz.ntmps6 Tryz.results6 rfl ?_
 intro w0
 refine tS (tR (sQ (qA rfl) rfl (sD (nS (tS (tS (tR (sQ (qM rfl) rfl (sQ (D8 rfl rfl) rfl ?_)))))))))
 refine sB (Y7 rfl rfl) rfl rfl (fun h11 => ?_) (fun h11 => ?_)
 refine Q9 ?_
 (exact ⟨rfl, rfl⟩)
 refine sQ (qM rfl) rfl (sQ (qM rfl) rfl (sQ (D8 rfl rfl) rfl ?_))
 refine sB (Y7 rfl rfl) rfl rfl (fun h32 => ?_) (fun h32 => ?_)
 refine sQ (D7 rfl rfl) rfl (sD (nS (qT rfl (tS (tR (sQ (qA rfl) rfl (sD (nS (tT (rS (A6 (rT rfl) ?_)))))))))))
 (exact ⟨rfl, rfl⟩)
 refine sQ (D7 rfl rfl) rfl (sD (nS (cF rfl (tK (nS (tS (tR (sQ (qM rfl) rfl ?_))))))))
 (refine I5 rfl (A67 G _ _ _ bs hb) rfl rfl (fun v G1 hle1 hh => ?_); obtain ⟨a, ca, rfl, hra, hfa⟩ := hh; replace hT := hT.mono hle1; replace hb2 := hb2.mono hle1; have hca := hfa.2; have hsa := hfa.1; have hla := hra.len; have hoa := hra.one; obtain ⟨x1, x2, x3, x4, x5, x6, x7, x8, x9, rfl⟩ : ∃ x1 x2 x3 x4 x5 x6 x7 x8 x9, ca = [x1, x2, x3, x4, x5, x6, x7, x8, x9] := (by obtain ⟨_, _, _, _, _, _, _, _, _, rfl, _⟩ := hra.open; exact ⟨_, _, _, _, _, _, _, _, _, rfl⟩))
 refine sE (B6 rfl) rfl (fun b56 => ?_)
 refine A0h rfl rfl rfl (by assumption) (by assumption) rfl (by repeat first | exact Sw.here | apply Sw.there) (by exact I4 (by symm; assumption)) ?_
 refine sD (nS (tS (tR (sQ (qM rfl) rfl ?_))))
 focus (refine I5 rfl (A67 G1 _ _ _ bs2 hb2) rfl rfl (fun v G2 hle2 hh => ?_); obtain ⟨b, cb, rfl, hrb, hfb⟩ := hh; replace hT := hT.mono hle2; replace hra := hra.mono hle2; have hcb := hfb.2; have hsb := hfb.1; have hlb := hrb.len; have hob := hrb.one; obtain ⟨y1, y2, y3, y4, y5, y6, y7, y8, y9, rfl⟩ : ∃ y1 y2 y3 y4 y5 y6 y7 y8 y9, cb = [y1, y2, y3, y4, y5, y6, y7, y8, y9] := (by obtain ⟨_, _, _, _, _, _, _, _, _, rfl, _⟩ := hrb.open; exact ⟨_, _, _, _, _, _, _, _, _, rfl⟩); have hsab := B6V hsa hsb; obtain ⟨l, ok, hct⟩ := A48 a; obtain ⟨l2, fine, hct2⟩ := A48 (A0K a b); obtain ⟨l3, good, hct3⟩ := A48 b; have hk : ok = true → fine = true → good = true ∧ l2.length = l.length + l3.length + 2 ∧ ((Q7 l3 500).2.1 ≠ 0 ∨ (Q7 l 500).2.1 = 5 ∨ Q7 l2 2000 = Q7 l 500) ∧ l2.length ≤ 120 := (by intro ho hf; rcases hct with ⟨h1, rfl, _⟩ | ⟨_, _, h2⟩; rotate_left; (rw [h2] at ho; cases ho); rcases hct2 with ⟨h3, rfl, _⟩ | ⟨_, _, h4⟩; rotate_left; (rw [h4] at hf; cases hf); obtain ⟨rfl, rfl⟩ := hct3.yes (B0Q h3); have h5 := B6k h1 h3; exact ⟨rfl, h5.1, h5.2, (A8R h3.2.2).2.1⟩); have hR1 := A49 l 500; have hR2 := A49 l2 2000; have hR3 := A49 l3 500; obtain ⟨⟨s1, k1, e1⟩, hr1⟩ : ∃ r, Q7 l 500 = r := ⟨_, rfl⟩; obtain ⟨⟨s2, k2, e2⟩, hr2⟩ : ∃ r, Q7 l2 2000 = r := ⟨_, rfl⟩; obtain ⟨⟨s3, k3, e3⟩, hr3⟩ : ∃ r, Q7 l3 500 = r := ⟨_, rfl⟩; rw [hr1] at hR1 hk; rw [hr2] at hR2 hk; rw [hr3] at hR3 hk; replace hk : ok = true → fine = true → good = true ∧ l2.length = l.length + l3.length + 2 ∧ (k3 ≠ 0 ∨ k1 = 5 ∨ (s2 = s1 ∧ k2 = k1 ∧ e2 = e1)) ∧ l2.length ≤ 120 := (fun h1 h2 => by obtain ⟨g1, g2, g3, g4⟩ := hk h1 h2; exact ⟨g1, g2, g3.imp id (fun g => g.imp id (fun g => by cases g; exact ⟨rfl, rfl, rfl⟩)), g4⟩); have hR10 : C6 500 := ⟨by decide, by decide⟩; cases ok; rotate_left; cases fine; rotate_left; obtain ⟨hgd, hk1, hk2, hk3⟩ := hk rfl rfl; subst hgd; rotate_left)
 refine sE (B6 rfl) rfl (fun b64 => ?_)
 refine A0h rfl rfl rfl (by assumption) (by assumption) rfl (by repeat first | exact Sw.here | apply Sw.there) (by exact I4 (by symm; assumption)) ?_
 refine sD (nS (tS (tR (sL (A7 rfl rfl) rfl rfl ?_))))
 (refine I5 rfl (A11 a _ _ l _ hct hsa hra) rfl rfl (fun v5 G5 hle5 hh => ?_); obtain ⟨p5, c5, rfl, hR5⟩ := hh; replace hra := hra.mono hle5; replace hrb := hrb.mono hle5; replace hT := hT.mono hle5)
 refine A05 ?_
 (refine I5 rfl (A37 a _ _ l _ hct hsa (by omega) hra) rfl rfl (fun v6 G6 hle6 hh => ?_); obtain ⟨p6, c6, rfl, hR6⟩ := hh; replace hra := hra.mono hle6; replace hrb := hrb.mono hle6; replace hT := hT.mono hle6; replace hR5 := hR5.mono hle6)
 refine A0n ?_
 (refine E0 (D0 rfl rfl rfl (by omega) (by unfold maxLen; omega) rfl) rfl ?_; rintro _ ⟨b94, rfl⟩)
 (refine Q8 (cs := [x1, x2, x3, x4, x5, x6, x7, x8, x9, y1, y2, y3, y4, y5, y6, y7, y8, y9]) (by repeat (first | exact Pk.here | apply Pk.there)) (fun G3 hle3 hsl3 hno3 => ?_); have hrP := A2z (k := 10) (ks := [a, b]) (es := [[x1, x2, x3, x4, x5, x6, x7, x8, x9], [y1, y2, y3, y4, y5, y6, y7, y8, y9]]) ⟨by decide, by decide⟩ rfl (C5.of hsl3 rfl (by simp) (by intro x hx; rcases List.mem_cons.1 hx with rfl | hx; exact hoa; obtain rfl := List.mem_singleton.1 hx; exact hob)) (by simp only [E3]; exact ⟨_, _, rfl, hra.mono hle3, _, _, rfl, hrb.mono hle3, rfl⟩); have hoP := hrP.one; replace hra := hra.mono hle3; replace hrb := hrb.mono hle3; replace hT := hT.mono hle3)
 refine sQ (D9 rfl rfl) rfl ?_
 refine sE (B6 rfl) rfl (fun b97 => ?_)
 refine B9 ?_
 refine sD (nS (tS (tR (sL (A7 rfl rfl) rfl rfl ?_))))
 (refine E0 (D0 rfl rfl rfl (by omega) (by unfold maxLen; omega) rfl) rfl ?_; rintro _ ⟨b104, rfl⟩)
 refine sQ (D9 rfl rfl) rfl ?_
 (refine Q8 (by repeat (first | exact Pk.here | apply Pk.there)) (fun G4 hle4 hsl4 hno4 => ?_); have hrF := A2z (k := 11) (ks := [A0H 10 [a, b]]) (es := [[.int .i64 10, .string ⟨⟨[]⟩⟩, .int .i64 0, .int .i64 0, .slice none 0 0, .int .i64 0, .slice none 0 0, .int .i64 0, .slice _ 2 _]]) ⟨by decide, by decide⟩ rfl (C5.of hsl4 rfl (by simp) (by intro x hx; obtain rfl := List.mem_singleton.1 hx; exact hoP)) (by simp only [E3]; exact ⟨_, _, rfl, hrP.mono hle4, rfl⟩); replace hra := hra.mono hle4; replace hrb := hrb.mono hle4; replace hT := hT.mono hle4; refine I5 rfl (A11 (A0K a b) _ _ l2 _ hct2 hsab (by exact hrF)) rfl rfl (fun v7 G7 hle7 hh => ?_); obtain ⟨p7, c7, rfl, hR7⟩ := hh; replace hra := hra.mono hle7; replace hrb := hrb.mono hle7; replace hT := hT.mono hle7; replace hR5 := (hR5.mono hle3).mono (hle4.trans hle7); replace hR6 := (hR6.mono hle3).mono (hle4.trans hle7))
 refine R5 ?_
 refine sQ (A1s rfl rfl rfl) rfl ?_
 refine sQ (qM rfl) rfl (sQ (qM rfl) rfl (sQ (qM rfl) rfl ?_))
 refine F0 rfl ((A2k l _ _ _ _ _ _ _ hR5 hR6)) rfl rfl ?_
 refine R6 ?_
 refine sQ (A5g rfl rfl rfl) rfl ?_
 refine sQ (qM rfl) rfl (sQ (qM rfl) rfl (sQ (qM rfl) rfl ?_))
 refine F0 rfl ((A2k l _ _ _ _ _ _ _ hR5 hR6)) rfl rfl ?_
 refine sQ (C1 rfl rfl) rfl (sQ (qA rfl) rfl (sD (nS (tT (rS (A6 (rT rfl) ?_))))))
 (exact ⟨rfl, rfl⟩)
 refine sE (B6 rfl) rfl (fun b154 => ?_)
 refine A0h rfl rfl rfl (by assumption) (by assumption) rfl (by repeat first | exact Sw.here | apply Sw.there) (by exact I4 (by symm; assumption)) ?_
 refine sD (nS (tS (tR (sL (A7 rfl rfl) rfl rfl ?_))))
 (refine I5 rfl (A11 a _ _ l _ hct hsa hra) rfl rfl (fun v5 G5 hle5 hh => ?_); obtain ⟨p5, c5, rfl, hR5⟩ := hh; replace hra := hra.mono hle5; replace hrb := hrb.mono hle5; replace hT := hT.mono hle5)
 refine A05 ?_
 (refine I5 rfl (A37 a _ _ l _ hct hsa (by omega) hra) rfl rfl (fun v6 G6 hle6 hh => ?_); obtain ⟨p6, c6, rfl, hR6⟩ := hh; replace hra := hra.mono hle6; replace hrb := hrb.mono hle6; replace hT := hT.mono hle6; replace hR5 := hR5.mono hle6)
 refine A0n ?_
 (refine E0 (D0 rfl rfl rfl (by omega) (by unfold maxLen; omega) rfl) rfl ?_; rintro _ ⟨b184, rfl⟩)
 (refine Q8 (cs := [x1, x2, x3, x4, x5, x6, x7, x8, x9, y1, y2, y3, y4, y5, y6, y7, y8, y9]) (by repeat (first | exact Pk.here | apply Pk.there)) (fun G3 hle3 hsl3 hno3 => ?_); have hrP := A2z (k := 10) (ks := [a, b]) (es := [[x1, x2, x3, x4, x5, x6, x7, x8, x9], [y1, y2, y3, y4, y5, y6, y7, y8, y9]]) ⟨by decide, by decide⟩ rfl (C5.of hsl3 rfl (by simp) (by intro x hx; rcases List.mem_cons.1 hx with rfl | hx; exact hoa; obtain rfl := List.mem_singleton.1 hx; exact hob)) (by simp only [E3]; exact ⟨_, _, rfl, hra.mono hle3, _, _, rfl, hrb.mono hle3, rfl⟩); have hoP := hrP.one; replace hra := hra.mono hle3; replace hrb := hrb.mono hle3; replace hT := hT.mono hle3)
 refine sQ (D9 rfl rfl) rfl ?_
 refine sE (B6 rfl) rfl (fun b187 => ?_)
 refine B9 ?_
 refine sD (nS (tS (tR (sL (A7 rfl rfl) rfl rfl ?_))))
 (refine E0 (D0 rfl rfl rfl (by omega) (by unfold maxLen; omega) rfl) rfl ?_; rintro _ ⟨b194, rfl⟩)
 refine sQ (D9 rfl rfl) rfl ?_
 (refine Q8 (by repeat (first | exact Pk.here | apply Pk.there)) (fun G4 hle4 hsl4 hno4 => ?_); have hrF := A2z (k := 11) (ks := [A0H 10 [a, b]]) (es := [[.int .i64 10, .string ⟨⟨[]⟩⟩, .int .i64 0, .int .i64 0, .slice none 0 0, .int .i64 0, .slice none 0 0, .int .i64 0, .slice _ 2 _]]) ⟨by decide, by decide⟩ rfl (C5.of hsl4 rfl (by simp) (by intro x hx; obtain rfl := List.mem_singleton.1 hx; exact hoP)) (by simp only [E3]; exact ⟨_, _, rfl, hrP.mono hle4, rfl⟩); replace hra := hra.mono hle4; replace hrb := hrb.mono hle4; replace hT := hT.mono hle4; refine I5 rfl (A11 (A0K a b) _ _ l2 _ hct2 hsab (by exact hrF)) rfl rfl (fun v7 G7 hle7 hh => ?_); obtain ⟨p7, c7, rfl, hR7⟩ := hh; replace hra := hra.mono hle7; replace hrb := hrb.mono hle7; replace hT := hT.mono hle7; replace hR5 := (hR5.mono hle3).mono (hle4.trans hle7); replace hR6 := (hR6.mono hle3).mono (hle4.trans hle7))
 refine R5 ?_
 refine sQ (A1s rfl rfl rfl) rfl ?_
 refine sQ (qM rfl) rfl (sQ (qM rfl) rfl (sQ (qM rfl) rfl ?_))
 refine F0 rfl ((A2k l _ _ _ _ _ _ _ hR5 hR6)) rfl rfl ?_
 refine R6 ?_
 refine sQ (A5g rfl rfl rfl) rfl ?_
 refine sQ (qM rfl) rfl (sQ (qM rfl) rfl (sQ (qM rfl) rfl ?_))
 refine F0 rfl ((A2k l _ _ _ _ _ _ _ hR5 hR6)) rfl rfl ?_
 refine sQ (C1 rfl rfl) rfl (sQ (qA rfl) rfl (sD (nS (tT (rS (A6 (rT rfl) ?_))))))
 (exact ⟨rfl, rfl⟩)
 refine sE (B6 rfl) rfl (fun b244 => ?_)
 refine A0h rfl rfl rfl (by assumption) (by assumption) rfl (by repeat first | exact Sw.here | apply Sw.there) (by exact I4 (by symm; assumption)) ?_
 refine sD (nS (tS (tR (sL (A7 rfl rfl) rfl rfl ?_))))
 (refine I5 rfl (A11 a _ _ l _ hct hsa hra) rfl rfl (fun v5 G5 hle5 hh => ?_); obtain ⟨p5, c5, rfl, hR5⟩ := hh; replace hra := hra.mono hle5; replace hrb := hrb.mono hle5; replace hT := hT.mono hle5)
 refine A05 ?_
 (refine I5 rfl (A37 a _ _ l _ hct hsa (by omega) hra) rfl rfl (fun v6 G6 hle6 hh => ?_); obtain ⟨p6, c6, rfl, hR6⟩ := hh; replace hra := hra.mono hle6; replace hrb := hrb.mono hle6; replace hT := hT.mono hle6; replace hR5 := hR5.mono hle6)
 refine A0n ?_
 (refine E0 (D0 rfl rfl rfl (by omega) (by unfold maxLen; omega) rfl) rfl ?_; rintro _ ⟨b274, rfl⟩)
 (refine Q8 (cs := [x1, x2, x3, x4, x5, x6, x7, x8, x9, y1, y2, y3, y4, y5, y6, y7, y8, y9]) (by repeat (first | exact Pk.here | apply Pk.there)) (fun G3 hle3 hsl3 hno3 => ?_); have hrP := A2z (k := 10) (ks := [a, b]) (es := [[x1, x2, x3, x4, x5, x6, x7, x8, x9], [y1, y2, y3, y4, y5, y6, y7, y8, y9]]) ⟨by decide, by decide⟩ rfl (C5.of hsl3 rfl (by simp) (by intro x hx; rcases List.mem_cons.1 hx with rfl | hx; exact hoa; obtain rfl := List.mem_singleton.1 hx; exact hob)) (by simp only [E3]; exact ⟨_, _, rfl, hra.mono hle3, _, _, rfl, hrb.mono hle3, rfl⟩); have hoP := hrP.one; replace hra := hra.mono hle3; replace hrb := hrb.mono hle3; replace hT := hT.mono hle3)
 refine sQ (D9 rfl rfl) rfl ?_
 refine sE (B6 rfl) rfl (fun b277 => ?_)
 refine B9 ?_
 refine sD (nS (tS (tR (sL (A7 rfl rfl) rfl rfl ?_))))
 (refine E0 (D0 rfl rfl rfl (by omega) (by unfold maxLen; omega) rfl) rfl ?_; rintro _ ⟨b284, rfl⟩)
 refine sQ (D9 rfl rfl) rfl ?_
 (refine Q8 (by repeat (first | exact Pk.here | apply Pk.there)) (fun G4 hle4 hsl4 hno4 => ?_); have hrF := A2z (k := 11) (ks := [A0H 10 [a, b]]) (es := [[.int .i64 10, .string ⟨⟨[]⟩⟩, .int .i64 0, .int .i64 0, .slice none 0 0, .int .i64 0, .slice none 0 0, .int .i64 0, .slice _ 2 _]]) ⟨by decide, by decide⟩ rfl (C5.of hsl4 rfl (by simp) (by intro x hx; obtain rfl := List.mem_singleton.1 hx; exact hoP)) (by simp only [E3]; exact ⟨_, _, rfl, hrP.mono hle4, rfl⟩); replace hra := hra.mono hle4; replace hrb := hrb.mono hle4; replace hT := hT.mono hle4; refine I5 rfl (A11 (A0K a b) _ _ l2 _ hct2 hsab (by exact hrF)) rfl rfl (fun v7 G7 hle7 hh => ?_); obtain ⟨p7, c7, rfl, hR7⟩ := hh; replace hra := hra.mono hle7; replace hrb := hrb.mono hle7; replace hT := hT.mono hle7; replace hR5 := (hR5.mono hle3).mono (hle4.trans hle7); replace hR6 := (hR6.mono hle3).mono (hle4.trans hle7))
 refine R5 ?_
 refine sQ (A1s rfl rfl rfl) rfl ?_
 refine sQ (qM rfl) rfl (sQ (qM rfl) rfl (sQ (qM rfl) rfl ?_))
 refine F0 rfl ((A2k l _ _ _ _ _ _ _ hR5 hR6)) rfl rfl ?_
 refine V6 ?_
 (refine I5 rfl (A11 b _ _ l3 _ hct3 hsb hrb) rfl rfl (fun v8 G8 hle8 hh => ?_); obtain ⟨p8, c8, rfl, hR8⟩ := hh; replace hT := hT.mono hle8; replace hR5 := hR5.mono hle8; replace hR7 := hR7.mono hle8)
 refine A05 ?_
 (refine I5 rfl (hR3 _ _ _ _ hT hR8 B1a) rfl rfl (fun v9 G9 hle9 hh => ?_); replace hh : v9 = .tuple ⟨[.string s3, .int .i64 k3, .int .i64 e3]⟩ := hh; subst hh; replace hT := hT.mono hle9; replace hR5 := hR5.mono hle9; replace hR7 := hR7.mono hle9)
 refine R5 ?_
 (refine I5 rfl (hR1 _ _ _ _ hT hR5 B1a) rfl rfl (fun v10 G10 hle10 hh => ?_); replace hh : v10 = .tuple ⟨[.string s1, .int .i64 k1, .int .i64 e1]⟩ := hh; subst hh; replace hT := hT.mono hle10; replace hR7 := hR7.mono hle10)
 refine R5 ?_
 (refine I5 rfl (hR2 _ _ _ _ hT hR7 B09) rfl rfl (fun v11 G11 hle11 hh => ?_); replace hh : v11 = .tuple ⟨[.string s2, .int .i64 k2, .int .i64 e2]⟩ := hh; subst hh)
 refine A06 ?_
 refine sP (H6 rfl rfl (by omega) (by omega)) rfl rfl ?_
 refine sP (H6 rfl rfl (by omega) (by omega)) rfl rfl ?_
 refine sP (W9 rfl rfl (by omega)) rfl rfl ?_
 refine sQ (C1 rfl rfl) rfl (sQ (qM rfl) rfl (sQ (qM rfl) rfl ?_))
 refine sB (P9 rfl rfl) rfl rfl (fun h385 => ?_) (fun h385 => ?_)
 refine A4e ?_
 (exact ⟨rfl, rfl⟩)
 refine sQ (qM rfl) rfl (sQ (qM rfl) rfl ?_)
 refine sB (qE rfl rfl) rfl rfl (fun h414 => ?_) (fun h414 => ?_)
 refine A09 ?_
 (exact ⟨rfl, rfl⟩)
 refine sQ (D7 rfl rfl) rfl (sQ (qM rfl) rfl (sQ (qM rfl) rfl (sQ (qM rfl) rfl ?_)))
 refine sP (W9 rfl rfl (by omega)) rfl rfl ?_
 refine sQ (qM rfl) rfl (sQ (qM rfl) rfl (sQ (qM rfl) rfl ?_))
 (have hs12 : s2 = s1 := (by rcases hk2 with h | h | h; omega; omega; exact h.1); subst hs12; refine sQ (B08 rfl rfl) rfl ?_)
 refine sQ (C1 rfl rfl) rfl (sQ (qM rfl) rfl (sQ (qM rfl) rfl (sQ (qM rfl) rfl ?_)))
 refine sP (W9 rfl rfl (by omega)) rfl rfl ?_
 refine sQ (C1 rfl rfl) rfl (sQ (D7 rfl rfl) rfl (sQ (C1 rfl rfl) rfl (sQ (qA rfl) rfl (sD (nS (tT (A6 (rT rfl) ?_)))))))
 (exact ⟨rfl, rfl⟩)
end Gw
end Go.Proofs.YtgodjiieijekiaaGreatDoor
