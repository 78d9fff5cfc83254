/-
  ConfigCosts, ConfigCasts, WorstConfig of the reference.
-/
import Derived.Test.YtfpgncjeejickaaGreatKg8
import Derived.Test.YtfpgncjeejickaaGreatKg7
import Derived.Test.YtfpgncjeejickaaGreatKg6
import Derived.Test.YtfpgncjeejickaaGreatKg1
import Derived.Test.YtfpgncjeejickaaGreatKg2
import Derived.Test.YtfpgncjeejickaaGreatKg5
import Derived.Test.YtfpgncjeejickaaGreatShelf
import Derived.Test.YtfpgncjeejickaaGreatKg3
set_option linter.unusedVariables false
set_option linter.unusedSimpArgs false
set_option maxHeartbeats 0
set_option maxRecDepth 100000
set_option synthInstance.maxSize 4000
set_option synthInstance.maxHeartbeats 0
namespace Go.Proofs.YtfpgncjeejickaaGreat
open Go Go.RowKit
namespace Gw
theorem A3q {l : List Int} {i : Nat} (h : i < l.length) : l.getD i 0 = l[i] := by
 rw [List.getD_eq_getElem?_getD, List.getElem?_eq_getElem h]; rfl
theorem B6i {e : Tm} {fuel : Int} (h : 0 ≤ fuel) (h2 : fuel ≤ 300) : A0E e fuel = ((S9 fuel.toNat e).2.2.2 : Int) := by
 unfold A0E; rw [if_pos ⟨h, h2⟩]
theorem B6j {e : Tm} {fuel : Int} (h : fuel < 0 ∨ 300 < fuel) : A0E e fuel = 0 := by
 unfold A0E; rw [if_neg (by omega)]
theorem B6k (e : Tm) (fuel : Int) (G : IM) (cells : List Value) (hcnt : D0 e ≤ 4294967296) (hr : A8 G e cells) : Fn Tryz.prog 64 [.agg ⟨cells⟩, .int .i64 fuel] [] G (J4 fun _ v => v = .int .i64 (A0E e fuel)) := by
 have hRl := hr.len
 have hRo := hr.one
 have hno := @B6j e fuel
 have hye := @B6i e fuel
 refine C0 Tryz.func64 rfl Tryz.ntmps64 Tryz.results64 rfl ?_
 intro w0
 refine tS (tR ?_)
 refine sE (C5 rfl rfl) rfl (fun b3 => ?_)
 refine B4 ?_
 refine sB (I0 rfl rfl) rfl rfl (fun h11 => ?_) (fun h11 => ?_)
 refine I6 ?_
 (exact ⟨rfl, by rw [hno (by omega)]⟩)
 refine D7 ?_
 refine sB (X2 rfl rfl) rfl rfl (fun h30 => ?_) (fun h30 => ?_)
 refine K8 ?_
 (exact ⟨rfl, by rw [hno (by omega)]⟩)
 refine D6 ?_
 refine sL (A2 rfl rfl (A9 (by repeat first | exact mH | apply mT)) hRl) rfl rfl ?_
 refine sQ (qM rfl) rfl ?_
 (have hE := B58 e fuel.toNat (by omega) G cells hcnt hr; rw [Int.toNat_of_nonneg (by omega)] at hE; have hye2 := hye (by omega) (by omega); refine D8 rfl hE rfl rfl (fun v G1 hle1 hh => ?_); obtain ⟨wc, hv, hrw⟩ := hh; have hwl := hrw.len; have hwo := hrw.one; generalize S9 fuel.toNat e = r at hv hrw hye2; obtain ⟨w, c, l, i⟩ := r; simp only at hv hrw hye2; subst hv)
 refine B0 ?_
 refine sE (A6 rfl) rfl (fun b60 => ?_)
 refine sS rfl rfl rfl hwl hwo rfl ?_ (hu := by exact D5 hwl.symm)
 refine K3 ?_
 (exact ⟨rfl, by rw [hye2]⟩)
theorem B0S (t : Tm) (fuel : Int) (G : IM) (cells : List Value) (hts : t.small) (hcnt : D0 t ≤ 4000000) (hr : A8 G t cells) :
  Fn Tryz.prog 21 [.agg ⟨cells⟩, .int .i64 fuel] [] G (IsP ((U0 t fuel).getD []) (U0 t fuel).isSome G) := by
 have hl := hr.len
 have hone := hr.one
 have hvv := @A5h t
 have hno : ¬ ((O0 t).isSome = true ∧ (T3 t).length ≤ 6 ∧ 0 ≤ fuel ∧ fuel ≤ 300) → U0 t fuel = none := fun h => by
  unfold U0
  split
  ·rename_i hw
   unfold V2
   rw [if_neg (fun hc => h ⟨hc.1, by rw [A1f (hvv hc.1)]; exact hc.2, A14.1 hw⟩)]; rfl
  ·rfl
 have hyes : (O0 t).isSome = true ∧ (T3 t).length ≤ 6 ∧ 0 ≤ fuel ∧ fuel ≤ 300 → U0 t fuel = some ((List.range (2 ^ (T3 t).length)).map fun m => A2h (P5 t m) fuel) := fun h => by
  unfold U0 V2
  rw [if_pos (A14.2 h.2.2), if_pos ⟨h.1, by rw [← A1f (hvv h.1)]; exact h.2.1⟩, A1f (hvv h.1)]
  simp [A1S, Function.comp_def]
 have hF := B0s t fuel G cells hts hcnt hr
 obtain ⟨Q, hQ⟩ : ∃ Q, decide ((O0 t).isSome = true ∧ (T3 t).length ≤ 6 ∧ 0 ≤ fuel ∧ fuel ≤ 300) = Q := ⟨_, rfl⟩
 rw [hQ] at hF
 have hBl : Q = true → ∀ (m : Nat) (G : IM) (cells : List Value), m < 2 ^ (T3 t).length → A8 G t cells → Fn Tryz.prog 62 [.agg ⟨cells⟩, .int .i64 (m : Int)] [] G (J4 fun G' v => ∃ cu, v = .tuple ⟨[.agg ⟨cu⟩, .bool true]⟩ ∧ A8 G' (P5 t m) cu) := fun h m G cells hm hr => by
  have hc := of_decide_eq_true (hQ.trans h)
  have hv := hvv hc.1
  have h6 := hc.2.1
  rw [A1f hv] at hm h6
  have : 2 ^ (H0 t).length ≤ 2 ^ 6 := Nat.pow_le_pow_right (by decide) h6
  exact B0r t m G cells hv (by omega) hm (by omega) hr
 have hbc : ∀ m, D0 (P5 t m) ≤ 4294967296 := fun m => by
  have h0 := (A5j t (P1 m 0 (H0 t)) hts (fun u hu => by rcases A2K m (H0 t) 0 u hu with rfl | hu; exact A49; exact A32 t hts u hu)).2
  unfold P5; omega
 generalize U0 t fuel = R at *
 refine C0 Tryz.func21 rfl Tryz.ntmps21 Tryz.results21 rfl ?_
 intro w0
 refine tS (tR ?_)
 refine sE (C5 rfl rfl) rfl (fun b3 => ?_)
 refine A7 ?_
 (refine I1 (C9 rfl rfl rfl (by omega) (by unfold maxLen; omega) rfl) rfl ?_; rintro _ ⟨b10, rfl⟩)
 refine A7 ?_
 refine sL (A2 rfl rfl (A9 (by repeat first | exact mH | apply mT)) hl) rfl rfl ?_
 refine sQ (qM rfl) rfl ?_
 (refine D8 rfl hF rfl rfl (fun v1 G1 hle1 hh => ?_); subst hh; replace hr := hr.mono hle1; cases Q)
 refine J2 ?_
 (have hno2 := hno (of_decide_eq_false hQ); refine E9 (by repeat (first | exact Pk.here | apply Pk.there)) (fun G5 hle5 hsl5 hno5 => ?_))
 refine tT (rS ?_)
 refine F0 (rT rfl) (rT rfl) ?_
 (exact IsP.mk (l := []) (by rw [hno2]; rfl) (by rw [hno2]; rfl) rfl ⟨by simpa [N6] using hsl5.dif (fun b hb => (hno5 b hb).1) hle1, fun b hb => A3C hle1 (hno5 b hb)⟩)
 refine K8 ?_
 refine B8 ?_
 (have hc := of_decide_eq_true hQ; have hy2 := hyes hc; have hBt := hBl rfl; have hlen6 := hc.2.1; have hC := fun G cells hr => A5g t G cells hts hcnt hr; generalize (T3 t).length = N1 at *; have hp64 : 2 ^ N1 ≤ 2 ^ 6 := Nat.pow_le_pow_right (by decide) hlen6; refine I2 (fun (x : Nat × Option Addr × Nat × IM) => ⟨[(7, .int .i64 x.1), (6, .slice x.2.1 x.1 x.2.2.1), (1, .int .i64 fuel), (2, .pointer (some ⟨b3, 0, none⟩))], [.slc x.2.1 x.2.2.1 3 1 x.1 (N6 ((List.range x.1).map fun m => A2h (P5 t m) fuel)), .blk b3 cells], x.2.2.2⟩) (fun x => x.1 ≤ 2 ^ N1 ∧ B9 G1 x.2.2.2) (fun x => 2 ^ N1 - x.1) (0, some ⟨b10, 0, none⟩, 0, G1) ?_ ?_ ?_)
 (simp only [H6]; exact D3)
 (exact ⟨Nat.zero_le _, B9.refl _⟩)
 (rintro ⟨(i : Nat), pn, cn, Gi⟩ ⟨hi, hle⟩; simp only [] at hi hle ⊢; replace hr := hr.mono hle)
 refine B6 ?_
 refine sL (A2 rfl rfl (A9 (by repeat first | exact mH | apply mT)) hl) rfl rfl ?_
 (refine D8 rfl (hC _ cells hr) rfl rfl (fun v2 G2 hle2 hh => ?_); subst hh; replace hr := hr.mono hle2)
 refine sP (A31 rfl rfl (by omega)) rfl rfl ?_
 refine sB (I0 rfl rfl) rfl rfl (fun h60 => ?_) (fun h60 => ?_)
 refine A7 ?_
 refine B8 ?_
 refine tS (tR ?_)
 refine sL (A2 rfl rfl (A9 (by repeat first | exact mH | apply mT)) hl) rfl rfl ?_
 refine sQ (qM rfl) rfl ?_
 (refine D8 rfl (hBt i _ cells (by omega) hr) rfl rfl (fun v3 G3 hle3 hh => ?_); obtain ⟨cu, rfl, hru⟩ := hh; have hul := hru.len; have huo := hru.one; have hI := B0c (P5 t i) G3 cu (hbc i) hru)
 refine E3 ?_
 refine sE (A6 rfl) rfl (fun b76 => ?_)
 refine sS rfl rfl rfl hul huo rfl ?_ (hu := by exact D5 hul.symm)
 refine B0 ?_
 refine sL (A2 rfl rfl (A9 (by repeat first | exact mH | apply mT)) hul) rfl rfl ?_
 (refine D8 rfl hI rfl rfl (fun v5 G5 hle5 hh => ?_); obtain ⟨cz, ct, rfl, hrz, hrt⟩ := hh; obtain ⟨qt, dt, et2, rfl, _⟩ := hrt.open; have hlz := hrz.len; have hoz := hrz.one; have hcz := A61 (P5 t i); have hCS := B6k _ fuel G5 cz (by omega) hrz)
 refine B6 ?_
 refine sE (A6 rfl) rfl (fun b89 => ?_)
 refine sE (A6 rfl) rfl (fun b90 => ?_)
 refine sS rfl rfl rfl hlz hoz rfl ?_ (hu := by exact D5 hlz.symm)
 refine A7 ?_
 refine sL (A2 rfl rfl (A9 (by repeat first | exact mH | apply mT)) hlz) rfl rfl ?_
 refine sQ (qM rfl) rfl ?_
 (refine D8 rfl hCS rfl rfl (fun v4 G4 hle4 hh => ?_); subst hh)
 (refine I1 (C9 rfl rfl rfl (by omega) (by unfold maxLen; omega) rfl) rfl ?_; rintro _ ⟨b101, rfl⟩)
 (refine X4 rfl rfl rfl rfl rfl (fun _ _ => by repeat (first | exact Sw.here | apply Sw.there)) (M6 (by repeat first | exact mH | apply mT)) rfl (by simp [Value.oneCell']) (by unfold maxLen; omega) (by omega) rfl (fun p8 c8 => ?_))
 refine A7 ?_
 refine sP (H2 rfl rfl (by omega) (by omega)) rfl rfl ?_
 refine D7 ?_
 (refine H9 (i + 1, p8, c8, G4) (by rw [A6L, A4w]; exact (J8 (by repeat (first | exact D4.nil | refine D4.cons rfl ?_)) (by repeat (first | exact A0.refl | exact A0.nil | refine A0.cons (by repeat (first | exact Pk.here | apply Pk.there)) ?_ | apply A0.drop)))) ?_ ?_)
 (dsimp only; exact ⟨by omega, hle.trans (hle2.trans (hle3.trans (hle5.trans hle4)))⟩)
 (show 2 ^ N1 - (i + 1) < 2 ^ N1 - i; omega)
 refine I6 ?_
 (obtain rfl : i = 2 ^ N1 := (by omega); refine E9 (cs := N6 ((List.range (2 ^ N1)).map fun m => A2h (P5 t m) fuel)) (by repeat (first | exact Pk.here | apply Pk.there)) (fun G9 hle9 hsl9 hno9 => ?_))
 refine tT ?_
 refine F0 (rT rfl) (rT rfl) ?_
 (exact IsP.mk (l := (List.range (2 ^ N1)).map fun m => A2h (P5 t m) fuel) (by rw [hy2]; rfl) (by rw [hy2]; rfl) (by simp) ⟨by rw [List.length_map, List.length_range]; exact hsl9.dif (fun b hb => (hno9 b hb).1) (hle1.trans (hle.trans hle2)), fun b hb => A3C (hle1.trans (hle.trans hle2)) (hno9 b hb)⟩)
theorem B6l (t : Tm) (G : IM) (cells : List Value) (hts : t.small) (hcnt : D0 t ≤ 4000000) (hr : A8 G t cells) :
  Fn Tryz.prog 29 [.agg ⟨cells⟩] [] G (IsP ((A0j t).getD []) (A0j t).isSome G) := by
 have hl := hr.len
 have hone := hr.one
 have hvv := @A5h t
 have hno : ¬ ((O0 t).isSome = true ∧ (T3 t).length ≤ 6) → A0j t = none := fun h => by
  unfold A0j V2
  rw [if_neg (fun hc => h ⟨hc.1, by rw [A1f (hvv hc.1)]; exact hc.2⟩)]; rfl
 have hyes : (O0 t).isSome = true ∧ (T3 t).length ≤ 6 → A0j t = some ((List.range (2 ^ (T3 t).length)).map fun m => mNC (P5 t m)) := fun h => by
  unfold A0j V2
  rw [if_pos ⟨h.1, by rw [← A1f (hvv h.1)]; exact h.2⟩, A1f (hvv h.1)]
  simp [A1S, Function.comp_def]
 have hF := B0s t 0 G cells hts hcnt hr
 have hq0 : decide ((O0 t).isSome = true ∧ (T3 t).length ≤ 6 ∧ (0 : Int) ≤ 0 ∧ (0 : Int) ≤ 300) = decide ((O0 t).isSome = true ∧ (T3 t).length ≤ 6) := by simp
 rw [hq0] at hF
 obtain ⟨Q, hQ⟩ : ∃ Q, decide ((O0 t).isSome = true ∧ (T3 t).length ≤ 6) = Q := ⟨_, rfl⟩
 rw [hQ] at hF
 have hBl : Q = true → ∀ (m : Nat) (G : IM) (cells : List Value), m < 2 ^ (T3 t).length → A8 G t cells → Fn Tryz.prog 62 [.agg ⟨cells⟩, .int .i64 (m : Int)] [] G (J4 fun G' v => ∃ cu, v = .tuple ⟨[.agg ⟨cu⟩, .bool true]⟩ ∧ A8 G' (P5 t m) cu) := fun h m G cells hm hr => by
  have hc := of_decide_eq_true (hQ.trans h)
  have hv := hvv hc.1
  have h6 := hc.2
  rw [A1f hv] at hm h6
  have : 2 ^ (H0 t).length ≤ 2 ^ 6 := Nat.pow_le_pow_right (by decide) h6
  exact B0r t m G cells hv (by omega) hm (by omega) hr
 have hbc : ∀ m, D0 (P5 t m) ≤ 4294967296 := fun m => by
  have h0 := (A5j t (P1 m 0 (H0 t)) hts (fun u hu => by rcases A2K m (H0 t) 0 u hu with rfl | hu; exact A49; exact A32 t hts u hu)).2
  unfold P5; omega
 generalize A0j t = R at *
 refine C0 Tryz.func29 rfl Tryz.ntmps29 Tryz.results29 rfl ?_
 intro w0
 refine tS (tR ?_)
 refine sE (C5 rfl rfl) rfl (fun b3 => ?_)
 refine A7 ?_
 (refine I1 (C9 rfl rfl rfl (by omega) (by unfold maxLen; omega) rfl) rfl ?_; rintro _ ⟨b10, rfl⟩)
 refine A7 ?_
 refine sL (A2 rfl rfl (A9 (by repeat first | exact mH | apply mT)) hl) rfl rfl ?_
 (refine D8 rfl hF rfl rfl (fun v1 G1 hle1 hh => ?_); subst hh; replace hr := hr.mono hle1; cases Q)
 refine J2 ?_
 (have hno2 := hno (of_decide_eq_false hQ); refine E9 (by repeat (first | exact Pk.here | apply Pk.there)) (fun G5 hle5 hsl5 hno5 => ?_))
 refine tT (rS ?_)
 refine F0 (rT rfl) (rT rfl) ?_
 (exact IsP.mk (l := []) (by rw [hno2]; rfl) (by rw [hno2]; rfl) rfl ⟨by simpa [N6] using hsl5.dif (fun b hb => (hno5 b hb).1) hle1, fun b hb => A3C hle1 (hno5 b hb)⟩)
 refine K8 ?_
 refine B8 ?_
 (have hc := of_decide_eq_true hQ; have hy2 := hyes hc; have hBt := hBl rfl; have hlen6 := hc.2; have hC := fun G cells hr => A5g t G cells hts hcnt hr; generalize (T3 t).length = N1 at *; have hp64 : 2 ^ N1 ≤ 2 ^ 6 := Nat.pow_le_pow_right (by decide) hlen6; refine I2 (fun (x : Nat × Option Addr × Nat × IM) => ⟨[(5, .int .i64 x.1), (4, .slice x.2.1 x.1 x.2.2.1), (1, .pointer (some ⟨b3, 0, none⟩))], [.slc x.2.1 x.2.2.1 3 1 x.1 (N6 ((List.range x.1).map fun m => mNC (P5 t m))), .blk b3 cells], x.2.2.2⟩) (fun x => x.1 ≤ 2 ^ N1 ∧ B9 G1 x.2.2.2) (fun x => 2 ^ N1 - x.1) (0, some ⟨b10, 0, none⟩, 0, G1) ?_ ?_ ?_)
 (simp only [H6]; exact D3)
 (exact ⟨Nat.zero_le _, B9.refl _⟩)
 (rintro ⟨(i : Nat), pn, cn, Gi⟩ ⟨hi, hle⟩; simp only [] at hi hle ⊢; replace hr := hr.mono hle)
 refine B6 ?_
 refine sL (A2 rfl rfl (A9 (by repeat first | exact mH | apply mT)) hl) rfl rfl ?_
 (refine D8 rfl (hC _ cells hr) rfl rfl (fun v2 G2 hle2 hh => ?_); subst hh; replace hr := hr.mono hle2)
 refine sP (A31 rfl rfl (by omega)) rfl rfl ?_
 refine sB (I0 rfl rfl) rfl rfl (fun h59 => ?_) (fun h59 => ?_)
 refine A7 ?_
 refine B8 ?_
 refine tS (tR ?_)
 refine sL (A2 rfl rfl (A9 (by repeat first | exact mH | apply mT)) hl) rfl rfl ?_
 refine sQ (qM rfl) rfl ?_
 (refine D8 rfl (hBt i _ cells (by omega) hr) rfl rfl (fun v3 G3 hle3 hh => ?_); obtain ⟨cu, rfl, hru⟩ := hh; have hul := hru.len; have huo := hru.one; have hI := B0c (P5 t i) G3 cu (hbc i) hru)
 refine E3 ?_
 refine sE (A6 rfl) rfl (fun b75 => ?_)
 refine sS rfl rfl rfl hul huo rfl ?_ (hu := by exact D5 hul.symm)
 refine B0 ?_
 refine sL (A2 rfl rfl (A9 (by repeat first | exact mH | apply mT)) hul) rfl rfl ?_
 (refine D8 rfl hI rfl rfl (fun v5 G5 hle5 hh => ?_); obtain ⟨cz, ct, rfl, hrz, hrt⟩ := hh; obtain ⟨qt, dt, et2, rfl, _⟩ := hrt.open; have hlz := hrz.len; have hoz := hrz.one; have hcz := A61 (P5 t i); have hCS := B59 _ G5 cz (by omega) hrz)
 refine B6 ?_
 refine sE (A6 rfl) rfl (fun b88 => ?_)
 refine sE (A6 rfl) rfl (fun b89 => ?_)
 refine sS rfl rfl rfl hlz hoz rfl ?_ (hu := by exact D5 hlz.symm)
 refine A7 ?_
 refine sL (A2 rfl rfl (A9 (by repeat first | exact mH | apply mT)) hlz) rfl rfl ?_
 refine H3 rfl (hCS) rfl rfl ?_
 (refine I1 (C9 rfl rfl rfl (by omega) (by unfold maxLen; omega) rfl) rfl ?_; rintro _ ⟨b99, rfl⟩)
 (refine X4 rfl rfl rfl rfl rfl (fun _ _ => by repeat (first | exact Sw.here | apply Sw.there)) (M6 (by repeat first | exact mH | apply mT)) rfl (by simp [Value.oneCell']) (by unfold maxLen; omega) (by omega) rfl (fun p8 c8 => ?_))
 refine A7 ?_
 refine sP (H2 rfl rfl (by omega) (by omega)) rfl rfl ?_
 refine D7 ?_
 (refine H9 (i + 1, p8, c8, G5) (by rw [A6L, A4w]; exact (J8 (by repeat (first | exact D4.nil | refine D4.cons rfl ?_)) (by repeat (first | exact A0.refl | exact A0.nil | refine A0.cons (by repeat (first | exact Pk.here | apply Pk.there)) ?_ | apply A0.drop)))) ?_ ?_)
 (dsimp only; exact ⟨by omega, hle.trans (hle2.trans (hle3.trans hle5))⟩)
 (show 2 ^ N1 - (i + 1) < 2 ^ N1 - i; omega)
 refine I6 ?_
 (obtain rfl : i = 2 ^ N1 := (by omega); refine E9 (cs := N6 ((List.range (2 ^ N1)).map fun m => mNC (P5 t m))) (by repeat (first | exact Pk.here | apply Pk.there)) (fun G9 hle9 hsl9 hno9 => ?_))
 refine tT ?_
 refine F0 (rT rfl) (rT rfl) ?_
 (exact IsP.mk (l := (List.range (2 ^ N1)).map fun m => mNC (P5 t m)) (by rw [hy2]; rfl) (by rw [hy2]; rfl) (by simp) ⟨by rw [List.length_map, List.length_range]; exact hsl9.dif (fun b hb => (hno9 b hb).1) (hle1.trans (hle.trans hle2)), fun b hb => A3C (hle1.trans (hle.trans hle2)) (hno9 b hb)⟩)
theorem B6m (e : Tm) (fuel : Int) (G : IM) (cells : List Value) (hts : e.small) (hcnt : D0 e ≤ 4000000) (hr : A8 G e cells) :
  Fn Tryz.prog 17 [.agg ⟨cells⟩, .int .i64 fuel] [] G (J4 fun _ v => v = .tuple ⟨[.int .i64 (A0v e fuel).1, .bool (A0v e fuel).2]⟩) := by
 have hl := hr.len
 have hone := hr.one
 have hC := B0S e fuel G cells hts hcnt hr
 have hno : U0 e fuel = none → A0v e fuel = (0, false) := fun h => by unfold A0v; rw [h]
 have hyes : ∀ l, U0 e fuel = some l → A0v e fuel = (Lib.idxOf l (Lib.maxOf l), true) := fun l h => by unfold A0v; rw [h]
 have hlen := @A5n e fuel
 generalize U0 e fuel = R at *
 refine C0 Tryz.func17 rfl Tryz.ntmps17 Tryz.results17 rfl ?_
 intro w0
 refine tS (tR ?_)
 refine sE (C5 rfl rfl) rfl (fun b3 => ?_)
 refine A7 ?_
 refine sL (A2 rfl rfl (A9 (by repeat first | exact mH | apply mT)) hl) rfl rfl ?_
 refine sQ (qM rfl) rfl ?_
 focus (refine D8 rfl hC rfl rfl (fun v2 G2 hle2 hh => ?_); obtain ⟨p2, c2, rfl, hp2⟩ := hh; rcases R with _ | l; rotate_left; (obtain ⟨hl1, hl2⟩ := hlen rfl; have hsl : Sl G2 p2 l.length c2 1 (N6 l) := hp2.1.mono (C4.le _ _)); rotate_left)
 refine U4 ?_
 refine B8 ?_
 (refine I2 (fun (_ : Unit) => ⟨[(9, .int .i64 1), (8, .int .i64 0), (6, .slice p2 0 c2), (7, .bool false)], [], G2⟩) (fun _ => True) (fun _ => 0) () ?_ ?_ ?_)
 exact D3
 (trivial)
 (rintro ⟨⟩ _)
 refine A7 ?_
 refine sP (A1i rfl rfl (by omega)) rfl rfl ?_
 refine S6 ?_
 refine F0 (rT rfl) (rT rfl) ?_
 (exact ⟨rfl, by rw [hno rfl]⟩)
 refine U4 ?_
 refine B8 ?_
 (have hsl2 := hsl; refine I2 (fun (x : Nat × Nat) => ⟨[(9, .int .i64 (x.1 : Int)), (8, .int .i64 (x.2 : Int)), (6, .slice p2 l.length c2), (7, .bool true)], [], G2⟩) (fun x => 1 ≤ x.1 ∧ x.1 ≤ l.length ∧ x.2 < x.1 ∧ (∀ j, j < x.1 → l.getD j 0 ≤ l.getD x.2 0) ∧ ∀ j, j < x.2 → l.getD j 0 < l.getD x.2 0) (fun x => l.length - x.1) (1, 0) ?_ ?_ ?_)
 (simp only [H6]; exact D3)
 (exact ⟨by omega, by omega, by omega, fun j hj => (by obtain rfl : j = 0 := (by omega); exact Int.le_refl _), fun j hj => absurd hj (Nat.not_lt_zero j)⟩)
 (rintro ⟨(i : Nat), (b : Nat)⟩ ⟨hi1, hi, hbi, hle1, hlt1⟩; simp only [] at hi1 hi hbi hle1 hlt1 ⊢)
 refine A7 ?_
 refine sB (I0 rfl rfl) rfl rfl (fun h91 => ?_) (fun h91 => ?_)
 refine A7 ?_
 refine B8 ?_
 refine tS ?_
 (obtain ⟨bR, oR, vR, rfl, hvR, hatI, _⟩ := hsl.kid (i := i) (by omega); obtain ⟨bR2, oR2, vR2, hpq, hvR2, hatB, _⟩ := hsl.kid (i := b) (by omega); cases hpq; obtain rfl := A8w hvR (by omega); obtain rfl := A8w hvR2 (by omega); have hgi := A3q (show i < l.length by omega); have hgb := A3q (show b < l.length by omega); refine E0 E1 rfl ?_)
 refine I8 (i := 0) (l' := [tt,ff,ff,ff,ff,ff,ff,ff,ff]) rfl D2 (qM rfl) rfl (by kernel_rfl) rfl rfl ?_
 refine aP 1 rfl (qM rfl) rfl ?_
 refine aP 2 rfl (B3 (j := i) rfl rfl rfl (by omega)) rfl ?_
 refine aL 3 rfl (R3 rfl rfl (hatI _)) rfl ?_
 refine aP 4 rfl (qM rfl) rfl ?_
 refine aP 5 rfl (qM rfl) rfl ?_
 refine aP 6 rfl (B3 (j := b) rfl rfl rfl (by omega)) rfl ?_
 refine aL 7 rfl (R3 rfl rfl (hatB _)) rfl ?_
 refine A0w (i := 8) (l' := [tt,tt,tt,tt,tt,tt,tt,tt,tt]) rfl D2 (X2 rfl rfl) rfl (by kernel_rfl) rfl rfl (fun h109 => ?_) (fun h109 => ?_)
 refine J2 ?_
 refine sP (H2 rfl rfl (by omega) (by omega)) rfl rfl ?_
 refine D7 ?_
 (have hgt : l.getD b 0 < l.getD i 0 := (by omega); refine H9 (i + 1, i) ?_ ?_ ?_)
 (simp only [H6]; exact D3)
 (dsimp only; exact ⟨by omega, by omega, by omega, fun j hj => (by by_cases he : j = i; (subst he; exact Int.le_refl _); have := hle1 j (by omega); omega), fun j hj => (by have := hle1 j (by omega); omega)⟩)
 (show l.length - (i + 1) < l.length - i; omega)
 refine D6 ?_
 refine sP (H2 rfl rfl (by omega) (by omega)) rfl rfl ?_
 refine D7 ?_
 refine H9 (i + 1, b) ?_ ?_ ?_
 (simp only [H6]; exact D3)
 (dsimp only; exact ⟨by omega, by omega, by omega, fun j hj => (by by_cases he : j = i; (subst he; omega); exact hle1 j (by omega)), hlt1⟩)
 (show l.length - (i + 1) < l.length - i; omega)
 refine S6 ?_
 refine F0 (rT rfl) (rT rfl) ?_
 (exact ⟨rfl, by rw [hyes l rfl, B0E ⟨by omega, fun j hj => hle1 j (by omega), hlt1⟩]⟩)
def B65 (G : IM) : IM → Value → List A5 → Prop := J4 fun G' v => ∃ a ca b cb f, v = .tuple ⟨[.agg ⟨ca⟩, .agg ⟨cb⟩, .int .i64 f]⟩ ∧ A8 G' a ca ∧ a.fit 1100 ∧ A8 G' b cb ∧ b.fit 1100 ∧ F8 f
def B66 (G : IM) : IM → Value → List A5 → Prop := J4 fun G' v => ∃ a ca b cb d cd, v = .tuple ⟨[.agg ⟨ca⟩, .agg ⟨cb⟩, .agg ⟨cd⟩]⟩ ∧ A8 G' a ca ∧ a.fit 1100 ∧ A8 G' b cb ∧ b.fit 1100 ∧ A8 G' d cd ∧ d.fit 1100
def B0T (N : Nat) (G : IM) : IM → Value → List A5 → Prop := J4 fun G' v => ∃ a ca f, v = .tuple ⟨[.agg ⟨ca⟩, .int .i64 f]⟩ ∧ A8 G' a ca ∧ a.fit N ∧ F8 f
theorem B6n (br : Nat) (pb : Option Addr) (nb cb : Nat) (bs : List UInt8) (hnb : nb ≤ 2000) (p : Nat) (G : IM) (hb : Sl G pb nb cb 1 (N9 bs)) (hp : p < 1099511627776) :
  Fn Tryz.prog 117 [.pointer (some ⟨br, 0, none⟩)] [rd br pb nb cb p] G
   (A0e br pb nb cb p 1 (fun _ v => ∃ k, v = .int .i64 k ∧ F8 k)) := by
 refine C0 Tryz.func117 rfl Tryz.ntmps117 Tryz.results117 rfl ?_
 intro w0
 refine D6 ?_
 (refine I1 (C9 rfl rfl rfl (by omega) (by unfold maxLen; omega) rfl) rfl ?_; rintro _ ⟨b9, rfl⟩)
 (refine R6 (by repeat (first | exact Pk.here | apply Pk.there)) (fun Gf hlef hslf _ => ?_); refine I4 rfl (Y7 Gf br pb nb cb p bs _ _ _ _ (hb.mono hlef) hnb (by omega) hslf (by decide)) (Pk.perm (by repeat (first | exact Pk.here | apply Pk.there))) rfl rfl (fun v Gm outs hlen hh => ?_); obtain ⟨rfl, rfl, hv⟩ := hh; obtain ⟨kn, rfl, hkn⟩ : ∃ k, v = .int .i64 k ∧ F8 k := (by simp only [List.mem_cons, List.not_mem_nil, or_false] at hv; rcases hv with rfl | rfl | rfl | rfl | rfl | rfl | rfl <;> exact ⟨_, rfl, by unfold F8; omega⟩))
 refine B6 ?_
 refine H7 (outs := [rd br pb nb cb (p + 1)]) (rT rfl) (by repeat (first | exact A0.nil | refine A0.cons Pk.here ?_ | refine A0.cons (Pk.there Pk.here) ?_ | refine A0.cons (Pk.there (Pk.there Pk.here)) ?_ | apply A0.drop)) ?_
 (exact ⟨p + 1, by omega, by omega, rfl, kn, rfl, hkn⟩)
theorem B6o (G : IM) {n : Int} (h : F8 n) : A8 G (.mk 2 ⟨⟨[]⟩⟩ n (.mk 0 []) (.mk 0 []) 0 []) [.int .i64 2, .string ⟨⟨[]⟩⟩, .int .i64 n, .int .i64 0, .slice none 0 0, .int .i64 0, .slice none 0 0, .int .i64 0, .slice none 0 0] := by
 have h0 : C1 G (.mk 0 []) [.int .i64 0, .slice none 0 0] := by simp only [C1]; exact ⟨none, 0, [], rfl, ⟨by decide, by decide⟩, D1.nil G 2, by simp [C8]⟩
 simp only [A8]
 exact ⟨_, _, none, 0, [], rfl, ⟨by decide, by decide⟩, h, ⟨by decide, by decide⟩, h0, h0, D1.nil G 9, by simp [C6]⟩
theorem B6p (n : Int) : (Tm.mk 2 ⟨⟨[]⟩⟩ n (.mk 0 []) (.mk 0 []) 0 []).fit 30 := by
 refine ⟨?_, ?_⟩
 ·simp [Tm.small, Tm.smallL, Ty.small, Ty.smallL, ByteArray.size]
 ·rw [Y8]; simp [E7]
theorem B6q (br : Nat) (pb : Option Addr) (nb cb : Nat) (bs : List UInt8) (hnb : nb ≤ 2000) (p : Nat) (G : IM) (hb : Sl G pb nb cb 1 (N9 bs)) (hp : p + 9000000 < 1099511627776) :
  Fn Tryz.prog 108 [.pointer (some ⟨br, 0, none⟩)] [rd br pb nb cb p] G
   (A0e br pb nb cb p 9000000 (fun G' v => ∃ e cells, v = .agg ⟨cells⟩ ∧ A8 G' e cells ∧ e.fit 2000000)) := by
 have hm8 : mB 8 = 1968200 := by decide
 refine C0 Tryz.func108 rfl Tryz.ntmps108 Tryz.results108 rfl ?_
 intro w0
 refine tS (tR ?_)
 refine sE (A6 rfl) rfl (fun b3 => ?_)
 refine D6 ?_
 refine B8 ?_
 (refine I2 (fun (x : Nat × Nat × IM) => ⟨[(3, .int .i64 x.1), (0, .pointer (some ⟨br, 0, none⟩)), (2, .pointer (some ⟨b3, 0, none⟩))], [rd br pb nb cb x.2.1, .blk b3 [.int .i64 0, .string ⟨⟨[]⟩⟩, .int .i64 0, .int .i64 0, .slice none 0 0, .int .i64 0, .slice none 0 0, .int .i64 0, .slice none 0 0]], x.2.2⟩) (fun x => x.1 ≤ 4 ∧ B9 G x.2.2 ∧ p ≤ x.2.1 ∧ x.2.1 ≤ p + x.1 * 2000000) (fun x => 4 - x.1) (0, p, G) ?_ ?_ ?_)
 (simp only [H6]; exact D3)
 (exact ⟨by omega, B9.refl _, Nat.le_refl _, by dsimp only; omega⟩)
 (rintro ⟨(i : Nat), (p1 : Nat), G1⟩ ⟨hi, hleL, hpL, hpL2⟩; simp only [] at hi hleL hpL hpL2 ⊢; replace hb := hb.mono hleL)
 refine B6 ?_
 refine sB (I0 rfl rfl) rfl rfl (fun h21 => ?_) (fun h21 => ?_)
 refine A7 ?_
 refine B8 ?_
 refine B0 ?_
 (refine I1 (C9 rfl rfl rfl (by omega) (by unfold maxLen; omega) rfl) rfl ?_; rintro _ ⟨b34, rfl⟩)
 (refine R6 (by repeat (first | exact Pk.here | apply Pk.there)) (fun Gf hlef hslf _ => ?_); refine I4 rfl (Y7 Gf br pb nb cb (p1) bs _ _ _ _ (hb.mono hlef) hnb (by omega) hslf (by decide)) (Pk.perm (by repeat (first | exact Pk.here | apply Pk.there))) rfl rfl (fun v Gm outs hlen hh => ?_); obtain ⟨rfl, rfl, hv⟩ := hh; replace hb := hb.mono hlef; obtain ⟨dd, rfl, hdd⟩ : ∃ d : Nat, v = .int .i64 ((d + 1 : Nat) : Int) ∧ d ≤ 1 := (by simp only [List.mem_cons, List.not_mem_nil, or_false] at hv; rcases hv with rfl | rfl <;> first | exact ⟨0, rfl, by decide⟩ | exact ⟨1, rfl, by decide⟩); have hdB := A4O (Nat.le_succ_of_le hdd); replace hleL := hleL.trans hlef)
 (have hcall := A22 br pb nb cb bs hnb dd (p1 + 1) _ (by omega) hb (by omega); refine I4 rfl hcall (Pk.perm (by repeat (first | exact Pk.here | apply Pk.there))) rfl rfl (fun v Gn outs hleD hh => ?_); obtain ⟨pD, hpD1, hpD2, rfl, uD, cD, rfl, hrD, hsD, haD⟩ := hh; obtain ⟨qD, dD, eD, rfl, _⟩ := hrD.open; replace hb := hb.mono hleD; replace hleL := hleL.trans hleD)
 refine sQ (qM rfl) rfl ?_
 (refine I1 (C9 rfl rfl rfl (by omega) (by unfold maxLen; omega) rfl) rfl ?_; rintro _ ⟨b38, rfl⟩)
 (refine R6 (by repeat (first | exact Pk.here | apply Pk.there)) (fun Gf hlef hslf _ => ?_); refine I4 rfl (Y7 Gf br pb nb cb (pD) bs _ _ _ _ (hb.mono hlef) hnb (by omega) hslf (by decide)) (Pk.perm (by repeat (first | exact Pk.here | apply Pk.there))) rfl rfl (fun v Gm outs hlen hh => ?_); obtain ⟨rfl, rfl, hv⟩ := hh; replace hb := hb.mono hlef; replace hleL := hleL.trans hlef; replace hrD := hrD.mono hlef; obtain ⟨dp, rfl, hdp1, hdp2⟩ : ∃ d : Int, v = .int .i64 d ∧ 2 ≤ d ∧ d ≤ 4 := (by simp only [List.mem_cons, List.not_mem_nil, or_false] at hv; rcases hv with rfl | rfl | rfl | rfl <;> exact ⟨_, rfl, by decide, by decide⟩))
 (have hcall := A92 br pb nb cb bs hnb 8 dp uD (pD + 1) _ none 0 0 _ ⟨haD.le (by omega), by omega, by omega, .inr ⟨by omega, by omega⟩⟩ (by omega) (by omega) (by omega) (W1.nil _) hrD hb (by omega); refine I4 rfl hcall (Pk.perm (by repeat (first | exact Pk.here | apply Pk.there))) rfl rfl (fun v Gn outs hleM hh => ?_); obtain ⟨pM, hpM1, hpM2, rfl, eM, cM, rfl, hrM, hsmM, hcM⟩ := hh; have hlM := hrM.len; have hoM := hrM.one; replace hb := hb.mono hleM; replace hleL := hleL.trans hleM)
 refine sE (A6 rfl) rfl (fun b41 => ?_)
 refine U8 rfl rfl rfl hlM hoM rfl (by repeat first | exact Sw.here | apply Sw.there) (by exact D5 (by first | exact hlM.symm | omega)) ?_
 refine sD (nS (tS (tR ?_)))
 refine sL (A2 rfl rfl (A9 (by repeat first | exact mH | apply mT)) hlM) rfl rfl ?_
 (refine D8 rfl (A5g eM _ _ hsmM (by omega) hrM) rfl rfl (fun v G9 hle9 hh => ?_); subst hh; replace hb := hb.mono hle9; replace hleL := hleL.trans hle9; replace hrM := hrM.mono hle9)
 refine sB (Y0 rfl rfl) rfl rfl (fun h49 => ?_) (fun h49 => ?_)
 refine B0 ?_
 refine sL (A2 rfl rfl (A9 (by repeat first | exact mH | apply mT)) hlM) rfl rfl ?_
 refine U8 rfl rfl rfl hlM hoM rfl (by repeat first | exact Sw.here | apply Sw.there) (by exact D5 (by first | exact hlM.symm | omega)) ?_
 refine D6 ?_
 refine H7 (outs := [rd br pb nb cb pM]) (rC rfl (A2 rfl rfl (A9 (by repeat first | exact mH | apply mT)) hlM)) (by repeat (first | exact A0.nil | refine A0.cons Pk.here ?_ | refine A0.cons (Pk.there Pk.here) ?_ | refine A0.cons (Pk.there (Pk.there Pk.here)) ?_ | apply A0.drop)) ?_
 (exact ⟨pM, by omega, by omega, rfl, eM, _, rfl, hrM, hsmM, by omega⟩)
 refine D6 ?_
 refine sP (H2 rfl rfl (by omega) (by omega)) rfl rfl ?_
 refine D7 ?_
 refine H9 (i + 1, pM, G9) ?_ ?_ ?_
 (simp only [H6]; exact D3)
 (dsimp only; exact ⟨by omega, hleL, by omega, by omega⟩)
 (show 4 - (i + 1) < 4 - i; omega)
 refine J5 ?_
 refine H3 rfl ((A13 _ _)) rfl rfl ?_
 refine B6 ?_
 refine H7 (outs := [rd br pb nb cb p1]) (rC rfl (A2 rfl rfl (A9 (by repeat first | exact mH | apply mT)) rfl)) (by repeat (first | exact A0.nil | refine A0.cons Pk.here ?_ | refine A0.cons (Pk.there Pk.here) ?_ | refine A0.cons (Pk.there (Pk.there Pk.here)) ?_ | apply A0.drop)) ?_
 (exact ⟨p1, by omega, by omega, rfl, _, _, rfl, B6o _ ⟨by decide, by decide⟩, (B6p _).le (by omega)⟩)
theorem B0U (br : Nat) (pb : Option Addr) (nb cb : Nat) (bs : List UInt8) (hnb : nb ≤ 2000) (p : Nat) (G : IM) (hb : Sl G pb nb cb 1 (N9 bs)) (hp : p + 19000000 < 1099511627776) :
  Fn Tryz.prog 69 [.pointer (some ⟨br, 0, none⟩)] [rd br pb nb cb p] G
   (A0e br pb nb cb p 19000000 (fun G' v => ∃ e cells, v = .agg ⟨cells⟩ ∧ A8 G' e cells ∧ e.fit 2000000)) := by
 refine C0 Tryz.func69 rfl Tryz.ntmps69 Tryz.results69 rfl ?_
 intro w0
 refine tS (tR ?_)
 refine sE (A6 rfl) rfl (fun b3 => ?_)
 refine B0 ?_
 (have hcall := B6q br pb nb cb bs hnb p _ hb (by omega); refine I4 rfl hcall (Pk.perm (by repeat (first | exact Pk.here | apply Pk.there))) rfl rfl (fun v Gn outs hle1 hh => ?_); obtain ⟨p1, hp11, hp12, rfl, e0, ce0, rfl, hr0, hf0⟩ := hh; have hl1 := hr0.len; have ho1 := hr0.one; replace hb := hb.mono hle1)
 refine sE (A6 rfl) rfl (fun b10 => ?_)
 refine U8 rfl rfl rfl hl1 ho1 rfl (by repeat first | exact Sw.here | apply Sw.there) (by exact D5 (by first | exact hl1.symm | omega)) ?_
 refine A7 ?_
 (refine I4 rfl (Y3 _ br pb nb cb (p1) bs 8 hb hnb (by omega)) (Pk.perm (by repeat (first | exact Pk.here | apply Pk.there))) rfl rfl (fun v Gp outs hle18 hh => ?_); obtain ⟨rfl, rfl, j18, rfl, hj18, hk18⟩ := hh; skip)
 replace hr0 := hr0.mono hle18
 replace hb := hb.mono hle18
 refine sB (qE rfl rfl) rfl rfl (fun h19 => ?_) (fun h19 => ?_)
 refine A7 ?_
 (have hcall := B5b br pb nb cb bs hnb (p1 + 1) _ hb (by omega); refine I4 rfl hcall (Pk.perm (by repeat (first | exact Pk.here | apply Pk.there))) rfl rfl (fun v Gn outs hle4 hh => ?_); obtain ⟨p4, hp41, hp42, rfl, b2, cb2, rfl, hrb2, hfb2⟩ := hh; have hl3 := hrb2.len; have ho3 := hrb2.one)
 refine U8 rfl rfl rfl hl3 ho3 rfl (by repeat first | exact Sw.here | apply Sw.there) (by exact D5 (by first | exact hl3.symm | omega)) ?_
 refine sD (nS (tT (rS ?_)))
 refine H7 (outs := [rd br pb nb cb p4]) (rC rfl (A2 rfl rfl (A9 (by repeat first | exact mH | apply mT)) hl3)) (by repeat (first | exact A0.nil | refine A0.cons Pk.here ?_ | refine A0.cons (Pk.there Pk.here) ?_ | refine A0.cons (Pk.there (Pk.there Pk.here)) ?_ | apply A0.drop)) ?_
 (exact ⟨p4, by omega, by omega, rfl, b2, cb2, rfl, hrb2, hfb2.le (by omega)⟩)
 refine D6 ?_
 refine sL (A2 rfl rfl (A9 (by repeat first | exact mH | apply mT)) hl1) rfl rfl ?_
 (have hcall := B2R br pb nb cb bs hnb (p1 + 1) _ hb (by omega) e0 ce0 2000000 hf0 hr0; refine I4 rfl hcall (Pk.perm (by repeat (first | exact Pk.here | apply Pk.there))) rfl rfl (fun v Gn outs hle2 hh => ?_); obtain ⟨p2, hp21, hp22, rfl, e, ce, rfl, hre, hfe⟩ := hh; have hl3 := hre.len; have ho3 := hre.one)
 refine U8 rfl rfl rfl hl3 ho3 rfl (by repeat first | exact Sw.here | apply Sw.there) (by exact D5 (by first | exact hl3.symm | omega)) ?_
 refine sD (nS (tT ?_))
 refine H7 (outs := [rd br pb nb cb p2]) (rC rfl (A2 rfl rfl (A9 (by repeat first | exact mH | apply mT)) hl3)) (by repeat (first | exact A0.nil | refine A0.cons Pk.here ?_ | refine A0.cons (Pk.there Pk.here) ?_ | refine A0.cons (Pk.there (Pk.there Pk.here)) ?_ | apply A0.drop)) ?_
 (exact ⟨p2, by omega, by omega, rfl, e, ce, rfl, hre, hfe⟩)
theorem B6r (G : IM) (q : Option Addr) (n c : Nat) (bs : List UInt8) (hb : Sl G q n c 1 (N9 bs)) : Fn Tryz.prog 83 [.slice q n c] [] G (B0T 2000000 G) := by
 refine C0 Tryz.func83 rfl Tryz.ntmps83 Tryz.results83 rfl ?_
 intro w0
 refine tS (tR ?_)
 refine sE (A6 rfl) rfl (fun b3 => ?_)
 refine A7 ?_
 (refine I4 rfl (A8D G q n c bs hb) (List.Perm.refl _) rfl rfl (fun v G1 outs hle1 hh => ?_); obtain ⟨rfl, br, pb, nb, cb, bs', rfl, rfl, hnb, hb'⟩ := hh)
 refine A7 ?_
 (have hcall := B0U br pb nb cb bs' hnb 0 _ hb' (by omega); refine I4 rfl hcall (Pk.perm (by repeat (first | exact Pk.here | apply Pk.there))) rfl rfl (fun v Gn outs hle1 hh => ?_); obtain ⟨p1, hp11, hp12, rfl, e, ce, rfl, hre, hfe⟩ := hh; have hl1 := hre.len; have ho1 := hre.one; replace hb' := hb'.mono hle1)
 refine sE (A6 rfl) rfl (fun b18 => ?_)
 refine U8 rfl rfl rfl hl1 ho1 rfl (by repeat first | exact Sw.here | apply Sw.there) (by exact D5 (by first | exact hl1.symm | omega)) ?_
 refine sD (nS (tS ?_))
 refine E0 E1 rfl ?_
 refine L7 (i := 0) (l' := [tt,ff,ff,ff,ff]) rfl D2 (A2 rfl rfl (A9 (by repeat first | exact mH | apply mT)) hl1) rfl (by kernel_rfl) rfl rfl ?_
 refine aP 1 rfl (qM rfl) rfl ?_
 refine A3 2 ?_
 (have hcall := B6n br pb nb cb bs' hnb p1 _ hb' (by omega); refine Y6 (l' := [tt,tt,tt,ff,ff]) rfl rfl hcall (Pk.perm (by repeat (first | exact Pk.here | apply Pk.there))) rfl rfl rfl (by repeat (first | exact B1.nil | apply B1.dep (by decide +kernel) | apply B1.blk (by decide +kernel) (by repeat (first | exact Pk.here | apply Pk.there)) (by repeat first | exact mH | apply mT))) (fun v Gn outs hle5 hh => ?_); obtain ⟨p5, hp51, hp52, rfl, fl, rfl, hfl⟩ := hh; replace hre := hre.mono hle5)
 refine A3 3 ?_
 refine A4q rfl rfl rfl rfl hl1 ho1 rfl rfl (by repeat first | exact Sw.here | apply Sw.there) (by exact D5 hl1.symm) (by repeat (first | exact B1.nil | apply B1.dep (by decide +kernel) | apply B1.blk (by decide +kernel) (by repeat (first | exact Pk.here | apply Pk.there)) (by repeat first | exact mH | apply mT))) ?_
 refine aP 4 rfl (qA rfl) rfl ?_
 refine E8 (nS (tT ?_))
 refine F0 (rC rfl (A2 rfl rfl (A9 (by repeat first | exact mH | apply mT)) hl1)) (rT rfl) ?_
 (exact ⟨rfl, e, ce, fl, rfl, hre, hfe, hfl⟩)
def mFl (l : List Int) (i : Nat) : List Int := ((List.range i).filter fun j => decide (l.getD (l.length - 1 - 2 ^ j) 0 = 2 ∧ l.getD (l.length - 1) 0 ≠ 2)).map fun (j : Nat) => (j : Int)
def B67 (e : Tm) (fuel : Int) : Option (List Int) := (B6h e fuel).map fun l => mFl l (H0 e).length
section
variable {P : Program} {Γ : L9} {env : M4} {hp : List A5} {G : IM} {ty : TypeId}
end
structure B68 (e : Tm) (fuel : Int) (l : List Int) (n : Nat) : Prop where
 typed : (O0 e).isSome = true
 valid : N8 e = true
 fok : R8 fuel 0 300 = true
 slots : (H0 e).length = n
 n6 : n ≤ 6
 len : l.length = 2 ^ n
 get : ∀ i, i < 2 ^ n → l.getD i 0 = (A3Y (P5 e i) fuel).2.1
section
variable {e : Tm} {fuel : Int} {l : List Int} {n : Nat}
end
structure B69 (e : Tm) (fuel : Int) (l : List Int) : Prop where
 typed : (O0 e).isSome = true
 valid : N8 e = true
 rng : ∀ i (h : i < l.length), 0 ≤ l[i] ∧ l[i] < ((T3 e).length : Int)
 inc : ∀ i (h : i < l.length), 0 < i → l[i - 1] < l[i]
 no : 0 < l.length → (A3Y e fuel).2.1 ≠ 0
 len : l.length ≤ 30
theorem B0V (l l' : List Int) (G : IM) (p p' : Option Addr) (c c' : Nat) (h : Sl G p l.length c 1 (N6 l)) (h' : Sl G p' l'.length c' 1 (N6 l')) :
  Fn Tryz.prog 30 [.slice p l.length c, .slice p' l'.length c'] [] G (I5 (.bool (decide (l = l'))) G) := by
 have hn := h.le
 have hn' := h'.le
 refine C0 Tryz.func30 rfl Tryz.ntmps30 Tryz.results30 rfl ?_
 intro w0
 refine K8 ?_
 refine sB (O9 rfl rfl) rfl rfl (fun h13 => ?_) (fun h13 => ?_)
 refine J2 ?_
 (exact ⟨rfl, by rw [decide_eq_false (fun he => by have := congrArg List.length he; omega)], rfl⟩)
 refine J2 ?_
 refine B8 ?_
 (have hll : l.length = l'.length := (by omega); refine I2 (fun (i : Nat) => ⟨[(5, .int .i64 i), (0, .slice p l.length c), (1, .slice p' l'.length c')], [], G⟩) (fun i => i ≤ l.length ∧ ∀ j (h : j < l.length) (h' : j < l'.length), j < i → l[j] = l'[j]) (fun i => l.length - i) 0 ?_ ?_ ?_)
 exact D3
 exact ⟨by omega, fun j _ _ hj => absurd hj (by omega)⟩
 (rintro i ⟨hi, hf⟩)
 refine A7 ?_
 refine sB (I0 rfl rfl) rfl rfl (fun h48 => ?_) (fun h48 => ?_)
 refine A7 ?_
 refine B8 ?_
 refine tS ?_
 (obtain ⟨b, o, v, rfl, hv, hat, _⟩ := h.kid (i := i) (by omega); obtain ⟨hi1, rfl⟩ := A3D hv; obtain ⟨b', o', v', rfl, hv', hat', _⟩ := h'.kid (i := i) (by omega); obtain ⟨hi2, rfl⟩ := A3D hv'; refine E0 E1 rfl ?_)
 refine I8 (i := 0) (l' := [tt,ff,ff,ff,ff,ff,ff,ff,ff]) rfl D2 (qM rfl) rfl (by kernel_rfl) rfl rfl ?_
 refine aP 1 rfl (qM rfl) rfl ?_
 refine aP 2 rfl (B3 rfl rfl rfl (by omega)) rfl ?_
 refine aL 3 rfl (R3 rfl rfl (hat _)) rfl ?_
 refine aP 4 rfl (qM rfl) rfl ?_
 refine aP 5 rfl (qM rfl) rfl ?_
 refine aP 6 rfl (B3 rfl rfl rfl (by omega)) rfl ?_
 refine aL 7 rfl (R3 rfl rfl (hat' _)) rfl ?_
 refine A0w (i := 8) (l' := [tt,tt,tt,tt,tt,tt,tt,tt,tt]) rfl D2 (O9 rfl rfl) rfl (by kernel_rfl) rfl rfl (fun h66 => ?_) (fun h66 => ?_)
 refine I6 ?_
 (exact ⟨rfl, by rw [decide_eq_false (fun he => by subst he; omega)], rfl⟩)
 refine D6 ?_
 refine sP (H2 rfl rfl (by omega) (by omega)) rfl rfl ?_
 refine D7 ?_
 refine H9 (i + 1) ?_ ?_ ?_
 exact D3
 exact ⟨by omega, fun j hj hj' hji => by (by_cases he : j = i; (subst he; omega); exact hf j hj hj' (by omega))⟩
 omega
 refine I6 ?_
 (exact ⟨rfl, by rw [decide_eq_true (List.ext_getElem hll (fun j h1 h2 => hf j h1 h2 (by omega)))], rfl⟩)
theorem A68 {P : Program} {Γ : L9} {env : M4} {hp : List A5} {G : IM} {ty : TypeId} {x y : Operand} {t t' : TypeId} {i : L5} [hI : I9 P t i] (hd : i.desc = .bool) {r : Bool} (hx : evo env x = some (.bool r)) (hy : evo env y = some (.bool r)) :
  I7 P Γ ⟨env, hp, G⟩ (.binOp .eql t x y t') ty (.bool true) := by
 have h := B1j (P := P) (Γ := Γ) (hp := hp) (G := G) (t := t) (t' := t') (ty := ty) (i := i) hd hx hy
 simpa using h
theorem A4b {l : List Int} {G : IM} {b o : Nat} {c : Nat} (h : Sl G (some ⟨b, o, none⟩) l.length c 1 (N6 l)) (i : Nat) (hi : i < l.length) (hp : List A5) : At hp G b (o + i * 1) [.int .i64 l[i]] := by
 obtain ⟨b', o', v, h1, h2, h3, _⟩ := h.kid hi
 cases h1
 obtain ⟨hx, rfl⟩ := A3D h2
 exact h3 hp
theorem B0W {l : List Int} {G : IM} {p : Option Addr} {c : Nat} (h : Sl G p l.length c 1 (N6 l)) {i : Nat} (hi : i < l.length) :
  ∃ b o, p = some ⟨b, o, none⟩ ∧ ∀ hp, At hp G b (o + i * 1) [.int .i64 l[i]] := by
 obtain ⟨b, o, v, h1, h2, h3, _⟩ := h.kid hi
 obtain ⟨hx, rfl⟩ := A3D h2
 exact ⟨b, o, h1, h3⟩
theorem A5p {r : Option (List Int)} {l : List Int} (h1 : r.getD [] = l) (h2 : r.isSome = true) : r = some l := by
 cases r with
 | none => cases h2
 | some x => rw [← h1]; rfl
theorem B6s (G : IM) (q : Option Addr) (n c : Nat) (bs : List UInt8) (hb : Sl G q n c 1 (N9 bs)) : Fn Tryz.prog 35 [.slice q n c] [] G (B0T 2000000 G) := by
 have hD := B6r G q n c bs hb
 refine C0 Tryz.func35 rfl Tryz.ntmps35 Tryz.results35 rfl ?_
 intro w0
 refine tS (tR ?_)
 refine sE (A6 rfl) rfl (fun b3 => ?_)
 refine A7 ?_
 (refine D8 rfl hD rfl rfl (fun v1 G1 hle1 hh => ?_); obtain ⟨e, ce, fl, rfl, hre, hfe, hfl⟩ := hh; have hl1 := hre.len; have ho1 := hre.one)
 refine D7 ?_
 refine U8 rfl rfl rfl hl1 ho1 rfl (by repeat first | exact Sw.here | apply Sw.there) (by exact D5 (by first | exact hl1.symm | omega)) ?_
 refine B6 ?_
 refine F0 (rC rfl (A2 rfl rfl (A9 (by repeat first | exact mH | apply mT)) hl1)) (rT rfl) ?_
 (exact ⟨rfl, e, ce, fl, rfl, hre, hfe, hfl⟩)
theorem B6t (bs : List UInt8) (G : IM) (p : Option Addr) (n c : Nat) (hb : Sl G p n c 1 (N9 bs)) : Fn Tryz.prog 7 [.slice p n c] [] G (J4 fun _ v => v = .bool true) := by
 have hn := hb.le
 refine C0 Tryz.func7 rfl Tryz.ntmps7 Tryz.results7 rfl ?_
 intro w0
 refine J5 ?_
 refine sB (X2 rfl rfl) rfl rfl (fun h11 => ?_) (fun h11 => ?_)
 refine J2 ?_
 (exact ⟨rfl, rfl⟩)
 refine D6 ?_
 (refine D8 rfl (B6s G _ _ _ bs hb) rfl rfl (fun v G1 hle1 hh => ?_); obtain ⟨a, ca, fl, rfl, hra, hfa, hfl⟩ := hh; have hca := hfa.2; have hla := hra.len; have hoa := hra.one; have hA := B0I a fl G1 ca hfa.1 (by omega) hra; have hS := fun G cells hr => B0S a fl G cells hfa.1 (by omega) hr; have hWi := fun G cells hr => B5M a fl G cells hfa.1 (by omega) hr; have hWs := fun G cells hr => B6m a fl G cells hfa.1 (by omega) hr; obtain ⟨⟨w1, w2⟩, hW⟩ : ∃ r, A0v a fl = r := ⟨_, rfl⟩; rw [hW] at hWi hWs; obtain ⟨l, hL⟩ : ∃ l, (U0 a fl).getD [] = l := ⟨_, rfl⟩; obtain ⟨b, hB⟩ : ∃ b, (U0 a fl).isSome = b := ⟨_, rfl⟩; have hlaw := fun h : b = true => B5z (A5p hL (hB.trans h)); have hllen := fun h : b = true => A5n (A5p hL (hB.trans h)))
 refine E3 ?_
 refine sE (A6 rfl) rfl (fun b36 => ?_)
 refine sS rfl rfl rfl hla hoa rfl ?_ (hu := by exact D5 hla.symm)
 refine B0 ?_
 refine sL (A2 rfl rfl (A9 (by repeat first | exact mH | apply mT)) hla) rfl rfl ?_
 refine sQ (qM rfl) rfl ?_
 (refine D8 rfl hA rfl rfl (fun v2 G2 hle2 hh => ?_); obtain ⟨p2, c2, rfl, hp2⟩ := A5b hL hB hh; have hp21 := hp2.1.mono (C4.le _ _); replace hra := hra.mono hle2)
 refine E4 ?_
 refine sL (A2 rfl rfl (A9 (by repeat first | exact mH | apply mT)) hla) rfl rfl ?_
 refine sQ (qM rfl) rfl ?_
 (refine D8 rfl (hS _ _ hra) rfl rfl (fun v3 G3 hle3 hh => ?_); obtain ⟨p3, c3, rfl, hp3⟩ := A5b hL hB hh; have hp31 := hp3.1.mono (C4.le _ _); replace hp21 := hp21.mono hle3; replace hra := hra.mono hle3)
 refine E4 ?_
 refine sL (A2 rfl rfl (A9 (by repeat first | exact mH | apply mT)) hla) rfl rfl ?_
 refine sQ (qM rfl) rfl ?_
 (refine D8 rfl (hWi _ _ hra) rfl rfl (fun v4 G4 hle4 hh => ?_); replace hh : v4 = .tuple ⟨[.int .i64 w1, .bool w2]⟩ := hh; subst hh; replace hra := hra.mono hle4; replace hp21 := hp21.mono hle4; replace hp31 := hp31.mono hle4)
 refine E4 ?_
 refine sL (A2 rfl rfl (A9 (by repeat first | exact mH | apply mT)) hla) rfl rfl ?_
 refine sQ (qM rfl) rfl ?_
 (refine D8 rfl (hWs _ _ hra) rfl rfl (fun v5 G5 hle5 hh => ?_); replace hh : v5 = .tuple ⟨[.int .i64 w1, .bool w2]⟩ := hh; subst hh; replace hra := hra.mono hle5; replace hp21 := hp21.mono hle5; replace hp31 := hp31.mono hle5; have hI := B0V l l G5 p2 p3 c2 c3 hp21 hp31; rw [decide_eq_true rfl] at hI; cases b)
 refine K8 ?_
 refine sQ (A06 rfl rfl rfl) rfl ?_
 refine E3 ?_
 refine H3 rfl (hI) rfl rfl ?_
 refine B0 ?_
 refine sQ (A06 rfl rfl rfl) rfl ?_
 refine B6 ?_
 refine sP (A1D rfl rfl (by omega)) rfl rfl ?_
 refine K8 ?_
 refine sQ (A68 rfl rfl rfl) rfl ?_
 refine E3 ?_
 refine H3 rfl (hI) rfl rfl ?_
 refine B6 ?_
 refine sQ (A68 rfl rfl rfl) rfl ?_
 refine B6 ?_
 refine sP (Z5 rfl rfl (by omega)) rfl rfl ?_
 refine B4 ?_
 (exact ⟨rfl, rfl⟩)
 refine K8 ?_
 refine sQ (A06 rfl rfl rfl) rfl ?_
 refine E3 ?_
 refine H3 rfl (hI) rfl rfl ?_
 refine B0 ?_
 refine sQ (A06 rfl rfl rfl) rfl ?_
 refine B6 ?_
 refine sP (A1D rfl rfl (by omega)) rfl rfl ?_
 refine J9 ?_
 refine B8 ?_
 (obtain ⟨b0, hw0, hb0, hfa2⟩ := hlaw rfl; obtain ⟨hl1, hl64⟩ := hllen rfl; rw [hW] at hw0; obtain ⟨rfl, rfl⟩ := Prod.mk.inj hw0; obtain ⟨bR, oR, rfl, _⟩ := B0W hp21 hl1; have hat := A4b hp21; have hb0g := A3q hb0; refine I2 (fun (i : Nat) => ⟨[(13, .int .i64 i), (5, .slice (some ⟨bR, oR, none⟩) l.length c2), (4, .int .i64 fl), (9, .int .i64 (b0 : Int)), (10, .bool true)], [], G5⟩) (fun i => i ≤ l.length) (fun i => l.length - i) 0 ?_ ?_ ?_)
 exact D3
 exact Nat.zero_le _
 (rintro (i : Nat) hkI; replace hkI : i ≤ l.length := hkI)
 refine A7 ?_
 refine sB (I0 rfl rfl) rfl rfl (fun h200 => ?_) (fun h200 => ?_)
 refine A7 ?_
 refine B8 ?_
 refine tS ?_
 (have hi2 : i < l.length := (by omega); have hgi := A3q hi2; obtain ⟨f1, f2, f3, f4⟩ := hfa2 i hi2; rw [hgi] at f1 f2 f3 f4; rw [hb0g] at f3 f4; by_cases heq : l[i] = l[b0] <;> refine E0 E1 rfl ?_)
 refine I8 (i := 0) (l' := [tt,ff,ff,ff,ff,ff,ff,ff,ff,ff,ff,ff,ff,ff,ff,ff,ff,ff,ff,ff,ff,ff,ff,ff,ff,ff,ff,ff,ff,ff,ff,ff,ff,ff,ff,ff,ff,ff,ff,ff]) rfl D2 (qM rfl) rfl (by kernel_rfl) rfl rfl ?_
 refine aP 1 rfl (qM rfl) rfl ?_
 refine aP 2 rfl (B3 (j := i) rfl rfl rfl (by omega)) rfl ?_
 refine aL 3 rfl (R3 rfl rfl (hat i (by omega) _)) rfl ?_
 refine aP 4 rfl (A1i rfl rfl (by omega)) rfl ?_
 refine aP 5 rfl (qM rfl) rfl ?_
 refine aP 6 rfl (qM rfl) rfl ?_
 refine aP 7 rfl (qM rfl) rfl ?_
 refine aP 8 rfl (B3 (j := i) rfl rfl rfl (by omega)) rfl ?_
 refine aL 9 rfl (R3 rfl rfl (hat i (by omega) _)) rfl ?_
 refine aP 10 rfl (qM rfl) rfl ?_
 refine aP 11 rfl (A3x rfl rfl (by omega)) rfl ?_
 refine aP 12 rfl (N4 rfl rfl) rfl ?_
 refine aP 13 rfl (qM rfl) rfl ?_
 refine aP 14 rfl (qM rfl) rfl ?_
 refine aP 15 rfl (qM rfl) rfl ?_
 refine aP 16 rfl (B3 (j := i) rfl rfl rfl (by omega)) rfl ?_
 refine aL 17 rfl (R3 rfl rfl (hat i (by omega) _)) rfl ?_
 refine aP 18 rfl (qM rfl) rfl ?_
 refine aP 19 rfl (qM rfl) rfl ?_
 refine aP 20 rfl (B3 (j := b0) rfl rfl rfl (by omega)) rfl ?_
 refine aL 21 rfl (R3 rfl rfl (hat b0 (by omega) _)) rfl ?_
 refine aP 22 rfl (A3x rfl rfl (by omega)) rfl ?_
 refine aP 23 rfl (N4 rfl rfl) rfl ?_
 refine aP 24 rfl (qM rfl) rfl ?_
 refine aP 25 rfl (qM rfl) rfl ?_
 refine aP 26 rfl (qM rfl) rfl ?_
 refine aP 27 rfl (B3 (j := i) rfl rfl rfl (by omega)) rfl ?_
 refine aL 28 rfl (R3 rfl rfl (hat i (by omega) _)) rfl ?_
 refine aP 29 rfl (qM rfl) rfl ?_
 refine aP 30 rfl (qM rfl) rfl ?_
 refine aP 31 rfl (B3 (j := b0) rfl rfl rfl (by omega)) rfl ?_
 refine aL 32 rfl (R3 rfl rfl (hat b0 (by omega) _)) rfl ?_
 refine aP 33 rfl (Z5 rfl rfl (by omega)) rfl ?_
 refine aP 34 rfl (qM rfl) rfl ?_
 refine aP 35 rfl (qM rfl) rfl ?_
 refine aP 36 rfl (qM rfl) rfl ?_
 refine aP 37 rfl (A1i rfl rfl (by omega)) rfl ?_
 refine aP 38 rfl (N7 rfl rfl) rfl ?_
 refine aP 39 rfl (N4 rfl rfl) rfl ?_
 refine D6 ?_
 refine sP (H2 rfl rfl (by omega) (by omega)) rfl rfl ?_
 refine D7 ?_
 refine H9 (i + 1) ?_ ?_ ?_
 exact D3
 (show i + 1 ≤ l.length; omega)
 (show l.length - (i + 1) < l.length - i; omega)
 refine I8 (i := 0) (l' := [tt,ff,ff,ff,ff,ff,ff,ff,ff,ff,ff,ff,ff,ff,ff,ff,ff,ff,ff,ff,ff,ff,ff,ff,ff,ff,ff,ff,ff,ff,ff,ff,ff,ff,ff,ff,ff,ff,ff,ff]) rfl D2 (qM rfl) rfl (by kernel_rfl) rfl rfl ?_
 refine aP 1 rfl (qM rfl) rfl ?_
 refine aP 2 rfl (B3 (j := i) rfl rfl rfl (by omega)) rfl ?_
 refine aL 3 rfl (R3 rfl rfl (hat i (by omega) _)) rfl ?_
 refine aP 4 rfl (A1i rfl rfl (by omega)) rfl ?_
 refine aP 5 rfl (qM rfl) rfl ?_
 refine aP 6 rfl (qM rfl) rfl ?_
 refine aP 7 rfl (qM rfl) rfl ?_
 refine aP 8 rfl (B3 (j := i) rfl rfl rfl (by omega)) rfl ?_
 refine aL 9 rfl (R3 rfl rfl (hat i (by omega) _)) rfl ?_
 refine aP 10 rfl (qM rfl) rfl ?_
 refine aP 11 rfl (A3x rfl rfl (by omega)) rfl ?_
 refine aP 12 rfl (N4 rfl rfl) rfl ?_
 refine aP 13 rfl (qM rfl) rfl ?_
 refine aP 14 rfl (qM rfl) rfl ?_
 refine aP 15 rfl (qM rfl) rfl ?_
 refine aP 16 rfl (B3 (j := i) rfl rfl rfl (by omega)) rfl ?_
 refine aL 17 rfl (R3 rfl rfl (hat i (by omega) _)) rfl ?_
 refine aP 18 rfl (qM rfl) rfl ?_
 refine aP 19 rfl (qM rfl) rfl ?_
 refine aP 20 rfl (B3 (j := b0) rfl rfl rfl (by omega)) rfl ?_
 refine aL 21 rfl (R3 rfl rfl (hat b0 (by omega) _)) rfl ?_
 refine aP 22 rfl (A3x rfl rfl (by omega)) rfl ?_
 refine aP 23 rfl (N4 rfl rfl) rfl ?_
 refine aP 24 rfl (qM rfl) rfl ?_
 refine aP 25 rfl (qM rfl) rfl ?_
 refine aP 26 rfl (qM rfl) rfl ?_
 refine aP 27 rfl (B3 (j := i) rfl rfl rfl (by omega)) rfl ?_
 refine aL 28 rfl (R3 rfl rfl (hat i (by omega) _)) rfl ?_
 refine aP 29 rfl (qM rfl) rfl ?_
 refine aP 30 rfl (qM rfl) rfl ?_
 refine aP 31 rfl (B3 (j := b0) rfl rfl rfl (by omega)) rfl ?_
 refine aL 32 rfl (R3 rfl rfl (hat b0 (by omega) _)) rfl ?_
 refine aP 33 rfl (J3 rfl rfl (by omega)) rfl ?_
 refine aP 34 rfl (qM rfl) rfl ?_
 refine C3 35 rfl rfl rfl ?_
 refine C3 36 rfl rfl rfl ?_
 refine C3 37 rfl rfl rfl ?_
 refine aP 38 rfl (N4 rfl rfl) rfl ?_
 refine aP 39 rfl (N4 rfl rfl) rfl ?_
 refine D6 ?_
 refine sP (H2 rfl rfl (by omega) (by omega)) rfl rfl ?_
 refine D7 ?_
 refine H9 (i + 1) ?_ ?_ ?_
 exact D3
 (show i + 1 ≤ l.length; omega)
 (show l.length - (i + 1) < l.length - i; omega)
 refine J9 ?_
 (exact ⟨rfl, rfl⟩)
def B7a (e : Tm) : Bool := P0 e && K6 e
theorem B0X (zs : List Int) (j : Nat) (h : j < zs.length) : (N6 zs)[j]? = some (.int .i64 zs[j]) := by simp [N6, h]
theorem B0Y {w : World} {p : Option Addr} {c el : Nat} {zs : List Int} (h : (A5.slc p c el 1 zs.length (N6 zs)).ok w) (h0 : zs ≠ []) :
  ∃ g cur, p = some ⟨g, 0, none⟩ ∧ w.heap[g]? = some (.cells cur el (0, 0)) ∧ zs.length ≤ c ∧ c ≤ maxLen ∧ cur.size = c ∧ cur.toList.take zs.length = N6 zs := by
 obtain ⟨_, h⟩ := h
 rcases h with ⟨_, hn⟩ | ⟨g, cap, cur, hv, _, hg, h1, h2, h3, h4⟩
 ·exact absurd (List.length_eq_zero_iff.1 hn) h0
 ·simp only [Value.slice.injEq] at hv
  obtain ⟨rfl, _, rfl⟩ := hv
  exact ⟨g, cur, rfl, hg, h1, h2, by omega, by rw [Nat.mul_one] at h4; exact h4⟩
theorem B0Z {w : World} {g el : Nat} {cur : Array Value} {zs : List Int} (hg : w.heap[g]? = some (.cells cur el (0, 0))) (ht : cur.toList.take zs.length = N6 zs) : Sort.Holds (Value.int .i64) w g 0 zs.toArray := by
 intro j hj
 have hj' : j < zs.length := by simpa using hj
 have hc : cur[j]? = some (.int .i64 zs[j]) := by
  have h1 := B0X zs j hj'
  rw [← ht, List.getElem?_take, if_pos hj'] at h1
  simpa using h1
 refine ⟨?_, ?_⟩
 ·unfold World.cell?
  simp only [hg, Nat.zero_add, Option.isSome_none, Bool.false_eq_true, if_false, hc]
  have hg9 : zs.toArray[j]! = zs[j] := by rw [getElem!_pos zs.toArray j hj]; simp
  rw [hg9]
 ·unfold World.frozen?
  simp [hg]
theorem B00 {G : IM} {w : World} {g c el n : Nat} {cur : Array Value} {zs ds : List Int} (hw : T8 [.slc (some ⟨g, 0, none⟩) c el 1 zs.length (N6 zs)] G w) (hg : w.heap[g]? = some (.cells cur el (0, 0))) (hc : zs.length ≤ c) (hc2 : c ≤ maxLen) (hs : cur.size = c)
  (hd : ds.length = zs.length) (hn : n ≤ zs.length) (k : Nat) (os : Array Obj) :
  P7 [.slc (some ⟨g, 0, none⟩) c el 1 zs.length (N6 zs)] G w [.slc (some ⟨g, 0, none⟩) c el 1 n (N6 (ds.take n))] G (Sort.grow (Sort.putRow (Value.int .i64) (Sort.ahead w k) g 0 ds.toArray) os) := by
 have hlt := A0I hg
 have hb : ∀ b, b < w.heap.size → b ≠ g → (Sort.grow (Sort.putRow (Value.int .i64) (Sort.ahead w k) g 0 ds.toArray) os).heap[b]? = w.heap[b]? := by
  intro b h hne
  show ((w.heap.modify g _) ++ os)[b]? = _
  rw [Array.getElem?_append_left (by simpa using h), Array.getElem?_modify, if_neg (fun e => hne e.symm)]
 have hgb : (Sort.grow (Sort.putRow (Value.int .i64) (Sort.ahead w k) g 0 ds.toArray) os).heap[g]? = some (.cells (Sort.putCells (Value.int .i64) 0 ds.toArray cur) el (0, 0)) := by
  show ((w.heap.modify g _) ++ os)[g]? = _
  rw [Array.getElem?_append_left (by simpa using hlt), Array.getElem?_modify, if_pos rfl, hg]
  rfl
 have hdis : G g = none := hw.disj g (by simp [Fp, A5.fp, J0])
 have hne : ∀ b l, G b = some l → b ≠ g := by rintro b l h rfl; rw [hdis] at h; cases h
 refine ⟨⟨?_, ?_, by simp [Fp, A5.fp, J0], ?_⟩, ⟨rfl, rfl, rfl, ?_, ?_⟩, B9.refl _, fun _ _ h => .inl h, ?_, fun b l h h0 => absurd h (by rw [h0]; simp)⟩
 ·intro b l h
  obtain ⟨e, f, hh⟩ := hw.inn b l h
  exact ⟨e, f, by rw [hb b (A0I hh) (hne b l h)]; exact hh⟩
 ·intro e he
  simp at he
  subst he
  refine ⟨by rw [A5L, List.length_take]; omega, .inr ⟨g, c, _, rfl, Nat.zero_le _, hgb, by omega, hc2, ?_, ?_⟩⟩
  ·simp [Sort.putCells, hs]
  ·apply List.ext_getElem?
   intro j
   rw [List.getElem?_take]
   by_cases hj : j < n
   ·have hj2 : j < ds.length := by omega
    rw [if_pos (by omega), B0X _ _ (by rw [List.length_take]; omega), List.getElem_take]
    simp only [Sort.putCells, Array.getElem?_toList, Array.getElem?_mapIdx]
    have hcur : cur[j]? = some cur[j] := Array.getElem?_eq_getElem (by omega)
    rw [hcur]
    simp only [Option.map_some, Nat.zero_le, true_and, Nat.zero_add, List.size_toArray, hj2, if_true, Nat.sub_zero]
    rw [getElem!_pos _ _ (by simpa using hj2)]
    simp
   ·rw [if_neg (by omega), List.getElem?_eq_none (by rw [A5L, List.length_take]; omega)]
 ·intro b h
  simp [Fp, A5.fp, J0] at h
  subst h; exact hdis
 ·show w.heap.size ≤ ((w.heap.modify g _) ++ os).size
  simp
 ·intro b h hnb
  exact hb b h (by rintro rfl; exact hnb (by simp [Fp, A5.fp, J0]))
 ·intro b h
  exact .inr (by simpa [Fp, A5.fp, J0] using h)
def srt (zs : List Int) : List Int := zs.mergeSort fun x y => decide (x ≤ y)
theorem B6u (zs : List Int) (G : IM) (p : Option Addr) (c el : Nat) (hz : zs.length ≤ 4294967296) :
  Fn Tryz.prog 78 [.slice p zs.length c] [.slc p c el 1 zs.length (N6 zs)] G (fun G' v outs => G' = G ∧ v = .tuple #[] ∧ outs = [.slc p c el 1 zs.length (N6 (srt zs))]) := by
 refine ⟨fun w hw => ?_⟩
 by_cases h0 : zs = []
 ·subst h0
  refine (Tryz.slices_Sort_int_none p c w).mono ?_
  rintro e w' ⟨rfl, rfl⟩
  exact ⟨_, G, _, rfl, P7.refl hw, rfl, rfl, by unfold srt; rw [List.mergeSort_nil]⟩
 ·obtain ⟨g, cur, rfl, hg, h1, h2, h3, h4⟩ := B0Y (hw.ok _ List.mem_cons_self) h0
  refine (Tryz.slices_Sort_int g 0 c zs w (B0Z hg h4) (A0I hg) (by omega)).mono ?_
  rintro e w' ⟨rfl, n, os, rfl⟩
  have hl : (srt zs).length = zs.length := by unfold srt; exact List.length_mergeSort _
  have := B00 (n := zs.length) (ds := srt zs) hw hg h1 h2 h3 hl (Nat.le_refl _) n os
  rw [← hl, List.take_length, hl] at this
  exact ⟨_, G, _, rfl, this, rfl, rfl, rfl⟩
theorem B6v (zs : List Int) : (Lib.compact zs).length ≤ zs.length := by
 unfold Lib.compact Lib.compactUpTo
 rw [List.length_map]
 have := List.length_filter_le (Lib.keeps zs.toArray) (List.range zs.length)
 rw [List.length_range] at this
 exact this
theorem B6w (zs : List Int) (G : IM) (p : Option Addr) (c el : Nat) (hz : zs.length ≤ 4294967296) :
  Fn Tryz.prog 79 [.slice p zs.length c] [.slc p c el 1 zs.length (N6 zs)] G (fun G' v outs => G' = G ∧ v = .slice p (Lib.compact zs).length c ∧ outs = [.slc p c el 1 (Lib.compact zs).length (N6 (Lib.compact zs))]) := by
 refine ⟨fun w hw => ?_⟩
 by_cases h0 : zs = []
 ·subst h0
  refine (Tryz.slices_Compact_int_empty p c w).mono ?_
  rintro e w' ⟨rfl, rfl⟩
  exact ⟨_, G, _, rfl, P7.refl hw, rfl, rfl, rfl⟩
 ·obtain ⟨g, cur, rfl, hg, h1, h2, h3, h4⟩ := B0Y (hw.ok _ List.mem_cons_self) h0
  refine (Tryz.slices_Compact_int g 0 c zs w (B0Z hg h4) (by omega) h1).mono ?_
  rintro e w' ⟨rfl, n, rfl⟩
  have hcl := B6v zs
  have := B00 (n := (Lib.compact zs).length) (ds := Lib.compact zs ++ List.replicate (zs.length - (Lib.compact zs).length) 0) hw hg h1 h2 h3 (by simp; omega) hcl n #[]
  rw [List.take_left] at this
  have hgr : ∀ w : World, Sort.grow w #[] = w := fun w => by unfold Sort.grow; simp
  rw [hgr] at this
  exact ⟨_, G, _, rfl, this, rfl, rfl, rfl⟩
theorem A69 (zs : List Int) : (srt zs).Perm zs := List.mergeSort_perm _ _
theorem B6x {zs : List Int} (h : zs.Nodup) : Lib.compact (srt zs) = srt zs := by
 refine Lib.compact_all _ fun j hj => ?_
 have hn : (srt zs).Nodup := (A69 zs).nodup_iff.2 h
 unfold Lib.keeps
 refine decide_eq_true ?_
 by_cases h0 : j = 0
 ·exact .inl h0
 ·refine .inr ?_
  rw [getElem!_pos (srt zs).toArray j (by simpa using hj), getElem!_pos (srt zs).toArray (j - 1) (by simp; omega)]
  simp only [List.getElem_toArray]
  exact fun he => (List.pairwise_iff_getElem.1 hn (j - 1) j (by omega) hj (by omega)) he.symm
def A1g (t : Tm) : List Int := if P0 t = true then Lib.compact (srt ((Q4 t).map Tm.lb)) else []
theorem B6y {t : Tm} (hv : P0 t = true) (h : ((Q4 t).map Tm.lb).Nodup) : (A1g t).length = (Q4 t).length := by
 unfold A1g
 rw [if_pos hv, B6x h, (A69 _).length_eq, List.length_map]
theorem B6z {ks : List Tm} {i : Nat} (h : i < ks.length) : (ks.take (i + 1)).map Tm.lb = (ks.take i).map Tm.lb ++ [ks[i].lb] := by
 rw [List.take_succ_eq_append_getElem h, List.map_append]; rfl
theorem B6A (t : Tm) (G : IM) (cells : List Value) (hr : A8 G t cells) :
  Fn Tryz.prog 33 [.agg ⟨cells⟩] [] G (fun G' v outs => ∃ p c, v = .slice p (A1g t).length c ∧ (outs = [] ∧ A1g t = [] ∨ outs = [.slc p c 3 1 (A1g t).length (N6 (A1g t))])) := by
 have hl := hr.len
 have hone := hr.one
 have hV := A4D t G cells hr
 have hno : P0 t = false → A1g t = [] := fun h => by unfold A1g; rw [if_neg (by rw [h]; decide)]
 have hyes : P0 t = true → A1g t = Lib.compact (srt ((Q4 t).map Tm.lb)) := fun h => by unfold A1g; rw [if_pos h]
 have hcc := fun h : P0 t = true => (A1O h).2
 have hcl := A2N t
 generalize P0 t = CV at *
 obtain ⟨L, hL⟩ : ∃ L, Q4 t = L := ⟨_, rfl⟩
 refine C0 Tryz.func33 rfl Tryz.ntmps33 Tryz.results33 rfl ?_
 intro w0
 refine tS (tR ?_)
 refine sE (C5 rfl rfl) rfl (fun b3 => ?_)
 refine A7 ?_
 refine sL (A2 rfl rfl (A9 (by repeat first | exact mH | apply mT)) hl) rfl rfl ?_
 refine H4 rfl (hV) rfl rfl (fun h11 => ?_) (fun h11 => ?_)
 refine K5 ?_
 refine sL (A2 rfl rfl (A9 (by repeat first | exact mH | apply mT)) hl) rfl rfl ?_
 (have hcv := hcc (by assumption); have hy2 := hyes (by assumption); refine D8 rfl (A62 t G cells (by omega) hr) rfl rfl (fun v1 G1 hle1 hh => ?_); obtain ⟨p1, c1, e1, rfl, hs1, hr1⟩ := hh; rw [hL] at hs1 hr1 hy2 hcl ⊢)
 refine B6 ?_
 refine B8 ?_
 (refine Q7 3 1 ?_; refine I2 (fun (x : Nat × Option Addr × Nat) => ⟨[(12, .int .i64 x.1), (11, .int .i64 L.length), (10, .slice p1 L.length c1), (3, .slice x.2.1 x.1 x.2.2)], [.slc x.2.1 x.2.2 3 1 x.1 (N6 ((L.take x.1).map Tm.lb))], G1⟩) (fun x => x.1 ≤ L.length) (fun x => L.length - x.1) (0, none, 0) ?_ ?_ ?_)
 (simp only [H6]; exact D3)
 exact Nat.zero_le _
 (rintro ⟨(i : Nat), pn, cn⟩ hi; simp only [] at hi ⊢)
 refine tS (tR ?_)
 refine sB (I0 rfl rfl) rfl rfl (fun h39 => ?_) (fun h39 => ?_)
 refine B4 ?_
 refine B8 ?_
 refine tS (tR ?_)
 (obtain ⟨b, o, e, rfl, hel, hat, hre, hgb⟩ := hs1.kidTm hr1 (i := i) (by omega) (by omega); obtain ⟨qt, dt, et, qf, df, ef, q3, d3, es3, rfl, _⟩ := hre.open; refine sP (B3 rfl rfl rfl (by omega)) rfl rfl ?_)
 refine sL (A2 rfl rfl (hat _) hel) rfl rfl ?_
 refine sE (A6 rfl) rfl (fun b52 => ?_)
 refine B4 ?_
 (refine I1 (C9 rfl rfl rfl (by omega) (by unfold maxLen; omega) rfl) rfl ?_; rintro _ ⟨b60, rfl⟩)
 (refine X4 rfl rfl rfl rfl rfl (fun _ _ => by repeat (first | exact Sw.here | apply Sw.there)) (M6 (by repeat first | exact mH | apply mT)) rfl (by simp [Value.oneCell']) (by unfold maxLen; omega) (by omega) rfl (fun p8 c8 => ?_))
 refine B0 ?_
 refine sP (H2 rfl rfl (by omega) (by omega)) rfl rfl ?_
 refine D7 ?_
 (have hst := B6z (ks := L) (i := i) (by omega); refine H9 (i + 1, p8, c8) (by rw [hst, A4w]; exact (J8 (by repeat (first | exact D4.nil | refine D4.cons rfl ?_)) (by repeat (first | exact A0.refl | exact A0.nil | refine A0.cons (by repeat (first | exact Pk.here | apply Pk.there)) ?_ | apply A0.drop)))) ?_ ?_)
 (show i + 1 ≤ L.length; omega)
 (show L.length - (i + 1) < L.length - i; omega)
 refine K8 ?_
 (obtain rfl : i = L.length := (by omega); rw [List.take_length]; have hml : (L.map Tm.lb).length = L.length := List.length_map _; have hS := B6u (L.map Tm.lb) G1 pn cn 3 (by omega); rw [hml] at hS; refine I4 rfl hS (Pk.perm (by repeat (first | exact Pk.here | apply Pk.there))) rfl rfl (fun v2 G2 outs hle2 hh => ?_); obtain ⟨rfl, rfl, rfl⟩ := hh)
 refine B0 ?_
 (have hsl : (srt (L.map Tm.lb)).length = L.length := (by rw [(A69 _).length_eq]; exact hml); have hK := B6w (srt (L.map Tm.lb)) G2 pn cn 3 (by omega); rw [hsl] at hK; refine I4 rfl hK (Pk.perm (by repeat (first | exact Pk.here | apply Pk.there))) rfl rfl (fun v3 G3 outs hle3 hh => ?_); obtain ⟨rfl, rfl, rfl⟩ := hh)
 refine B6 ?_
 refine H7 (outs := [.slc pn cn 3 1 (Lib.compact (srt (L.map Tm.lb))).length (N6 (Lib.compact (srt (L.map Tm.lb))))]) (rT rfl) (A0.cons (by repeat (first | exact Pk.here | apply Pk.there)) A0.nil) ?_
 (rw [hy2]; exact ⟨pn, cn, rfl, .inr rfl⟩)
 refine K8 ?_
 (rw [hno (by assumption)]; exact ⟨none, 0, rfl, .inl ⟨rfl, rfl⟩⟩)
section slaws
variable {P : Program} {Γ : L9} {env : M4} {hp : List A5} {G : IM} {ty : TypeId}
end slaws
def B6B (N : Nat) : IM → Value → List A5 → Prop := J4 fun G' v => ∃ t cells, v = .agg ⟨cells⟩ ∧ A8 G' t cells ∧ t.fit N
theorem B6C (G : IM) (q : Option Addr) (n c : Nat) (bs : List UInt8) (hb : Sl G q n c 1 (N9 bs)) : Fn Tryz.prog 27 [.slice q n c] [] G (B6B 2000000) := by
 refine C0 Tryz.func27 rfl Tryz.ntmps27 Tryz.results27 rfl ?_
 intro w0
 refine tS (tR ?_)
 refine sE (A6 rfl) rfl (fun b3 => ?_)
 refine B0 ?_
 (refine I4 rfl (A8D G q n c bs hb) (List.Perm.refl _) rfl rfl (fun v G1 outs hle1 hh => ?_); obtain ⟨rfl, br, pb, nb, cb, bs', rfl, rfl, hnb, hb'⟩ := hh)
 (have hcall := B0U br pb nb cb bs' hnb 0 _ hb' (by omega); refine I4 rfl hcall (Pk.perm (by repeat (first | exact Pk.here | apply Pk.there))) rfl rfl (fun v Gn outs hle1 hh => ?_); obtain ⟨p1, hp11, hp12, rfl, e, ce, rfl, hre, hfe⟩ := hh; have hl1 := hre.len; have ho1 := hre.one)
 refine U8 rfl rfl rfl hl1 ho1 rfl (by repeat first | exact Sw.here | apply Sw.there) (by exact D5 (by first | exact hl1.symm | omega)) ?_
 refine sD (nS (tT ?_))
 refine K7 (rC rfl (A2 rfl rfl (A9 (by repeat first | exact mH | apply mT)) hl1)) ?_
 (exact ⟨rfl, e, ce, rfl, hre, hfe⟩)
theorem B6D (bs : List UInt8) (G : IM) (p : Option Addr) (n c : Nat) (hb : Sl G p n c 1 (N9 bs)) : Fn Tryz.prog 6 [.slice p n c] [] G (J4 fun _ v => v = .bool true) := by
 have hn := hb.le
 refine C0 Tryz.func6 rfl Tryz.ntmps6 Tryz.results6 rfl ?_
 intro w0
 refine J5 ?_
 refine sB (X2 rfl rfl) rfl rfl (fun h11 => ?_) (fun h11 => ?_)
 refine J2 ?_
 (exact ⟨rfl, rfl⟩)
 refine D6 ?_
 (refine D8 rfl (B6C G _ _ _ bs hb) rfl rfl (fun v G1 hle1 hh => ?_); obtain ⟨a, ca, rfl, hra, hfa⟩ := hh; have hca := hfa.2; have hla := hra.len; have hoa := hra.one; have hA := B5J a G1 ca hfa.1 (by omega) hra; have hS := fun G cells hr => B6l a G cells hfa.1 (by omega) hr; have hSt := B5q a; obtain ⟨l, hL⟩ : ∃ l, (A0j a).getD [] = l := ⟨_, rfl⟩; obtain ⟨b, hB⟩ : ∃ b, (A0j a).isSome = b := ⟨_, rfl⟩; have hlaw := fun h : b = true => B0F (A5p hL (hB.trans h)); have hst := fun h : b = true => @B5B a l (A5p hL (hB.trans h)))
 refine sE (A6 rfl) rfl (fun b33 => ?_)
 refine sS rfl rfl rfl hla hoa rfl ?_ (hu := by exact D5 hla.symm)
 refine sD (nS (tS (tR ?_)))
 refine sL (A2 rfl rfl (A9 (by repeat first | exact mH | apply mT)) hla) rfl rfl ?_
 (refine D8 rfl hA rfl rfl (fun v2 G2 hle2 hh => ?_); obtain ⟨p2, c2, rfl, hp2⟩ := A5b hL hB hh; have hp21 := hp2.1.mono (C4.le _ _); replace hra := hra.mono hle2)
 refine E4 ?_
 refine sL (A2 rfl rfl (A9 (by repeat first | exact mH | apply mT)) hla) rfl rfl ?_
 (refine D8 rfl (hS _ _ hra) rfl rfl (fun v3 G3 hle3 hh => ?_); obtain ⟨p3, c3, rfl, hp3⟩ := A5b hL hB hh; have hp31 := hp3.1.mono (C4.le _ _); replace hp21 := hp21.mono hle3; replace hra := hra.mono hle3; have hI := B0V l l G3 p2 p3 c2 c3 hp21 hp31; rw [decide_eq_true rfl] at hI; cases b)
 refine K8 ?_
 refine sQ (A06 rfl rfl rfl) rfl ?_
 refine E3 ?_
 refine H3 rfl (hI) rfl rfl ?_
 refine K3 ?_
 refine sQ (A68 rfl rfl rfl) rfl ?_
 refine E3 ?_
 refine H3 rfl (hI) rfl rfl ?_
 refine B4 ?_
 (exact ⟨rfl, rfl⟩)
 refine K8 ?_
 refine sQ (A06 rfl rfl rfl) rfl ?_
 refine E3 ?_
 refine H3 rfl (hI) rfl rfl ?_
 refine S6 ?_
 refine B8 ?_
 (obtain ⟨hk1, hk2, hk3, hk4, hk5⟩ := hlaw rfl; have hl1 : 0 < l.length := (by rw [hk3]; exact Nat.two_pow_pos _); have hl64 : l.length ≤ 64 := (by rw [hk3]; exact Nat.pow_le_pow_right (by decide) hk4); obtain ⟨bR, oR, rfl, _⟩ := B0W hp21 hl1; refine I2 (fun (x : Nat × IM) => ⟨[(8, .int .i64 (x.1 : Int)), (4, .slice (some ⟨bR, oR, none⟩) l.length c2), (3, .pointer (some ⟨b33, 0, none⟩))], [.blk b33 ca], x.2⟩) (fun x => x.1 ≤ l.length ∧ B9 G3 x.2) (fun x => l.length - x.1) (0, G3) ?_ ?_ ?_)
 (simp only [H6]; exact D3)
 (exact ⟨Nat.zero_le _, B9.refl _⟩)
 (rintro ⟨(i : Nat), Gi⟩ ⟨hi, hle⟩; simp only [] at hi hle ⊢; replace hra := hra.mono hle; replace hp21 := hp21.mono hle)
 refine A7 ?_
 refine sB (I0 rfl rfl) rfl rfl (fun h140 => ?_) (fun h140 => ?_)
 refine A7 ?_
 refine B8 ?_
 refine tS (tR ?_)
 refine sL (A2 rfl rfl (A9 (by repeat first | exact mH | apply mT)) hla) rfl rfl ?_
 refine sQ (qM rfl) rfl ?_
 (have hi2 : i < l.length := (by omega); have hgi := A3q hi2; obtain ⟨u, t, hI2, hcnt2⟩ := hk5 i hi2; rw [hgi] at hcnt2; refine D8 rfl (B5g a i _ _ hk2 hk4 (by rw [← hk3]; omega) hra) rfl rfl (fun v7 G7 hle7 hh => ?_); obtain ⟨cy, rfl, hry⟩ := hh; have hly := hry.len; have hoy := hry.one; replace hp21 := hp21.mono hle7; replace hra := hra.mono hle7)
 refine E3 ?_
 refine sE (A6 rfl) rfl (fun b156 => ?_)
 refine sS rfl rfl rfl hly hoy rfl ?_ (hu := by exact D5 hly.symm)
 refine B0 ?_
 refine sL (A2 rfl rfl (A9 (by repeat first | exact mH | apply mT)) hly) rfl rfl ?_
 (refine D8 rfl (A6J _ _ cy hry) rfl rfl (fun v8 G8 hle8 hh => ?_); rw [hI2] at hh; obtain ⟨cu, ct, rfl, hru, hrt⟩ := hh; obtain ⟨qt, dt, et2, rfl, _⟩ := hrt.open; replace hru : A8 G8 u cu := hru; have hlu := hru.len; have hou := hru.one; replace hp21 := hp21.mono hle8; replace hra := hra.mono hle8; have hat := A4b hp21; have hcv := (A45 hI2).1; have hcc := (A1O hcv).2; have hnn := B6y hcv (B5l hI2).nd; have hcl := A2N u; simp only [Option.isSome])
 refine B6 ?_
 refine sE (A6 rfl) rfl (fun b169 => ?_)
 refine sE (A6 rfl) rfl (fun b170 => ?_)
 refine sS rfl rfl rfl hlu hou rfl ?_ (hu := by exact D5 hlu.symm)
 refine B0 ?_
 refine E0 E1 rfl ?_
 refine I8 (i := 0) (l' := [tt,ff,ff,ff,ff,ff,ff,ff,ff,ff,ff,ff,ff,ff,ff,ff,ff,ff,ff,ff,ff,ff,ff,ff,ff]) rfl D2 (qM rfl) rfl (by kernel_rfl) rfl rfl ?_
 refine aP 1 rfl (pNt rfl) rfl ?_
 refine aP 2 rfl (qM rfl) rfl ?_
 refine aP 3 rfl (qM rfl) rfl ?_
 refine aP 4 rfl (pNt rfl) rfl ?_
 refine aP 5 rfl (N4 rfl rfl) rfl ?_
 refine aP 6 rfl (qM rfl) rfl ?_
 refine aL 7 rfl (A2 rfl rfl (A9 (by repeat first | exact mH | apply mT)) hlu) rfl ?_
 refine aP 9 rfl (qM rfl) rfl ?_
 refine aP 10 rfl (qM rfl) rfl ?_
 refine aP 11 rfl (B3 (j := i) rfl rfl rfl (by omega)) rfl ?_
 refine aL 12 rfl (R3 rfl rfl (A4b hp21 i (by omega) _)) rfl ?_
 refine A3 8 ?_
 (refine H1 rfl rfl (B5G u _ cu hcv (by first | exact hru | exact hru.mono (by assumption))) rfl rfl rfl (fun v9 G9 hle9 hh => ?_); subst hh)
 refine aP 13 rfl (A1D rfl rfl (by omega)) rfl ?_
 refine aP 14 rfl (N4 rfl rfl) rfl ?_
 refine aP 15 rfl (qM rfl) rfl ?_
 refine aL 16 rfl (A2 rfl rfl (A9 (by repeat first | exact mH | apply mT)) hlu) rfl ?_
 refine aP 19 rfl (qM rfl) rfl ?_
 refine aP 20 rfl (qM rfl) rfl ?_
 refine aP 21 rfl (B3 (j := i) rfl rfl rfl (by omega)) rfl ?_
 refine aL 22 rfl (R3 rfl rfl (A4b (hp21.mono (by assumption)) i (by omega) _)) rfl ?_
 refine A3 17 ?_
 (refine H1 rfl rfl ((B6A u _ cu (hru.mono (by assumption))).frz (fun _ v => ∃ p c, v = .slice p (A1g u).length c) (fun G' v outs hh => by obtain ⟨p, c, rfl, h | h⟩ := hh; exact .inl ⟨h.1, p, c, rfl⟩; exact .inr ⟨p, c, _, _, _, _, h, fun _ _ _ => ⟨p, c, rfl⟩⟩)) rfl rfl rfl (fun v10 G10 hle10 hh => ?_); obtain ⟨p5, c5, rfl⟩ := hh; rw [hnn])
 refine aP 18 rfl (pLn rfl rfl) rfl ?_
 refine aP 23 rfl (A1D rfl rfl (by omega)) rfl ?_
 refine aP 24 rfl (N4 rfl rfl) rfl ?_
 refine D6 ?_
 refine sP (H2 rfl rfl (by omega) (by omega)) rfl rfl ?_
 refine D7 ?_
 refine H9 (i + 1, G10) ?_ ?_ ?_
 (simp only [H6]; exact D3)
 (dsimp only; exact ⟨by omega, hle.trans (hle7.trans (hle8.trans (hle9.trans hle10)))⟩)
 (show l.length - (i + 1) < l.length - i; omega)
 refine J5 ?_
 refine sL (A2 rfl rfl (A9 (by repeat first | exact mH | apply mT)) hla) rfl rfl ?_
 (refine D8 rfl (hSt _ ca hra) rfl rfl (fun v5 G5 hle5 hh => ?_); subst hh; replace hp21 := hp21.mono hle5; have hst2 := hst rfl; rw [A3q hl1] at hst2; generalize A1V a = bst at hst2; cases bst)
 refine K8 ?_
 (exact ⟨rfl, rfl⟩)
 refine E3 ?_
 refine sP (B3 (j := 0) rfl rfl rfl (by omega)) rfl rfl ?_
 refine sL (R3 rfl rfl (A4b hp21 0 (by omega) _)) rfl rfl ?_
 refine sP (Z5 rfl rfl (hst2 rfl)) rfl rfl ?_
 refine A7 ?_
 (exact ⟨rfl, rfl⟩)
end Gw
end Go.Proofs.YtfpgncjeejickaaGreat
