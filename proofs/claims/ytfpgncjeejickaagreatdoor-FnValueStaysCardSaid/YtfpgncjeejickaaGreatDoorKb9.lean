/-
  The reference's StepCast, EvalCast. RunTerm of the program. The reference's value text, RunTerm. Drawn arguments of runs. The law FnEvalCast. CountSteps, CountCasts; CastTypeOf with what comes of a term that has no type. The law FnRelabelCasts. The law FnValueStays.
-/
import Derived.Test.YtfpgncjeejickaaGreatDoorKb8
import Derived.Test.YtfpgncjeejickaaGreatDoorKb6
import Derived.Test.YtfpgncjeejickaaGreatDoorKb7
import Derived.Test.YtfpgncjeejickaaGreatDoorKb4
set_option linter.unusedVariables false
set_option linter.unusedSimpArgs false
set_option maxHeartbeats 0
set_option maxRecDepth 100000
set_option synthInstance.maxSize 4000
set_option synthInstance.maxHeartbeats 0
namespace Go.Proofs.YtfpgncjeejickaaGreatDoor
open Go Go.RowKit
namespace Gw
theorem B5N {t : Tm} (h : I2 t = true) : (H0 t).1.small ∧ C7 (H0 t).1 ≤ 40300 := by
 obtain ⟨h1, h2⟩ := A0m h
 have := B2s t (A2l t h1) h2
 exact ⟨this.1, by omega⟩
theorem B5O (t : Tm) (G : IM) (cells : List Value) (hcnt : C7 t ≤ 4294967296) (hr : A7 G t cells) : Fn Tryz.prog 156 [.agg ⟨cells⟩] [] G (K7 (H5 t)) := by
 have hRl := hr.len
 have hRo := hr.one
 have hV := A3q t G cells hcnt hr
 have e1 := @A3A t
 have e2 := @A2Z t
 have e3 := @A4A t
 have e4 := @A3B t
 have e5 := @A3C t
 have hsc := @B5N t
 refine B5 Tryz.func156 rfl Tryz.ntmps156 Tryz.results156 rfl ?_
 intro w0
 refine tS (tR ?_)
 refine sE (C0 rfl rfl) rfl (fun b3 => ?_)
 refine sE (A5 rfl) rfl (fun b4 => ?_)
 refine D0 ?_
 refine sL (A2 rfl rfl (A6 (by repeat first | exact mH | apply mT)) hRl) rfl rfl ?_
 refine F9 rfl (hV) rfl rfl (fun h13 => ?_) (fun h13 => ?_)
 refine D7 ?_
 refine sL (A2 rfl rfl (A6 (by repeat first | exact mH | apply mT)) hRl) rfl rfl ?_
 refine F9 rfl ((A4N t G cells (A0m (by assumption)).1 hr)) rfl rfl (fun h24 => ?_) (fun h24 => ?_)
 refine sD (nS (qT rfl (tS (tR ?_))))
 refine sL (A2 rfl rfl (A6 (by repeat first | exact mH | apply mT)) hRl) rfl rfl ?_
 (refine D3 rfl (A1J t G cells (A2Y (by assumption)) hr) rfl rfl (fun v G1 hle1 hh => ?_); obtain ⟨N6, F1, rfl, hs1, hn1⟩ := hh; have hul := hs1.R.len; have huo := hs1.R.one)
 refine sS rfl rfl rfl hul huo rfl ?_ (hu := by exact C2 hul.symm)
 refine sQ (qA rfl) rfl (sQ (qA rfl) rfl (sD (nS (tT (rS ?_)))))
 refine D2 (rC rfl (A2 rfl rfl (A6 (by repeat first | exact mH | apply mT)) hul)) (rT rfl) (rT rfl) ?_
 (exact K7.mk (e2 (by assumption) (by assumption)) (hs1.R.mono (C1.le _ _)))
 refine sD (nS (cF rfl (tK (nS (tS (tR ?_))))))
 refine sL (A2 rfl rfl (A6 (by repeat first | exact mH | apply mT)) hRl) rfl rfl ?_
 (have hcv : I2 t = true := (by assumption); have hnv : E7 t = false := (by assumption); obtain ⟨hsc1, hsc2⟩ := hsc hcv; replace e3 := e3 hcv hnv; replace e4 := e4 hcv hnv; replace e5 := e5 hcv hnv; refine D3 rfl (B5M t G cells (A0m hcv).1 hnv hr) rfl rfl (fun v G1 hle1 hh => ?_); obtain ⟨uc, hvv, hru⟩ := hh; have hul := hru.len; have huo := hru.one; generalize H0 t = r at hvv hru hsc1 hsc2 e3 e4 e5; obtain ⟨u, cc, ll⟩ := r; simp only at hvv hru hsc1 hsc2 e3 e4 e5; subst hvv; have hVu := A3q u G1 uc (by omega) hru)
 refine I8 ?_
 refine sE (A5 rfl) rfl (fun b54 => ?_)
 refine sS rfl rfl rfl hul huo rfl ?_ (hu := by exact C2 hul.symm)
 refine D8 ?_
 refine sB (O5 rfl rfl) rfl rfl (fun h64 => ?_) (fun h64 => ?_)
 refine I7 ?_
 refine D2 (rC rfl (A3 rfl rfl)) (rT rfl) (rT rfl) ?_
 (exact K7.mk (e3 (by omega)) (M5 _))
 refine sD (nS (cF rfl (tK (nS (tS (tS (tR ?_)))))))
 refine sL (A2 rfl rfl (A6 (by repeat first | exact mH | apply mT)) hul) rfl rfl ?_
 refine F9 rfl (hVu) rfl rfl (fun h91 => ?_) (fun h91 => ?_)
 refine sQ (S6 rfl) rfl (sD (nS (cF rfl (tK (nS (tS (tR ?_)))))))
 refine sL (A2 rfl rfl (A6 (by repeat first | exact mH | apply mT)) hul) rfl rfl ?_
 (refine D3 rfl (A1J u G1 uc hsc1 hru) rfl rfl (fun v G2 hle2 hh => ?_); obtain ⟨cs2, F2, rfl, hs2, hn2⟩ := hh; have hwl := hs2.R.len; have hwo := hs2.R.one)
 refine sS rfl rfl rfl hwl hwo rfl ?_ (hu := by exact C2 hwl.symm)
 refine sQ (qA rfl) rfl (sQ (qA rfl) rfl (sD (nS (tT ?_))))
 refine D2 (rC rfl (A2 rfl rfl (A6 (by repeat first | exact mH | apply mT)) hwl)) (rT rfl) (rT rfl) ?_
 (exact K7.mk (e5 (by omega) (by assumption)) (hs2.R.mono (C1.le _ _)))
 refine L1 ?_
 refine D2 (rC rfl (A3 rfl rfl)) (rT rfl) (rT rfl) ?_
 (exact K7.mk (e4 (by omega) (by assumption)) (M5 _))
 refine L1 ?_
 refine D2 (rC rfl (A3 rfl rfl)) (rT rfl) (rT rfl) ?_
 (exact K7.mk (e1 (by assumption)) (M5 _))
theorem B5P {m i : Nat} {e : Tm} (h : (H5 e).2.1 ≠ 1) : Z8 i (H3 m e) = ((H5 e).1, (H5 e).2.1, (H5 e).2.2, i) := by
 cases m with
 | zero => rw [H3, if_neg h]; simp [Z8]
 | succ m => rw [H3, if_neg h]; simp [Z8]
theorem B5Q {m i : Nat} {e : Tm} (h : (H5 e).2.1 = 1) (hm : m = 0) : Z8 i (H3 m e) = (I3, 5, 0, i) := by
 subst hm; rw [H3, if_pos h]; simp [Z8]
theorem B5R {m i : Nat} {e : Tm} (h : (H5 e).2.1 = 1) (hm : 0 < m) : Z8 i (H3 m e) = Z8 (i + 1) (H3 (m - 1) (H5 e).1) := by
 obtain ⟨k, rfl⟩ : ∃ k, m = k + 1 := ⟨m - 1, by omega⟩
 rw [H3, if_pos h]; simp only [Z8, Nat.add_sub_cancel, Nat.add_assoc, Nat.add_comm 1 i]
theorem B5S (e : Tm) (n : Nat) (hn : n ≤ 300) (G : IM) (cells : List Value) (hcnt : C7 e ≤ 4294967296) (hr : A7 G e cells) : Fn Tryz.prog 109 [.agg ⟨cells⟩, .int .i64 (n : Int)] [] G (EvP (H3 n e)) := by
 have hRl := hr.len
 have hRo := hr.one
 refine B5 Tryz.func109 rfl Tryz.ntmps109 Tryz.results109 rfl ?_
 intro w0
 refine tS (tR ?_)
 refine sE (C0 rfl rfl) rfl (fun b3 => ?_)
 refine sE (A5 rfl) rfl (fun b4 => ?_)
 refine H8 ?_
 refine B9 ?_
 (refine K3 (fun (x : Nat × Tm × List Value × IM) => ⟨[(8, .int .i64 (x.1 : Int)), (1, .int .i64 (n : Int)), (2, .pointer (some ⟨b3, 0, none⟩)), (4, .pointer (some ⟨b4, 0, none⟩))], [.blk b3 x.2.2.1, .blk b4 [.int .i64 0, .string ⟨⟨[]⟩⟩, .int .i64 0, .int .i64 0, .slice none 0 0, .int .i64 0, .slice none 0 0, .int .i64 0, .slice none 0 0]], x.2.2.2⟩) (fun x => x.1 ≤ n ∧ B6 G x.2.2.2 ∧ A7 x.2.2.2 x.2.1 x.2.2.1 ∧ C7 x.2.1 ≤ 4294967296 ∧ Z8 x.1 (H3 (n - x.1) x.2.1) = H3 n e) (fun x => n - x.1) (0, e, cells, G) ?_ ?_ ?_)
 (simp only [I5]; exact D5)
 (exact ⟨Nat.zero_le _, B6.refl _, hr, hcnt, rfl⟩)
 (rintro ⟨i, u, uc, Gi⟩ ⟨hi, hle, hru, hcu, hev⟩; simp only [] at hi hle hru hcu hev ⊢; have hul := hru.len; have huo := hru.one)
 refine tS ?_
 refine B9 ?_
 refine tS (tR ?_)
 refine sL (A2 rfl rfl (A6 (by repeat first | exact mH | apply mT)) hul) rfl rfl ?_
 (refine D3 rfl (B5O u Gi uc hcu hru) rfl rfl (fun v G1 hle1 hh => ?_); obtain ⟨wc, hv, hrw⟩ := hh; have hwl := hrw.len; have hwo := hrw.one; have hend := @B5P (n - i) i u; have hmu := @B5Q (n - i) i u; have hgo := @B5R (n - i) i u; have hval := @B3B u; generalize H5 u = r at hv hrw hend hmu hgo hval; obtain ⟨w, c, l⟩ := r; simp only at hv hrw hend hmu hgo hval; subst hv)
 refine I8 ?_
 refine sE (A5 rfl) rfl (fun b30 => ?_)
 refine sS rfl rfl rfl hwl hwo rfl ?_ (hu := by exact C2 hwl.symm)
 refine D8 ?_
 refine sB (O5 rfl rfl) rfl rfl (fun h40 => ?_) (fun h40 => ?_)
 refine sD (nS (qT rfl (tS (tR ?_))))
 refine sL (A2 rfl rfl (A6 (by repeat first | exact mH | apply mT)) hwl) rfl rfl ?_
 refine sQ (qM rfl) rfl (sQ (qM rfl) rfl (sQ (qM rfl) rfl ?_))
 refine sS rfl rfl rfl hwl hwo rfl ?_ (hu := by exact C2 hwl.symm)
 refine J7 ?_
 refine A4D (rC rfl (A2 rfl rfl (A6 (by repeat first | exact mH | apply mT)) hwl)) (rT rfl) (rT rfl) (rT rfl) ?_
 (exact EvP.mk (by rw [← hev]; exact hend (by omega)) hrw)
 refine H8 ?_
 refine sB (qE rfl rfl) rfl rfl (fun h74 => ?_) (fun h74 => ?_)
 refine A0b ?_
 refine A4D (rC rfl (A3 rfl rfl)) (rT rfl) (rT rfl) (rT rfl) ?_
 (exact EvP.mk (by rw [← hev]; exact hmu (by omega) (by omega)) (M5 _))
 refine sD (nS (cF rfl (tK (nS (tR ?_)))))
 refine sL (A2 rfl rfl (A6 (by repeat first | exact mH | apply mT)) hwl) rfl rfl ?_
 refine O0 rfl rfl rfl hwl hwo rfl (by repeat first | exact Sw.here | apply Sw.there) (by exact C2 (hul.trans hwl.symm)) ?_
 refine sD (M8 (nS (tR (sQ (qM rfl) rfl ?_))))
 refine sP (J6 rfl rfl (by omega) (by omega)) rfl rfl ?_
 refine sQ (qA rfl) rfl (sD ?_)
 refine K0 (i + 1, w, wc, G1) ?_ ?_ ?_
 (simp only [I5]; exact D5)
 (dsimp only; exact ⟨by omega, hle.trans hle1, hrw, by have := B1a (hval (by omega)); omega, by rw [← hev, hgo (by omega) (by omega), show n - (i + 1) = n - i - 1 by omega]⟩)
 (show n - (i + 1) < n - i; omega)
theorem B5T {e : Tm} {fuel : Int} (h : Q3 fuel 0 300 = true) : K2 e fuel = ((H3 fuel.toNat e).1, (H3 fuel.toNat e).2.1, (H3 fuel.toNat e).2.2.1) := by
 unfold K2; rw [if_pos (A18 h)]
theorem B0b {fuel : Int} (h : fuel < 0 ∨ 300 < fuel) : Q3 fuel 0 300 = false := by unfold Q3; rw [decide_eq_false (by omega)]
theorem B5U {fuel : Int} (h : 0 ≤ fuel) (h2 : fuel ≤ 300) : Q3 fuel 0 300 = true := by unfold Q3; rw [decide_eq_true ⟨h, h2⟩]
theorem B5V (e : Tm) (fuel : Int) (G : IM) (cells : List Value) (hcnt : C7 e ≤ 4294967296) (hr : A7 G e cells) : Fn Tryz.prog 45 [.agg ⟨cells⟩, .int .i64 fuel] [] G (K7 (K2 e fuel)) := by
 have hRl := hr.len
 have hRo := hr.one
 have hno := @A9b e fuel
 have hin := @B5T e fuel
 refine B5 Tryz.func45 rfl Tryz.ntmps45 Tryz.results45 rfl ?_
 intro w0
 refine tS (tR ?_)
 refine sE (C0 rfl rfl) rfl (fun b3 => ?_)
 refine sE (A5 rfl) rfl (fun b4 => ?_)
 refine D8 ?_
 refine sB (K1 rfl rfl) rfl rfl (fun h13 => ?_) (fun h13 => ?_)
 refine R2 ?_
 refine D2 (rC rfl (A3 rfl rfl)) (rT rfl) (rT rfl) ?_
 (exact K7.mk (hno (B0b (by omega))) (M5 _))
 refine sQ (qM rfl) rfl (sQ (qM rfl) rfl ?_)
 refine sB (W2 rfl rfl) rfl rfl (fun h35 => ?_) (fun h35 => ?_)
 refine L1 ?_
 refine D2 (rC rfl (A3 rfl rfl)) (rT rfl) (rT rfl) ?_
 (exact K7.mk (hno (B0b (by omega))) (M5 _))
 refine D8 ?_
 refine sL (A2 rfl rfl (A6 (by repeat first | exact mH | apply mT)) hRl) rfl rfl ?_
 refine sQ (qM rfl) rfl ?_
 (have hE := B5S e fuel.toNat (by omega) G cells hcnt hr; rw [Int.toNat_of_nonneg (by omega)] at hE; have hin := hin (B5U (by omega) (by omega)); refine D3 rfl hE rfl rfl (fun v G1 hle1 hh => ?_); obtain ⟨wc, hv, hrw⟩ := hh; have hwl := hrw.len; have hwo := hrw.one; generalize H3 fuel.toNat e = r at hv hrw hin; obtain ⟨w, c, l, i⟩ := r; simp only at hv hrw hin; subst hv)
 refine P6 ?_
 refine sE (A5 rfl) rfl (fun b68 => ?_)
 refine sS rfl rfl rfl hwl hwo rfl ?_ (hu := by exact C2 hwl.symm)
 refine D0 ?_
 refine sL (A2 rfl rfl (A6 (by repeat first | exact mH | apply mT)) hwl) rfl rfl ?_
 refine sQ (qM rfl) rfl (sQ (qM rfl) rfl ?_)
 refine sS rfl rfl rfl hwl hwo rfl ?_ (hu := by exact C2 hwl.symm)
 refine sQ (qA rfl) rfl (sQ (qA rfl) rfl (sD (nS (tT ?_))))
 refine D2 (rC rfl (A2 rfl rfl (A6 (by repeat first | exact mH | apply mT)) hwl)) (rT rfl) (rT rfl) ?_
 (exact K7.mk hin hrw)
def B6H (G : IM) : IM → Value → List A4 → Prop := K4 fun G' v => ∃ a ca b cb f, v = .tuple ⟨[.agg ⟨ca⟩, .agg ⟨cb⟩, .int .i64 f]⟩ ∧ A7 G' a ca ∧ a.fit 1100 ∧ A7 G' b cb ∧ b.fit 1100 ∧ F4 f
def B6I (G : IM) : IM → Value → List A4 → Prop := K4 fun G' v => ∃ a ca b cb d cd, v = .tuple ⟨[.agg ⟨ca⟩, .agg ⟨cb⟩, .agg ⟨cd⟩]⟩ ∧ A7 G' a ca ∧ a.fit 1100 ∧ A7 G' b cb ∧ b.fit 1100 ∧ A7 G' d cd ∧ d.fit 1100
def B6J (N : Nat) (G : IM) : IM → Value → List A4 → Prop := K4 fun G' v => ∃ a ca f, v = .tuple ⟨[.agg ⟨ca⟩, .int .i64 f]⟩ ∧ A7 G' a ca ∧ a.fit N ∧ F4 f
def Y5 (e : Tm) : Bool := I2 e && E7 e
theorem B0c (e : Tm) (G : IM) (cells : List Value) (hr : A7 G e cells) : Fn Tryz.prog 12 [.agg ⟨cells⟩] [] G (I0 (.bool (Y5 e)) G) := by
 have hl := hr.len
 have hone := hr.one
 have hv := A1x e G cells hr
 have hi := A5M e G cells hr
 unfold Y5
 refine B5 Tryz.func12 rfl Tryz.ntmps12 Tryz.results12 rfl ?_
 intro w0
 refine tS (tR ?_)
 refine sE (C0 rfl rfl) rfl (fun b3 => ?_)
 refine sQ (qA rfl) rfl (sD (nS (tS (tR ?_))))
 refine sL (A2 rfl rfl (A6 (by repeat first | exact mH | apply mT)) hl) rfl rfl ?_
 refine F9 rfl (hv) rfl rfl (fun h10 => ?_) (fun h10 => ?_)
 refine sQ (qM rfl) rfl ?_
 refine sL (A2 rfl rfl (A6 (by repeat first | exact mH | apply mT)) hl) rfl rfl ?_
 refine F9 rfl (hi) rfl rfl (fun h13 => ?_) (fun h13 => ?_)
 refine I1 ?_
 (exact ⟨rfl, by simp [*], rfl⟩)
 refine I1 ?_
 (exact ⟨rfl, by simp [*], rfl⟩)
 refine D7 ?_
 (exact ⟨rfl, by simp [*], rfl⟩)
theorem A4P (e : Tm) (G : IM) (cells : List Value) (hT : A0F G) (hr : A7 G e cells) : Fn Tryz.prog 18 [.agg ⟨cells⟩] [] G (I0 (.string (if Y5 e = true then R0 e else ⟨⟨[]⟩⟩)) G) := by
 have hl := hr.len
 have hone := hr.one
 have hv := B0c e G cells hr
 refine B5 Tryz.func18 rfl Tryz.ntmps18 Tryz.results18 rfl ?_
 intro w0
 refine tS (tR ?_)
 refine sE (C0 rfl rfl) rfl (fun b3 => ?_)
 refine sQ (qA rfl) rfl (sD (nS (tS (tS (tR ?_)))))
 refine sL (A2 rfl rfl (A6 (by repeat first | exact mH | apply mT)) hl) rfl rfl ?_
 refine F9 rfl (hv) rfl rfl (fun h11 => ?_) (fun h11 => ?_)
 refine sQ (S6 rfl) rfl (sD (nS (cF rfl (tK (nS (tS (tR ?_)))))))
 refine sL (A2 rfl rfl (A6 (by repeat first | exact mH | apply mT)) hl) rfl rfl ?_
 refine E8 rfl ((B5F e G cells hT (A0m (by have h0 : Y5 e = true := (by assumption); unfold Y5 at h0; rw [Bool.and_eq_true] at h0; exact h0.1)).1 (by have h0 : Y5 e = true := (by assumption); unfold Y5 at h0; rw [Bool.and_eq_true] at h0; exact h0.2) hr)) rfl rfl ?_
 refine sQ (qA rfl) rfl (sD (nS (tT (E2 (rT rfl) ?_))))
 (exact ⟨rfl, by rw [if_pos (by assumption)], rfl⟩)
 refine M9 ?_
 (exact ⟨rfl, by rw [if_neg (by simp [*])], rfl⟩)
theorem B5W (G : IM) (cells : List Value) (hl : cells.length = 9) (ho : cells.all (·.oneCell') = true) : Fn Tryz.prog 102 [.agg ⟨cells⟩] [] G (I0 (.tuple ⟨[]⟩) G) := by
 refine B5 Tryz.func102 rfl Tryz.ntmps102 Tryz.results102 rfl ?_
 intro w0
 refine tR ?_
 refine sE (C0 rfl rfl) rfl (fun b2 => ?_)
 refine sD ?_
 refine A88 ?_
 (exact ⟨rfl, rfl, rfl⟩)
theorem B5X {e : Tm} {fuel : Int} (h : Q3 fuel 0 300 = false) : A02 e fuel = 0 := by
 unfold A02; rw [if_neg (A49 h)]
theorem B5Y {e : Tm} {fuel : Int} (h : Q3 fuel 0 300 = true) : A02 e fuel = ((O2 fuel.toNat e).2.2.2 : Int) := by
 unfold A02; rw [if_pos (A18 h), B3D]
theorem B0d (e : Tm) (fuel : Int) (G : IM) (cells : List Value) (hr : A7 G e cells) : Fn Tryz.prog 42 [.agg ⟨cells⟩, .int .i64 fuel] [] G (K4 fun _ v => v = .int .i64 (A02 e fuel)) := by
 have hRl := hr.len
 have hRo := hr.one
 have hno := @B5X e fuel
 have hye := @B5Y e fuel
 refine B5 Tryz.func42 rfl Tryz.ntmps42 Tryz.results42 rfl ?_
 intro w0
 refine tS (tR ?_)
 refine sE (C0 rfl rfl) rfl (fun b3 => ?_)
 refine D0 ?_
 refine F9 rfl ((A9a fuel _)) rfl rfl (fun h11 => ?_) (fun h11 => ?_)
 refine sQ (S6 rfl) rfl (sD (nS (cF rfl (tK (nS (tS (tR ?_)))))))
 refine sL (A2 rfl rfl (A6 (by repeat first | exact mH | apply mT)) hRl) rfl rfl ?_
 refine sQ (qM rfl) rfl ?_
 (have hf : Q3 fuel 0 300 = true := (by assumption); have hf2 := A18 hf; have hE := A89 e fuel.toNat (by omega) 102 [] [] (fun G u cells hru => B5W G cells hru.len hru.one) G cells hr; rw [Int.toNat_of_nonneg hf2.1] at hE; have hye2 := hye hf; refine D3 rfl hE rfl rfl (fun v G1 hle1 hh => ?_); obtain ⟨wc, hv, hrw⟩ := hh; have hwl := hrw.len; have hwo := hrw.one; generalize O2 fuel.toNat e = r at hv hrw hye2; obtain ⟨w, c, l, i⟩ := r; simp only at hv hrw hye2; subst hv)
 refine P6 ?_
 refine sE (A5 rfl) rfl (fun b28 => ?_)
 refine sS rfl rfl rfl hwl hwo rfl ?_ (hu := by exact C2 hwl.symm)
 refine J4 ?_
 (exact ⟨rfl, by rw [hye2]⟩)
 refine M9 ?_
 (exact ⟨rfl, by rw [hno (by assumption)]⟩)
theorem B5Z (e : Tm) (G : IM) (cells : List Value) (hcv : I2 e = true) (hr : A7 G e cells) :
  Fn Tryz.prog 41 [.agg ⟨cells⟩] [] G (K4 fun _ v => v = .int .i64 ((M6 e).length : Int)) := by
 have hl := hr.len
 have hone := hr.one
 have hV := A1x e G cells hr
 rw [hcv] at hV
 have hcn := (A0m hcv).2
 have hC := A6q _ G cells (by omega) hr
 refine B5 Tryz.func41 rfl Tryz.ntmps41 Tryz.results41 rfl ?_
 intro w0
 refine tS (tR ?_)
 refine sE (C0 rfl rfl) rfl (fun b3 => ?_)
 refine sQ (qA rfl) rfl (sD (nS (tS (tS (tR ?_)))))
 refine sL (A2 rfl rfl (A6 (by repeat first | exact mH | apply mT)) hl) rfl rfl ?_
 refine E8 rfl (hV) rfl rfl ?_
 refine sQ (S6 rfl) rfl (sD (nS (cF rfl (tK (nS (tS (tR ?_)))))))
 refine sL (A2 rfl rfl (A6 (by repeat first | exact mH | apply mT)) hl) rfl rfl ?_
 (refine D3 rfl hC rfl rfl (fun v3 G3 hle3 hh => ?_); obtain ⟨p3, c3, e3, rfl, _⟩ := hh)
 refine I1 ?_
 exact ⟨rfl, rfl⟩
def A10 (r : Option Ty) : IM → Value → List A4 → Prop := K4 fun G' v => ∃ cells, v = .tuple ⟨[.agg ⟨cells⟩, .bool r.isSome]⟩ ∧ B3 G' (r.getD B1) cells
theorem A10.no {r : Option Ty} {G : IM} {cu : List Value} (hu : B3 G B1 cu) (h : r = none) : A10 r G (.tuple ⟨[.agg ⟨cu⟩, .bool false]⟩) [] := by subst h; exact ⟨rfl, cu, rfl, hu⟩
theorem A10.yes {r : Option Ty} {G : IM} {cu : List Value} {u : Ty} (hu : B3 G u cu) (h : r = some u) : A10 r G (.tuple ⟨[.agg ⟨cu⟩, .bool true]⟩) [] := by subst h; exact ⟨rfl, cu, rfl, hu⟩
theorem B0e (e : Tm) (G : IM) (cells : List Value) (hr : A7 G e cells) : Fn Tryz.prog 13 [.agg ⟨cells⟩] [] G (A10 (S9 e)) := by
 have hl := hr.len
 have hone := hr.one
 refine B5 Tryz.func13 rfl Tryz.ntmps13 Tryz.results13 rfl ?_
 intro w0
 refine tS (tR ?_)
 refine sE (C0 rfl rfl) rfl (fun b3 => ?_)
 refine sE (A5 rfl) rfl (fun b4 => ?_)
 refine sQ (qA rfl) rfl (sD (nS (tS (tS (tR ?_)))))
 refine sL (A2 rfl rfl (A6 (by repeat first | exact mH | apply mT)) hl) rfl rfl ?_
 refine F9 rfl ((A1x e _ _ hr)) rfl rfl (fun h12 => ?_) (fun h12 => ?_)
 refine sQ (S6 rfl) rfl (sD (nS (cF rfl (tK (nS (tS (tR ?_)))))))
 refine sL (A2 rfl rfl (A6 (by repeat first | exact mH | apply mT)) hl) rfl rfl ?_
 focus (have hcv : I2 e = true := (by assumption); have hsh := ((A0Z e).1 hcv).1; refine D3 rfl (A8G e 1 [] G none 0 0 _ hsh (by omega) (S1.nil G) hr) rfl rfl (fun v G1 hle1 hh => ?_); obtain ⟨cu, u, rfl, hru, hu⟩ := hh; obtain ⟨p1, c1, e1, rfl, _⟩ := hru.open; rcases hct : E6 [] e with _ | u2; rotate_left; obtain rfl := hu u2 hct; rotate_left)
 refine I6 ?_
 refine sE (A5 rfl) rfl (fun b26 => ?_)
 refine Y1 ?_
 refine D6 (rC rfl (A3 rfl rfl)) (rT rfl) ?_
 (exact A10.no (J8 _ ⟨by omega, by omega⟩) (by rw [S9, if_pos hcv]; exact hct))
 refine I6 ?_
 refine sE (A5 rfl) rfl (fun b53 => ?_)
 refine R2 ?_
 (refine D3 rfl (A1u _ G1 _ (A4v hsh hct).small hru) rfl rfl (fun v G2 hle2 hh => ?_); obtain ⟨cs2, F2, rfl, hs2, hn2⟩ := hh; obtain ⟨p2, c2, rfl, _⟩ := hs2.open; have hr2 := hs2.R.mono (C1.le G2 G1))
 refine F8 ?_
 refine sQ (qA rfl) rfl (sD (nS (tT ?_)))
 refine D6 (rC rfl (A3 rfl rfl)) (rT rfl) ?_
 (exact A10.yes hr2 (by rw [S9, if_pos hcv]; exact hct))
 refine J4 ?_
 refine D6 (rC rfl (A3 rfl rfl)) (rT rfl) ?_
 (exact A10.no (J8 _ ⟨by omega, by omega⟩) (by rw [S9, if_neg (by simp [*])]))
theorem Fn.frz {P : Program} {f : FuncId} {args : List Value} {G : IM} {post : IM → Value → List A4 → Prop} (h : Fn P f args [] G post) (Φ : IM → Value → Prop)
  (hp : ∀ G' v outs, post G' v outs → (outs = [] ∧ Φ G' v) ∨ ∃ p c el sz n cs, outs = [.slc p c el sz n cs] ∧ ∀ G'', B6 G' G'' → Sl G'' p n c sz cs → Φ G'' v) : Fn P f args [] G (K4 Φ) := by
 refine ⟨fun w hw => (h.run w hw).mono ?_⟩
 rintro e w' ⟨v, G', outs, rfl, hr, hq⟩
 rcases hp G' v outs hq with ⟨rfl, h1⟩ | ⟨p, c, el, sz, n, cs, rfl, h1⟩
 ·exact ⟨v, G', [], rfl, hr, rfl, h1⟩
 ·obtain ⟨G'', h2, h3, _⟩ := A6T hr.own
  refine ⟨v, G'', [], rfl, ?_, rfl, h1 G'' h2.le h3⟩
  have := P1.frame (rest := []) (by simpa using hr) h2
  simpa using this
theorem B50 (t : Tm) (G : IM) (cells : List Value) (hr : A7 G t cells) :
  Fn Tryz.prog 40 [.agg ⟨cells⟩] [] G (K4 fun G' v => ∃ p c, v = .slice p (V6 t).length c ∧ (V6 t = [] ∨ Sl G' p (V6 t).length c 1 (S4 (V6 t)))) := by
 refine (B4H t G cells hr).frz _ ?_
 rintro G' v outs ⟨p, c, rfl, h⟩
 rcases h with ⟨h1, h2⟩ | h1
 ·exact .inl ⟨h1, p, c, rfl, .inl h2⟩
 ·exact .inr ⟨_, _, _, _, _, _, h1, fun G'' _ hs => ⟨p, c, rfl, .inr hs⟩⟩
theorem B51 {a x : Tm} {b : Bool} (hS : A0N a = (x, b)) (hb : b = true) : I2 a = true ∧ (V6 x).length = (M6 a).length ∧ (∀ i (hi : i < (V6 x).length), (V6 x)[i] = (i : Int) + 1) ∧ S9 x = S9 a ∧
  (K2 a 60).2.1 = (K2 x 60).2.1 ∧ Y5 (K2 a 60).1 = Y5 (K2 x 60).1 ∧ R0 (K2 a 60).1 = R0 (K2 x 60).1 ∧ A02 a 60 = A02 x 60 := by
 subst hb
 cases hv : I2 a with
 | false => rw [A6u hv] at hS; cases hS
 | true =>
  rcases Nat.lt_or_ge 99 (M6 a).length with hl | hl
  ·rw [A6v hl] at hS; cases hS
  ·rw [A6t hv hl] at hS
   obtain ⟨rfl, _⟩ := Prod.mk.inj hS
   obtain ⟨h1, h2⟩ := B4L hv hl
   obtain ⟨g1, g2, g3, g4, g5⟩ := B4M hv hl
   exact ⟨rfl, h1, h2, g1.symm, g2, g3, g4, g5⟩
theorem B52 (bs : List UInt8) (G : IM) (p : Option Addr) (n c : Nat) (hT : A0F G) (hb : Sl G p n c 1 (N7 bs)) : Fn Tryz.prog 10 [.slice p n c] [] G (K4 fun _ v => v = .bool true) := by
 have hn := hb.le
 refine B5 Tryz.func10 rfl Tryz.ntmps10 Tryz.results10 rfl ?_
 intro w0
 refine H8 ?_
 refine sB (W2 rfl rfl) rfl rfl (fun h11 => ?_) (fun h11 => ?_)
 refine J7 ?_
 (exact ⟨rfl, rfl⟩)
 refine sD (nS (cF rfl (tK (nS (tS (tR (sQ (qM rfl) rfl ?_)))))))
 (refine D3 rfl (B5v G _ _ _ bs hb) rfl rfl (fun v G1 hle1 hh => ?_); obtain ⟨a, ca, rfl, hra, hfa⟩ := hh; replace hT := hT.mono hle1; have hca := hfa.2; have hla := hra.len; have hoa := hra.one; have hA := B4U a G1 ca hra; obtain ⟨⟨x, bx⟩, hS⟩ : ∃ r, A0N a = r := ⟨_, rfl⟩; rw [hS] at hA; have hk := fun h => @B51 a x bx hS h)
 refine sE (A5 rfl) rfl (fun b33 => ?_)
 refine sS rfl rfl rfl hla hoa rfl ?_ (hu := by exact C2 hla.symm)
 refine sD (nS (tS (tR ?_)))
 refine sL (A2 rfl rfl (A6 (by repeat first | exact mH | apply mT)) hla) rfl rfl ?_
 (refine D3 rfl hA rfl rfl (fun v2 G2 hle2 hh => ?_); obtain ⟨cx, hve, hrx⟩ := hh; replace hve : v2 = .tuple ⟨[.agg ⟨cx⟩, .bool bx]⟩ := hve; subst hve; replace hrx : A7 G2 x cx := hrx; have hlx := hrx.len; have hox := hrx.one; replace hT := hT.mono hle2; replace hra := hra.mono hle2; have hB := B5t a G2 ca (by omega) hra; rw [hS] at hB)
 refine I6 ?_
 refine sE (A5 rfl) rfl (fun b44 => ?_)
 refine sS rfl rfl rfl hlx hox rfl ?_ (hu := by exact C2 hlx.symm)
 refine sQ (qA rfl) rfl (sD (nS (tS (tR ?_))))
 refine sL (A2 rfl rfl (A6 (by repeat first | exact mH | apply mT)) hla) rfl rfl ?_
 (refine D3 rfl hB rfl rfl (fun v3 G3 hle3 hh => ?_); obtain ⟨cy, hve, hry⟩ := hh; replace hve : v3 = .tuple ⟨[.agg ⟨cy⟩, .bool bx]⟩ := hve; subst hve; replace hry : A7 G3 x cy := hry; have hly := hry.len; have hoy := hry.one; replace hT := hT.mono hle3; replace hra := hra.mono hle3; replace hrx := hrx.mono hle3; have hSm := A96 x G3 cx cy hrx hry; cases bx)
 refine I6 ?_
 refine sE (A5 rfl) rfl (fun b56 => ?_)
 refine sS rfl rfl rfl hly hoy rfl ?_ (hu := by exact C2 hly.symm)
 refine D8 ?_
 refine sQ (A0X rfl rfl rfl) rfl ?_
 refine sQ (qM rfl) rfl ?_
 refine sL (A2 rfl rfl (A6 (by repeat first | exact mH | apply mT)) hlx) rfl rfl ?_
 refine sL (A2 rfl rfl (A6 (by repeat first | exact mH | apply mT)) hly) rfl rfl ?_
 refine E8 rfl (hSm) rfl rfl ?_
 refine J4 ?_
 refine sQ (A3M rfl rfl rfl) rfl ?_
 refine sQ (qM rfl) rfl ?_
 refine sL (A2 rfl rfl (A6 (by repeat first | exact mH | apply mT)) hlx) rfl rfl ?_
 refine sL (A2 rfl rfl (A6 (by repeat first | exact mH | apply mT)) hly) rfl rfl ?_
 refine E8 rfl (hSm) rfl rfl ?_
 refine D0 ?_
 (exact ⟨rfl, rfl⟩)
 refine I6 ?_
 refine sE (A5 rfl) rfl (fun b100 => ?_)
 refine sS rfl rfl rfl hly hoy rfl ?_ (hu := by exact C2 hly.symm)
 refine D8 ?_
 refine sQ (A0X rfl rfl rfl) rfl ?_
 refine sQ (qM rfl) rfl ?_
 refine sL (A2 rfl rfl (A6 (by repeat first | exact mH | apply mT)) hlx) rfl rfl ?_
 refine sL (A2 rfl rfl (A6 (by repeat first | exact mH | apply mT)) hly) rfl rfl ?_
 refine E8 rfl (hSm) rfl rfl ?_
 refine J4 ?_
 refine sL (A2 rfl rfl (A6 (by repeat first | exact mH | apply mT)) hlx) rfl rfl ?_
 (obtain ⟨hcv, hk1, hk2, hk3, hk4, hk5, hk6, hk7⟩ := hk rfl; refine D3 rfl (B50 x _ cx hrx) rfl rfl (fun v4 G4 hle4 hh => ?_); obtain ⟨pl, cl, rfl, hsl⟩ := hh; replace hT := hT.mono hle4; replace hra := hra.mono hle4; replace hrx := hrx.mono hle4; have hC1 := B0e a G4 ca hra; generalize V6 x = L at hk1 hk2 hsl ⊢; have hLn : L.length ≤ 9223372036854775807 := (by have := A2r a; omega))
 refine D7 ?_
 refine B9 ?_
 (refine K3 (fun (i : Nat) => ⟨[(9, .int .i64 i), (8, .slice pl L.length cl), (3, .pointer (some ⟨b33, 0, none⟩)), (4, .pointer (some ⟨b44, 0, none⟩)), (5, .bool true)], [.blk b33 ca, .blk b44 cx], G4⟩) (fun i => i ≤ L.length) (fun i => L.length - i) 0 ?_ ?_ ?_)
 exact D5
 exact Nat.zero_le _
 (rintro (i : Nat) hi; replace hi : i ≤ L.length := hi)
 refine I1 ?_
 refine sB (K1 rfl rfl) rfl rfl (fun h150 => ?_) (fun h150 => ?_)
 refine sD (nS (qT rfl (tK (nS (tS ?_)))))
 refine B9 ?_
 refine tS (tR (sQ (qM rfl) rfl (sQ (qM rfl) rfl ?_)))
 (have hiK : i < L.length := (by omega); have hs1 := hsl.resolve_left (by rintro rfl; simp at hiK); obtain ⟨b0, o0, v0, rfl, hv0, hat0, _⟩ := hs1.kid (i := i) hiK; have hv1 : v0 = .int .i64 ((i : Int) + 1) := (by have := hk2 i hiK; simp only [S4, List.getElem?_map, List.getElem?_eq_getElem hiK, Option.map_some, this, Option.some.injEq] at hv0; exact hv0.symm); subst hv1; refine sP (B0 rfl rfl rfl hiK) rfl rfl ?_)
 refine sL (U5 rfl rfl (hat0 _)) rfl rfl ?_
 refine sQ (qM rfl) rfl ?_
 refine sP (J6 rfl rfl (by omega) (by omega)) rfl rfl ?_
 refine sP (A06 rfl rfl (by omega)) rfl rfl ?_
 refine D8 ?_
 refine sP (J6 rfl rfl (by omega) (by omega)) rfl rfl ?_
 refine sQ (qA rfl) rfl (sD ?_)
 refine K0 (i + 1) ?_ ?_ ?_
 exact D5
 (show i + 1 ≤ L.length; omega)
 (show L.length - (i + 1) < L.length - i; omega)
 refine H8 ?_
 refine sL (A2 rfl rfl (A6 (by repeat first | exact mH | apply mT)) hla) rfl rfl ?_
 (refine D3 rfl hC1 rfl rfl (fun v5 G5 hle5 hh => ?_); obtain ⟨ct, rfl, hrt⟩ := hh; have hlt := hrt.len; have hot := hrt.one; replace hT := hT.mono hle5; replace hra := hra.mono hle5; replace hrx := hrx.mono hle5; have hC2 := B0e x G5 cx hrx; rw [hk3] at hC2)
 refine I6 ?_
 refine sE (A5 rfl) rfl (fun b197 => ?_)
 refine sS rfl rfl rfl hlt hot rfl ?_ (hu := by exact C2 hlt.symm)
 refine sQ (qA rfl) rfl (sD (nS (tS (tR ?_))))
 refine sL (A2 rfl rfl (A6 (by repeat first | exact mH | apply mT)) hlx) rfl rfl ?_
 (refine D3 rfl hC2 rfl rfl (fun v6 G6 hle6 hh => ?_); obtain ⟨cz, rfl, hrz⟩ := hh; have hlz := hrz.len; have hoz := hrz.one; replace hT := hT.mono hle6; replace hra := hra.mono hle6; replace hrx := hrx.mono hle6; replace hrt := hrt.mono hle6; have hE1 := A4E a 60 G6 ca hra; obtain ⟨⟨u, c1, l1⟩, hr1⟩ : ∃ r, K2 a 60 = r := ⟨_, rfl⟩; obtain ⟨⟨w, c2, l2⟩, hr2⟩ : ∃ r, K2 x 60 = r := ⟨_, rfl⟩; rw [hr1] at hE1 hk4 hk5 hk6; rw [hr2] at hk4 hk5 hk6; simp only [] at hk4 hk5 hk6)
 refine I6 ?_
 refine sE (A5 rfl) rfl (fun b209 => ?_)
 refine sS rfl rfl rfl hlz hoz rfl ?_ (hu := by exact C2 hlz.symm)
 refine sQ (qA rfl) rfl (sD (nS (tS (tR ?_))))
 refine sL (A2 rfl rfl (A6 (by repeat first | exact mH | apply mT)) hla) rfl rfl ?_
 (refine D3 rfl hE1 rfl rfl (fun v7 G7 hle7 hh => ?_); obtain ⟨cu, hve, hru⟩ := hh; replace hve : v7 = .tuple ⟨[.agg ⟨cu⟩, .int .i64 c1, .int .i64 l1]⟩ := hve; subst hve; replace hru : A7 G7 u cu := hru; have hlu := hru.len; have hou := hru.one; replace hT := hT.mono hle7; replace hra := hra.mono hle7; replace hrx := hrx.mono hle7; replace hrt := hrt.mono hle7; replace hrz := hrz.mono hle7; have hE2 := A4E x 60 G7 cx hrx; rw [hr2] at hE2)
 refine I8 ?_
 refine sE (A5 rfl) rfl (fun b222 => ?_)
 refine sS rfl rfl rfl hlu hou rfl ?_ (hu := by exact C2 hlu.symm)
 refine sQ (qA rfl) rfl (sQ (qA rfl) rfl (sD (nS (tS (tR ?_)))))
 refine sL (A2 rfl rfl (A6 (by repeat first | exact mH | apply mT)) hlx) rfl rfl ?_
 (refine D3 rfl hE2 rfl rfl (fun v8 G8 hle8 hh => ?_); obtain ⟨cw, hve, hrw⟩ := hh; replace hve : v8 = .tuple ⟨[.agg ⟨cw⟩, .int .i64 c2, .int .i64 l2]⟩ := hve; subst hve; replace hrw : A7 G8 w cw := hrw; have hlw := hrw.len; have how := hrw.one; replace hT := hT.mono hle8; replace hru := hru.mono hle8; replace hra := hra.mono hle8; replace hrx := hrx.mono hle8; replace hrt := hrt.mono hle8; replace hrz := hrz.mono hle8; have hCC := B5Z a G8 ca hcv hra; rw [← hk1] at hCC; have hTs := fun G9 (hle9 : B6 G8 G9) => A6A _ G9 ct cz (hrt.mono hle9) (hrz.mono hle9); have hV1 := fun G9 (hle9 : B6 G8 G9) => A4P u G9 cu (hT.mono hle9) (hru.mono hle9); have hV2 := fun G9 (hle9 : B6 G8 G9) => A4P w G9 cw (hT.mono hle9) (hrw.mono hle9); rw [← hk5, ← hk6] at hV2; have hN1 := fun G9 (hle9 : B6 G8 G9) => B0d a 60 G9 ca (hra.mono hle9); have hN2 := fun G9 (hle9 : B6 G8 G9) => B0d x 60 G9 cx (hrx.mono hle9); rw [← hk7] at hN2; generalize (if Y5 u = true then R0 u else ⟨⟨[]⟩⟩) = txt at hV1 hV2; generalize A02 a 60 = stp at hN1 hN2)
 refine I8 ?_
 refine sE (A5 rfl) rfl (fun b236 => ?_)
 refine sS rfl rfl rfl hlw how rfl ?_ (hu := by exact C2 hlw.symm)
 refine sQ (qA rfl) rfl (sQ (qA rfl) rfl (sD (nS (tS ?_))))
 refine C9 D1 rfl ?_
 refine L0 (i := 2) (l' := [ff,ff,tt,ff,ff,ff,ff,ff,ff,ff,ff,ff,ff,ff,ff,ff,ff,ff,ff,ff,ff,ff,ff,ff,ff,ff,ff,ff,ff,ff,ff,ff,ff,ff,ff]) rfl C4 (A2 rfl rfl (A6 (by repeat first | exact mH | apply mT)) hla) rfl (by kernel_rfl) rfl rfl ?_
 refine aP 0 rfl (qM rfl) rfl ?_
 refine aP 1 rfl (pLn rfl rfl) rfl ?_
 refine A1 3 ?_
 (refine E1 rfl rfl hCC rfl rfl rfl (fun v9 G9 hle9 hh => ?_); subst hh)
 refine aP 4 rfl (Q0 rfl rfl (by omega)) rfl ?_
 refine aP 5 rfl (qM rfl) rfl ?_
 refine aP 6 rfl (qM rfl) rfl ?_
 refine aP 7 rfl (qM rfl) rfl ?_
 refine aP 8 rfl (A3M rfl rfl rfl) rfl ?_
 refine aP 9 rfl (H9 rfl rfl) rfl ?_
 refine aP 10 rfl (qM rfl) rfl ?_
 refine aL 11 rfl (A2 rfl rfl (A6 (by repeat first | exact mH | apply mT)) hlt) rfl ?_
 refine aL 12 rfl (A2 rfl rfl (A6 (by repeat first | exact mH | apply mT)) hlz) rfl ?_
 refine A1 13 ?_
 refine J0 rfl rfl ((hTs _ hle9)) rfl rfl rfl ?_
 refine aP 14 rfl (H9 rfl rfl) rfl ?_
 refine aP 15 rfl (qM rfl) rfl ?_
 refine aP 16 rfl (qM rfl) rfl ?_
 refine aP 17 rfl (qM rfl) rfl ?_
 refine aP 18 rfl (Q0 rfl rfl (by omega)) rfl ?_
 refine aP 19 rfl (H9 rfl rfl) rfl ?_
 refine aP 20 rfl (qM rfl) rfl ?_
 refine aL 21 rfl (A2 rfl rfl (A6 (by repeat first | exact mH | apply mT)) hlu) rfl ?_
 refine aL 23 rfl (A2 rfl rfl (A6 (by repeat first | exact mH | apply mT)) hlw) rfl ?_
 refine A1 22 ?_
 refine J0 rfl rfl ((hV1 _ hle9)) rfl rfl rfl ?_
 refine A1 24 ?_
 refine J0 rfl rfl ((hV2 _ hle9)) rfl rfl rfl ?_
 refine aP 25 rfl (A6z rfl rfl) rfl ?_
 refine aP 26 rfl (H9 rfl rfl) rfl ?_
 refine aP 27 rfl (qM rfl) rfl ?_
 refine aL 28 rfl (A2 rfl rfl (A6 (by repeat first | exact mH | apply mT)) hla) rfl ?_
 refine aL 30 rfl (A2 rfl rfl (A6 (by repeat first | exact mH | apply mT)) hlx) rfl ?_
 refine A1 29 ?_
 (refine E1 rfl rfl (hN1 _ hle9) rfl rfl rfl (fun vA GA hleA hh => ?_); subst hh)
 refine A1 31 ?_
 (refine E1 rfl rfl (hN2 _ (hle9.trans hleA)) rfl rfl rfl (fun vB GB hleB hh => ?_); subst hh)
 refine aP 32 rfl (Q0 rfl rfl (by omega)) rfl ?_
 refine aP 33 rfl (H9 rfl rfl) rfl ?_
 refine aP 34 rfl (qA rfl) rfl ?_
 refine B8 (nS (tT (E2 (rT rfl) ?_)))
 (exact ⟨rfl, rfl⟩)
theorem B53 (e : Tm) (G : IM) (cells : List Value) (hcnt : C7 e ≤ 4294967296) (hr : A7 G e cells) : Fn Tryz.prog 14 [.agg ⟨cells⟩] [] G (I0 (.bool (Y5 e)) G) := by
 have hl := hr.len
 have hone := hr.one
 have hv := A3q e G cells hcnt hr
 have hi := fun h => A4N e G cells h hr
 unfold Y5
 refine B5 Tryz.func14 rfl Tryz.ntmps14 Tryz.results14 rfl ?_
 intro w0
 refine tS (tR ?_)
 refine sE (C0 rfl rfl) rfl (fun b3 => ?_)
 refine sQ (qA rfl) rfl (sD (nS (tS (tR ?_))))
 refine sL (A2 rfl rfl (A6 (by repeat first | exact mH | apply mT)) hl) rfl rfl ?_
 refine F9 rfl (hv) rfl rfl (fun h10 => ?_) (fun h10 => ?_)
 refine sQ (qM rfl) rfl ?_
 refine sL (A2 rfl rfl (A6 (by repeat first | exact mH | apply mT)) hl) rfl rfl ?_
 refine E8 rfl ((hi (A0m (by assumption)).1)) rfl rfl ?_
 refine I1 ?_
 (exact ⟨rfl, by simp_all, rfl⟩)
 refine D7 ?_
 (exact ⟨rfl, by simp_all, rfl⟩)
theorem B54 {e : Tm} (h1 : I2 e = true) (h2 : E7 e = true) : K2 e 0 = (e, 0, 0) := by
 unfold K2
 rw [if_pos (by decide)]
 show ((H3 0 e).1, (H3 0 e).2.1, (H3 0 e).2.2.1) = _
 rw [H3, A2Z h1 h2]
 rfl
theorem B55 {e : Tm} {n : Int} (h : (K2 e n).2.1 = 0) : (K2 e n).1.fit 200 := by
 obtain ⟨h1, _, _⟩ := A9m h
 exact ⟨A2Y h1, (A0m h1).2⟩
theorem B56 (G : IM) (q : Option Addr) (n c : Nat) (bs : List UInt8) (hb : Sl G q n c 1 (N7 bs)) : Fn Tryz.prog 11 [.slice q n c] [] G (A95 200) := by
 refine B5 Tryz.func11 rfl Tryz.ntmps11 Tryz.results11 rfl ?_
 intro w0
 refine tS (tR ?_)
 refine sE (A5 rfl) rfl (fun b3 => ?_)
 refine sD (nS (tS (tR (sQ (qM rfl) rfl ?_))))
 (refine H1 rfl (A75 G q n c bs hb) (List.Perm.refl _) rfl rfl (fun v G1 outs hle1 hh => ?_); obtain ⟨rfl, br, pb, nb, cb, bs', rfl, rfl, hnb, hb'⟩ := hh)
 refine sQ (qA rfl) rfl (sD (nS (tS (tR (sQ (qM rfl) rfl ?_)))))
 (have hcall := A9O br pb nb cb bs' hnb 0 _ hb' (by omega); refine H1 rfl hcall (Pk.perm (by repeat (first | exact Pk.here | apply Pk.there))) rfl rfl (fun v Gn outs hle1 hh => ?_); obtain ⟨p1, hp11, hp12, rfl, e0, ce0, rfl, hr0, hf0⟩ := hh; replace hb' := hb'.mono hle1; have hl0 := hr0.len; have ho0 := hr0.one; have hE := B5V e0 60 _ ce0 (by have := hf0.2; omega) hr0; have hfv := @B55 e0 60; obtain ⟨⟨u, c1, l1⟩, hr1⟩ : ∃ r, K2 e0 60 = r := ⟨_, rfl⟩; rw [hr1] at hE hfv)
 refine sE (A5 rfl) rfl (fun b17 => ?_)
 refine sS rfl rfl rfl hl0 ho0 rfl ?_ (hu := by exact C2 hl0.symm)
 refine sD (nS (tS (tR ?_)))
 refine sL (A2 rfl rfl (A6 (by repeat first | exact mH | apply mT)) hl0) rfl rfl ?_
 (refine D3 rfl hE rfl rfl (fun v3 G3 hle3 hh => ?_); obtain ⟨cu, hve, hru⟩ := hh; replace hve : v3 = .tuple ⟨[.agg ⟨cu⟩, .int .i64 c1, .int .i64 l1]⟩ := hve; subst hve; replace hru : A7 G3 u cu := hru; replace hfv : c1 = 0 → u.fit 200 := hfv; have hlu := hru.len; have hou := hru.one; replace hb' := hb'.mono hle3; replace hr0 := hr0.mono hle3)
 refine I8 ?_
 refine sE (A5 rfl) rfl (fun b29 => ?_)
 refine sS rfl rfl rfl hlu hou rfl ?_ (hu := by exact C2 hlu.symm)
 refine D8 ?_
 refine sB (qE rfl rfl) rfl rfl (fun h39 => ?_) (fun h39 => ?_)
 refine sQ (qM rfl) rfl (sQ (qM rfl) rfl ?_)
 (refine H1 rfl (S8 _ br pb nb cb p1 bs' 2 hb' hnb (by omega)) (Pk.perm (by repeat (first | exact Pk.here | apply Pk.there))) rfl rfl (fun v G5 outs hle5 hh => ?_); obtain ⟨rfl, rfl, j1, rfl, hj1, hk1⟩ := hh)
 refine sB (qE rfl rfl) rfl rfl (fun h43 => ?_) (fun h43 => ?_)
 refine D0 ?_
 refine sL (A2 rfl rfl (A6 (by repeat first | exact mH | apply mT)) hlu) rfl rfl ?_
 (have hcall := A1X br pb nb cb bs' hnb (p1 + 1) _ hb' (by omega) u cu 200 (hfv (by omega)) hru; refine H1 rfl hcall (Pk.perm (by repeat (first | exact Pk.here | apply Pk.there))) rfl rfl (fun v Gn outs hle9 hh => ?_); obtain ⟨p9, hp91, hp92, rfl, e, ce, rfl, hre, hfe⟩ := hh; have hl9 := hre.len; have ho9 := hre.one)
 refine O0 rfl rfl rfl (by assumption) (by assumption) rfl (by repeat first | exact Sw.here | apply Sw.there) (by exact C2 (by symm; assumption)) ?_
 refine sD (nS (tT (rS ?_)))
 refine E2 (rC rfl (A2 rfl rfl (A6 (by repeat first | exact mH | apply mT)) hl9)) ?_
 (exact ⟨rfl, e, ce, rfl, hre, hfe⟩)
 refine D7 ?_
 refine sL (A2 rfl rfl (A6 (by repeat first | exact mH | apply mT)) hl0) rfl rfl ?_
 (have hcall := A1X br pb nb cb bs' hnb (p1 + 1) _ hb' (by omega) e0 ce0 200 (A1E hf0 (by omega)) hr0; refine H1 rfl hcall (Pk.perm (by repeat (first | exact Pk.here | apply Pk.there))) rfl rfl (fun v Gn outs hle9 hh => ?_); obtain ⟨p9, hp91, hp92, rfl, e, ce, rfl, hre, hfe⟩ := hh; have hl9 := hre.len; have ho9 := hre.one)
 refine O0 rfl rfl rfl (by assumption) (by assumption) rfl (by repeat first | exact Sw.here | apply Sw.there) (by exact C2 (by symm; assumption)) ?_
 refine sD (nS (tT ?_))
 refine E2 (rC rfl (A2 rfl rfl (A6 (by repeat first | exact mH | apply mT)) hl9)) ?_
 (exact ⟨rfl, e, ce, rfl, hre, hfe⟩)
 refine J4 ?_
 refine sL (A2 rfl rfl (A6 (by repeat first | exact mH | apply mT)) hl0) rfl rfl ?_
 (have hcall := A1X br pb nb cb bs' hnb p1 _ hb' (by omega) e0 ce0 200 (A1E hf0 (by omega)) hr0; refine H1 rfl hcall (Pk.perm (by repeat (first | exact Pk.here | apply Pk.there))) rfl rfl (fun v Gn outs hle9 hh => ?_); obtain ⟨p9, hp91, hp92, rfl, e, ce, rfl, hre, hfe⟩ := hh; have hl9 := hre.len; have ho9 := hre.one)
 refine O0 rfl rfl rfl (by assumption) (by assumption) rfl (by repeat first | exact Sw.here | apply Sw.there) (by exact C2 (by symm; assumption)) ?_
 refine sD (nS (tT ?_))
 refine E2 (rC rfl (A2 rfl rfl (A6 (by repeat first | exact mH | apply mT)) hl9)) ?_
 (exact ⟨rfl, e, ce, rfl, hre, hfe⟩)
theorem B57 {e : Tm} {T : Ty} (h1 : Y5 e = true) (hT : S9 e = some T) {u : Tm} {c l : Int} (h : K2 (.mk 14 ⟨#[]⟩ 0 T L9 9 [.mk 14 ⟨#[]⟩ 0 L9 T 8 [e]]) 100 = (u, c, l)) :
  K2 e 0 = (e, 0, 0) ∧ (c = 4 ∨ (c = 3 ∧ I2 (.mk 14 ⟨#[]⟩ 0 T L9 9 [.mk 14 ⟨#[]⟩ 0 L9 T 8 [e]]) = false) ∨ (c = 0 ∧ Y5 u = true ∧ R0 u = R0 e)) := by
 unfold Y5 at h1
 rw [Bool.and_eq_true] at h1
 obtain ⟨g1, g2⟩ := A9U hT
 refine ⟨B54 h1.1 h1.2, ?_⟩
 have hs := B3U h1.1 h1.2 g2 8 9
 simp only at hs
 rw [h] at hs
 rcases hs with hs | hs | ⟨hs, ht⟩
 ·exact .inl hs
 ·exact .inr (.inl hs)
 ·refine .inr (.inr ⟨hs, ?_, ht⟩)
  have h0 := A9m (e := .mk 14 ⟨#[]⟩ 0 T L9 9 [.mk 14 ⟨#[]⟩ 0 L9 T 8 [e]]) (n := 100) (by rw [h]; exact hs)
  rw [h] at h0
  unfold Y5
  rw [h0.1, h0.2.1]; rfl
theorem B58 (bs : List UInt8) (G : IM) (p : Option Addr) (n c : Nat) (hT : A0F G) (hb : Sl G p n c 1 (N7 bs)) : Fn Tryz.prog 3 [.slice p n c] [] G (K4 fun _ v => v = .bool true) := by
 have hn := hb.le
 refine B5 Tryz.func3 rfl Tryz.ntmps3 Tryz.results3 rfl ?_
 intro w0
 refine H8 ?_
 refine sB (W2 rfl rfl) rfl rfl (fun h11 => ?_) (fun h11 => ?_)
 refine J7 ?_
 (exact ⟨rfl, rfl⟩)
 refine sD (nS (cF rfl (tK (nS (tS (tR (sQ (qM rfl) rfl ?_)))))))
 (refine D3 rfl (B56 G _ _ _ bs hb) rfl rfl (fun v G1 hle1 hh => ?_); obtain ⟨a, ca, rfl, hra, hfa⟩ := hh; replace hT := hT.mono hle1; have hca := hfa.2; have hla := hra.len; have hoa := hra.one; obtain ⟨v1, v2, v3, v4, v5, v6, v7, v8, v9, rfl⟩ := nine hla; have hI := B0c a G1 _ hra; obtain ⟨bv, hbv⟩ : ∃ b, Y5 a = b := ⟨_, rfl⟩; rw [hbv] at hI; obtain ⟨TY, hTY⟩ : ∃ T, S9 a = T := ⟨_, rfl⟩)
 refine sE (A5 rfl) rfl (fun b33 => ?_)
 refine sS rfl rfl rfl rfl hoa rfl ?_ (hu := by exact C2 rfl)
 refine sD (nS (tS (tR (sL (A3 rfl rfl) rfl rfl ?_))))
 refine E8 rfl (hI) rfl rfl ?_
 refine I1 ?_
 (have hC := B3M a _ _ hra; rw [hTY] at hC; refine D3 rfl hC rfl rfl (fun v4 G4 hle4 hh => ?_); obtain ⟨ct, T1, rfl, hrt, hT1⟩ := hh; obtain ⟨T1k, T1ks⟩ := T1; obtain ⟨pT, dT, eT, rfl, _⟩ := hrt.open; simp only [Ty.k, Ty.ks] at hrt ⊢; have hlt := hrt.len; have hot := hrt.one; replace hT := hT.mono hle4; replace hra := hra.mono hle4; have hJ := B53 a G4 _ (by omega) hra; rw [hbv] at hJ; obtain ⟨bt, hbt⟩ : ∃ b, TY.isSome = b := ⟨_, rfl⟩; rw [hbt]; cases bv <;> cases bt)
 refine I6 ?_
 refine sE (A5 rfl) rfl (fun b51 => ?_)
 refine sS rfl rfl rfl hlt hot rfl ?_ (hu := by exact C2 hlt.symm)
 refine D8 ?_
 refine E8 rfl (hJ) rfl rfl ?_
 refine sQ (A0X rfl rfl rfl) rfl ?_
 refine I7 ?_
 refine E8 rfl (hJ) rfl rfl ?_
 refine sQ (A3M rfl rfl rfl) rfl ?_
 refine sQ (qA rfl) rfl (sD (nS (tT (rS (E2 (rT rfl) ?_)))))
 (exact ⟨rfl, rfl⟩)
 refine I6 ?_
 refine sE (A5 rfl) rfl (fun b90 => ?_)
 refine sS rfl rfl rfl hlt hot rfl ?_ (hu := by exact C2 hlt.symm)
 refine D8 ?_
 refine E8 rfl (hJ) rfl rfl ?_
 refine sQ (A0X rfl rfl rfl) rfl ?_
 refine I7 ?_
 refine E8 rfl (hJ) rfl rfl ?_
 refine sQ (A3M rfl rfl rfl) rfl ?_
 refine sQ (qA rfl) rfl (sD (nS (tT (rS (E2 (rT rfl) ?_)))))
 (exact ⟨rfl, rfl⟩)
 refine I6 ?_
 refine sE (A5 rfl) rfl (fun b129 => ?_)
 refine sS rfl rfl rfl hlt hot rfl ?_ (hu := by exact C2 hlt.symm)
 refine D8 ?_
 refine E8 rfl (hJ) rfl rfl ?_
 refine sQ (A0X rfl rfl rfl) rfl ?_
 refine I7 ?_
 refine E8 rfl (hJ) rfl rfl ?_
 refine sQ (A3M rfl rfl rfl) rfl ?_
 refine sQ (qA rfl) rfl (sD (nS (tT (rS (E2 (rT rfl) ?_)))))
 (exact ⟨rfl, rfl⟩)
 refine I6 ?_
 refine sE (A5 rfl) rfl (fun b168 => ?_)
 refine sS rfl rfl rfl hlt hot rfl ?_ (hu := by exact C2 hlt.symm)
 refine D8 ?_
 refine E8 rfl (hJ) rfl rfl ?_
 refine sQ (A0X rfl rfl rfl) rfl ?_
 refine K5 ?_
 (obtain ⟨T0, hT0⟩ := Option.isSome_iff_exists.1 hbt; have hT1' := hT1 T0 hT0; subst hT1'; have hTY' := hTY.trans hT0; obtain ⟨⟨w, c2, l2⟩, hr2⟩ : ∃ r, K2 (.mk 14 ⟨#[]⟩ 0 (.mk T1k T1ks) L9 9 [.mk 14 ⟨#[]⟩ 0 L9 (.mk T1k T1ks) 8 [a]]) 100 = r := ⟨_, rfl⟩; obtain ⟨hk1, hk2⟩ := B57 hbv hTY' hr2; have hE1 := A4E a 0 _ _ hra; rw [hk1] at hE1; refine D3 rfl hE1 rfl rfl (fun v6 G6 hle6 hh => ?_); obtain ⟨cu, hve, hru⟩ := hh; replace hve : v6 = .tuple ⟨[.agg ⟨cu⟩, .int .i64 0, .int .i64 0]⟩ := hve; subst hve; replace hru : A7 G6 a cu := hru; have hlu := hru.len; have hou := hru.one; replace hT := hT.mono hle6; replace hra := hra.mono hle6; replace hrt := hrt.mono hle6)
 refine I8 ?_
 refine sE (A5 rfl) rfl (fun b201 => ?_)
 refine sS rfl rfl rfl hlu hou rfl ?_ (hu := by exact C2 hlu.symm)
 refine D0 ?_
 refine sE (A5 rfl) rfl (fun b210 => ?_)
 refine sS rfl rfl rfl hlt hot rfl ?_ (hu := by exact C2 hlt.symm)
 refine D0 ?_
 (refine J5 (C8 rfl rfl rfl (by omega) (by unfold maxLen; omega) rfl) rfl ?_; rintro _ ⟨b219, rfl⟩)
 refine sQ (Q1 rfl rfl) rfl ?_
 refine sE (A5 rfl) rfl (fun b221 => ?_)
 refine D8 ?_
 (refine J5 (C8 rfl rfl rfl (by omega) (by unfold maxLen; omega) rfl) rfl ?_; rintro _ ⟨b230, rfl⟩)
 refine sQ (Q1 rfl rfl) rfl ?_
 refine sE (A5 rfl) rfl (fun b232 => ?_)
 refine F8 ?_
 refine sD (nS (tS (tR (sL (A3 rfl rfl) rfl rfl ?_))))
 (refine S7 (p := some ⟨b219, 0, none⟩) (cs := [v1, v2, v3, v4, v5, v6, v7, v8, v9]) (n := 1) (c := 1) (sz := 9) (by repeat (first | exact Pk.here | apply Pk.there)) (fun G8 hle8 hsl8 hno8 => ?_); have hrA : A7 G8 (.mk 14 ⟨#[]⟩ 0 L9 (.mk T1k T1ks) 8 [a]) [.int .i64 14, .string ⟨⟨[]⟩⟩, .int .i64 0, .int .i64 1, .slice none 0 0, .int .i64 T1k, .slice pT T1ks.length dT, .int .i64 8, .slice (some ⟨b219, 0, none⟩) 1 1] := A7.put (us := [a]) (es := [[v1, v2, v3, v4, v5, v6, v7, v8, v9]]) ⟨by decide, by decide⟩ ⟨by decide, by decide⟩ ⟨by decide, by decide⟩ (A23 G8) (hrt.mono hle8) rfl (C5.of hsl8 rfl (by intro x hx; obtain rfl := List.mem_singleton.1 hx; rfl) (by intro x hx; obtain rfl := List.mem_singleton.1 hx; exact hoa)) (by simp only [C6]; exact ⟨_, _, rfl, hra.mono hle8, rfl⟩); have hoA := hrA.one; refine S7 (p := some ⟨b230, 0, none⟩) (cs := [.int .i64 14, .string ⟨⟨[]⟩⟩, .int .i64 0, .int .i64 1, .slice none 0 0, .int .i64 T1k, .slice pT T1ks.length dT, .int .i64 8, .slice (some ⟨b219, 0, none⟩) 1 1]) (n := 1) (c := 1) (sz := 9) (by repeat (first | exact Pk.here | apply Pk.there)) (fun G9 hle9 hsl9 hno9 => ?_); have hrB : A7 G9 (.mk 14 ⟨#[]⟩ 0 (.mk T1k T1ks) L9 9 [.mk 14 ⟨#[]⟩ 0 L9 (.mk T1k T1ks) 8 [a]]) _ := A7.put (us := [.mk 14 ⟨#[]⟩ 0 L9 (.mk T1k T1ks) 8 [a]]) (es := [[.int .i64 14, .string ⟨⟨[]⟩⟩, .int .i64 0, .int .i64 1, .slice none 0 0, .int .i64 T1k, .slice pT T1ks.length dT, .int .i64 8, .slice (some ⟨b219, 0, none⟩) 1 1]]) ⟨by decide, by decide⟩ ⟨by decide, by decide⟩ ⟨by decide, by decide⟩ ((hrt.mono hle8).mono hle9) (A23 G9) rfl (C5.of hsl9 rfl (by intro x hx; obtain rfl := List.mem_singleton.1 hx; rfl) (by intro x hx; obtain rfl := List.mem_singleton.1 hx; exact hoA)) (by simp only [C6]; exact ⟨_, _, rfl, hrA.mono hle9, rfl⟩); replace hT := hT.mono (hle8.trans hle9); replace hra := hra.mono (hle8.trans hle9); replace hru := hru.mono (hle8.trans hle9); have hE2 := A4E _ 100 _ _ hrB; rw [hr2] at hE2; refine D3 rfl hE2 rfl rfl (fun v7 G7 hle7 hh => ?_); obtain ⟨cw, hve, hrw⟩ := hh; replace hve : v7 = .tuple ⟨[.agg ⟨cw⟩, .int .i64 c2, .int .i64 l2]⟩ := hve; subst hve; replace hrw : A7 G7 w cw := hrw; have hlw := hrw.len; have how := hrw.one; replace hT := hT.mono hle7; replace hra := hra.mono hle7; replace hru := hru.mono hle7; replace hrB := hrB.mono hle7; have hSm := A96 a G7 cu _ hru hra; have hVb := A1x _ G7 _ hrB; have hV1 := A4P a G7 _ hT hra; rw [if_pos hbv] at hV1; have hV2 := A4P w G7 cw hT hrw)
 refine I8 ?_
 refine sE (A5 rfl) rfl (fun b244 => ?_)
 refine sS rfl rfl rfl hlw how rfl ?_ (hu := by exact C2 hlw.symm)
 refine sQ (qA rfl) rfl (sQ (qA rfl) rfl (sD (nS (tS ?_))))
 focus (rcases hk2 with hk | ⟨hk, hcb⟩ | ⟨hk, hiv, htx⟩; rotate_left; rw [hcb] at hVb; rotate_left; rw [if_pos hiv, htx] at hV2; rotate_left; all_goals (refine C9 D1 rfl ?_))
 refine H6 (i := 0) (l' := [tt,ff,ff,ff,ff,ff,ff,ff,ff,ff,ff,ff,ff,ff,ff,ff,ff,ff,ff,ff,ff,ff,ff,ff,ff,ff,ff,ff,ff,ff,ff,ff]) rfl C4 (qM rfl) rfl (by kernel_rfl) rfl rfl ?_
 refine aP 1 rfl (Q0 rfl rfl (by omega)) rfl ?_
 refine aP 2 rfl (qM rfl) rfl ?_
 refine aL 3 rfl (A2 rfl rfl (A6 (by repeat first | exact mH | apply mT)) hlu) rfl ?_
 refine aL 4 rfl (A3 rfl rfl) rfl ?_
 refine A1 5 ?_
 refine J0 rfl rfl (hSm) rfl rfl rfl ?_
 refine aP 6 rfl (H9 rfl rfl) rfl ?_
 refine aP 7 rfl (qM rfl) rfl ?_
 refine aP 8 rfl (qM rfl) rfl ?_
 refine aP 9 rfl (Q0 rfl rfl (by omega)) rfl ?_
 refine aP 10 rfl (qM rfl) rfl ?_
 refine B2 11 rfl rfl rfl ?_
 refine B2 12 rfl rfl rfl ?_
 refine B2 13 rfl rfl rfl ?_
 refine B2 14 rfl rfl rfl ?_
 refine B2 15 rfl rfl rfl ?_
 refine B2 16 rfl rfl rfl ?_
 refine B2 17 rfl rfl rfl ?_
 refine aP 18 rfl (H9 rfl rfl) rfl ?_
 refine aP 19 rfl (qM rfl) rfl ?_
 refine B2 20 rfl rfl rfl ?_
 refine B2 21 rfl rfl rfl ?_
 refine B2 22 rfl rfl rfl ?_
 refine B2 23 rfl rfl rfl ?_
 refine B2 25 rfl rfl rfl ?_
 refine B2 24 rfl rfl rfl ?_
 refine B2 26 rfl rfl rfl ?_
 refine B2 27 rfl rfl rfl ?_
 refine B2 28 rfl rfl rfl ?_
 refine aP 29 rfl (H9 rfl rfl) rfl ?_
 refine aP 30 rfl (H9 rfl rfl) rfl ?_
 refine aP 31 rfl (qA rfl) rfl ?_
 refine B8 (nS (tT (E2 (rT rfl) ?_)))
 (exact ⟨rfl, rfl⟩)
 refine H6 (i := 0) (l' := [tt,ff,ff,ff,ff,ff,ff,ff,ff,ff,ff,ff,ff,ff,ff,ff,ff,ff,ff,ff,ff,ff,ff,ff,ff,ff,ff,ff,ff,ff,ff,ff]) rfl C4 (qM rfl) rfl (by kernel_rfl) rfl rfl ?_
 refine aP 1 rfl (Q0 rfl rfl (by omega)) rfl ?_
 refine aP 2 rfl (qM rfl) rfl ?_
 refine aL 3 rfl (A2 rfl rfl (A6 (by repeat first | exact mH | apply mT)) hlu) rfl ?_
 refine aL 4 rfl (A3 rfl rfl) rfl ?_
 refine A1 5 ?_
 refine J0 rfl rfl (hSm) rfl rfl rfl ?_
 refine aP 6 rfl (H9 rfl rfl) rfl ?_
 refine aP 7 rfl (qM rfl) rfl ?_
 refine aP 8 rfl (qM rfl) rfl ?_
 refine aP 9 rfl (E4 rfl rfl (by omega)) rfl ?_
 refine aP 10 rfl (qM rfl) rfl ?_
 refine aP 11 rfl (qM rfl) rfl ?_
 refine aP 12 rfl (Q0 rfl rfl (by omega)) rfl ?_
 refine aP 13 rfl (qM rfl) rfl ?_
 refine aL 14 rfl (A3 rfl rfl) rfl ?_
 refine A1 15 ?_
 refine J0 rfl rfl (hVb) rfl rfl rfl ?_
 refine aP 16 rfl (Z9 rfl) rfl ?_
 refine aP 17 rfl (H9 rfl rfl) rfl ?_
 refine aP 18 rfl (M0 rfl rfl) rfl ?_
 refine aP 19 rfl (qM rfl) rfl ?_
 refine B2 20 rfl rfl rfl ?_
 refine B2 21 rfl rfl rfl ?_
 refine B2 22 rfl rfl rfl ?_
 refine B2 23 rfl rfl rfl ?_
 refine B2 25 rfl rfl rfl ?_
 refine B2 24 rfl rfl rfl ?_
 refine B2 26 rfl rfl rfl ?_
 refine B2 27 rfl rfl rfl ?_
 refine B2 28 rfl rfl rfl ?_
 refine aP 29 rfl (H9 rfl rfl) rfl ?_
 refine aP 30 rfl (H9 rfl rfl) rfl ?_
 refine aP 31 rfl (qA rfl) rfl ?_
 refine B8 (nS (tT (E2 (rT rfl) ?_)))
 (exact ⟨rfl, rfl⟩)
 refine H6 (i := 0) (l' := [tt,ff,ff,ff,ff,ff,ff,ff,ff,ff,ff,ff,ff,ff,ff,ff,ff,ff,ff,ff,ff,ff,ff,ff,ff,ff,ff,ff,ff,ff,ff,ff]) rfl C4 (qM rfl) rfl (by kernel_rfl) rfl rfl ?_
 refine aP 1 rfl (Q0 rfl rfl (by omega)) rfl ?_
 refine aP 2 rfl (qM rfl) rfl ?_
 refine aL 3 rfl (A2 rfl rfl (A6 (by repeat first | exact mH | apply mT)) hlu) rfl ?_
 refine aL 4 rfl (A3 rfl rfl) rfl ?_
 refine A1 5 ?_
 refine J0 rfl rfl (hSm) rfl rfl rfl ?_
 refine aP 6 rfl (H9 rfl rfl) rfl ?_
 refine aP 7 rfl (qM rfl) rfl ?_
 refine aP 8 rfl (qM rfl) rfl ?_
 refine aP 9 rfl (E4 rfl rfl (by omega)) rfl ?_
 refine aP 10 rfl (qM rfl) rfl ?_
 refine aP 11 rfl (qM rfl) rfl ?_
 refine aP 12 rfl (E4 rfl rfl (by omega)) rfl ?_
 refine aP 13 rfl (qM rfl) rfl ?_
 refine B2 14 rfl rfl rfl ?_
 refine B2 15 rfl rfl rfl ?_
 refine B2 16 rfl rfl rfl ?_
 refine aP 17 rfl (M0 rfl rfl) rfl ?_
 refine aP 18 rfl (M0 rfl rfl) rfl ?_
 refine aP 19 rfl (qM rfl) rfl ?_
 refine aP 20 rfl (qM rfl) rfl ?_
 refine aP 21 rfl (Q0 rfl rfl (by omega)) rfl ?_
 refine aP 22 rfl (qM rfl) rfl ?_
 refine aL 23 rfl (A2 rfl rfl (A6 (by repeat first | exact mH | apply mT)) hlw) rfl ?_
 refine aL 25 rfl (A3 rfl rfl) rfl ?_
 refine A1 24 ?_
 refine J0 rfl rfl (hV2) rfl rfl rfl ?_
 refine A1 26 ?_
 refine J0 rfl rfl (hV1) rfl rfl rfl ?_
 refine aP 27 rfl (A6z rfl rfl) rfl ?_
 refine aP 28 rfl (H9 rfl rfl) rfl ?_
 refine aP 29 rfl (M0 rfl rfl) rfl ?_
 refine aP 30 rfl (H9 rfl rfl) rfl ?_
 refine aP 31 rfl (qA rfl) rfl ?_
 refine B8 (nS (tT (E2 (rT rfl) ?_)))
 (exact ⟨rfl, rfl⟩)
end Gw
end Go.Proofs.YtfpgncjeejickaaGreatDoor
