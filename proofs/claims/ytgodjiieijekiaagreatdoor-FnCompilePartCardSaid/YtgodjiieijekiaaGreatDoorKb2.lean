/-
  The tests of terms.
-/
import Derived.Test.YtgodjiieijekiaaGreatDoorKb1
import Derived.Laws.Slices
import Derived.Lib.ItoaNum
import Derived.Test.YtgodjiieijekiaaGreatDoorKb0
set_option linter.unusedVariables false
set_option linter.unusedSimpArgs false
set_option maxHeartbeats 0
set_option maxRecDepth 100000
set_option synthInstance.maxSize 4000
set_option synthInstance.maxHeartbeats 0
namespace Go.Proofs.YtgodjiieijekiaaGreatDoor
open Go Go.RowKit
namespace Gw
theorem B2p (k : Int) (G : IM) (hk : C6 k) : Fn Tryz.prog 157 [.int .i64 k] [] G (H3 (.int .i64 (E7 k)) G) := by
 unfold C6 at hk
 refine B7 Tryz.func157 rfl Tryz.ntmps157 Tryz.results157 rfl ?_
 intro w0
 refine tS (tR (sQ (qA rfl) rfl (sD (nS (tS (tS (tR (sQ (qM rfl) rfl ?_))))))))
 refine H1 rfl (A0s _ _ _ _) rfl rfl (fun h10 => ?_) (fun h10 => ?_)
 refine sQ (M4 rfl) rfl (sD (nS (cF rfl (tK (nS (tS (tR ?_)))))))
 (refine E0 (D0 rfl rfl rfl (by omega) (by unfold maxLen; omega) rfl) rfl ?_; rintro _ ⟨b19, rfl⟩)
 refine sQ (qM rfl) rfl ?_
 (have hkk : 1 ≤ k ∧ k ≤ 14 := A5x (by assumption); refine sP (L7 rfl rfl (by omega) (by omega)) rfl rfl ?_)
 refine sP (A7d rfl rfl rfl (by omega) (by omega)) rfl rfl ?_
 refine sL (Q2 rfl rfl (A3q (by repeat first | exact mH | apply mT) (B1P (by rw [Nat.zero_add, Nat.mul_one]; exact B1O hkk)))) rfl rfl ?_
 refine sQ (qA rfl) rfl (sD (nS (tT (A6 (rT rfl) ?_))))
 exact ⟨rfl, rfl, rfl⟩
 refine sQ (O5 rfl) rfl (sD (nS (qT rfl (tS (tR (sQ (qA rfl) rfl (sD (nS (tT (rS (A6 (rT rfl) ?_)))))))))))
 exact ⟨rfl, by rw [A7C (A7z (by assumption))], rfl⟩
theorem B2q (k : Int) (nm : ByteArray) (num : Int) (ty fr : Ty) (lb : Int) (ks : List Tm) (G : IM) (cells : List Value) (hr : B1 G (.mk k nm num ty fr lb ks) cells) :
  Fn Tryz.prog 92 [.agg ⟨cells⟩] [] G (H3 (.bool (W3 k nm num ty fr lb ks.length)) G) := by
 obtain ⟨tk, tks⟩ := ty
 obtain ⟨fk, fks⟩ := fr
 obtain ⟨pt, ct, pf, cf, p, c, es, rfl, hk, hnum, hlb, hty, hfr, hsl, hkl⟩ := hr.open9
 have hi := @U9 k nm num (.mk tk tks) (.mk fk fks) lb ks.length
 obtain ⟨R, hR⟩ : ∃ R, W3 k nm num (.mk tk tks) (.mk fk fks) lb ks.length = R := ⟨_, rfl⟩
 rw [hR] at hi ⊢
 clear hR hr
 have o1 := B2p k G hk
 have o2 := B2l nm G
 have o3 := A5L _ G _ hty
 have o4 := A8f _ G _ hty
 have o5 := B2o _ _ G _ _ hfr hty
 have o6 := B2k lb G
 have o7 := A8f _ G _ hfr
 refine B7 Tryz.func92 rfl Tryz.ntmps92 Tryz.results92 rfl ?_
 intro w0
 refine tS (tR ?_)
 refine sE (D5 rfl rfl) rfl (fun b3 => ?_)
 refine sQ (qA rfl) rfl (sD (nS (tS (tS ?_))))
 refine I0 I1 rfl ?_
 refine J2 (i := 0) (l' := [tt,ff,ff,ff,ff,ff,ff]) rfl F4 (A3 rfl) rfl (by kernel_rfl) rfl rfl ?_
 refine aL 1 rfl (A5 rfl rfl) rfl ?_
 refine aP 3 rfl (A3 rfl) rfl ?_
 refine aL 4 rfl (A5 rfl rfl) rfl ?_
 refine aP 5 rfl (D8 rfl rfl) rfl ?_
 refine A8 2 ?_
 refine Q5 rfl rfl (o1) rfl rfl rfl ?_
 refine A12 (i := 6) (l' := [tt,tt,tt,tt,tt,tt,tt]) rfl F4 (P9 rfl rfl) rfl (by kernel_rfl) rfl rfl (fun h17 => ?_) (fun h17 => ?_)
 refine D6 (nS (qT rfl (tS (tR (sQ (qA rfl) rfl (sD (nS (tT (rS (A6 (rT rfl) ?_))))))))))
 exact ⟨rfl, by (cases R with | false => rfl | true => (exfalso; obtain ⟨i1, i2, i3, i4, i5, i6, i7, i8, i9⟩ := hi.1 rfl; first | omega | (have j := i2 (by omega); simp_all; done) | (have j := i3 (by omega); simp_all; done) | (have j := i4 (by omega); simp_all; done) | (have j := i5 (by omega); simp_all; done) | (have j := i6 (by omega); simp_all; done) | (have j := i7 (by omega); simp_all; done) | (have j := i8 (by omega); simp_all; done) | (have j := i9 (by omega); simp_all; done))), rfl⟩
 refine D6 (nS (cF rfl (tK (nS (tS (tR (sQ (A3 rfl) rfl (sL (A5 rfl rfl) rfl rfl ?_))))))))
 refine sB (qE rfl rfl) rfl rfl (fun h39 => ?_) (fun h39 => ?_)
 refine R5 ?_
 refine sP (E9 rfl rfl (by omega)) rfl rfl ?_
 refine sQ (qM rfl) rfl (sQ (A3 rfl) rfl (sL (A5 rfl rfl) rfl rfl ?_))
 refine sP (E9 rfl rfl (by omega)) rfl rfl ?_
 refine sQ (D7 rfl rfl) rfl (sQ (qM rfl) rfl (sQ (A3 rfl) rfl (sL (A5 rfl rfl) rfl rfl ?_)))
 refine sP (E9 rfl rfl (by omega)) rfl rfl ?_
 refine sQ (D7 rfl rfl) rfl (sQ (qA rfl) rfl (sD (nS (tS (tR (sQ (A3 rfl) rfl (sL (A5 rfl rfl) rfl rfl ?_)))))))
 refine sP (E9 rfl rfl (by omega)) rfl rfl ?_
 refine sQ (qA rfl) rfl (sD (nS (tS (tR (sQ (qA rfl) rfl (sD (nS (tS (tS (tR (sQ (A3 rfl) rfl (sL (A5 rfl rfl) rfl rfl ?_))))))))))))
 refine sP (E9 rfl rfl (by omega)) rfl rfl ?_
 refine sD (nS (cF rfl (tK (nS (tS ?_)))))
 refine B5 ?_
 refine tS (tS (tR (sQ (qM rfl) rfl (sQ (qM rfl) rfl (sQ (A3 rfl) rfl (sL (A5 rfl rfl) rfl rfl ?_))))))
 refine H1 rfl (o2) rfl rfl (fun h99 => ?_) (fun h99 => ?_)
 refine A2o ?_
 refine H1 rfl (A0s _ _ _ _) rfl rfl (fun h123 => ?_) (fun h123 => ?_)
 refine A4e ?_
 refine H1 rfl (o4) rfl rfl (fun h149 => ?_) (fun h149 => ?_)
 refine A0o ?_
 refine sQ (O5 rfl) rfl (sQ (qM rfl) rfl (sQ (A3 rfl) rfl (sL (A7 rfl rfl) rfl rfl ?_)))
 refine H1 rfl (o7) rfl rfl (fun h184 => ?_) (fun h184 => ?_)
 refine sQ (M4 rfl) rfl (sQ (qM rfl) rfl (sQ (A3 rfl) rfl (sL (A5 rfl rfl) rfl rfl ?_)))
 refine sB (P9 rfl rfl) rfl rfl (fun h189 => ?_) (fun h189 => ?_)
 refine N5 ?_
 exact ⟨rfl, by (cases R with | false => rfl | true => (exfalso; obtain ⟨i1, i2, i3, i4, i5, i6, i7, i8, i9⟩ := hi.1 rfl; first | omega | (have j := i2 (by omega); simp_all; done) | (have j := i3 (by omega); simp_all; done) | (have j := i4 (by omega); simp_all; done) | (have j := i5 (by omega); simp_all; done) | (have j := i6 (by omega); simp_all; done) | (have j := i7 (by omega); simp_all; done) | (have j := i8 (by omega); simp_all; done) | (have j := i9 (by omega); simp_all; done))), rfl⟩
 refine Q9 ?_
 exact ⟨rfl, by rw [hi.2 ⟨by omega, fun _ => by (first | assumption | (exfalso; omega) | exact Classical.not_not.1 (by assumption)), fun _ => by (first | assumption | (exfalso; omega) | exact Classical.not_not.1 (by assumption)), fun _ => by (first | assumption | (exfalso; omega) | exact Classical.not_not.1 (by assumption)), fun _ => by (first | assumption | (exfalso; omega) | exact Classical.not_not.1 (by assumption)), fun _ => by (first | assumption | (exfalso; omega) | exact Classical.not_not.1 (by assumption)), fun _ => by (first | assumption | (exfalso; omega) | exact Classical.not_not.1 (by assumption)), fun _ => ⟨by (first | assumption | (exfalso; omega)), by (first | assumption | (exfalso; omega))⟩, fun _ => ⟨by (first | assumption | (exfalso; omega)), by (first | assumption | omega)⟩⟩], rfl⟩
 refine A07 ?_
 exact ⟨rfl, by (cases R with | false => rfl | true => (exfalso; obtain ⟨i1, i2, i3, i4, i5, i6, i7, i8, i9⟩ := hi.1 rfl; first | omega | (have j := i2 (by omega); simp_all; done) | (have j := i3 (by omega); simp_all; done) | (have j := i4 (by omega); simp_all; done) | (have j := i5 (by omega); simp_all; done) | (have j := i6 (by omega); simp_all; done) | (have j := i7 (by omega); simp_all; done) | (have j := i8 (by omega); simp_all; done) | (have j := i9 (by omega); simp_all; done))), rfl⟩
 refine N5 ?_
 exact ⟨rfl, by (cases R with | false => rfl | true => (exfalso; obtain ⟨i1, i2, i3, i4, i5, i6, i7, i8, i9⟩ := hi.1 rfl; first | omega | (have j := i2 (by omega); simp_all; done) | (have j := i3 (by omega); simp_all; done) | (have j := i4 (by omega); simp_all; done) | (have j := i5 (by omega); simp_all; done) | (have j := i6 (by omega); simp_all; done) | (have j := i7 (by omega); simp_all; done) | (have j := i8 (by omega); simp_all; done) | (have j := i9 (by omega); simp_all; done))), rfl⟩
 refine sQ (O5 rfl) rfl (sQ (qA rfl) rfl (sD (nS (qT rfl (tS (tR (sQ (qA rfl) rfl (sD (nS (tT (rB (rS (A6 (rT rfl) ?_)))))))))))))
 exact ⟨rfl, by (cases R with | false => rfl | true => (exfalso; obtain ⟨i1, i2, i3, i4, i5, i6, i7, i8, i9⟩ := hi.1 rfl; first | omega | (have j := i2 (by omega); simp_all; done) | (have j := i3 (by omega); simp_all; done) | (have j := i4 (by omega); simp_all; done) | (have j := i5 (by omega); simp_all; done) | (have j := i6 (by omega); simp_all; done) | (have j := i7 (by omega); simp_all; done) | (have j := i8 (by omega); simp_all; done) | (have j := i9 (by omega); simp_all; done))), rfl⟩
 refine V6 ?_
 exact ⟨rfl, by (cases R with | false => rfl | true => (exfalso; obtain ⟨i1, i2, i3, i4, i5, i6, i7, i8, i9⟩ := hi.1 rfl; first | omega | (have j := i2 (by omega); simp_all; done) | (have j := i3 (by omega); simp_all; done) | (have j := i4 (by omega); simp_all; done) | (have j := i5 (by omega); simp_all; done) | (have j := i6 (by omega); simp_all; done) | (have j := i7 (by omega); simp_all; done) | (have j := i8 (by omega); simp_all; done) | (have j := i9 (by omega); simp_all; done))), rfl⟩
 refine sQ (qM rfl) rfl (sQ (A3 rfl) rfl (sL (A5 rfl rfl) rfl rfl ?_))
 refine sB (qE rfl rfl) rfl rfl (fun h297 => ?_) (fun h297 => ?_)
 refine sQ (D7 rfl rfl) rfl (sQ (qA rfl) rfl (sD (nS (tS (tR (sQ (A3 rfl) rfl (sL (A5 rfl rfl) rfl rfl ?_)))))))
 refine sP (W9 rfl rfl (by omega)) rfl rfl ?_
 refine R6 ?_
 refine sP (E9 rfl rfl (by omega)) rfl rfl ?_
 refine sQ (qA rfl) rfl (sD (nS (tS (tR (sQ (qA rfl) rfl (sD (nS (tS (tS (tR (sQ (A3 rfl) rfl (sL (A5 rfl rfl) rfl rfl ?_))))))))))))
 refine sP (E9 rfl rfl (by omega)) rfl rfl ?_
 refine sD (nS (cF rfl (tK (nS (tS ?_)))))
 refine B5 ?_
 refine tS (tS (tR (sQ (qM rfl) rfl (sQ (qM rfl) rfl (sQ (A3 rfl) rfl (sL (A5 rfl rfl) rfl rfl ?_))))))
 refine H1 rfl (o2) rfl rfl (fun h353 => ?_) (fun h353 => ?_)
 refine A2o ?_
 refine H1 rfl (A0s _ _ _ _) rfl rfl (fun h377 => ?_) (fun h377 => ?_)
 refine R5 ?_
 refine H1 rfl (o3) rfl rfl (fun h390 => ?_) (fun h390 => ?_)
 refine A0o ?_
 refine R6 ?_
 refine H1 rfl (o7) rfl rfl (fun h438 => ?_) (fun h438 => ?_)
 refine sQ (M4 rfl) rfl (sQ (qM rfl) rfl (sQ (A3 rfl) rfl (sL (A5 rfl rfl) rfl rfl ?_)))
 refine sB (P9 rfl rfl) rfl rfl (fun h443 => ?_) (fun h443 => ?_)
 refine N5 ?_
 exact ⟨rfl, by (cases R with | false => rfl | true => (exfalso; obtain ⟨i1, i2, i3, i4, i5, i6, i7, i8, i9⟩ := hi.1 rfl; first | omega | (have j := i2 (by omega); simp_all; done) | (have j := i3 (by omega); simp_all; done) | (have j := i4 (by omega); simp_all; done) | (have j := i5 (by omega); simp_all; done) | (have j := i6 (by omega); simp_all; done) | (have j := i7 (by omega); simp_all; done) | (have j := i8 (by omega); simp_all; done) | (have j := i9 (by omega); simp_all; done))), rfl⟩
 refine Q9 ?_
 exact ⟨rfl, by rw [hi.2 ⟨by omega, fun _ => by (first | assumption | (exfalso; omega) | exact Classical.not_not.1 (by assumption)), fun _ => by (first | assumption | (exfalso; omega) | exact Classical.not_not.1 (by assumption)), fun _ => by (first | assumption | (exfalso; omega) | exact Classical.not_not.1 (by assumption)), fun _ => by (first | assumption | (exfalso; omega) | exact Classical.not_not.1 (by assumption)), fun _ => by (first | assumption | (exfalso; omega) | exact Classical.not_not.1 (by assumption)), fun _ => by (first | assumption | (exfalso; omega) | exact Classical.not_not.1 (by assumption)), fun _ => ⟨by (first | assumption | (exfalso; omega)), by (first | assumption | (exfalso; omega))⟩, fun _ => ⟨by (first | assumption | (exfalso; omega)), by (first | assumption | omega)⟩⟩], rfl⟩
 refine A07 ?_
 exact ⟨rfl, by (cases R with | false => rfl | true => (exfalso; obtain ⟨i1, i2, i3, i4, i5, i6, i7, i8, i9⟩ := hi.1 rfl; first | omega | (have j := i2 (by omega); simp_all; done) | (have j := i3 (by omega); simp_all; done) | (have j := i4 (by omega); simp_all; done) | (have j := i5 (by omega); simp_all; done) | (have j := i6 (by omega); simp_all; done) | (have j := i7 (by omega); simp_all; done) | (have j := i8 (by omega); simp_all; done) | (have j := i9 (by omega); simp_all; done))), rfl⟩
 refine V6 ?_
 exact ⟨rfl, by (cases R with | false => rfl | true => (exfalso; obtain ⟨i1, i2, i3, i4, i5, i6, i7, i8, i9⟩ := hi.1 rfl; first | omega | (have j := i2 (by omega); simp_all; done) | (have j := i3 (by omega); simp_all; done) | (have j := i4 (by omega); simp_all; done) | (have j := i5 (by omega); simp_all; done) | (have j := i6 (by omega); simp_all; done) | (have j := i7 (by omega); simp_all; done) | (have j := i8 (by omega); simp_all; done) | (have j := i9 (by omega); simp_all; done))), rfl⟩
 refine sQ (O5 rfl) rfl (sQ (qA rfl) rfl (sD (nS (qT rfl (tS (tR (sQ (qA rfl) rfl (sD (nS (tT (rB (rS (A6 (rT rfl) ?_)))))))))))))
 exact ⟨rfl, by (cases R with | false => rfl | true => (exfalso; obtain ⟨i1, i2, i3, i4, i5, i6, i7, i8, i9⟩ := hi.1 rfl; first | omega | (have j := i2 (by omega); simp_all; done) | (have j := i3 (by omega); simp_all; done) | (have j := i4 (by omega); simp_all; done) | (have j := i5 (by omega); simp_all; done) | (have j := i6 (by omega); simp_all; done) | (have j := i7 (by omega); simp_all; done) | (have j := i8 (by omega); simp_all; done) | (have j := i9 (by omega); simp_all; done))), rfl⟩
 refine V6 ?_
 exact ⟨rfl, by (cases R with | false => rfl | true => (exfalso; obtain ⟨i1, i2, i3, i4, i5, i6, i7, i8, i9⟩ := hi.1 rfl; first | omega | (have j := i2 (by omega); simp_all; done) | (have j := i3 (by omega); simp_all; done) | (have j := i4 (by omega); simp_all; done) | (have j := i5 (by omega); simp_all; done) | (have j := i6 (by omega); simp_all; done) | (have j := i7 (by omega); simp_all; done) | (have j := i8 (by omega); simp_all; done) | (have j := i9 (by omega); simp_all; done))), rfl⟩
 refine sQ (D7 rfl rfl) rfl (sQ (qA rfl) rfl (sD (nS (tS (tR (sQ (A3 rfl) rfl (sL (A5 rfl rfl) rfl rfl ?_)))))))
 refine sP (E9 rfl rfl (by omega)) rfl rfl ?_
 refine sQ (qM rfl) rfl (sQ (A3 rfl) rfl (sL (A5 rfl rfl) rfl rfl ?_))
 refine sB (qE rfl rfl) rfl rfl (fun h563 => ?_) (fun h563 => ?_)
 refine W2 ?_
 refine sP (E9 rfl rfl (by omega)) rfl rfl ?_
 refine sQ (qA rfl) rfl (sD (nS (tS (tR (sQ (qA rfl) rfl (sD (nS (tS (tS (tR (sQ (A3 rfl) rfl (sL (A5 rfl rfl) rfl rfl ?_))))))))))))
 refine sP (E9 rfl rfl (by omega)) rfl rfl ?_
 refine sD (nS (cF rfl (tK (nS (tS ?_)))))
 refine B5 ?_
 refine A08 ?_
 refine sB (A1K rfl rfl) rfl rfl (fun h620 => ?_) (fun h620 => ?_)
 refine R6 ?_
 exact ⟨rfl, by (cases R with | false => rfl | true => (exfalso; obtain ⟨i1, i2, i3, i4, i5, i6, i7, i8, i9⟩ := hi.1 rfl; first | omega | (have j := i2 (by omega); simp_all; done) | (have j := i3 (by omega); simp_all; done) | (have j := i4 (by omega); simp_all; done) | (have j := i5 (by omega); simp_all; done) | (have j := i6 (by omega); simp_all; done) | (have j := i7 (by omega); simp_all; done) | (have j := i8 (by omega); simp_all; done) | (have j := i9 (by omega); simp_all; done))), rfl⟩
 refine sQ (C1 rfl rfl) rfl (sQ (qA rfl) rfl (sD (nS (cF rfl (tR (sQ (A3 rfl) rfl (sL (A5 rfl rfl) rfl rfl (sQ (qM rfl) rfl ?_))))))))
 refine H1 rfl (A0s _ _ _ _) rfl rfl (fun h648 => ?_) (fun h648 => ?_)
 refine R5 ?_
 refine H1 rfl (o3) rfl rfl (fun h661 => ?_) (fun h661 => ?_)
 refine A0o ?_
 refine R6 ?_
 refine H1 rfl (o7) rfl rfl (fun h709 => ?_) (fun h709 => ?_)
 refine sQ (M4 rfl) rfl (sQ (qM rfl) rfl (sQ (A3 rfl) rfl (sL (A5 rfl rfl) rfl rfl ?_)))
 refine sB (P9 rfl rfl) rfl rfl (fun h714 => ?_) (fun h714 => ?_)
 refine N5 ?_
 exact ⟨rfl, by (cases R with | false => rfl | true => (exfalso; obtain ⟨i1, i2, i3, i4, i5, i6, i7, i8, i9⟩ := hi.1 rfl; first | omega | (have j := i2 (by omega); simp_all; done) | (have j := i3 (by omega); simp_all; done) | (have j := i4 (by omega); simp_all; done) | (have j := i5 (by omega); simp_all; done) | (have j := i6 (by omega); simp_all; done) | (have j := i7 (by omega); simp_all; done) | (have j := i8 (by omega); simp_all; done) | (have j := i9 (by omega); simp_all; done))), rfl⟩
 refine Q9 ?_
 exact ⟨rfl, by rw [hi.2 ⟨by omega, fun _ => by (first | assumption | (exfalso; omega) | exact Classical.not_not.1 (by assumption)), fun _ => by (first | assumption | (exfalso; omega) | exact Classical.not_not.1 (by assumption)), fun _ => by (first | assumption | (exfalso; omega) | exact Classical.not_not.1 (by assumption)), fun _ => by (first | assumption | (exfalso; omega) | exact Classical.not_not.1 (by assumption)), fun _ => by (first | assumption | (exfalso; omega) | exact Classical.not_not.1 (by assumption)), fun _ => by (first | assumption | (exfalso; omega) | exact Classical.not_not.1 (by assumption)), fun _ => ⟨by (first | assumption | (exfalso; omega)), by (first | assumption | (exfalso; omega))⟩, fun _ => ⟨by (first | assumption | (exfalso; omega)), by (first | assumption | omega)⟩⟩], rfl⟩
 refine A07 ?_
 exact ⟨rfl, by (cases R with | false => rfl | true => (exfalso; obtain ⟨i1, i2, i3, i4, i5, i6, i7, i8, i9⟩ := hi.1 rfl; first | omega | (have j := i2 (by omega); simp_all; done) | (have j := i3 (by omega); simp_all; done) | (have j := i4 (by omega); simp_all; done) | (have j := i5 (by omega); simp_all; done) | (have j := i6 (by omega); simp_all; done) | (have j := i7 (by omega); simp_all; done) | (have j := i8 (by omega); simp_all; done) | (have j := i9 (by omega); simp_all; done))), rfl⟩
 refine V6 ?_
 exact ⟨rfl, by (cases R with | false => rfl | true => (exfalso; obtain ⟨i1, i2, i3, i4, i5, i6, i7, i8, i9⟩ := hi.1 rfl; first | omega | (have j := i2 (by omega); simp_all; done) | (have j := i3 (by omega); simp_all; done) | (have j := i4 (by omega); simp_all; done) | (have j := i5 (by omega); simp_all; done) | (have j := i6 (by omega); simp_all; done) | (have j := i7 (by omega); simp_all; done) | (have j := i8 (by omega); simp_all; done) | (have j := i9 (by omega); simp_all; done))), rfl⟩
 refine sQ (O5 rfl) rfl (sQ (qA rfl) rfl (sD (nS (qT rfl (tS (tR (sQ (qA rfl) rfl (sD (nS (tT (rB (rS (A6 (rT rfl) ?_)))))))))))))
 exact ⟨rfl, by (cases R with | false => rfl | true => (exfalso; obtain ⟨i1, i2, i3, i4, i5, i6, i7, i8, i9⟩ := hi.1 rfl; first | omega | (have j := i2 (by omega); simp_all; done) | (have j := i3 (by omega); simp_all; done) | (have j := i4 (by omega); simp_all; done) | (have j := i5 (by omega); simp_all; done) | (have j := i6 (by omega); simp_all; done) | (have j := i7 (by omega); simp_all; done) | (have j := i8 (by omega); simp_all; done) | (have j := i9 (by omega); simp_all; done))), rfl⟩
 refine sQ (D7 rfl rfl) rfl (sQ (qM rfl) rfl (sQ (A3 rfl) rfl (sL (A5 rfl rfl) rfl rfl ?_)))
 refine sB (qE rfl rfl) rfl rfl (fun h807 => ?_) (fun h807 => ?_)
 refine sQ (D7 rfl rfl) rfl (sQ (qA rfl) rfl (sD (nS (tS (tR (sQ (A3 rfl) rfl (sL (A5 rfl rfl) rfl rfl ?_)))))))
 refine sP (W9 rfl rfl (by omega)) rfl rfl ?_
 refine sQ (qA rfl) rfl (sD (nS (tS (tR (sQ (qA rfl) rfl (sD (nS (tS (tS (tR (sQ (A3 rfl) rfl (sL (A5 rfl rfl) rfl rfl ?_))))))))))))
 refine sP (E9 rfl rfl (by omega)) rfl rfl ?_
 refine sD (nS (cF rfl (tK (nS (tS ?_)))))
 refine B5 ?_
 refine A08 ?_
 refine sB (A1K rfl rfl) rfl rfl (fun h859 => ?_) (fun h859 => ?_)
 refine R6 ?_
 exact ⟨rfl, by (cases R with | false => rfl | true => (exfalso; obtain ⟨i1, i2, i3, i4, i5, i6, i7, i8, i9⟩ := hi.1 rfl; first | omega | (have j := i2 (by omega); simp_all; done) | (have j := i3 (by omega); simp_all; done) | (have j := i4 (by omega); simp_all; done) | (have j := i5 (by omega); simp_all; done) | (have j := i6 (by omega); simp_all; done) | (have j := i7 (by omega); simp_all; done) | (have j := i8 (by omega); simp_all; done) | (have j := i9 (by omega); simp_all; done))), rfl⟩
 refine sQ (C1 rfl rfl) rfl (sQ (qA rfl) rfl (sD (nS (cF rfl (tR (sQ (A3 rfl) rfl (sL (A5 rfl rfl) rfl rfl (sQ (qM rfl) rfl ?_))))))))
 refine H1 rfl (A0s _ _ _ _) rfl rfl (fun h887 => ?_) (fun h887 => ?_)
 refine R5 ?_
 refine H1 rfl (o3) rfl rfl (fun h900 => ?_) (fun h900 => ?_)
 refine B1H ?_
 refine H1 rfl (o5) rfl rfl (fun h929 => ?_) (fun h929 => ?_)
 refine sQ (M4 rfl) rfl (sQ (qM rfl) rfl (sQ (A3 rfl) rfl (sL (A5 rfl rfl) rfl rfl ?_)))
 refine H1 rfl (o6) rfl rfl (fun h934 => ?_) (fun h934 => ?_)
 refine A0o ?_
 refine sQ (qA rfl) rfl (sD (nS (tT (A6 (rT rfl) ?_))))
 exact ⟨rfl, by rw [hi.2 ⟨by omega, fun _ => by (first | assumption | (exfalso; omega) | exact Classical.not_not.1 (by assumption)), fun _ => by (first | assumption | (exfalso; omega) | exact Classical.not_not.1 (by assumption)), fun _ => by (first | assumption | (exfalso; omega) | exact Classical.not_not.1 (by assumption)), fun _ => by (first | assumption | (exfalso; omega) | exact Classical.not_not.1 (by assumption)), fun _ => by (first | assumption | (exfalso; omega) | exact Classical.not_not.1 (by assumption)), fun _ => by (first | assumption | (exfalso; omega) | exact Classical.not_not.1 (by assumption)), fun _ => ⟨by (first | assumption | (exfalso; omega)), by (first | assumption | (exfalso; omega))⟩, fun _ => ⟨by (first | assumption | (exfalso; omega)), by (first | assumption | omega)⟩⟩], rfl⟩
 refine A06 ?_
 exact ⟨rfl, by (cases R with | false => rfl | true => (exfalso; obtain ⟨i1, i2, i3, i4, i5, i6, i7, i8, i9⟩ := hi.1 rfl; first | omega | (have j := i2 (by omega); simp_all; done) | (have j := i3 (by omega); simp_all; done) | (have j := i4 (by omega); simp_all; done) | (have j := i5 (by omega); simp_all; done) | (have j := i6 (by omega); simp_all; done) | (have j := i7 (by omega); simp_all; done) | (have j := i8 (by omega); simp_all; done) | (have j := i9 (by omega); simp_all; done))), rfl⟩
 refine A2U ?_
 exact ⟨rfl, by (cases R with | false => rfl | true => (exfalso; obtain ⟨i1, i2, i3, i4, i5, i6, i7, i8, i9⟩ := hi.1 rfl; first | omega | (have j := i2 (by omega); simp_all; done) | (have j := i3 (by omega); simp_all; done) | (have j := i4 (by omega); simp_all; done) | (have j := i5 (by omega); simp_all; done) | (have j := i6 (by omega); simp_all; done) | (have j := i7 (by omega); simp_all; done) | (have j := i8 (by omega); simp_all; done) | (have j := i9 (by omega); simp_all; done))), rfl⟩
 refine V6 ?_
 exact ⟨rfl, by (cases R with | false => rfl | true => (exfalso; obtain ⟨i1, i2, i3, i4, i5, i6, i7, i8, i9⟩ := hi.1 rfl; first | omega | (have j := i2 (by omega); simp_all; done) | (have j := i3 (by omega); simp_all; done) | (have j := i4 (by omega); simp_all; done) | (have j := i5 (by omega); simp_all; done) | (have j := i6 (by omega); simp_all; done) | (have j := i7 (by omega); simp_all; done) | (have j := i8 (by omega); simp_all; done) | (have j := i9 (by omega); simp_all; done))), rfl⟩
 refine sQ (O5 rfl) rfl (sQ (qA rfl) rfl (sD (nS (qT rfl (tS (tR (sQ (qA rfl) rfl (sD (nS (tT (rB (rS (A6 (rT rfl) ?_)))))))))))))
 exact ⟨rfl, by (cases R with | false => rfl | true => (exfalso; obtain ⟨i1, i2, i3, i4, i5, i6, i7, i8, i9⟩ := hi.1 rfl; first | omega | (have j := i2 (by omega); simp_all; done) | (have j := i3 (by omega); simp_all; done) | (have j := i4 (by omega); simp_all; done) | (have j := i5 (by omega); simp_all; done) | (have j := i6 (by omega); simp_all; done) | (have j := i7 (by omega); simp_all; done) | (have j := i8 (by omega); simp_all; done) | (have j := i9 (by omega); simp_all; done))), rfl⟩
 refine sQ (D7 rfl rfl) rfl (sQ (qA rfl) rfl (sD (nS (tS (tR (sQ (A3 rfl) rfl (sL (A5 rfl rfl) rfl rfl ?_)))))))
 refine sP (E9 rfl rfl (by omega)) rfl rfl ?_
 refine sQ (qA rfl) rfl (sD (nS (tS (tR (sQ (qA rfl) rfl (sD (nS (tS (tS (tR (sQ (A3 rfl) rfl (sL (A5 rfl rfl) rfl rfl ?_))))))))))))
 refine sB (qE rfl rfl) rfl rfl (fun h1072 => ?_) (fun h1072 => ?_)
 refine sD (nS (qT rfl (tR (sQ (qA rfl) rfl (sD (nS (tS ?_)))))))
 refine B5 ?_
 refine A08 ?_
 refine sB (A1K rfl rfl) rfl rfl (fun h1103 => ?_) (fun h1103 => ?_)
 refine R6 ?_
 exact ⟨rfl, by (cases R with | false => rfl | true => (exfalso; obtain ⟨i1, i2, i3, i4, i5, i6, i7, i8, i9⟩ := hi.1 rfl; first | omega | (have j := i2 (by omega); simp_all; done) | (have j := i3 (by omega); simp_all; done) | (have j := i4 (by omega); simp_all; done) | (have j := i5 (by omega); simp_all; done) | (have j := i6 (by omega); simp_all; done) | (have j := i7 (by omega); simp_all; done) | (have j := i8 (by omega); simp_all; done) | (have j := i9 (by omega); simp_all; done))), rfl⟩
 refine sQ (C1 rfl rfl) rfl (sQ (qA rfl) rfl (sD (nS (cF rfl (tR (sQ (A3 rfl) rfl (sL (A5 rfl rfl) rfl rfl (sQ (qM rfl) rfl ?_))))))))
 refine H1 rfl (A0s _ _ _ _) rfl rfl (fun h1131 => ?_) (fun h1131 => ?_)
 refine A4e ?_
 refine H1 rfl (o4) rfl rfl (fun h1157 => ?_) (fun h1157 => ?_)
 refine A0o ?_
 refine sQ (O5 rfl) rfl (sQ (qM rfl) rfl (sQ (A3 rfl) rfl (sL (A7 rfl rfl) rfl rfl ?_)))
 refine H1 rfl (o7) rfl rfl (fun h1192 => ?_) (fun h1192 => ?_)
 refine sQ (M4 rfl) rfl (sQ (qM rfl) rfl (sQ (A3 rfl) rfl (sL (A5 rfl rfl) rfl rfl ?_)))
 refine sB (P9 rfl rfl) rfl rfl (fun h1197 => ?_) (fun h1197 => ?_)
 refine N5 ?_
 exact ⟨rfl, by (cases R with | false => rfl | true => (exfalso; obtain ⟨i1, i2, i3, i4, i5, i6, i7, i8, i9⟩ := hi.1 rfl; first | omega | (have j := i2 (by omega); simp_all; done) | (have j := i3 (by omega); simp_all; done) | (have j := i4 (by omega); simp_all; done) | (have j := i5 (by omega); simp_all; done) | (have j := i6 (by omega); simp_all; done) | (have j := i7 (by omega); simp_all; done) | (have j := i8 (by omega); simp_all; done) | (have j := i9 (by omega); simp_all; done))), rfl⟩
 refine Q9 ?_
 exact ⟨rfl, by rw [hi.2 ⟨by omega, fun _ => by (first | assumption | (exfalso; omega) | exact Classical.not_not.1 (by assumption)), fun _ => by (first | assumption | (exfalso; omega) | exact Classical.not_not.1 (by assumption)), fun _ => by (first | assumption | (exfalso; omega) | exact Classical.not_not.1 (by assumption)), fun _ => by (first | assumption | (exfalso; omega) | exact Classical.not_not.1 (by assumption)), fun _ => by (first | assumption | (exfalso; omega) | exact Classical.not_not.1 (by assumption)), fun _ => by (first | assumption | (exfalso; omega) | exact Classical.not_not.1 (by assumption)), fun _ => ⟨by (first | assumption | (exfalso; omega)), by (first | assumption | (exfalso; omega))⟩, fun _ => ⟨by (first | assumption | (exfalso; omega)), by (first | assumption | omega)⟩⟩], rfl⟩
 refine A07 ?_
 exact ⟨rfl, by (cases R with | false => rfl | true => (exfalso; obtain ⟨i1, i2, i3, i4, i5, i6, i7, i8, i9⟩ := hi.1 rfl; first | omega | (have j := i2 (by omega); simp_all; done) | (have j := i3 (by omega); simp_all; done) | (have j := i4 (by omega); simp_all; done) | (have j := i5 (by omega); simp_all; done) | (have j := i6 (by omega); simp_all; done) | (have j := i7 (by omega); simp_all; done) | (have j := i8 (by omega); simp_all; done) | (have j := i9 (by omega); simp_all; done))), rfl⟩
 refine N5 ?_
 exact ⟨rfl, by (cases R with | false => rfl | true => (exfalso; obtain ⟨i1, i2, i3, i4, i5, i6, i7, i8, i9⟩ := hi.1 rfl; first | omega | (have j := i2 (by omega); simp_all; done) | (have j := i3 (by omega); simp_all; done) | (have j := i4 (by omega); simp_all; done) | (have j := i5 (by omega); simp_all; done) | (have j := i6 (by omega); simp_all; done) | (have j := i7 (by omega); simp_all; done) | (have j := i8 (by omega); simp_all; done) | (have j := i9 (by omega); simp_all; done))), rfl⟩
 refine sQ (O5 rfl) rfl (sQ (qA rfl) rfl (sD (nS (qT rfl (tS (tR (sQ (qA rfl) rfl (sD (nS (tT (rB (rS (A6 (rT rfl) ?_)))))))))))))
 exact ⟨rfl, by (cases R with | false => rfl | true => (exfalso; obtain ⟨i1, i2, i3, i4, i5, i6, i7, i8, i9⟩ := hi.1 rfl; first | omega | (have j := i2 (by omega); simp_all; done) | (have j := i3 (by omega); simp_all; done) | (have j := i4 (by omega); simp_all; done) | (have j := i5 (by omega); simp_all; done) | (have j := i6 (by omega); simp_all; done) | (have j := i7 (by omega); simp_all; done) | (have j := i8 (by omega); simp_all; done) | (have j := i9 (by omega); simp_all; done))), rfl⟩
 refine sD (nS (cF rfl (tK (nS (tS ?_)))))
 refine B5 ?_
 refine A08 ?_
 refine sB (A1K rfl rfl) rfl rfl (fun h1311 => ?_) (fun h1311 => ?_)
 refine R6 ?_
 exact ⟨rfl, by (cases R with | false => rfl | true => (exfalso; obtain ⟨i1, i2, i3, i4, i5, i6, i7, i8, i9⟩ := hi.1 rfl; first | omega | (have j := i2 (by omega); simp_all; done) | (have j := i3 (by omega); simp_all; done) | (have j := i4 (by omega); simp_all; done) | (have j := i5 (by omega); simp_all; done) | (have j := i6 (by omega); simp_all; done) | (have j := i7 (by omega); simp_all; done) | (have j := i8 (by omega); simp_all; done) | (have j := i9 (by omega); simp_all; done))), rfl⟩
 refine sQ (C1 rfl rfl) rfl (sQ (qA rfl) rfl (sD (nS (cF rfl (tR (sQ (A3 rfl) rfl (sL (A5 rfl rfl) rfl rfl (sQ (qM rfl) rfl ?_))))))))
 refine H1 rfl (A0s _ _ _ _) rfl rfl (fun h1339 => ?_) (fun h1339 => ?_)
 refine A4e ?_
 refine H1 rfl (o4) rfl rfl (fun h1365 => ?_) (fun h1365 => ?_)
 refine A0o ?_
 refine sQ (O5 rfl) rfl (sQ (qM rfl) rfl (sQ (A3 rfl) rfl (sL (A7 rfl rfl) rfl rfl ?_)))
 refine H1 rfl (o7) rfl rfl (fun h1400 => ?_) (fun h1400 => ?_)
 refine sQ (M4 rfl) rfl (sQ (qM rfl) rfl (sQ (A3 rfl) rfl (sL (A5 rfl rfl) rfl rfl ?_)))
 refine sB (P9 rfl rfl) rfl rfl (fun h1405 => ?_) (fun h1405 => ?_)
 refine N5 ?_
 exact ⟨rfl, by (cases R with | false => rfl | true => (exfalso; obtain ⟨i1, i2, i3, i4, i5, i6, i7, i8, i9⟩ := hi.1 rfl; first | omega | (have j := i2 (by omega); simp_all; done) | (have j := i3 (by omega); simp_all; done) | (have j := i4 (by omega); simp_all; done) | (have j := i5 (by omega); simp_all; done) | (have j := i6 (by omega); simp_all; done) | (have j := i7 (by omega); simp_all; done) | (have j := i8 (by omega); simp_all; done) | (have j := i9 (by omega); simp_all; done))), rfl⟩
 refine Q9 ?_
 exact ⟨rfl, by rw [hi.2 ⟨by omega, fun _ => by (first | assumption | (exfalso; omega) | exact Classical.not_not.1 (by assumption)), fun _ => by (first | assumption | (exfalso; omega) | exact Classical.not_not.1 (by assumption)), fun _ => by (first | assumption | (exfalso; omega) | exact Classical.not_not.1 (by assumption)), fun _ => by (first | assumption | (exfalso; omega) | exact Classical.not_not.1 (by assumption)), fun _ => by (first | assumption | (exfalso; omega) | exact Classical.not_not.1 (by assumption)), fun _ => by (first | assumption | (exfalso; omega) | exact Classical.not_not.1 (by assumption)), fun _ => ⟨by (first | assumption | (exfalso; omega)), by (first | assumption | (exfalso; omega))⟩, fun _ => ⟨by (first | assumption | (exfalso; omega)), by (first | assumption | omega)⟩⟩], rfl⟩
 refine A07 ?_
 exact ⟨rfl, by (cases R with | false => rfl | true => (exfalso; obtain ⟨i1, i2, i3, i4, i5, i6, i7, i8, i9⟩ := hi.1 rfl; first | omega | (have j := i2 (by omega); simp_all; done) | (have j := i3 (by omega); simp_all; done) | (have j := i4 (by omega); simp_all; done) | (have j := i5 (by omega); simp_all; done) | (have j := i6 (by omega); simp_all; done) | (have j := i7 (by omega); simp_all; done) | (have j := i8 (by omega); simp_all; done) | (have j := i9 (by omega); simp_all; done))), rfl⟩
 refine N5 ?_
 exact ⟨rfl, by (cases R with | false => rfl | true => (exfalso; obtain ⟨i1, i2, i3, i4, i5, i6, i7, i8, i9⟩ := hi.1 rfl; first | omega | (have j := i2 (by omega); simp_all; done) | (have j := i3 (by omega); simp_all; done) | (have j := i4 (by omega); simp_all; done) | (have j := i5 (by omega); simp_all; done) | (have j := i6 (by omega); simp_all; done) | (have j := i7 (by omega); simp_all; done) | (have j := i8 (by omega); simp_all; done) | (have j := i9 (by omega); simp_all; done))), rfl⟩
 refine sQ (O5 rfl) rfl (sQ (qA rfl) rfl (sD (nS (qT rfl (tS (tR (sQ (qA rfl) rfl (sD (nS (tT (rB (rS (A6 (rT rfl) ?_)))))))))))))
 exact ⟨rfl, by (cases R with | false => rfl | true => (exfalso; obtain ⟨i1, i2, i3, i4, i5, i6, i7, i8, i9⟩ := hi.1 rfl; first | omega | (have j := i2 (by omega); simp_all; done) | (have j := i3 (by omega); simp_all; done) | (have j := i4 (by omega); simp_all; done) | (have j := i5 (by omega); simp_all; done) | (have j := i6 (by omega); simp_all; done) | (have j := i7 (by omega); simp_all; done) | (have j := i8 (by omega); simp_all; done) | (have j := i9 (by omega); simp_all; done))), rfl⟩
theorem A8g (M D N : Int) (hM : 0 ≤ M ∧ M ≤ 1000) (hD : 0 ≤ D ∧ D ≤ 1000) (bc : Nat) : ∀ (t : Tm) (deep c : Int) (G : IM) (cells : List Value), 0 ≤ deep ∧ deep ≤ D + 1 → 0 ≤ c ∧ c ≤ M → B1 G t cells →
  Fn Tryz.prog 43 [.agg ⟨cells⟩, .int .i64 deep, .int .i64 M, .int .i64 D, .int .i64 N, .pointer (some ⟨bc, 0, none⟩)] [.blk bc [.int .i64 c]] G
   (T8 (.bool (S4 M D N t deep c).1) [.blk bc [.int .i64 (S4 M D N t deep c).2]] G) := by
 refine Tm.ind fun k nm num ty fr lb ks ih deep c G cells hd hc hr => ?_
 have hno := B2q k nm num ty fr lb ks G cells hr
 obtain ⟨tk, tks⟩ := ty
 obtain ⟨fk, fks⟩ := fr
 obtain ⟨pt, ct, pf, cf, p, cp, es, rfl, hk, hnum, hlb, hty, hfr, hsl, hkl⟩ := hr.open9
 have hn := hsl.le
 obtain ⟨R, hR⟩ : ∃ R, W3 k nm num (.mk tk tks) (.mk fk fks) lb ks.length = R := ⟨_, rfl⟩
 rw [hR] at hno
 refine B7 Tryz.func43 rfl Tryz.ntmps43 Tryz.results43 rfl ?_
 intro w0
 refine tS (tR ?_)
 refine sE (D5 rfl rfl) rfl (fun b3 => ?_)
 refine sQ (qA rfl) rfl (sD (nS (tS (tR (sQ (qM rfl) rfl ?_)))))
 refine sQ (J6 rfl) rfl ?_
 refine sL (A5 rfl rfl) rfl rfl ?_
 refine sP (H6 rfl rfl (by omega) (by omega)) rfl rfl ?_
 refine sQ (J6 rfl) rfl ?_
 refine B9 ?_
 refine sD (nS (tS (tS (tR (sQ (qM rfl) rfl ?_)))))
 refine sQ (J6 rfl) rfl ?_
 refine sL (A5 rfl rfl) rfl rfl (sQ (qM rfl) rfl ?_)
 refine sB (Y7 rfl rfl) rfl rfl (fun h24 => ?_) (fun h24 => ?_)
 refine A5t ?_
 refine E5 (outs := [.blk bc [.int .i64 _]]) (rT rfl) (A0.cons (by repeat (first | exact Pk.here | apply Pk.there)) A0.nil) ?_
 (rw [A4i (by rw [hR]; first | omega | exact Or.inr (Or.inr (Or.inr (by assumption)))) ]; exact ⟨rfl, rfl, rfl⟩)
 refine sQ (qM rfl) rfl (sQ (qM rfl) rfl (sQ (qM rfl) rfl ?_))
 refine sB (Y7 rfl rfl) rfl rfl (fun h56 => ?_) (fun h56 => ?_)
 refine A09 ?_
 refine E5 (outs := [.blk bc [.int .i64 _]]) (rT rfl) (A0.cons (by repeat (first | exact Pk.here | apply Pk.there)) A0.nil) ?_
 (rw [A4i (by rw [hR]; first | omega | exact Or.inr (Or.inr (Or.inr (by assumption)))) ]; exact ⟨rfl, rfl, rfl⟩)
 refine sQ (D7 rfl rfl) rfl (sQ (qM rfl) rfl (sQ (A3 rfl) rfl (sL (A5 rfl rfl) rfl rfl (sQ (qM rfl) rfl ?_))))
 refine sB (qE rfl rfl) rfl rfl (fun h86 => ?_) (fun h86 => ?_)
 refine Q9 ?_
 refine E5 (outs := [.blk bc [.int .i64 _]]) (rT rfl) (A0.cons (by repeat (first | exact Pk.here | apply Pk.there)) A0.nil) ?_
 (rw [A4i (by rw [hR]; first | omega | exact Or.inr (Or.inr (Or.inr (by assumption)))) ]; exact ⟨rfl, rfl, rfl⟩)
 refine sQ (D7 rfl rfl) rfl (sQ (qM rfl) rfl (sL (A7 rfl rfl) rfl rfl ?_))
 refine H1 rfl (hno) rfl rfl (fun h108 => ?_) (fun h108 => ?_)
 refine Q9 ?_
 refine B5 ?_
 (have hmk := B1Q (M := M) (D := D) (N := N) (deep := deep) (c := c) (by omega) (hR.trans (by assumption)); refine K4 (fun (x : Nat × Int) => ⟨[(44, .int .i64 x.1), (43, .int .i64 ks.length), (42, .slice p ks.length cp), (5, .pointer (some ⟨bc, 0, none⟩)), (4, .int .i64 N), (3, .int .i64 D), (2, .int .i64 M), (1, .int .i64 deep)], [.blk bc [.int .i64 x.2]], G⟩) (fun x => x.1 ≤ ks.length ∧ 0 ≤ x.2 ∧ x.2 ≤ M ∧ T3 M D N ks (deep + 1) (c + 1) = T3 M D N (ks.drop x.1) (deep + 1) x.2) (fun x => ks.length - x.1) (0, c + 1) ?_ ?_ ?_)
 (simp only [E2]; exact C9)
 exact ⟨by simp, by simp; omega, by simp; omega, by simp⟩
 (rintro ⟨i, ci⟩ ⟨hi, hc0, hc1, hst⟩; simp only [] at hi hc0 hc1 hst ⊢)
 refine tS (tR ?_)
 refine sB (J3 rfl rfl) rfl rfl (fun h132 => ?_) (fun h132 => ?_)
 refine sD (nS (tS (qT rfl (tK (nS (tS ?_))))))
 refine B5 ?_
 refine tS (tR ?_)
 (obtain ⟨b, o, e, rfl, hl, hat, hre, hgb⟩ := hsl.kidTm hkl (i := i) (by omega) (by omega); have hone := hre.one; have hle := A7D M D N ks[i] (deep + 1) ci hc0 hc1; refine sP (C2 rfl rfl rfl (by omega)) rfl rfl ?_)
 refine sL (A9 rfl rfl (hat _) hl) rfl rfl ?_
 refine sE (B6 rfl) rfl (fun b145 => ?_)
 refine A0h rfl rfl rfl (by assumption) (by assumption) rfl (by repeat first | exact Sw.here | apply Sw.there) (by exact I4 (by symm; assumption)) ?_
 refine sD (nS (tS (tR ?_)))
 refine sL (A9 rfl rfl (C7 (by repeat first | exact mH | apply mT)) (by assumption)) rfl rfl ?_
 refine sQ (qM rfl) rfl ?_
 refine sP (H6 rfl rfl (by omega) (by omega)) rfl rfl ?_
 refine sQ (qM rfl) rfl (sQ (qM rfl) rfl (sQ (qM rfl) rfl (sQ (qM rfl) rfl ?_)))
 refine B1F rfl (ih ks[i] (List.getElem_mem _) (deep + 1) ci G e (by omega) (by omega) hre) (Pk.perm (by repeat (first | exact Pk.here | apply Pk.there))) rfl rfl (fun h158 => ?_) (fun h158 => ?_)
 refine sQ (M4 rfl) rfl (sD (nS (cF rfl (tK (C8 (nS (tR ?_)))))))
 refine sP (H6 rfl rfl (by omega) (by omega)) rfl rfl ?_
 refine sQ (qM rfl) rfl (sD ?_)
 refine K3 (i + 1, (S4 M D N ks[i] (deep + 1) ci).2) ?_ ?_ ?_
 (simp only [E2]; exact C9)
 exact ⟨by omega, by omega, hle.2.2 (by assumption), by rw [hst, B1R (by omega) (by assumption)]⟩
 (show ks.length - (i + 1) < ks.length - i; omega)
 refine sQ (O5 rfl) rfl (sD (nS (qT rfl (tS (tR (sQ (qA rfl) rfl (sD (nS (tT (rB (rS (U2 (rB (rS ?_))))))))))))))
 refine E5 (outs := [.blk bc [.int .i64 _]]) (rT rfl) (A0.cons (by repeat (first | exact Pk.here | apply Pk.there)) A0.nil) ?_
 (rw [hmk, hst, B1S (by omega) (by assumption)]; exact ⟨rfl, rfl, rfl⟩)
 refine sD (nS (tS (cF rfl (M7 (M8 (N3 (M9 (nS (tS (tR (sQ (qA rfl) rfl (sD (nS (tT ?_))))))))))))))
 refine E5 (outs := [.blk bc [.int .i64 _]]) (rT rfl) (A0.cons (by repeat (first | exact Pk.here | apply Pk.there)) A0.nil) ?_
 (rw [hmk, hst, B1T (by omega)]; exact ⟨rfl, rfl, rfl⟩)
 refine sQ (O5 rfl) rfl (sQ (D7 rfl rfl) rfl (sD (nS (qT rfl (tS (tR (sQ (qA rfl) rfl (sD (nS (tT (rS ?_)))))))))))
 refine E5 (outs := [.blk bc [.int .i64 _]]) (rT rfl) (A0.cons (by repeat (first | exact Pk.here | apply Pk.there)) A0.nil) ?_
 (rw [A4i (by rw [hR]; first | omega | exact Or.inr (Or.inr (Or.inr (by assumption)))) ]; exact ⟨rfl, rfl, rfl⟩)
theorem A8h (t : Tm) (G : IM) (cells : List Value) (hr : B1 G t cells) : Fn Tryz.prog 36 [.agg ⟨cells⟩] [] G (H3 (.bool (N0 t)) G) := by
 have hl := hr.len
 refine B7 Tryz.func36 rfl Tryz.ntmps36 Tryz.results36 rfl ?_
 intro w0
 refine tS (tR ?_)
 refine sE (D5 rfl rfl) rfl (fun b3 => ?_)
 refine sQ (qA rfl) rfl (sD (nS (tS (tR ?_))))
 refine sE (B6 rfl) rfl (fun b9 => ?_)
 refine B9 ?_
 refine sD (nS (tS (tR ?_)))
 refine sL (A9 rfl rfl (C7 (by repeat first | exact mH | apply mT)) (by assumption)) rfl rfl ?_
 refine A4d rfl (A8g 200 40 13 (by omega) (by omega) _ t 1 0 G cells (by omega) (by omega) hr) Z5 rfl rfl ?_
 refine sQ (qA rfl) rfl (sD (nS (tT (A6 (rT rfl) ?_))))
 exact ⟨rfl, rfl, rfl⟩
theorem A8i (t : Tm) (G : IM) (cells : List Value) (hr : B1 G t cells) : Fn Tryz.prog 14 [.agg ⟨cells⟩] [] G (H3 (.bool (M5 t)) G) := by
 have hl := hr.len
 refine B7 Tryz.func14 rfl Tryz.ntmps14 Tryz.results14 rfl ?_
 intro w0
 refine tS (tR ?_)
 refine sE (D5 rfl rfl) rfl (fun b3 => ?_)
 refine sQ (qA rfl) rfl (sD (nS (tS (tR ?_))))
 refine sE (B6 rfl) rfl (fun b9 => ?_)
 refine B9 ?_
 refine sD (nS (tS (tR ?_)))
 refine sL (A9 rfl rfl (C7 (by repeat first | exact mH | apply mT)) (by assumption)) rfl rfl ?_
 refine A4d rfl (A8g 30 12 14 (by omega) (by omega) _ t 1 0 G cells (by omega) (by omega) hr) Z5 rfl rfl ?_
 refine sQ (qA rfl) rfl (sD (nS (tT (A6 (rT rfl) ?_))))
 exact ⟨rfl, rfl, rfl⟩
theorem A8j (k : Int) (G : IM) : Fn Tryz.prog 175 [.int .i64 k] [] G (H3 (.int .i64 (U5 k)) G) := by
 refine B7 Tryz.func175 rfl Tryz.ntmps175 Tryz.results175 rfl ?_
 intro w0
 refine tS (tR (sQ (qA rfl) rfl (sD (nS (tS (tS (tR (sQ (qM rfl) rfl (sD (nS ?_))))))))))
 refine B5 ?_
 refine tS (tS (tR ?_))
 refine sB (qE rfl rfl) rfl rfl (fun h16 => ?_) (fun h16 => ?_)
 refine sQ (qA rfl) rfl (sD (nS (qT rfl (tK (nS (qT rfl (tS (tR (sQ (qA rfl) rfl (sD (nS (tT (rB (rS (A6 (rT rfl) ?_)))))))))))))))
 exact ⟨rfl, by (first | rw [(L9 k).1 (by omega)] | rw [(L9 k).2.1 (by omega)] | rw [(L9 k).2.2 (by omega) (by omega) (by omega) (by omega) (by omega)]), rfl⟩
 refine sQ (qA rfl) rfl (sD (nS (cF rfl (tS (tR ?_)))))
 refine sB (qE rfl rfl) rfl rfl (fun h40 => ?_) (fun h40 => ?_)
 refine sQ (qA rfl) rfl (sD (nS (qT rfl (tK (nS (qT rfl (tS (tR (sQ (qA rfl) rfl (sD (nS (tT (rB (rS (A6 (rT rfl) ?_)))))))))))))))
 exact ⟨rfl, by (first | rw [(L9 k).1 (by omega)] | rw [(L9 k).2.1 (by omega)] | rw [(L9 k).2.2 (by omega) (by omega) (by omega) (by omega) (by omega)]), rfl⟩
 refine sQ (qA rfl) rfl (sD (nS (cF rfl (tR ?_))))
 refine sB (qE rfl rfl) rfl rfl (fun h63 => ?_) (fun h63 => ?_)
 refine sQ (qA rfl) rfl (sD (nS (qT rfl (tS (tR (sQ (qA rfl) rfl (sD (nS (tT (rB (rS (A6 (rT rfl) ?_))))))))))))
 exact ⟨rfl, by (first | rw [(L9 k).1 (by omega)] | rw [(L9 k).2.1 (by omega)] | rw [(L9 k).2.2 (by omega) (by omega) (by omega) (by omega) (by omega)]), rfl⟩
 refine sQ (qA rfl) rfl (sD (nS (cF rfl (tS (tS (tR ?_))))))
 refine sB (qE rfl rfl) rfl rfl (fun h85 => ?_) (fun h85 => ?_)
 refine sQ (qA rfl) rfl (sD (nS (qT rfl (tK (nS (qT rfl (tS (tR (sQ (qA rfl) rfl (sD (nS (tT (rB (rS (A6 (rT rfl) ?_)))))))))))))))
 exact ⟨rfl, by (first | rw [(L9 k).1 (by omega)] | rw [(L9 k).2.1 (by omega)] | rw [(L9 k).2.2 (by omega) (by omega) (by omega) (by omega) (by omega)]), rfl⟩
 refine sQ (qA rfl) rfl (sD (nS (cF rfl (tR ?_))))
 refine sB (qE rfl rfl) rfl rfl (fun h108 => ?_) (fun h108 => ?_)
 refine sQ (qA rfl) rfl (sD (nS (qT rfl (tS (tR (sQ (qA rfl) rfl (sD (nS (tT (rB (rS (A6 (rT rfl) ?_))))))))))))
 exact ⟨rfl, by (first | rw [(L9 k).1 (by omega)] | rw [(L9 k).2.1 (by omega)] | rw [(L9 k).2.2 (by omega) (by omega) (by omega) (by omega) (by omega)]), rfl⟩
 refine sQ (qA rfl) rfl (sD (nS (cF rfl (tK (C8 (nS (tS (tR (sQ (qA rfl) rfl (sD (nS (tT (A6 (rT rfl) ?_)))))))))))))
 exact ⟨rfl, by (first | rw [(L9 k).1 (by omega)] | rw [(L9 k).2.1 (by omega)] | rw [(L9 k).2.2 (by omega) (by omega) (by omega) (by omega) (by omega)]), rfl⟩
theorem A5M (k : Int) (G : IM) : Fn Tryz.prog 93 [.int .i64 k] [] G (H3 (.int .i64 (E7 k)) G) := by
 refine B7 Tryz.func93 rfl Tryz.ntmps93 Tryz.results93 rfl ?_
 intro w0
 refine tS (tR (sQ (qA rfl) rfl (sD (nS (tS (tS (tR (sQ (qM rfl) rfl (sD (nS ?_))))))))))
 refine B5 ?_
 refine tS (tS (tR ?_))
 refine sB (qE rfl rfl) rfl rfl (fun h16 => ?_) (fun h16 => ?_)
 refine sQ (qA rfl) rfl (sD (nS (qT rfl (tK (nS (qT rfl (tS (tR (sQ (qA rfl) rfl (sD (nS (tT (rB (rS (A6 (rT rfl) ?_)))))))))))))))
 exact ⟨rfl, by (unfold E7; first | rw [if_pos (by omega)] | rw [if_neg (by omega), if_pos (by omega)] | rw [if_neg (by omega), if_neg (by omega), if_pos (by omega)] | rw [if_neg (by omega), if_neg (by omega), if_neg (by omega), if_pos (by omega)] | rw [if_neg (by omega), if_neg (by omega), if_neg (by omega), if_neg (by omega)]), rfl⟩
 refine sQ (qA rfl) rfl (sD (nS (cF rfl (tS (tR ?_)))))
 refine sB (qE rfl rfl) rfl rfl (fun h40 => ?_) (fun h40 => ?_)
 refine sQ (qA rfl) rfl (sD (nS (qT rfl (tK (nS (qT rfl (tS (tR (sQ (qA rfl) rfl (sD (nS (tT (rB (rS (A6 (rT rfl) ?_)))))))))))))))
 exact ⟨rfl, by (unfold E7; first | rw [if_pos (by omega)] | rw [if_neg (by omega), if_pos (by omega)] | rw [if_neg (by omega), if_neg (by omega), if_pos (by omega)] | rw [if_neg (by omega), if_neg (by omega), if_neg (by omega), if_pos (by omega)] | rw [if_neg (by omega), if_neg (by omega), if_neg (by omega), if_neg (by omega)]), rfl⟩
 refine sQ (qA rfl) rfl (sD (nS (cF rfl (tS (tR ?_)))))
 refine sB (qE rfl rfl) rfl rfl (fun h64 => ?_) (fun h64 => ?_)
 refine sQ (qA rfl) rfl (sD (nS (qT rfl (tK (nS (qT rfl (tS (tR (sQ (qA rfl) rfl (sD (nS (tT (rB (rS (A6 (rT rfl) ?_)))))))))))))))
 exact ⟨rfl, by (unfold E7; first | rw [if_pos (by omega)] | rw [if_neg (by omega), if_pos (by omega)] | rw [if_neg (by omega), if_neg (by omega), if_pos (by omega)] | rw [if_neg (by omega), if_neg (by omega), if_neg (by omega), if_pos (by omega)] | rw [if_neg (by omega), if_neg (by omega), if_neg (by omega), if_neg (by omega)]), rfl⟩
 refine sQ (qA rfl) rfl (sD (nS (cF rfl (tR ?_))))
 refine sB (qE rfl rfl) rfl rfl (fun h87 => ?_) (fun h87 => ?_)
 refine sQ (qA rfl) rfl (sD (nS (qT rfl (tS (tR (sQ (qA rfl) rfl (sD (nS (tT (rB (rS (A6 (rT rfl) ?_))))))))))))
 exact ⟨rfl, by (unfold E7; first | rw [if_pos (by omega)] | rw [if_neg (by omega), if_pos (by omega)] | rw [if_neg (by omega), if_neg (by omega), if_pos (by omega)] | rw [if_neg (by omega), if_neg (by omega), if_neg (by omega), if_pos (by omega)] | rw [if_neg (by omega), if_neg (by omega), if_neg (by omega), if_neg (by omega)]), rfl⟩
 refine sQ (qA rfl) rfl (sD (nS (cF rfl (tS (tS (tR ?_))))))
 refine sB (qE rfl rfl) rfl rfl (fun h109 => ?_) (fun h109 => ?_)
 refine sQ (qA rfl) rfl (sD (nS (qT rfl (tK (nS (qT rfl (tS (tR (sQ (qA rfl) rfl (sD (nS (tT (rB (rS (A6 (rT rfl) ?_)))))))))))))))
 exact ⟨rfl, by (unfold E7; first | rw [if_pos (by omega)] | rw [if_neg (by omega), if_pos (by omega)] | rw [if_neg (by omega), if_neg (by omega), if_pos (by omega)] | rw [if_neg (by omega), if_neg (by omega), if_neg (by omega), if_pos (by omega)] | rw [if_neg (by omega), if_neg (by omega), if_neg (by omega), if_neg (by omega)]), rfl⟩
 refine sQ (qA rfl) rfl (sD (nS (cF rfl (tS (tR ?_)))))
 refine sB (qE rfl rfl) rfl rfl (fun h133 => ?_) (fun h133 => ?_)
 refine sQ (qA rfl) rfl (sD (nS (qT rfl (tK (nS (qT rfl (tS (tR (sQ (qA rfl) rfl (sD (nS (tT (rB (rS (A6 (rT rfl) ?_)))))))))))))))
 exact ⟨rfl, by (unfold E7; first | rw [if_pos (by omega)] | rw [if_neg (by omega), if_pos (by omega)] | rw [if_neg (by omega), if_neg (by omega), if_pos (by omega)] | rw [if_neg (by omega), if_neg (by omega), if_neg (by omega), if_pos (by omega)] | rw [if_neg (by omega), if_neg (by omega), if_neg (by omega), if_neg (by omega)]), rfl⟩
 refine sQ (qA rfl) rfl (sD (nS (cF rfl (tS (tR ?_)))))
 refine sB (qE rfl rfl) rfl rfl (fun h157 => ?_) (fun h157 => ?_)
 refine sQ (qA rfl) rfl (sD (nS (qT rfl (tK (nS (qT rfl (tS (tR (sQ (qA rfl) rfl (sD (nS (tT (rB (rS (A6 (rT rfl) ?_)))))))))))))))
 exact ⟨rfl, by (unfold E7; first | rw [if_pos (by omega)] | rw [if_neg (by omega), if_pos (by omega)] | rw [if_neg (by omega), if_neg (by omega), if_pos (by omega)] | rw [if_neg (by omega), if_neg (by omega), if_neg (by omega), if_pos (by omega)] | rw [if_neg (by omega), if_neg (by omega), if_neg (by omega), if_neg (by omega)]), rfl⟩
 refine sQ (qA rfl) rfl (sD (nS (cF rfl (tS (tR ?_)))))
 refine sB (qE rfl rfl) rfl rfl (fun h181 => ?_) (fun h181 => ?_)
 refine sQ (qA rfl) rfl (sD (nS (qT rfl (tK (nS (qT rfl (tS (tR (sQ (qA rfl) rfl (sD (nS (tT (rB (rS (A6 (rT rfl) ?_)))))))))))))))
 exact ⟨rfl, by (unfold E7; first | rw [if_pos (by omega)] | rw [if_neg (by omega), if_pos (by omega)] | rw [if_neg (by omega), if_neg (by omega), if_pos (by omega)] | rw [if_neg (by omega), if_neg (by omega), if_neg (by omega), if_pos (by omega)] | rw [if_neg (by omega), if_neg (by omega), if_neg (by omega), if_neg (by omega)]), rfl⟩
 refine sQ (qA rfl) rfl (sD (nS (cF rfl (tR ?_))))
 refine sB (qE rfl rfl) rfl rfl (fun h204 => ?_) (fun h204 => ?_)
 refine sQ (qA rfl) rfl (sD (nS (qT rfl (tS (tR (sQ (qA rfl) rfl (sD (nS (tT (rB (rS (A6 (rT rfl) ?_))))))))))))
 exact ⟨rfl, by (unfold E7; first | rw [if_pos (by omega)] | rw [if_neg (by omega), if_pos (by omega)] | rw [if_neg (by omega), if_neg (by omega), if_pos (by omega)] | rw [if_neg (by omega), if_neg (by omega), if_neg (by omega), if_pos (by omega)] | rw [if_neg (by omega), if_neg (by omega), if_neg (by omega), if_neg (by omega)]), rfl⟩
 refine sQ (qA rfl) rfl (sD (nS (cF rfl (tS (tS (tR ?_))))))
 refine sB (qE rfl rfl) rfl rfl (fun h226 => ?_) (fun h226 => ?_)
 refine sQ (qA rfl) rfl (sD (nS (qT rfl (tK (nS (qT rfl (tS (tR (sQ (qA rfl) rfl (sD (nS (tT (rB (rS (A6 (rT rfl) ?_)))))))))))))))
 exact ⟨rfl, by (unfold E7; first | rw [if_pos (by omega)] | rw [if_neg (by omega), if_pos (by omega)] | rw [if_neg (by omega), if_neg (by omega), if_pos (by omega)] | rw [if_neg (by omega), if_neg (by omega), if_neg (by omega), if_pos (by omega)] | rw [if_neg (by omega), if_neg (by omega), if_neg (by omega), if_neg (by omega)]), rfl⟩
 refine sQ (qA rfl) rfl (sD (nS (cF rfl (tS (tR ?_)))))
 refine sB (qE rfl rfl) rfl rfl (fun h250 => ?_) (fun h250 => ?_)
 refine sQ (qA rfl) rfl (sD (nS (qT rfl (tK (nS (qT rfl (tS (tR (sQ (qA rfl) rfl (sD (nS (tT (rB (rS (A6 (rT rfl) ?_)))))))))))))))
 exact ⟨rfl, by (unfold E7; first | rw [if_pos (by omega)] | rw [if_neg (by omega), if_pos (by omega)] | rw [if_neg (by omega), if_neg (by omega), if_pos (by omega)] | rw [if_neg (by omega), if_neg (by omega), if_neg (by omega), if_pos (by omega)] | rw [if_neg (by omega), if_neg (by omega), if_neg (by omega), if_neg (by omega)]), rfl⟩
 refine sQ (qA rfl) rfl (sD (nS (cF rfl (tS (tR ?_)))))
 refine sB (qE rfl rfl) rfl rfl (fun h274 => ?_) (fun h274 => ?_)
 refine sQ (qA rfl) rfl (sD (nS (qT rfl (tK (nS (qT rfl (tS (tR (sQ (qA rfl) rfl (sD (nS (tT (rB (rS (A6 (rT rfl) ?_)))))))))))))))
 exact ⟨rfl, by (unfold E7; first | rw [if_pos (by omega)] | rw [if_neg (by omega), if_pos (by omega)] | rw [if_neg (by omega), if_neg (by omega), if_pos (by omega)] | rw [if_neg (by omega), if_neg (by omega), if_neg (by omega), if_pos (by omega)] | rw [if_neg (by omega), if_neg (by omega), if_neg (by omega), if_neg (by omega)]), rfl⟩
 refine sQ (qA rfl) rfl (sD (nS (cF rfl (tR ?_))))
 refine sB (qE rfl rfl) rfl rfl (fun h297 => ?_) (fun h297 => ?_)
 refine sQ (qA rfl) rfl (sD (nS (qT rfl (tS (tR (sQ (qA rfl) rfl (sD (nS (tT (rB (rS (A6 (rT rfl) ?_))))))))))))
 exact ⟨rfl, by (unfold E7; first | rw [if_pos (by omega)] | rw [if_neg (by omega), if_pos (by omega)] | rw [if_neg (by omega), if_neg (by omega), if_pos (by omega)] | rw [if_neg (by omega), if_neg (by omega), if_neg (by omega), if_pos (by omega)] | rw [if_neg (by omega), if_neg (by omega), if_neg (by omega), if_neg (by omega)]), rfl⟩
 refine sQ (qA rfl) rfl (sD (nS (cF rfl (tS (tR ?_)))))
 refine sB (qE rfl rfl) rfl rfl (fun h318 => ?_) (fun h318 => ?_)
 refine sQ (qA rfl) rfl (sD (nS (qT rfl (tS (tR (sQ (qA rfl) rfl (sD (nS (tT (rB (rS (A6 (rT rfl) ?_))))))))))))
 exact ⟨rfl, by (unfold E7; first | rw [if_pos (by omega)] | rw [if_neg (by omega), if_pos (by omega)] | rw [if_neg (by omega), if_neg (by omega), if_pos (by omega)] | rw [if_neg (by omega), if_neg (by omega), if_neg (by omega), if_pos (by omega)] | rw [if_neg (by omega), if_neg (by omega), if_neg (by omega), if_neg (by omega)]), rfl⟩
 refine sQ (qA rfl) rfl (sD (nS (cF rfl (tK (C8 (nS (tS (tR (sQ (qA rfl) rfl (sD (nS (tT (A6 (rT rfl) ?_)))))))))))))
 exact ⟨rfl, by (unfold E7; first | rw [if_pos (by omega)] | rw [if_neg (by omega), if_pos (by omega)] | rw [if_neg (by omega), if_neg (by omega), if_pos (by omega)] | rw [if_neg (by omega), if_neg (by omega), if_neg (by omega), if_pos (by omega)] | rw [if_neg (by omega), if_neg (by omega), if_neg (by omega), if_neg (by omega)]), rfl⟩
theorem B2r (s : ByteArray) (G : IM) : Fn Tryz.prog 104 [.string s] [] G (H3 (.bool (X0 s)) G) := by
 refine B7 Tryz.func104 rfl Tryz.ntmps104 Tryz.results104 rfl ?_
 intro w0
 refine tS (tR (sQ (qA rfl) rfl (sD (nS (tS (tR (sQ (qM rfl) rfl ?_)))))))
 refine sQ (A0m rfl rfl) rfl (sB (qE rfl rfl) rfl rfl (fun h10 => ?_) (fun h10 => ?_))
 refine sQ (qM rfl) rfl (sQ (qM rfl) rfl ?_)
 refine sP (A3r rfl rfl rfl (by omega) (A4h (by omega))) rfl rfl ?_
 refine sB (Y0 rfl rfl) rfl rfl (fun h14 => ?_) (fun h14 => ?_)
 refine sQ (C1 rfl rfl) rfl (sQ (qM rfl) rfl (sQ (qM rfl) rfl ?_))
 refine sP (A3r rfl rfl rfl (by omega) (A4h (by omega))) rfl rfl ?_
 refine sB (T6 rfl rfl) rfl rfl (fun h19 => ?_) (fun h19 => ?_)
 refine sQ (C1 rfl rfl) rfl (sQ (qA rfl) rfl (sD (nS (tT (A6 (rT rfl) ?_)))))
 exact ⟨rfl, by simp only [X0]; (try simp only [Int.toNat_zero] at *); (first | rw [decide_eq_true (by omega)] | rw [decide_eq_false (by omega)]), rfl⟩
 refine sQ (C1 rfl rfl) rfl (sQ (qA rfl) rfl (sD (nS (tT (A6 (rT rfl) ?_)))))
 exact ⟨rfl, by simp only [X0]; (try simp only [Int.toNat_zero] at *); (first | rw [decide_eq_true (by omega)] | rw [decide_eq_false (by omega)]), rfl⟩
 refine A0n ?_
 exact ⟨rfl, by simp only [X0]; (try simp only [Int.toNat_zero] at *); (first | rw [decide_eq_true (by omega)] | rw [decide_eq_false (by omega)]), rfl⟩
 refine N5 ?_
 exact ⟨rfl, by simp only [X0]; (try simp only [Int.toNat_zero] at *); (first | rw [decide_eq_true (by omega)] | rw [decide_eq_false (by omega)]), rfl⟩
theorem A8k (t : Ty) (G : IM) (cells : List Value) (hr : C3 G t cells) : Fn Tryz.prog 164 [.agg ⟨cells⟩] [] G (H3 (.bool (Y1 t)) G) := by
 obtain ⟨p, c, es, rfl, hk, hsl, hkl⟩ := hr.open
 refine B7 Tryz.func164 rfl Tryz.ntmps164 Tryz.results164 rfl ?_
 intro w0
 refine tS (tR ?_)
 refine sE (D5 rfl rfl) rfl (fun b3 => ?_)
 refine sQ (qA rfl) rfl (sD (nS (tS (tR (sQ (A3 rfl) rfl (sL (A5 rfl rfl) rfl rfl ?_))))))
 refine sB (qE rfl rfl) rfl rfl (fun h11 => ?_) (fun h11 => ?_)
 refine sQ (qM rfl) rfl (sQ (A3 rfl) rfl (sL (A5 rfl rfl) rfl rfl (sQ (D8 rfl rfl) rfl ?_)))
 refine sB (qE rfl rfl) rfl rfl (fun h16 => ?_) (fun h16 => ?_)
 refine sQ (C1 rfl rfl) rfl (sQ (qA rfl) rfl (sD (nS (tT (A6 (rT rfl) ?_)))))
 exact ⟨rfl, by simp only [Y1]; (first | rw [decide_eq_true (by omega)] | rw [decide_eq_false (by omega)]), rfl⟩
 refine sQ (C1 rfl rfl) rfl (sQ (qA rfl) rfl (sD (nS (tT (A6 (rT rfl) ?_)))))
 exact ⟨rfl, by simp only [Y1]; (first | rw [decide_eq_true (by omega)] | rw [decide_eq_false (by omega)]), rfl⟩
 refine A0n ?_
 exact ⟨rfl, by simp only [Y1]; (first | rw [decide_eq_true (by omega)] | rw [decide_eq_false (by omega)]), rfl⟩
def B63 (n : Int) : Int := if n < -99 ∨ n > 99 then 0 else if n < 0 then -n else n
theorem A8l {k : Int} {ks : List Ty} {d : Int} (h : 4 < d ∨ U5 k ≠ ks.length) : K6 (.mk k ks) d = false := by
 rw [K6]
 rcases h with h | h
 ·rw [decide_eq_false (by omega)]; rfl
 ·rw [decide_eq_false (p := U5 k = ks.length) h, Bool.and_false]; rfl
theorem A8m {k : Int} {ks : List Ty} {d : Int} (h : d ≤ 4) (h2 : U5 k = ks.length) : K6 (.mk k ks) d = U8 ks (d + 1) := by
 rw [K6, decide_eq_true h, decide_eq_true h2]; rfl
theorem B2s {ks : List Ty} {d : Int} {i : Nat} (hi : i < ks.length) (h : K6 ks[i] d = false) : U8 ks d = false := by
 cases hx : U8 ks d with
 | false => rfl
 | true => rw [(A4g ks d).1 hx i hi] at h; cases h
theorem B2t : ∀ (t : Ty) (d : Int) (G : IM) (cells : List Value), 0 ≤ d ∧ d ≤ 4 → C3 G t cells →
  Fn Tryz.prog 194 [.agg ⟨cells⟩, .int .i64 d] [] G (H3 (.bool (K6 t (5 - d))) G) := by
 refine Ty.ind fun k ks ih d G cells hd hr => ?_
 obtain ⟨p, c, es, rfl, hk, hsl, hkl⟩ := hr.open
 simp only [Ty.k, Ty.ks] at hk hsl hkl ⊢
 have hn := hsl.le
 have hk1 := A8j k G
 refine B7 Tryz.func194 rfl Tryz.ntmps194 Tryz.results194 rfl ?_
 intro w0
 refine tS (tR ?_)
 refine sE (D5 rfl rfl) rfl (fun b3 => ?_)
 refine sQ (qA rfl) rfl (sD (nS (tS (tS ?_))))
 refine I0 I1 rfl ?_
 refine J2 (i := 0) (l' := [tt,ff,ff,ff,ff,ff,ff,ff,ff,ff,ff]) rfl F4 (qM rfl) rfl (by kernel_rfl) rfl rfl ?_
 refine A12 (i := 1) (l' := [tt,tt,ff,ff,ff,ff,ff,ff,ff,ff,ff]) rfl F4 (J3 rfl rfl) rfl (by kernel_rfl) rfl rfl (fun h11 => ?_) (fun h11 => ?_)
 refine aP 2 rfl (qM rfl) rfl ?_
 refine J7 3 rfl rfl rfl ?_
 refine J7 4 rfl rfl rfl ?_
 refine J7 6 rfl rfl rfl ?_
 refine J7 7 rfl rfl rfl ?_
 refine J7 8 rfl rfl rfl ?_
 refine J7 5 rfl rfl rfl ?_
 refine J7 9 rfl rfl rfl ?_
 refine aP 10 rfl (C1 rfl rfl) rfl ?_
 refine D6 (nS (qT rfl (tS (tR (sQ (qA rfl) rfl (sD (nS (tT (rS (A6 (rT rfl) ?_))))))))))
 (rw [A8l (by omega)]; exact ⟨rfl, rfl, rfl⟩)
 refine aP 2 rfl (qM rfl) rfl ?_
 refine aP 3 rfl (A3 rfl) rfl ?_
 refine aL 4 rfl (A5 rfl rfl) rfl ?_
 refine aP 6 rfl (A3 rfl) rfl ?_
 refine aL 7 rfl (A5 rfl rfl) rfl ?_
 refine aP 8 rfl (D8 rfl rfl) rfl ?_
 refine A8 5 ?_
 refine Q5 rfl rfl (hk1) rfl rfl rfl ?_
 refine A12 (i := 9) (l' := [tt,tt,tt,tt,tt,tt,tt,tt,tt,tt,ff]) rfl F4 (P9 rfl rfl) rfl (by kernel_rfl) rfl rfl (fun h41 => ?_) (fun h41 => ?_)
 refine aP 10 rfl (D7 rfl rfl) rfl ?_
 refine D6 (nS (qT rfl (tS (tR (sQ (qA rfl) rfl (sD (nS (tT (rS (A6 (rT rfl) ?_))))))))))
 (rw [A8l (by omega)]; exact ⟨rfl, rfl, rfl⟩)
 refine aP 10 rfl (D7 rfl rfl) rfl ?_
 refine D6 (nS (cF rfl (tK (nS (tS (tS (tR (sQ (qA rfl) rfl (sD (nS ?_))))))))))
 refine B5 ?_
 (refine K4 (fun (i : Nat) => ⟨[(5, .int .i64 i), (2, .pointer (some ⟨b3, 0, none⟩)), (1, .int .i64 d)], [.blk b3 [.int .i64 k, .slice p ks.length c]], G⟩) (fun i => i ≤ ks.length ∧ ∀ j (h : j < ks.length), j < i → K6 ks[j] (5 - d + 1) = true) (fun i => ks.length - i) 0 ?_ ?_ ?_)
 exact C9
 exact ⟨by omega, by omega⟩
 (rintro i ⟨hi, hf⟩)
 refine tS (tS (tR (sQ (qM rfl) rfl (sQ (A3 rfl) rfl (sL (A5 rfl rfl) rfl rfl (sQ (D8 rfl rfl) rfl ?_))))))
 refine sB (J3 rfl rfl) rfl rfl (fun h79 => ?_) (fun h79 => ?_)
 refine sD (nS (qT rfl (tK (nS (tS ?_)))))
 refine B5 ?_
 refine tS (tR (sQ (A3 rfl) rfl (sL (A5 rfl rfl) rfl rfl (sQ (qM rfl) rfl ?_))))
 (obtain ⟨b, o, p2, c2, rfl, hat, hre, hgb⟩ := hsl.kidTy hkl (i := i) (by omega) (by omega); refine sP (C2 rfl rfl rfl (by omega)) rfl rfl ?_)
 refine sL (A9 rfl rfl (hat _) rfl) rfl rfl ?_
 refine sQ (qM rfl) rfl ?_
 refine sP (L7 rfl rfl (by omega) (by omega)) rfl rfl ?_
 (have hih := ih ks[i] (List.getElem_mem (by omega)) (d - 1) G _ (by omega) hre; rw [show 5 - (d - 1) = 5 - d + 1 by omega] at hih; refine H1 rfl hih rfl rfl (fun h96 => ?_) (fun h96 => ?_))
 refine sQ (M4 rfl) rfl (sD (nS (cF rfl (tK (C8 (nS (tR (sQ (qM rfl) rfl ?_))))))))
 refine sP (H6 rfl rfl (by omega) (by omega)) rfl rfl ?_
 refine sQ (qA rfl) rfl (sD ?_)
 refine K3 (i + 1) ?_ ?_ ?_
 exact C9
 exact ⟨by omega, fun j hj hji => by (by_cases he : j = i; (subst he; assumption); exact hf j hj (by omega))⟩
 omega
 refine sQ (O5 rfl) rfl (sD (nS (qT rfl (tS (tR (sQ (qA rfl) rfl (sD (nS (tT (rB (rS (U2 (rB (rS (A6 (rT rfl) ?_)))))))))))))))
 (rw [A8m (by omega) (by omega), B2s (i := i) (by omega) (by assumption)]; exact ⟨rfl, rfl, rfl⟩)
 refine sD (nS (cF rfl (M7 (M8 (N3 (M9 (nS (tS (tR (sQ (qA rfl) rfl (sD (nS (tT (A6 (rT rfl) ?_))))))))))))))
 (rw [A8m (by omega) (by omega), (A4g ks _).2 (fun j hj => hf j hj (by omega))]; exact ⟨rfl, rfl, rfl⟩)
theorem A2Z (t : Ty) (G : IM) (cells : List Value) (hr : C3 G t cells) : Fn Tryz.prog 163 [.agg ⟨cells⟩] [] G (H3 (.bool (M0 t)) G) := by
 have hl := hr.len
 have hv := B2t t 4 G cells (by omega) hr
 refine B7 Tryz.func163 rfl Tryz.ntmps163 Tryz.results163 rfl ?_
 intro w0
 refine tS (tR ?_)
 refine sE (D5 rfl rfl) rfl (fun b3 => ?_)
 refine sQ (qA rfl) rfl (sD (nS (tS (tR ?_))))
 refine sL (A9 rfl rfl (C7 (by repeat first | exact mH | apply mT)) (by assumption)) rfl rfl ?_
 refine F0 rfl (hv) rfl rfl ?_
 refine sQ (qA rfl) rfl (sD (nS (tT (A6 (rT rfl) ?_))))
 exact ⟨rfl, rfl, rfl⟩
theorem A5N {k : Int} {ks : List Ty} {d : Int} (h : K6 (.mk k ks) d = true) : U5 k = ks.length ∧ ∀ i, (hi : i < ks.length) → K6 ks[i] (d + 1) = true := by
 rw [K6] at h
 simp only [Bool.and_eq_true, decide_eq_true_eq] at h
 exact ⟨h.1.2, (A4g ks _).1 h.2⟩
theorem A8n {k k' : Int} {ks ks' : List Ty} (h : k = 1 ∨ k' = 1) : O3 (.mk k ks) (.mk k' ks') = true := by
 rw [A1a]
 rcases h with h | h
 ·rw [decide_eq_true (p := k = 1) h]; rfl
 ·rw [decide_eq_true (p := k' = 1) h]; simp
theorem B2u {k k' : Int} {ks ks' : List Ty} (h : k ≠ 1) (h' : k' ≠ 1) (hk : k ≠ k') : O3 (.mk k ks) (.mk k' ks') = false := by
 rw [A1a, decide_eq_false h, decide_eq_false h', decide_eq_false hk]; rfl
theorem A8o {k k' : Int} {ks ks' : List Ty} (h : k ≠ 1) (h' : k' ≠ 1) (hk : k = k') : O3 (.mk k ks) (.mk k' ks') = Y2 ks ks' := by
 rw [A1a, decide_eq_false h, decide_eq_false h', decide_eq_true hk]; rfl
theorem B2v {ks ks' : List Ty} {i : Nat} (hi : i < ks.length) (hi' : i < ks'.length) (h : O3 ks[i] ks'[i] = false) : Y2 ks ks' = false := by
 cases hx : Y2 ks ks' with
 | false => rfl
 | true => rw [((A2V ks ks').1 hx).2 i hi hi'] at h; cases h
section blaws
variable {P : Program} {Γ : J1} {env : J5} {hp : List A4} {G : IM} {ty : TypeId}
theorem A1s {x y : Operand} {t t' : TypeId} {i : I7} [hI : D4 P t i] (hd : i.desc = .bool) {r : Bool} (hx : evo env x = some (.bool r)) (hy : evo env y = some (.bool r)) :
  E1 P Γ ⟨env, hp, G⟩ (.binOp .neq t x y t') ty (.bool false) := by
 have h := A5h (P := P) (Γ := Γ) (hp := hp) (G := G) (t := t) (t' := t') (ty := ty) hd hx hy
 rwa [decide_eq_false (by simp)] at h
theorem A8p {x y : Operand} {t t' : TypeId} {i : I7} [hI : D4 P t i] (hd : i.desc = .bool) (hx : evo env x = some (.bool true)) (hy : evo env y = some (.bool false)) :
  E1 P Γ ⟨env, hp, G⟩ (.binOp .neq t x y t') ty (.bool true) := A5h hd hx hy
theorem A5O {x y : Operand} {t t' : TypeId} {i : I7} [hI : D4 P t i] (hd : i.desc = .bool) (hx : evo env x = some (.bool false)) (hy : evo env y = some (.bool true)) :
  E1 P Γ ⟨env, hp, G⟩ (.binOp .neq t x y t') ty (.bool true) := A5h hd hx hy
end blaws
theorem B2w (k : Int) (nm : ByteArray) (num : Int) (ty fr : Ty) (lb : Int) (ks : List Tm) (G : IM) (cells : List Value) (hr : B1 G (.mk k nm num ty fr lb ks) cells) (R : Bool)
  (hi : R = true ↔ (k = 1 ∨ k = 5 → X0 nm = true) ∧ (¬(k = 1 ∨ k = 5) → nm = ⟨#[]⟩) ∧ (k = 5 ∨ k = 13 ∨ k = 14 → M0 ty = true) ∧ (¬(k = 5 ∨ k = 13 ∨ k = 14) → Y1 ty = true) ∧ (k ≠ 14 → Y1 fr = true ∧ lb = 0) ∧ (k = 2 → 0 ≤ num ∧ num ≤ 999) ∧ (k ≠ 2 → num = 0)) :
  Fn Tryz.prog 94 [.agg ⟨cells⟩] [] G (H3 (.bool R) G) := by
 have he : nm = ⟨#[]⟩ → X0 nm = false := by rintro rfl; rfl
 obtain ⟨tk, tks⟩ := ty
 obtain ⟨fk, fks⟩ := fr
 obtain ⟨pt, ct, pf, cf, p, c, es, rfl, hk, hnum, hlb, hty, hfr, hsl, hkl⟩ := hr.open9
 clear hr
 have o2 := B2r nm G
 have o3 := A2Z _ G _ hty
 have o4 := A8k _ G _ hty
 have o7 := A8k _ G _ hfr
 refine B7 Tryz.func94 rfl Tryz.ntmps94 Tryz.results94 rfl ?_
 intro w0
 refine tS (tR ?_)
 refine sE (D5 rfl rfl) rfl (fun b3 => ?_)
 refine sQ (qA rfl) rfl (sD (nS (tS (tR (sQ (A3 rfl) rfl (sL (A5 rfl rfl) rfl rfl ?_))))))
 refine sB (qE rfl rfl) rfl rfl (fun h11 => ?_) (fun h11 => ?_)
 refine R5 ?_
 refine sP (E9 rfl rfl (by omega)) rfl rfl ?_
 refine sQ (qM rfl) rfl (sQ (A3 rfl) rfl (sL (A5 rfl rfl) rfl rfl ?_))
 refine sP (E9 rfl rfl (by omega)) rfl rfl ?_
 refine sQ (D7 rfl rfl) rfl (sQ (qM rfl) rfl (sQ (A3 rfl) rfl (sL (A5 rfl rfl) rfl rfl ?_)))
 refine sP (E9 rfl rfl (by omega)) rfl rfl ?_
 refine sQ (D7 rfl rfl) rfl (sQ (qA rfl) rfl (sD (nS (tS (tS (tR (sQ (qM rfl) rfl (sQ (A3 rfl) rfl (sL (A5 rfl rfl) rfl rfl ?_)))))))))
 refine H1 rfl (o2) rfl rfl (fun h44 => ?_) (fun h44 => ?_)
 refine sQ (A1s rfl rfl rfl) rfl ?_
 refine A2U ?_
 refine H1 rfl (o4) rfl rfl (fun h70 => ?_) (fun h70 => ?_)
 refine W2 ?_
 refine sP (A2R rfl rfl (by omega)) rfl rfl ?_
 refine sQ (qM rfl) rfl (sQ (A3 rfl) rfl (sL (A7 rfl rfl) rfl rfl ?_))
 refine H1 rfl (o7) rfl rfl (fun h88 => ?_) (fun h88 => ?_)
 refine sQ (M4 rfl) rfl (sQ (qM rfl) rfl (sQ (A3 rfl) rfl (sL (A5 rfl rfl) rfl rfl ?_)))
 refine sB (P9 rfl rfl) rfl rfl (fun h93 => ?_) (fun h93 => ?_)
 refine sQ (D7 rfl rfl) rfl (sQ (C1 rfl rfl) rfl (sD (nS (qT rfl (tS (tR (sQ (qA rfl) rfl (sD (nS (tT (rS (A6 (rT rfl) ?_))))))))))))
 exact ⟨rfl, by (cases R with | false => rfl | true => (exfalso; obtain ⟨i1, i2, i3, i4, i5, i6, i7⟩ := hi.1 rfl; first | omega | (have j := i1 (by omega); simp_all; done) | (have j := he (i2 (by omega)); simp_all; done) | (have j := i2 (by omega); simp_all; done) | (have j := i3 (by omega); simp_all; done) | (have j := i4 (by omega); simp_all; done) | (have j := i5 (by omega); simp_all; done))), rfl⟩
 refine R5 ?_
 refine sP (E9 rfl rfl (by omega)) rfl rfl ?_
 refine sD (nS (cF rfl (tK (nS (tS (tR (sQ (A3 rfl) rfl (sL (A5 rfl rfl) rfl rfl ?_))))))))
 refine sB (qE rfl rfl) rfl rfl (fun h130 => ?_) (fun h130 => ?_)
 refine sQ (qA rfl) rfl (sD (nS (tT (A6 (rT rfl) ?_))))
 exact ⟨rfl, by rw [hi.2 ⟨fun _ => by (first | assumption | (exfalso; omega)), fun _ => by (first | assumption | (exfalso; omega) | exact Classical.not_not.1 (by assumption)), fun _ => by (first | assumption | (exfalso; omega)), fun _ => by (first | assumption | (exfalso; omega)), fun _ => ⟨by (first | assumption | (exfalso; omega)), by (first | assumption | omega)⟩, by omega, by omega⟩], rfl⟩
 refine sQ (qA rfl) rfl (sD (nS (tT (A6 (rT rfl) ?_))))
 exact ⟨rfl, by (cases R with | false => rfl | true => (exfalso; obtain ⟨i1, i2, i3, i4, i5, i6, i7⟩ := hi.1 rfl; first | omega | (have j := i1 (by omega); simp_all; done) | (have j := he (i2 (by omega)); simp_all; done) | (have j := i2 (by omega); simp_all; done) | (have j := i3 (by omega); simp_all; done) | (have j := i4 (by omega); simp_all; done) | (have j := i5 (by omega); simp_all; done))), rfl⟩
 refine V6 ?_
 exact ⟨rfl, by (cases R with | false => rfl | true => (exfalso; obtain ⟨i1, i2, i3, i4, i5, i6, i7⟩ := hi.1 rfl; first | omega | (have j := i1 (by omega); simp_all; done) | (have j := he (i2 (by omega)); simp_all; done) | (have j := i2 (by omega); simp_all; done) | (have j := i3 (by omega); simp_all; done) | (have j := i4 (by omega); simp_all; done) | (have j := i5 (by omega); simp_all; done))), rfl⟩
 refine Y8 ?_
 exact ⟨rfl, by (cases R with | false => rfl | true => (exfalso; obtain ⟨i1, i2, i3, i4, i5, i6, i7⟩ := hi.1 rfl; first | omega | (have j := i1 (by omega); simp_all; done) | (have j := he (i2 (by omega)); simp_all; done) | (have j := i2 (by omega); simp_all; done) | (have j := i3 (by omega); simp_all; done) | (have j := i4 (by omega); simp_all; done) | (have j := i5 (by omega); simp_all; done))), rfl⟩
 refine sQ (A8p rfl rfl rfl) rfl ?_
 refine A0o ?_
 refine qT rfl (tS (tR (sQ (qA rfl) rfl (sD (nS (tT (rS (A6 (rT rfl) ?_))))))))
 exact ⟨rfl, by (cases R with | false => rfl | true => (exfalso; obtain ⟨i1, i2, i3, i4, i5, i6, i7⟩ := hi.1 rfl; first | omega | (have j := i1 (by omega); simp_all; done) | (have j := he (i2 (by omega)); simp_all; done) | (have j := i2 (by omega); simp_all; done) | (have j := i3 (by omega); simp_all; done) | (have j := i4 (by omega); simp_all; done) | (have j := i5 (by omega); simp_all; done))), rfl⟩
 refine sQ (qM rfl) rfl (sQ (A3 rfl) rfl (sL (A5 rfl rfl) rfl rfl ?_))
 refine sB (qE rfl rfl) rfl rfl (fun h221 => ?_) (fun h221 => ?_)
 refine sQ (D7 rfl rfl) rfl (sQ (qA rfl) rfl (sD (nS (tS (tR (sQ (A3 rfl) rfl (sL (A5 rfl rfl) rfl rfl ?_)))))))
 refine sP (W9 rfl rfl (by omega)) rfl rfl ?_
 refine A06 ?_
 refine H1 rfl (o2) rfl rfl (fun h250 => ?_) (fun h250 => ?_)
 refine sQ (A1s rfl rfl rfl) rfl ?_
 refine Y8 ?_
 refine H1 rfl (o3) rfl rfl (fun h266 => ?_) (fun h266 => ?_)
 refine A2o ?_
 refine sP (A2R rfl rfl (by omega)) rfl rfl ?_
 refine sQ (qM rfl) rfl (sQ (A3 rfl) rfl (sL (A7 rfl rfl) rfl rfl ?_))
 refine H1 rfl (o7) rfl rfl (fun h294 => ?_) (fun h294 => ?_)
 refine sQ (M4 rfl) rfl (sQ (qM rfl) rfl (sQ (A3 rfl) rfl (sL (A5 rfl rfl) rfl rfl ?_)))
 refine sB (P9 rfl rfl) rfl rfl (fun h299 => ?_) (fun h299 => ?_)
 refine sQ (D7 rfl rfl) rfl (sQ (C1 rfl rfl) rfl (sD (nS (qT rfl (tS (tR (sQ (qA rfl) rfl (sD (nS (tT (rS (A6 (rT rfl) ?_))))))))))))
 exact ⟨rfl, by (cases R with | false => rfl | true => (exfalso; obtain ⟨i1, i2, i3, i4, i5, i6, i7⟩ := hi.1 rfl; first | omega | (have j := i1 (by omega); simp_all; done) | (have j := he (i2 (by omega)); simp_all; done) | (have j := i2 (by omega); simp_all; done) | (have j := i3 (by omega); simp_all; done) | (have j := i4 (by omega); simp_all; done) | (have j := i5 (by omega); simp_all; done))), rfl⟩
 refine R5 ?_
 refine sP (E9 rfl rfl (by omega)) rfl rfl ?_
 refine sD (nS (cF rfl (tK (nS (tS (tR (sQ (A3 rfl) rfl (sL (A5 rfl rfl) rfl rfl ?_))))))))
 refine sB (qE rfl rfl) rfl rfl (fun h336 => ?_) (fun h336 => ?_)
 refine sQ (qA rfl) rfl (sD (nS (tT (A6 (rT rfl) ?_))))
 exact ⟨rfl, by rw [hi.2 ⟨fun _ => by (first | assumption | (exfalso; omega)), fun _ => by (first | assumption | (exfalso; omega) | exact Classical.not_not.1 (by assumption)), fun _ => by (first | assumption | (exfalso; omega)), fun _ => by (first | assumption | (exfalso; omega)), fun _ => ⟨by (first | assumption | (exfalso; omega)), by (first | assumption | omega)⟩, by omega, by omega⟩], rfl⟩
 refine sQ (qA rfl) rfl (sD (nS (tT (A6 (rT rfl) ?_))))
 exact ⟨rfl, by (cases R with | false => rfl | true => (exfalso; obtain ⟨i1, i2, i3, i4, i5, i6, i7⟩ := hi.1 rfl; first | omega | (have j := i1 (by omega); simp_all; done) | (have j := he (i2 (by omega)); simp_all; done) | (have j := i2 (by omega); simp_all; done) | (have j := i3 (by omega); simp_all; done) | (have j := i4 (by omega); simp_all; done) | (have j := i5 (by omega); simp_all; done))), rfl⟩
 refine V6 ?_
 exact ⟨rfl, by (cases R with | false => rfl | true => (exfalso; obtain ⟨i1, i2, i3, i4, i5, i6, i7⟩ := hi.1 rfl; first | omega | (have j := i1 (by omega); simp_all; done) | (have j := he (i2 (by omega)); simp_all; done) | (have j := i2 (by omega); simp_all; done) | (have j := i3 (by omega); simp_all; done) | (have j := i4 (by omega); simp_all; done) | (have j := i5 (by omega); simp_all; done))), rfl⟩
 refine A2U ?_
 exact ⟨rfl, by (cases R with | false => rfl | true => (exfalso; obtain ⟨i1, i2, i3, i4, i5, i6, i7⟩ := hi.1 rfl; first | omega | (have j := i1 (by omega); simp_all; done) | (have j := he (i2 (by omega)); simp_all; done) | (have j := i2 (by omega); simp_all; done) | (have j := i3 (by omega); simp_all; done) | (have j := i4 (by omega); simp_all; done) | (have j := i5 (by omega); simp_all; done))), rfl⟩
 refine sQ (A8p rfl rfl rfl) rfl ?_
 refine A0o ?_
 refine qT rfl (tS (tR (sQ (qA rfl) rfl (sD (nS (tT (rS (A6 (rT rfl) ?_))))))))
 exact ⟨rfl, by (cases R with | false => rfl | true => (exfalso; obtain ⟨i1, i2, i3, i4, i5, i6, i7⟩ := hi.1 rfl; first | omega | (have j := i1 (by omega); simp_all; done) | (have j := he (i2 (by omega)); simp_all; done) | (have j := i2 (by omega); simp_all; done) | (have j := i3 (by omega); simp_all; done) | (have j := i4 (by omega); simp_all; done) | (have j := i5 (by omega); simp_all; done))), rfl⟩
 refine sQ (D7 rfl rfl) rfl (sQ (qA rfl) rfl (sD (nS (tS (tR (sQ (A3 rfl) rfl (sL (A5 rfl rfl) rfl rfl ?_)))))))
 refine sP (E9 rfl rfl (by omega)) rfl rfl ?_
 refine sQ (qM rfl) rfl (sQ (A3 rfl) rfl (sL (A5 rfl rfl) rfl rfl ?_))
 refine sB (qE rfl rfl) rfl rfl (fun h446 => ?_) (fun h446 => ?_)
 refine N5 ?_
 refine H1 rfl (o2) rfl rfl (fun h462 => ?_) (fun h462 => ?_)
 refine sQ (A5O rfl rfl rfl) rfl ?_
 refine A0o ?_
 refine qT rfl (tS (tR (sQ (qA rfl) rfl (sD (nS (tT (rS (A6 (rT rfl) ?_))))))))
 exact ⟨rfl, by (cases R with | false => rfl | true => (exfalso; obtain ⟨i1, i2, i3, i4, i5, i6, i7⟩ := hi.1 rfl; first | omega | (have j := i1 (by omega); simp_all; done) | (have j := he (i2 (by omega)); simp_all; done) | (have j := i2 (by omega); simp_all; done) | (have j := i3 (by omega); simp_all; done) | (have j := i4 (by omega); simp_all; done) | (have j := i5 (by omega); simp_all; done))), rfl⟩
 refine sQ (A1s rfl rfl rfl) rfl ?_
 refine sQ (qM rfl) rfl (sQ (qM rfl) rfl (sQ (O5 rfl) rfl (sQ (qM rfl) rfl (sQ (A3 rfl) rfl (sL (A5 rfl rfl) rfl rfl ?_)))))
 refine sB (A1K rfl rfl) rfl rfl (fun h511 => ?_) (fun h511 => ?_)
 refine A0o ?_
 refine rS (A6 (rT rfl) ?_)
 exact ⟨rfl, by (cases R with | false => rfl | true => (exfalso; obtain ⟨i1, i2, i3, i4, i5, i6, i7⟩ := hi.1 rfl; first | omega | (have j := i1 (by omega); simp_all; done) | (have j := he (i2 (by omega)); simp_all; done) | (have j := i2 (by omega); simp_all; done) | (have j := i3 (by omega); simp_all; done) | (have j := i4 (by omega); simp_all; done) | (have j := i5 (by omega); simp_all; done))), rfl⟩
 refine wk7 ?_
 refine H1 rfl (o3) rfl rfl (fun h552 => ?_) (fun h552 => ?_)
 refine A2o ?_
 refine sP (A2R rfl rfl (by omega)) rfl rfl ?_
 refine sQ (qM rfl) rfl (sQ (A3 rfl) rfl (sL (A7 rfl rfl) rfl rfl ?_))
 refine H1 rfl (o7) rfl rfl (fun h580 => ?_) (fun h580 => ?_)
 refine sQ (M4 rfl) rfl (sQ (qM rfl) rfl (sQ (A3 rfl) rfl (sL (A5 rfl rfl) rfl rfl ?_)))
 refine sB (P9 rfl rfl) rfl rfl (fun h585 => ?_) (fun h585 => ?_)
 refine sQ (D7 rfl rfl) rfl (sQ (C1 rfl rfl) rfl (sD (nS (qT rfl (tS (tR (sQ (qA rfl) rfl (sD (nS (tT (rS (A6 (rT rfl) ?_))))))))))))
 exact ⟨rfl, by (cases R with | false => rfl | true => (exfalso; obtain ⟨i1, i2, i3, i4, i5, i6, i7⟩ := hi.1 rfl; first | omega | (have j := i1 (by omega); simp_all; done) | (have j := he (i2 (by omega)); simp_all; done) | (have j := i2 (by omega); simp_all; done) | (have j := i3 (by omega); simp_all; done) | (have j := i4 (by omega); simp_all; done) | (have j := i5 (by omega); simp_all; done))), rfl⟩
 refine R5 ?_
 refine sP (E9 rfl rfl (by omega)) rfl rfl ?_
 refine sD (nS (cF rfl (tK (nS (tS (tR (sQ (A3 rfl) rfl (sL (A5 rfl rfl) rfl rfl ?_))))))))
 refine sB (qE rfl rfl) rfl rfl (fun h622 => ?_) (fun h622 => ?_)
 refine sQ (qA rfl) rfl (sD (nS (tT (A6 (rT rfl) ?_))))
 exact ⟨rfl, by rw [hi.2 ⟨fun _ => by (first | assumption | (exfalso; omega)), fun _ => by (first | assumption | (exfalso; omega) | exact Classical.not_not.1 (by assumption)), fun _ => by (first | assumption | (exfalso; omega)), fun _ => by (first | assumption | (exfalso; omega)), fun _ => ⟨by (first | assumption | (exfalso; omega)), by (first | assumption | omega)⟩, by omega, by omega⟩], rfl⟩
 refine sQ (qA rfl) rfl (sD (nS (tT (A6 (rT rfl) ?_))))
 exact ⟨rfl, by (cases R with | false => rfl | true => (exfalso; obtain ⟨i1, i2, i3, i4, i5, i6, i7⟩ := hi.1 rfl; first | omega | (have j := i1 (by omega); simp_all; done) | (have j := he (i2 (by omega)); simp_all; done) | (have j := i2 (by omega); simp_all; done) | (have j := i3 (by omega); simp_all; done) | (have j := i4 (by omega); simp_all; done) | (have j := i5 (by omega); simp_all; done))), rfl⟩
 refine V6 ?_
 exact ⟨rfl, by (cases R with | false => rfl | true => (exfalso; obtain ⟨i1, i2, i3, i4, i5, i6, i7⟩ := hi.1 rfl; first | omega | (have j := i1 (by omega); simp_all; done) | (have j := he (i2 (by omega)); simp_all; done) | (have j := i2 (by omega); simp_all; done) | (have j := i3 (by omega); simp_all; done) | (have j := i4 (by omega); simp_all; done) | (have j := i5 (by omega); simp_all; done))), rfl⟩
 refine A2U ?_
 exact ⟨rfl, by (cases R with | false => rfl | true => (exfalso; obtain ⟨i1, i2, i3, i4, i5, i6, i7⟩ := hi.1 rfl; first | omega | (have j := i1 (by omega); simp_all; done) | (have j := he (i2 (by omega)); simp_all; done) | (have j := i2 (by omega); simp_all; done) | (have j := i3 (by omega); simp_all; done) | (have j := i4 (by omega); simp_all; done) | (have j := i5 (by omega); simp_all; done))), rfl⟩
 refine sQ (D7 rfl rfl) rfl (sQ (qM rfl) rfl (sQ (A3 rfl) rfl (sL (A5 rfl rfl) rfl rfl ?_)))
 refine sB (qE rfl rfl) rfl rfl (fun h683 => ?_) (fun h683 => ?_)
 refine sQ (D7 rfl rfl) rfl (sQ (qA rfl) rfl (sD (nS (tS (tS (tR (sQ (qM rfl) rfl (sQ (A3 rfl) rfl (sL (A5 rfl rfl) rfl rfl ?_)))))))))
 refine H1 rfl (o2) rfl rfl (fun h694 => ?_) (fun h694 => ?_)
 refine sQ (A5O rfl rfl rfl) rfl ?_
 refine A0o ?_
 refine qT rfl (tS (tR (sQ (qA rfl) rfl (sD (nS (tT (rS (A6 (rT rfl) ?_))))))))
 exact ⟨rfl, by (cases R with | false => rfl | true => (exfalso; obtain ⟨i1, i2, i3, i4, i5, i6, i7⟩ := hi.1 rfl; first | omega | (have j := i1 (by omega); simp_all; done) | (have j := he (i2 (by omega)); simp_all; done) | (have j := i2 (by omega); simp_all; done) | (have j := i3 (by omega); simp_all; done) | (have j := i4 (by omega); simp_all; done) | (have j := i5 (by omega); simp_all; done))), rfl⟩
 refine sQ (A1s rfl rfl rfl) rfl ?_
 refine sQ (qM rfl) rfl (sQ (qM rfl) rfl (sQ (O5 rfl) rfl (sQ (qM rfl) rfl (sQ (A3 rfl) rfl (sL (A5 rfl rfl) rfl rfl ?_)))))
 refine sB (A1K rfl rfl) rfl rfl (fun h743 => ?_) (fun h743 => ?_)
 refine A0o ?_
 refine rS (A6 (rT rfl) ?_)
 exact ⟨rfl, by (cases R with | false => rfl | true => (exfalso; obtain ⟨i1, i2, i3, i4, i5, i6, i7⟩ := hi.1 rfl; first | omega | (have j := i1 (by omega); simp_all; done) | (have j := he (i2 (by omega)); simp_all; done) | (have j := i2 (by omega); simp_all; done) | (have j := i3 (by omega); simp_all; done) | (have j := i4 (by omega); simp_all; done) | (have j := i5 (by omega); simp_all; done))), rfl⟩
 refine wk7 ?_
 refine H1 rfl (o3) rfl rfl (fun h784 => ?_) (fun h784 => ?_)
 refine A2o ?_
 refine sP (A5n rfl rfl (by omega)) rfl rfl ?_
 refine A08 ?_
 refine sP (E9 rfl rfl (by omega)) rfl rfl ?_
 refine sD (nS (cF rfl (tK (nS (tS (tR (sQ (A3 rfl) rfl (sL (A5 rfl rfl) rfl rfl ?_))))))))
 refine sB (qE rfl rfl) rfl rfl (fun h840 => ?_) (fun h840 => ?_)
 refine sQ (qA rfl) rfl (sD (nS (tT (A6 (rT rfl) ?_))))
 exact ⟨rfl, by rw [hi.2 ⟨fun _ => by (first | assumption | (exfalso; omega)), fun _ => by (first | assumption | (exfalso; omega) | exact Classical.not_not.1 (by assumption)), fun _ => by (first | assumption | (exfalso; omega)), fun _ => by (first | assumption | (exfalso; omega)), fun _ => ⟨by (first | assumption | (exfalso; omega)), by (first | assumption | omega)⟩, by omega, by omega⟩], rfl⟩
 refine sQ (qA rfl) rfl (sD (nS (tT (A6 (rT rfl) ?_))))
 exact ⟨rfl, by (cases R with | false => rfl | true => (exfalso; obtain ⟨i1, i2, i3, i4, i5, i6, i7⟩ := hi.1 rfl; first | omega | (have j := i1 (by omega); simp_all; done) | (have j := he (i2 (by omega)); simp_all; done) | (have j := i2 (by omega); simp_all; done) | (have j := i3 (by omega); simp_all; done) | (have j := i4 (by omega); simp_all; done) | (have j := i5 (by omega); simp_all; done))), rfl⟩
 refine A2U ?_
 exact ⟨rfl, by (cases R with | false => rfl | true => (exfalso; obtain ⟨i1, i2, i3, i4, i5, i6, i7⟩ := hi.1 rfl; first | omega | (have j := i1 (by omega); simp_all; done) | (have j := he (i2 (by omega)); simp_all; done) | (have j := i2 (by omega); simp_all; done) | (have j := i3 (by omega); simp_all; done) | (have j := i4 (by omega); simp_all; done) | (have j := i5 (by omega); simp_all; done))), rfl⟩
 refine sQ (D7 rfl rfl) rfl (sQ (qA rfl) rfl (sD (nS (tS (tS (tR (sQ (qM rfl) rfl (sQ (A3 rfl) rfl (sL (A5 rfl rfl) rfl rfl ?_)))))))))
 refine H1 rfl (o2) rfl rfl (fun h888 => ?_) (fun h888 => ?_)
 refine sQ (A5O rfl rfl rfl) rfl ?_
 refine A0o ?_
 refine qT rfl (tS (tR (sQ (qA rfl) rfl (sD (nS (tT (rS (A6 (rT rfl) ?_))))))))
 exact ⟨rfl, by (cases R with | false => rfl | true => (exfalso; obtain ⟨i1, i2, i3, i4, i5, i6, i7⟩ := hi.1 rfl; first | omega | (have j := i1 (by omega); simp_all; done) | (have j := he (i2 (by omega)); simp_all; done) | (have j := i2 (by omega); simp_all; done) | (have j := i3 (by omega); simp_all; done) | (have j := i4 (by omega); simp_all; done) | (have j := i5 (by omega); simp_all; done))), rfl⟩
 refine sQ (A1s rfl rfl rfl) rfl ?_
 refine sQ (qM rfl) rfl (sQ (qM rfl) rfl (sQ (O5 rfl) rfl (sQ (qM rfl) rfl (sQ (A3 rfl) rfl (sL (A5 rfl rfl) rfl rfl ?_)))))
 refine sB (A1K rfl rfl) rfl rfl (fun h937 => ?_) (fun h937 => ?_)
 refine A0o ?_
 refine rS (A6 (rT rfl) ?_)
 exact ⟨rfl, by (cases R with | false => rfl | true => (exfalso; obtain ⟨i1, i2, i3, i4, i5, i6, i7⟩ := hi.1 rfl; first | omega | (have j := i1 (by omega); simp_all; done) | (have j := he (i2 (by omega)); simp_all; done) | (have j := i2 (by omega); simp_all; done) | (have j := i3 (by omega); simp_all; done) | (have j := i4 (by omega); simp_all; done) | (have j := i5 (by omega); simp_all; done))), rfl⟩
 refine R6 ?_
 refine H1 rfl (o4) rfl rfl (fun h988 => ?_) (fun h988 => ?_)
 refine W2 ?_
 refine sP (A2R rfl rfl (by omega)) rfl rfl ?_
 refine sQ (qM rfl) rfl (sQ (A3 rfl) rfl (sL (A7 rfl rfl) rfl rfl ?_))
 refine H1 rfl (o7) rfl rfl (fun h1006 => ?_) (fun h1006 => ?_)
 refine sQ (M4 rfl) rfl (sQ (qM rfl) rfl (sQ (A3 rfl) rfl (sL (A5 rfl rfl) rfl rfl ?_)))
 refine sB (P9 rfl rfl) rfl rfl (fun h1011 => ?_) (fun h1011 => ?_)
 refine sQ (D7 rfl rfl) rfl (sQ (C1 rfl rfl) rfl (sD (nS (qT rfl (tS (tR (sQ (qA rfl) rfl (sD (nS (tT (rS (A6 (rT rfl) ?_))))))))))))
 exact ⟨rfl, by (cases R with | false => rfl | true => (exfalso; obtain ⟨i1, i2, i3, i4, i5, i6, i7⟩ := hi.1 rfl; first | omega | (have j := i1 (by omega); simp_all; done) | (have j := he (i2 (by omega)); simp_all; done) | (have j := i2 (by omega); simp_all; done) | (have j := i3 (by omega); simp_all; done) | (have j := i4 (by omega); simp_all; done) | (have j := i5 (by omega); simp_all; done))), rfl⟩
 refine R5 ?_
 refine sB (qE rfl rfl) rfl rfl (fun h1038 => ?_) (fun h1038 => ?_)
 refine sD (nS (qT rfl (tS (tR (sQ (A3 rfl) rfl (sL (A5 rfl rfl) rfl rfl ?_))))))
 refine sB (Y0 rfl rfl) rfl rfl (fun h1046 => ?_) (fun h1046 => ?_)
 refine sQ (qM rfl) rfl (sQ (A3 rfl) rfl (sL (A5 rfl rfl) rfl rfl ?_))
 refine sB (T6 rfl rfl) rfl rfl (fun h1050 => ?_) (fun h1050 => ?_)
 refine sQ (C1 rfl rfl) rfl (sQ (qA rfl) rfl (sD (nS (tT (rS (A6 (rT rfl) ?_))))))
 exact ⟨rfl, by rw [hi.2 ⟨fun _ => by (first | assumption | (exfalso; omega)), fun _ => by (first | assumption | (exfalso; omega) | exact Classical.not_not.1 (by assumption)), fun _ => by (first | assumption | (exfalso; omega)), fun _ => by (first | assumption | (exfalso; omega)), fun _ => ⟨by (first | assumption | (exfalso; omega)), by (first | assumption | omega)⟩, by omega, by omega⟩], rfl⟩
 refine sQ (C1 rfl rfl) rfl (sQ (qA rfl) rfl (sD (nS (tT (rS (A6 (rT rfl) ?_))))))
 exact ⟨rfl, by (cases R with | false => rfl | true => (exfalso; obtain ⟨i1, i2, i3, i4, i5, i6, i7⟩ := hi.1 rfl; first | omega | (have j := i1 (by omega); simp_all; done) | (have j := he (i2 (by omega)); simp_all; done) | (have j := i2 (by omega); simp_all; done) | (have j := i3 (by omega); simp_all; done) | (have j := i4 (by omega); simp_all; done) | (have j := i5 (by omega); simp_all; done))), rfl⟩
 refine A0n ?_
 exact ⟨rfl, by (cases R with | false => rfl | true => (exfalso; obtain ⟨i1, i2, i3, i4, i5, i6, i7⟩ := hi.1 rfl; first | omega | (have j := i1 (by omega); simp_all; done) | (have j := he (i2 (by omega)); simp_all; done) | (have j := i2 (by omega); simp_all; done) | (have j := i3 (by omega); simp_all; done) | (have j := i4 (by omega); simp_all; done) | (have j := i5 (by omega); simp_all; done))), rfl⟩
 refine sD (nS (cF rfl (tK (nS (tS (tR (sQ (A3 rfl) rfl (sL (A5 rfl rfl) rfl rfl ?_))))))))
 refine sB (qE rfl rfl) rfl rfl (fun h1088 => ?_) (fun h1088 => ?_)
 refine sQ (qA rfl) rfl (sD (nS (tT (A6 (rT rfl) ?_))))
 exact ⟨rfl, by rw [hi.2 ⟨fun _ => by (first | assumption | (exfalso; omega)), fun _ => by (first | assumption | (exfalso; omega) | exact Classical.not_not.1 (by assumption)), fun _ => by (first | assumption | (exfalso; omega)), fun _ => by (first | assumption | (exfalso; omega)), fun _ => ⟨by (first | assumption | (exfalso; omega)), by (first | assumption | omega)⟩, by omega, by omega⟩], rfl⟩
 refine sQ (qA rfl) rfl (sD (nS (tT (A6 (rT rfl) ?_))))
 exact ⟨rfl, by (cases R with | false => rfl | true => (exfalso; obtain ⟨i1, i2, i3, i4, i5, i6, i7⟩ := hi.1 rfl; first | omega | (have j := i1 (by omega); simp_all; done) | (have j := he (i2 (by omega)); simp_all; done) | (have j := i2 (by omega); simp_all; done) | (have j := i3 (by omega); simp_all; done) | (have j := i4 (by omega); simp_all; done) | (have j := i5 (by omega); simp_all; done))), rfl⟩
 refine V6 ?_
 exact ⟨rfl, by (cases R with | false => rfl | true => (exfalso; obtain ⟨i1, i2, i3, i4, i5, i6, i7⟩ := hi.1 rfl; first | omega | (have j := i1 (by omega); simp_all; done) | (have j := he (i2 (by omega)); simp_all; done) | (have j := i2 (by omega); simp_all; done) | (have j := i3 (by omega); simp_all; done) | (have j := i4 (by omega); simp_all; done) | (have j := i5 (by omega); simp_all; done))), rfl⟩
 refine Y8 ?_
 exact ⟨rfl, by (cases R with | false => rfl | true => (exfalso; obtain ⟨i1, i2, i3, i4, i5, i6, i7⟩ := hi.1 rfl; first | omega | (have j := i1 (by omega); simp_all; done) | (have j := he (i2 (by omega)); simp_all; done) | (have j := i2 (by omega); simp_all; done) | (have j := i3 (by omega); simp_all; done) | (have j := i4 (by omega); simp_all; done) | (have j := i5 (by omega); simp_all; done))), rfl⟩
mutual
def M1 (D N : Int) : Tm → Int → Bool
 | .mk k nm num ty fr lb ks, deep => decide (deep ≤ D) && decide (k ≠ N) && W3 k nm num ty fr lb ks.length && N6 D N ks (deep + 1)
def N6 (D N : Int) : List Tm → Int → Bool
 | [], _ => true
 | t :: ts, deep => M1 D N t deep && N6 D N ts deep
end
theorem A0B (D N : Int) : ∀ (ts : List Tm) (d : Int), N6 D N ts d = true ↔ ∀ i, (h : i < ts.length) → M1 D N ts[i] d = true
 | [], d => by simp [N6]
 | t :: ts, d => by
  simp only [N6, Bool.and_eq_true, A0B D N ts d]
  constructor
  ·rintro ⟨h1, h2⟩ i hi
   cases i with
   | zero => exact h1
   | succ i => exact h2 i (by simpa using hi)
  ·intro h
   exact ⟨h 0 (by simp), fun i hi => h (i + 1) (by simpa using hi)⟩
theorem A3H {D N : Int} {k : Int} {nm : ByteArray} {num : Int} {ty fr : Ty} {lb : Int} {ks : List Tm} {d : Int} (h : D < d ∨ k = N ∨ W3 k nm num ty fr lb ks.length = false) : M1 D N (.mk k nm num ty fr lb ks) d = false := by
 rw [M1]
 rcases h with h | h | h
 ·rw [decide_eq_false (by omega)]; rfl
 ·rw [decide_eq_false (p := k ≠ N) (by omega), Bool.and_false]; rfl
 ·rw [h, Bool.and_false]; rfl
theorem A3I {D N : Int} {k : Int} {nm : ByteArray} {num : Int} {ty fr : Ty} {lb : Int} {ks : List Tm} {d : Int} (h1 : d ≤ D) (h2 : k ≠ N) (h3 : W3 k nm num ty fr lb ks.length = true) : M1 D N (.mk k nm num ty fr lb ks) d = N6 D N ks (d + 1) := by
 rw [M1, decide_eq_true h1, decide_eq_true h2, h3]; rfl
theorem B2x {D N : Int} {ks : List Tm} {d : Int} {i : Nat} (hi : i < ks.length) (h : M1 D N ks[i] d = false) : N6 D N ks d = false := by
 cases hx : N6 D N ks d with
 | false => rfl
 | true => rw [(A0B D N ks d).1 hx i hi] at h; cases h
theorem B2y {k : Int} {nm : ByteArray} {num : Int} {ty fr : Ty} {lb : Int} {n : Nat} (hk : k ≠ 14) (ha : E7 k = n) : W3 k nm num ty fr lb n = true ↔
  (k = 1 ∨ k = 5 → X0 nm = true) ∧ (¬(k = 1 ∨ k = 5) → nm = ⟨#[]⟩) ∧ (k = 5 ∨ k = 13 ∨ k = 14 → M0 ty = true) ∧ (¬(k = 5 ∨ k = 13 ∨ k = 14) → Y1 ty = true) ∧ (k ≠ 14 → Y1 fr = true ∧ lb = 0) ∧ (k = 2 → 0 ≤ num ∧ num ≤ 999) ∧ (k ≠ 2 → num = 0) := by
 rw [U9]
 simp only [P4, decide_eq_true_eq]
 constructor
 ·rintro ⟨_, h2, h3, h4, h5, h6, h7, _, h9⟩
  exact ⟨h2, h3, h6, h7, h9, h4, fun h => by have := h5 h; omega⟩
 ·rintro ⟨h2, h3, h6, h7, h9, h4, h5⟩
  exact ⟨ha, h2, h3, h4, fun h => by have := h5 h; omega, h6, h7, fun h => absurd h hk, h9⟩
theorem B2z {D N : Int} {k : Int} {nm : ByteArray} {num : Int} {ty fr : Ty} {lb : Int} {ks : List Tm} {d : Int} (h : M1 D N (.mk k nm num ty fr lb ks) d = true) : d ≤ D ∧ ∀ i, (hi : i < ks.length) → M1 D N ks[i] (d + 1) = true := by
 rw [M1] at h
 simp only [Bool.and_eq_true, decide_eq_true_eq] at h
 exact ⟨h.1.1.1, (A0B D N ks _).1 h.2⟩
mutual
theorem A5P (M D N : Int) : ∀ (t : Tm) (deep c : Int), c ≤ M → ((S4 M D N t deep c).1 = true ↔ M1 D N t deep = true ∧ c + E6 t ≤ M)
 | .mk k nm num ty fr lb ks, deep, c, hc => by
  rw [S4, E6]
  by_cases h : c + 1 > M ∨ deep > D ∨ k = N ∨ W3 k nm num ty fr lb ks.length = false
  ·rw [if_pos h]
   constructor
   ·intro h; cases h
   ·rintro ⟨h1, h2⟩
    rcases h with h | h
    ·omega
    ·rw [A3H h] at h1; cases h1
  ·rw [if_neg h]
   have hn : W3 k nm num ty fr lb ks.length = true := by
    cases hx : W3 k nm num ty fr lb ks.length with
    | true => rfl
    | false => exact absurd (Or.inr (Or.inr (Or.inr hx))) h
   rw [A3I (by omega) (by omega) hn, A8q M D N ks (deep + 1) (c + 1) (by omega)]
   constructor
   ·rintro ⟨a, b⟩; exact ⟨a, by omega⟩
   ·rintro ⟨a, b⟩; exact ⟨a, by omega⟩
theorem A8q (M D N : Int) : ∀ (ts : List Tm) (deep c : Int), c ≤ M → ((T3 M D N ts deep c).1 = true ↔ N6 D N ts deep = true ∧ c + I2 ts ≤ M)
 | [], deep, c, hc => by simp [T3, N6, I2]; omega
 | t :: ts, deep, c, hc => by
  have h0 := A5P M D N t deep c hc
  rw [T3, N6, I2, Bool.and_eq_true]
  by_cases h : (S4 M D N t deep c).1 = true
  ·rw [if_pos h, A7K M D N t deep c h, A8q M D N ts deep _ (h0.1 h).2]
   have := h0.1 h
   constructor
   ·rintro ⟨a, b⟩; exact ⟨⟨this.1, a⟩, by omega⟩
   ·rintro ⟨⟨_, a⟩, b⟩; exact ⟨a, by omega⟩
  ·rw [if_neg h]
   constructor
   ·intro h'; cases h'
   ·rintro ⟨⟨a, _⟩, b⟩
    exact absurd (h0.2 ⟨a, by omega⟩) h
end
theorem A4o (t : Tm) : N0 t = true ↔ M1 40 13 t 1 = true ∧ E6 t ≤ 200 := by
 have := A5P 200 40 13 t 1 0 (by omega)
 rw [N0, this]
 constructor
 ·rintro ⟨a, b⟩; exact ⟨a, by omega⟩
 ·rintro ⟨a, b⟩; exact ⟨a, by omega⟩
theorem B2A (D N : Int) : ∀ (t : Tm) (d : Int) (G : IM) (cells : List Value), d ≤ 40 → M1 D N t (D + 1 - d) = true → E6 t ≤ 4294967296 → B1 G t cells →
  Fn Tryz.prog 45 [.agg ⟨cells⟩, .int .i64 d] [] G (H3 (.int .i64 (E6 t : Int)) G) := by
 refine Tm.ind fun k nm num ty fr lb ks ih d G cells hd hv hcnt hr => ?_
 have hone := hr.one
 obtain ⟨hv1, hv2⟩ := B2z hv
 obtain ⟨tk, tks⟩ := ty
 obtain ⟨fk, fks⟩ := fr
 obtain ⟨pt, ct, pf, cf, p, c, es, rfl, hk, hnum, hlb, hty, hfr, hsl, hkl⟩ := hr.open9
 have hn := hsl.le
 clear hr
 rw [E6] at hcnt ⊢
 refine B7 Tryz.func45 rfl Tryz.ntmps45 Tryz.results45 rfl ?_
 intro w0
 refine tS (tR ?_)
 refine sE (D5 rfl rfl) rfl (fun b3 => ?_)
 refine sQ (qA rfl) rfl (sD (nS (tS (tR (sQ (qA rfl) rfl (sD (nS (tS (tS (tR (sQ (qA rfl) rfl (sD (nS ?_)))))))))))))
 refine B5 ?_
 (refine K4 (fun (i : Nat) => ⟨[(6, .int .i64 i), (5, .int .i64 ((I2 (ks.take i) + 1 : Nat) : Int)), (2, .pointer (some ⟨b3, 0, none⟩)), (1, .int .i64 d)], [.blk b3 [.int .i64 k, .string nm, .int .i64 num, .int .i64 tk, .slice pt tks.length ct, .int .i64 fk, .slice pf fks.length cf, .int .i64 lb, .slice p ks.length c]], G⟩) (fun i => i ≤ ks.length) (fun i => ks.length - i) 0 ?_ ?_ ?_)
 exact C9
 exact Nat.zero_le _
 (rintro i hi)
 refine tS (tS (tR (sQ (qM rfl) rfl (sQ (A3 rfl) rfl (sL (A5 rfl rfl) rfl rfl (sQ (D8 rfl rfl) rfl ?_))))))
 refine sB (J3 rfl rfl) rfl rfl (fun h30 => ?_) (fun h30 => ?_)
 refine sQ (qM rfl) rfl (sQ (qM rfl) rfl ?_)
 refine sP (A2T rfl rfl (by omega)) rfl rfl ?_
 refine sQ (C1 rfl rfl) rfl (sD (nS (qT rfl (tK (nS (tS ?_))))))
 refine B5 ?_
 refine tR (sQ (qM rfl) rfl (sQ (A3 rfl) rfl (sL (A5 rfl rfl) rfl rfl (sQ (qM rfl) rfl ?_))))
 (obtain ⟨b, o, e, rfl, hl, hat, hre, hgb⟩ := hsl.kidTm hkl (i := i) (by omega) (by omega); have htk := B1Y (ks := ks) (i := i) (by omega); refine sP (C2 rfl rfl rfl (by omega)) rfl rfl ?_)
 refine sL (A9 rfl rfl (hat _) hl) rfl rfl ?_
 refine sQ (qM rfl) rfl ?_
 refine sP (L7 rfl rfl (by omega) (by omega)) rfl rfl ?_
 (have hvk := hv2 i (by omega); rw [show D + 1 - d + 1 = D + 1 - (d - 1) by omega] at hvk; refine F0 rfl (ih ks[i] (List.getElem_mem (by omega)) (d - 1) G _ (by omega) hvk (by omega) hre) rfl rfl ?_)
 refine sP (H6 rfl rfl (by omega) (by omega)) rfl rfl ?_
 refine sQ (qA rfl) rfl (sD (C8 (nS (tR (sQ (qM rfl) rfl ?_)))))
 refine sP (H6 rfl rfl (by omega) (by omega)) rfl rfl ?_
 refine sQ (qA rfl) rfl (sD ?_)
 (refine K3 (i + 1) ?_ ?_ ?_; rw [show ((I2 (ks.take (i + 1)) + 1 : Nat) : Int) = ((I2 (ks.take i) + 1 : Nat) : Int) + (E6 ks[i] : Int) from by rw [B1Z (by omega)]; omega])
 exact C9
 omega
 omega
 refine A07 ?_
 (obtain rfl : i = ks.length := (by omega); rw [List.take_length]; exact ⟨rfl, rfl, rfl⟩)
theorem Sw.same {hp hp' : List A4} {e : A4} (h : Sw hp e e hp') : hp' = hp := by
 generalize he : e = e' at h
 have : ∀ {hp e e' hp'}, Sw hp e e' hp' → e = e' → hp' = hp := by
  intro hp e e' hp' h
  induction h with
  | here => rintro rfl; rfl
  | there _ ih => intro he; rw [ih he]
 subst he
 exact this h rfl
section
variable {P : Program} {Γ : J1} {env : J5} {hp : List A4} {G : IM} {ty : TypeId}
theorem A8r {d : Nat} {x y : Operand} {t el : TypeId} {i : I7} {sz by' : Nat} {zs : List Value} [hI : D4 P t i] {ie : I7} [hEl : D4 P el ie] (hd' : i.desc = .slice el) [hE : S1 P el sz by' zs] {p q : Option Addr} {c n m c2 : Nat} {cs news : List Value} {hp' : Option Addr → Nat → List A4}
  (hd : Nat.blt d Γ.n = true) (hx : evo env x = some (.slice p n c)) (hy : evo env y = some (.slice q m c2)) (hsz : Nat.blt 0 sz = true)
  (hm : ∀ p' c', Sw hp (.slc p c el sz n cs) (.slc p' c' el sz (n + m) (cs ++ news)) (hp' p' c'))
  (hS : Sl G q m c2 sz news) (h1 : ∀ u ∈ news, u.oneCell' = true) (hc : n ≤ c)
  (h63 : n + m ≤ maxLen) (hb : (n + m) * by' ≤ 140737488355328) :
  V5 P Γ ⟨env, hp, G⟩ (some d) (.call ⟨.builtin .append, ⟨[x, y]⟩, ⟨[t, t]⟩⟩) ty (H5 p) (fun σ' => ∃ p' c', σ' = ⟨(d, .slice p' (n + m) c') :: env, hp' p' c', G⟩) := by
 obtain ⟨hl, _, _, hat⟩ := hS
 rcases Nat.eq_zero_or_pos m with rfl | hm0
 ·obtain rfl : news = [] := List.length_eq_zero_iff.1 (by omega)
  have hpu := B1E (P := P) (Γ := Γ) (hp := hp) (G := G) (ty := ty) (t := t) (el := el) hd' hx hy hc
  refine ⟨fun a w hs pos af gd Q next hn => ?_⟩
  simp only [Oper.wp, hpu.run a w hs, Oper.upon]
  refine hn _ _ _ (hs.put d _ (by simpa using hd) hs.res) (Ext.refl _ _) ⟨p, c, ?_⟩
  have h0 := hm p c
  simp only [Nat.add_zero, List.append_nil] at h0 ⊢
  rw [h0.same]
 ·obtain ⟨b, o, full, rfl, hg, hv⟩ := hat.resolve_left (by omega)
  exact A5q hd' hd hx hy hsz hm (A4a hg hv) hl h1 h63 hb
variable {K : Po} {ops : Array Oper} {rest : List Oper} {pos : String} {af : Array Edge} {gd : Option (Nat × Bool)}
theorem A8s {d : Nat} {x y : Operand} {t el : TypeId} {i : I7} {sz by' : Nat} {zs : List Value} [hI : D4 P t i] {ie : I7} [hEl : D4 P el ie] [hE : S1 P el sz by' zs] {p q : Option Addr} {c n m c2 : Nat} {cs news : List Value} {hp' : Option Addr → Nat → List A4}
  (hd' : i.desc = .slice el) (hd : Nat.blt d Γ.n = true) (hx : evo env x = some (.slice p n c)) (hy : evo env y = some (.slice q m c2)) (hsz : Nat.blt 0 sz = true)
  (hm : ∀ p' c', Sw hp (.slc p c el sz n cs) (.slc p' c' el sz (n + m) (cs ++ news)) (hp' p' c'))
  (hS : Sl G q m c2 sz news) (h1 : ∀ u ∈ news, u.oneCell' = true) (hc : n ≤ c)
  (h63 : n + m ≤ maxLen) (hb : (n + m) * by' ≤ 140737488355328) (hw : K8 ops env gd = some true)
  (k : ∀ p' c', F9 P Γ ops rest K ⟨(d, .slice p' (n + m) c') :: env, hp' p' c', G⟩) : F9 P Γ ops (⟨some d, .call ⟨.builtin .append, ⟨[x, y]⟩, ⟨[t, t]⟩⟩, ty, pos, af, gd⟩ :: rest) K ⟨env, hp, G⟩ :=
 E0 (A8r hd' hd hx hy hsz hm hS h1 hc h63 hb) hw (by rintro _ ⟨p', c', rfl⟩; exact k p' c')
theorem A20 {H : List (Nat × Nat)} {fuel : Nat} {listed l' : List Bool} {j d : Nat} {cs : List Value} {x y : Operand} {t el : TypeId} {i : I7} {sz by' : Nat} {zs : List Value} [hI : D4 P t i] {ie : I7} [hEl : D4 P el ie] [hE : S1 P el sz by' zs] {p q : Option Addr} {c n m c2 : Nat} {news : List Value} {hp' : Option Addr → Nat → List A4} {H' : List (Nat × Nat)}
  (hi : ops[j]? = some ⟨some d, .call ⟨.builtin .append, ⟨[x, y]⟩, ⟨[t, t]⟩⟩, ty, pos, af, gd⟩) (hd' : i.desc = .slice el)
  (hd : Nat.blt d Γ.n = true) (hx : evo env x = some (.slice p n c)) (hy : evo env y = some (.slice q m c2)) (hsz : Nat.blt 0 sz = true)
  (hm : ∀ p' c', Sw hp (.slc p c el sz n cs) (.slc p' c' el sz (n + m) (cs ++ news)) (hp' p' c'))
  (hS : Sl G q m c2 sz news) (h1 : ∀ u ∈ news, u.oneCell' = true) (hc : n ≤ c)
  (h63 : n + m ≤ maxLen) (hb : (n + m) * by' ≤ 140737488355328) (hw : K8 ops env gd = some true) (hl : listed.set j true = l')
  (hok : B0 ops j hp G (.slc p c el sz n cs) H H')
  (k : ∀ p' c', L5 P Γ ops K H' fuel l' ⟨(d, .slice p' (n + m) c') :: env, hp' p' c', G⟩) : T5 P Γ ops K H fuel listed j ⟨env, hp, G⟩ :=
 A3x hi (A8r hd' hd hx hy hsz hm hS h1 hc h63 hb) hw hl (fun _ _ hs => hok.spec hs) hok.filter (by rintro _ ⟨p', c', rfl⟩; exact k p' c')
theorem A0a {H H' : List (Nat × Nat)} {fuel : Nat} {listed l' : List Bool} {j d : Nat} {f : FuncId} [hF : B3 P f] {xs : List Operand} {ats : Array TypeId} {vs : List Value} {e : A4} {rst : List A4} {post : IM → Value → List A4 → Prop}
  (hi : ops[j]? = some ⟨some d, .call ⟨.value (.func f), ⟨xs⟩, ats⟩, ty, pos, af, gd⟩) (hx : evl env xs = some vs) (h : Fn P f vs [e] G post) (hp' : hp.Perm ([e] ++ rst)) (hw : K8 ops env gd = some true) (hd : Nat.blt d Γ.n = true) (hl : listed.set j true = l')
  (hok : B0 ops j hp G e H H')
  (k : ∀ v G' outs, B4 G G' → post G' v outs → L5 P Γ ops K H' fuel l' ⟨(d, v) :: env, outs ++ rst, G'⟩) : T5 P Γ ops K H fuel listed j ⟨env, hp, G⟩ :=
 A3x hi (A2l hx h hp' hd) hw hl (fun _ _ hs => by simpa [Fp] using hok.spec hs) hok.filter (by rintro _ ⟨v, G', outs, rfl, hle, hq⟩; exact k v G' outs hle hq)
end
section forget
variable {P : Program} {Γ : J1} {env : J5} {hp : List A4} {G : IM} {K : Po} {ops : Array Oper} {rest : List Oper} {ty : TypeId} {pos : String} {af : Array Edge} {gd : Option (Nat × Bool)}
end forget
def tAt : Tm → List Int → Option Tm
 | t, [] => some t
 | .mk _ _ _ _ _ _ ks, i :: is => if h : 0 ≤ i ∧ i < ks.length then tAt (ks[i.toNat]'(by omega)) is else none
def z9 : List Value := [.int .i64 0, .string ⟨⟨[]⟩⟩, .int .i64 0, .int .i64 0, .slice none 0 0, .int .i64 0, .slice none 0 0, .int .i64 0, .slice none 0 0]
def AtP (t : Tm) (path : List Int) (G : IM) : IM → Value → List A4 → Prop := fun G' v outs => G' = G ∧ outs = [] ∧
 ((∃ x cells, tAt t path = some x ∧ B1 G x cells ∧ v = .tuple ⟨[.agg ⟨cells⟩, .bool true]⟩) ∨ (tAt t path = none ∧ v = .tuple ⟨[.agg ⟨z9⟩, .bool false]⟩))
section slaw
variable {P : Program} {Γ : J1} {env : J5} {hp : List A4} {G : IM} {ty : TypeId} {K : Po} {ops : Array Oper} {rest : List Oper}
theorem B2B {x y : Operand} {t el : TypeId} {i : I7} {sz by' : Nat} {zs : List Value} [hI : D4 P t i] (hd' : i.desc = .slice el) [hE : S1 P el sz by' zs] {b o n c l : Nat}
  (hx : evo env x = some (.slice (some ⟨b, o, none⟩) n c)) (hy : evo env y = some (.int .i64 (l : Int))) (hl : l ≤ n) :
  E1 P Γ ⟨env, hp, G⟩ (.slice t x (some y) none none) ty (.slice (some ⟨b, if c = l then o else o + l * sz, none⟩) (n - l) (c - l)) := by
 refine ⟨fun a _ hs _ _ _ _ w => ?_⟩
 have hu := hI.und
 rw [hd'] at hu
 obtain ⟨d, hE⟩ := hE.ok
 obtain ⟨inf, z, t1, t2, t3, _⟩ := A15 (P := P) (t := el)
 have e1 : a.eval x = _ := hs.evo hx
 have e2 : a.eval y = _ := hs.evo hy
 have hb : ∀ code, (Instr.sliceBound (.int .i64 (l : Int)) n code).run P w = .ok l w := fun code => by
  have := run_sliceBound (P := P) w .i64 (l : Int) n code (by omega) (by omega)
  simpa using this
 simp only [execOp, Option.map, e1, e2, Instr.sliceAt, Sem.run_bind, run_underlying hu, Result.andThen_ok, Instr.slice, Instr.sliceBounds, Sem.run_pure, hb, t3]
 by_cases h : c = l
 ·simp [h]
 ·simp [h, A13]
theorem St.slc_open {a : Act} {w : World} {p : Option Addr} {c el sz n : Nat} {cs : List Value} {hp' : List A4} (hs : St Γ ⟨env, hp, G⟩ a w) (hk : Pk hp (.slc p c el sz n cs) hp') (h0 : 0 < n) :
  ∃ b C, p = some ⟨b, 0, none⟩ ∧ n ≤ c ∧ c ≤ maxLen ∧ St Γ ⟨env, .blk b (cs ++ C) :: hp', G⟩ a w := by
 have hown : S0 [.slc p c el sz n cs] G w := hs.res.own.of_mem hk.perm
 obtain ⟨hl, h⟩ := hown.ok _ List.mem_cons_self
 rcases h with ⟨hv, hn⟩ | ⟨g, cap, cur, hv, _, hg, hnc, hcm, hsz, ht⟩
 ·omega
 ·cases hv
  refine ⟨g, cur.toList.drop cs.length, rfl, hnc, hcm, ?_⟩
  have hcur : cur.toList = cs ++ cur.toList.drop cs.length := by
   have e : cs.length = n * sz := hl
   rw [e]
   conv => lhs; rw [← List.take_append_drop (n * sz) cur.toList, ht]
  have hr : O1 [.slc (some ⟨g, 0, none⟩) c el sz n cs] G w [.blk g (cs ++ cur.toList.drop cs.length)] G w := by
   refine ⟨⟨hown.inn, ?_, by simp [Fp, A4.fp], ?_⟩, Ext.refl _ _, B4.refl _, fun _ _ h => .inl h, ?_, fun b l h h0 => absurd h (by rw [h0]; simp)⟩
   ·intro e he
    simp at he; subst he
    refine ⟨el, ?_⟩
    rw [← hcur]; simpa using hg
   ·intro b' hb; exact hown.disj b' (by simpa [Fp, A4.fp, H5] using hb)
   ·intro b' hb; exact .inr (by simpa [Fp, A4.fp, H5] using hb)
  exact ⟨hs.size, hs.nod, hs.env, by have := (hs.res.perm hk.perm).frame hr; simpa using this⟩
theorem B2C {p : Option Addr} {c el sz n : Nat} {cs : List Value} {hp' : List A4} (hk : Pk hp (.slc p c el sz n cs) hp') (h0 : 0 < n)
  (h : ∀ b C, p = some ⟨b, 0, none⟩ → n ≤ c → c ≤ maxLen → F9 P Γ ops rest K ⟨env, .blk b (cs ++ C) :: hp', G⟩) : F9 P Γ ops rest K ⟨env, hp, G⟩ :=
 ⟨fun a w hs => let ⟨b, C, h1, h2, h3, h4⟩ := hs.slc_open hk h0; (h b C h1 h2 h3).run a w h4⟩
end slaw
theorem B2D {es : List (List Value)} {j : Nat} {vs : List Value} (hj : j < es.length) : (es.set j vs).flatten = (es.take j).flatten ++ (vs ++ (es.drop (j + 1)).flatten) := by
 rw [List.set_eq_take_append_cons_drop, if_pos hj]; simp
theorem B2E {es : List (List Value)} {j : Nat} (hj : j < es.length) : es.flatten = (es.take j).flatten ++ (es[j] ++ (es.drop (j + 1)).flatten) := by
 have h := congrArg List.flatten (List.take_append_drop j es).symm
 rw [List.drop_eq_getElem_cons hj, List.flatten_append, List.flatten_cons] at h
 exact h
theorem B2F {es : List (List Value)} {C vs : List Value} {j sz : Nat} (hj : j < es.length) (ha : ∀ e ∈ es, e.length = sz) (hv : vs.length = sz) : Q3 (es.flatten ++ C) (0 + j * sz) vs = some ((es.set j vs).flatten ++ C) := by
 have := A5y (A := (es.take j).flatten) (B := es[j]) (C := (es.drop (j + 1)).flatten ++ C) (V := vs) (o := 0 + j * sz)
  (by rw [A2q (fun e he => ha e (List.mem_of_mem_take he)), List.length_take]; rw [Nat.min_eq_left (by omega)]; omega) (by rw [ha _ (List.getElem_mem hj), hv])
 rw [B2E hj, B2D hj]
 simp only [List.append_assoc] at this ⊢
 exact this
theorem E3.set {G : IM} : ∀ {ks : List Tm} {es : List (List Value)} {j : Nat} {y : Tm} {v : List Value}, E3 G ks es → B1 G y v → E3 G (ks.set j y) (es.set j v)
 | [], es, j, y, v, h, h2 => by simp only [E3] at h; subst h; simp [E3]
 | t :: ts, es, 0, y, v, h, h2 => by
  simp only [E3] at h
  obtain ⟨a, r, rfl, h3, h4⟩ := h
  simp only [List.set_cons_zero, E3]
  exact ⟨v, r, rfl, h2, h4⟩
 | t :: ts, es, j + 1, y, v, h, h2 => by
  simp only [E3] at h
  obtain ⟨a, r, rfl, h3, h4⟩ := h
  simp only [List.set_cons_succ, E3]
  exact ⟨a, r.set j v, rfl, h3, E3.set h4 h2⟩
def A8t : Tm → List Int → Tm → Tm
 | _, [], x => x
 | .mk k nm num ty fr lb ks, i :: is, x => if h : 0 ≤ i ∧ i < ks.length then .mk k nm num ty fr lb (ks.set i.toNat (A8t (ks[i.toNat]'(by omega)) is x)) else .mk k nm num ty fr lb ks
theorem A8u {P : Program} {Γ : J1} {env : J5} {hp : List A4} {G : IM} {ty : TypeId} {x y : Operand} {t t' : TypeId} {m n : Int} {z : Nat} (hx : evo env x = some (.int .i64 m)) (hy : evo env y = some (.int .i64 n)) (h : m - n = z) (hb : z ≤ 9223372036854775807) :
  E1 P Γ ⟨env, hp, G⟩ (.binOp .sub t x y t') ty (.int .i64 (z : Int)) := by
 have := L7 (P := P) (Γ := Γ) (hp := hp) (G := G) (ty := ty) (t := t) (t' := t') hx hy (by omega) (by omega)
 rwa [h] at this
inductive MV where
 | mk (k num : Int) (env parts : List MV)
def MV.k : MV → Int | .mk k _ _ _ => k
def MV.num : MV → Int | .mk _ n _ _ => n
def MV.env : MV → List MV | .mk _ _ e _ => e
def MV.parts : MV → List MV | .mk _ _ _ p => p
theorem A1f {α : Type} {P : α → Prop} {us : List α} {u : α} (h : ∀ x ∈ us, P x) (hu : P u) : ∀ x ∈ us ++ [u], P x := by
 intro x hx
 rcases List.mem_append.1 hx with hx | hx
 ·exact h x hx
 ·obtain rfl := List.mem_singleton.1 hx; exact hu
def O6 : MV := .mk 0 0 [] []
mutual
def P5 (kc : Int → Int) (G : IM) : MV → List Value → Prop
 | .mk k num env parts, cells => ∃ p c es q d fs, cells = [.int .i64 (kc k), .int .i64 num, .slice p env.length c, .slice q parts.length d] ∧ C6 num ∧ C6 (kc k) ∧ C5 G p env.length c 4 es ∧ H0 kc G env es ∧ C5 G q parts.length d 4 fs ∧ H0 kc G parts fs
def H0 (kc : Int → Int) (G : IM) : List MV → List (List Value) → Prop
 | [], es => es = []
 | t :: ts, es => ∃ a r, es = a :: r ∧ P5 kc G t a ∧ H0 kc G ts r
end
mutual
theorem P5.mono {kc : Int → Int} {G G' : IM} (hg : B4 G G') : ∀ {t : MV} {cells : List Value}, P5 kc G t cells → P5 kc G' t cells
 | .mk k num env parts, cells, h => by
  simp only [P5] at h ⊢
  obtain ⟨p, c, es, q, d, fs, h1, h2, h3, h4, h5, h6, h7⟩ := h
  exact ⟨p, c, es, q, d, fs, h1, h2, h3, h4.mono hg, H0.mono hg h5, h6.mono hg, H0.mono hg h7⟩
theorem H0.mono {kc : Int → Int} {G G' : IM} (hg : B4 G G') : ∀ {ts : List MV} {es : List (List Value)}, H0 kc G ts es → H0 kc G' ts es
 | [], es, h => by simpa only [H0] using h
 | t :: ts, es, h => by
  simp only [H0] at h ⊢
  obtain ⟨a, r, h1, h2, h3⟩ := h
  exact ⟨a, r, h1, P5.mono hg h2, H0.mono hg h3⟩
end
section
variable {kc : Int → Int} {G : IM}
theorem P5.open {t : MV} {cells : List Value} (h : P5 kc G t cells) : ∃ p c es q d fs, cells = [.int .i64 (kc t.k), .int .i64 t.num, .slice p t.env.length c, .slice q t.parts.length d] ∧ C6 t.num ∧ C6 (kc t.k) ∧ C5 G p t.env.length c 4 es ∧ H0 kc G t.env es ∧ C5 G q t.parts.length d 4 fs ∧ H0 kc G t.parts fs := by
 obtain ⟨k, num, env, parts⟩ := t
 simp only [P5] at h
 exact h
theorem P5.mk {k num : Int} {env parts : List MV} {p q : Option Addr} {c d n m : Nat} {es fs : List (List Value)} (h1 : C6 num) (h2 : C6 (kc k)) (hn : n = env.length) (hm : m = parts.length) (h3 : C5 G p n c 4 es) (h4 : H0 kc G env es) (h5 : C5 G q m d 4 fs) (h6 : H0 kc G parts fs) :
  P5 kc G (.mk k num env parts) [.int .i64 (kc k), .int .i64 num, .slice p n c, .slice q m d] := by
 subst hn hm
 simp only [P5]
 exact ⟨p, c, es, q, d, fs, rfl, h1, h2, h3, h4, h5, h6⟩
theorem P5.leaf {k num : Int} (h1 : C6 num) (h2 : C6 (kc k)) : P5 kc G (.mk k num [] []) [.int .i64 (kc k), .int .i64 num, .slice none 0 0, .slice none 0 0] :=
 P5.mk h1 h2 rfl rfl (C5.nil G 4) rfl (C5.nil G 4) rfl
theorem P5.kids {t : MV} {a b : Value} {p q : Option Addr} {n m c d : Nat} (h : P5 kc G t [a, b, .slice p n c, .slice q m d]) : ∃ es fs, C5 G p t.env.length c 4 es ∧ H0 kc G t.env es ∧ C5 G q t.parts.length d 4 fs ∧ H0 kc G t.parts fs := by
 obtain ⟨p', c', es, q', d', fs, he, _, _, h3, h4, h5, h6⟩ := h.open
 simp only [List.cons.injEq, Value.slice.injEq, and_true] at he
 obtain ⟨_, _, ⟨rfl, _, rfl⟩, rfl, _, rfl⟩ := he
 exact ⟨es, fs, h3, h4, h5, h6⟩
theorem P5.len {t : MV} {cells : List Value} (h : P5 kc G t cells) : cells.length = 4 := by
 obtain ⟨p, c, es, q, d, fs, rfl, _⟩ := h.open; rfl
theorem P5.one {t : MV} {cells : List Value} (h : P5 kc G t cells) : cells.all (·.oneCell') = true := by
 obtain ⟨p, c, es, q, d, fs, rfl, _⟩ := h.open; rfl
theorem H0.len : ∀ {ts : List MV} {es : List (List Value)}, H0 kc G ts es → es.length = ts.length
 | [], es, h => by simp only [H0] at h; subst h; rfl
 | t :: ts, es, h => by
  simp only [H0] at h
  obtain ⟨a, r, rfl, _, h3⟩ := h
  simp [H0.len h3]
theorem H0.get : ∀ {ts : List MV} {es : List (List Value)}, H0 kc G ts es → ∀ {i : Nat} {t : MV}, ts[i]? = some t → ∃ e, es[i]? = some e ∧ P5 kc G t e
 | [], es, h, i, t, ht => by simp at ht
 | t' :: ts, es, h, i, t, ht => by
  simp only [H0] at h
  obtain ⟨a, r, rfl, h2, h3⟩ := h
  cases i with
  | zero => simp at ht; subst ht; exact ⟨a, by simp, h2⟩
  | succ i =>
   obtain ⟨e, he, hr⟩ := H0.get h3 (by simpa using ht)
   exact ⟨e, by simpa using he, hr⟩
theorem H0.each : ∀ {ts : List MV} {es : List (List Value)}, H0 kc G ts es → ∀ e ∈ es, e.length = 4 ∧ e.all (·.oneCell') = true
 | [], es, h, e, he => by simp only [H0] at h; subst h; simp at he
 | t :: ts, es, h, e, he => by
  simp only [H0] at h
  obtain ⟨a, r, rfl, h2, h3⟩ := h
  rcases List.mem_cons.1 he with rfl | he
  ·exact ⟨h2.len, h2.one⟩
  ·exact H0.each h3 e he
theorem H0.all {ts : List MV} {es : List (List Value)} (h : H0 kc G ts es) : ∀ e ∈ es, e.length = 4 := fun e he => (h.each e he).1
theorem H0.ones {ts : List MV} {es : List (List Value)} (h : H0 kc G ts es) : ∀ e ∈ es, e.all (·.oneCell') = true := fun e he => (h.each e he).2
theorem H0.append : ∀ {ts us : List MV} {es fs : List (List Value)}, H0 kc G ts es → H0 kc G us fs → H0 kc G (ts ++ us) (es ++ fs)
 | [], us, es, fs, h, h2 => by simp only [H0] at h; subst h; simpa using h2
 | t :: ts, us, es, fs, h, h2 => by
  simp only [H0] at h
  obtain ⟨a, r, rfl, h3, h4⟩ := h
  simp only [List.cons_append, H0]
  exact ⟨a, r ++ fs, rfl, h3, H0.append h4 h2⟩
theorem H0.one' {t : MV} {e : List Value} (h : P5 kc G t e) : H0 kc G [t] [e] := by
 simp only [H0]; exact ⟨e, [], rfl, h, rfl⟩
theorem H0.snoc {ts : List MV} {es : List (List Value)} {t : MV} {e : List Value} (h : H0 kc G ts es) (h2 : P5 kc G t e) : H0 kc G (ts ++ [t]) (es ++ [e]) := h.append (.one' h2)
theorem H0.take : ∀ {ts : List MV} {es : List (List Value)} (n : Nat), H0 kc G ts es → H0 kc G (ts.take n) (es.take n)
 | ts, es, 0, _ => by simp [H0]
 | [], es, n + 1, h => by simp only [H0] at h; subst h; simp [H0]
 | t :: ts, es, n + 1, h => by
  simp only [H0] at h
  obtain ⟨a, r, rfl, h3, h4⟩ := h
  simp only [List.take_succ_cons, H0]
  exact ⟨a, r.take n, rfl, h3, H0.take n h4⟩
theorem H0.drop : ∀ {ts : List MV} {es : List (List Value)} (n : Nat), H0 kc G ts es → H0 kc G (ts.drop n) (es.drop n)
 | ts, es, 0, h => by simpa using h
 | [], es, n + 1, h => by simp only [H0] at h; subst h; simp [H0]
 | t :: ts, es, n + 1, h => by
  simp only [H0] at h
  obtain ⟨a, r, rfl, h3, h4⟩ := h
  simp only [List.drop_succ_cons]
  exact H0.drop n h4
theorem C5.mvAt {p : Option Addr} {n c : Nat} {es : List (List Value)} {ts : List MV} (h : C5 G p n c 4 es) (hk : H0 kc G ts es) {i : Nat} {t : MV} (ht : ts[i]? = some t) :
  ∃ b o q d q' d', p = some ⟨b, o, none⟩ ∧ (∀ hp, At hp G b (o + i * 4) [.int .i64 (kc t.k), .int .i64 t.num, .slice q t.env.length d, .slice q' t.parts.length d']) ∧ P5 kc G t [.int .i64 (kc t.k), .int .i64 t.num, .slice q t.env.length d, .slice q' t.parts.length d'] ∧ G b ≠ none := by
 obtain ⟨e, he, hr⟩ := hk.get ht
 have hi : i < n := by rw [← h.len]; exact (List.getElem?_eq_some_iff.1 he).1
 obtain ⟨e', b, o, he', hp, _, _, hat, hg⟩ := h.get hi
 rw [he] at he'; cases he'
 obtain ⟨q, d, _, q', d', _, rfl, _⟩ := hr.open
 exact ⟨b, o, q, d, q', d', hp, hat, hr, hg⟩
end

def RFr (kc : Int → Int) (G : IM) (f : Int × List MV) (cells : List Value) : Prop := ∃ p c es, cells = [.int .i64 f.1, .slice p f.2.length c] ∧ C6 f.1 ∧ C5 G p f.2.length c 4 es ∧ H0 kc G f.2 es
def O0 (kc : Int → Int) (G : IM) : List (Int × List MV) → List (List Value) → Prop
 | [], es => es = []
 | t :: ts, es => ∃ a r, es = a :: r ∧ RFr kc G t a ∧ O0 kc G ts r
section
variable {kc : Int → Int} {G : IM}
theorem RFr.mono {G' : IM} (hg : B4 G G') {f : Int × List MV} {cells : List Value} (h : RFr kc G f cells) : RFr kc G' f cells := by
 obtain ⟨p, c, es, h1, h2, h3, h4⟩ := h
 exact ⟨p, c, es, h1, h2, h3.mono hg, h4.mono hg⟩
theorem O0.mono {G' : IM} (hg : B4 G G') : ∀ {ts : List (Int × List MV)} {es : List (List Value)}, O0 kc G ts es → O0 kc G' ts es
 | [], es, h => by simpa only [O0] using h
 | t :: ts, es, h => by
  simp only [O0] at h ⊢
  obtain ⟨a, r, h1, h2, h3⟩ := h
  exact ⟨a, r, h1, h2.mono hg, O0.mono hg h3⟩
theorem RFr.mk {a : Int} {env : List MV} {p : Option Addr} {c n : Nat} {es : List (List Value)} (h1 : C6 a) (hn : n = env.length) (h3 : C5 G p n c 4 es) (h4 : H0 kc G env es) : RFr kc G (a, env) [.int .i64 a, .slice p n c] := by
 subst hn; exact ⟨p, c, es, rfl, h1, h3, h4⟩
theorem O0.get : ∀ {ts : List (Int × List MV)} {es : List (List Value)}, O0 kc G ts es → ∀ {i : Nat} {t : Int × List MV}, ts[i]? = some t → ∃ e, es[i]? = some e ∧ RFr kc G t e
 | [], es, h, i, t, ht => by simp at ht
 | t' :: ts, es, h, i, t, ht => by
  simp only [O0] at h
  obtain ⟨a, r, rfl, h2, h3⟩ := h
  cases i with
  | zero => simp at ht; subst ht; exact ⟨a, by simp, h2⟩
  | succ i =>
   obtain ⟨e, he, hr⟩ := O0.get h3 (by simpa using ht)
   exact ⟨e, by simpa using he, hr⟩
theorem O0.each : ∀ {ts : List (Int × List MV)} {es : List (List Value)}, O0 kc G ts es → ∀ e ∈ es, e.length = 2 ∧ e.all (·.oneCell') = true
 | [], es, h, e, he => by simp only [O0] at h; subst h; simp at he
 | t :: ts, es, h, e, he => by
  simp only [O0] at h
  obtain ⟨a, r, rfl, h2, h3⟩ := h
  rcases List.mem_cons.1 he with rfl | he
  ·obtain ⟨p, c, es, rfl, _⟩ := h2; exact ⟨rfl, rfl⟩
  ·exact O0.each h3 e he
theorem O0.all {ts : List (Int × List MV)} {es : List (List Value)} (h : O0 kc G ts es) : ∀ e ∈ es, e.length = 2 := fun e he => (h.each e he).1
theorem O0.snoc : ∀ {ts : List (Int × List MV)} {es : List (List Value)} {t : Int × List MV} {e : List Value}, O0 kc G ts es → RFr kc G t e → O0 kc G (ts ++ [t]) (es ++ [e])
 | [], es, t, e, h, h2 => by simp only [O0] at h; subst h; simp only [List.nil_append, O0]; exact ⟨e, [], rfl, h2, rfl⟩
 | t' :: ts, es, t, e, h, h2 => by
  simp only [O0] at h
  obtain ⟨a, r, rfl, h3, h4⟩ := h
  simp only [List.cons_append, O0]
  exact ⟨a, r ++ [e], rfl, h3, O0.snoc h4 h2⟩
theorem O0.take : ∀ {ts : List (Int × List MV)} {es : List (List Value)} (n : Nat), O0 kc G ts es → O0 kc G (ts.take n) (es.take n)
 | ts, es, 0, _ => by simp [O0]
 | [], es, n + 1, h => by simp only [O0] at h; subst h; simp [O0]
 | t :: ts, es, n + 1, h => by
  simp only [O0] at h
  obtain ⟨a, r, rfl, h3, h4⟩ := h
  simp only [List.take_succ_cons, O0]
  exact ⟨a, r.take n, rfl, h3, O0.take n h4⟩
end

theorem A8v {sz : Nat} : ∀ {es : List (List Value)} (l : Nat), (∀ e ∈ es, e.length = sz) → es.flatten.drop (l * sz) = (es.drop l).flatten
 | [], l, _ => by simp
 | e :: es, 0, _ => by simp
 | e :: es, l + 1, h => by
  have he : e.length = sz := h e List.mem_cons_self
  rw [List.flatten_cons, List.drop_succ_cons, List.drop_append, show (l + 1) * sz - e.length = l * sz by rw [he, Nat.succ_mul]; omega, List.drop_eq_nil_of_le (by rw [he, Nat.succ_mul]; omega), List.nil_append]
  exact A8v l fun x hx => h x (List.mem_cons_of_mem _ hx)
theorem A5Q {sz : Nat} : ∀ {es : List (List Value)} (l : Nat), (∀ e ∈ es, e.length = sz) → es.flatten.take (l * sz) = (es.take l).flatten
 | [], l, _ => by simp
 | e :: es, 0, _ => by simp
 | e :: es, l + 1, h => by
  have he : e.length = sz := h e List.mem_cons_self
  rw [List.flatten_cons, List.take_succ_cons, List.flatten_cons, List.take_append, show (l + 1) * sz - e.length = l * sz by rw [he, Nat.succ_mul]; omega, List.take_of_length_le (by rw [he, Nat.succ_mul]; omega)]
  rw [A5Q l fun x hx => h x (List.mem_cons_of_mem _ hx)]
structure K7 where
 at' : Int
 st : List MV
 env : List MV
 fr : List (Int × List MV)
def RSs (kc : Int → Int) (G : IM) (s : K7) (cells : List Value) : Prop := ∃ pe ce ps cs pf cf ee es ef, cells = [.int .i64 s.at', .slice pe s.env.length ce, .slice ps s.st.length cs, .slice pf s.fr.length cf] ∧ C6 s.at' ∧
 C5 G pe s.env.length ce 4 ee ∧ H0 kc G s.env ee ∧ C5 G ps s.st.length cs 4 es ∧ H0 kc G s.st es ∧ C5 G pf s.fr.length cf 2 ef ∧ O0 kc G s.fr ef
def K5 (k : Int) : Nat := if k = 6 ∨ k = 7 ∨ k = 8 ∨ k = 11 then 2 else if k = 9 ∨ k = 12 ∨ k = 13 then 1 else 0
def M6 (k : Int) : Int × Nat × Int := if k = 6 then (2, 1, 1) else if k = 7 ∨ k = 8 then (0, 2, 2) else if k = 9 then (1, 1, 3) else if k = 12 ∨ k = 13 then (3, 1, 4) else (0, 0, 0)
def A0C (s : K7) (v : MV) : K7 := { s with st := s.st ++ [v] }
def mGo (k a : Int) (s : K7) (v : List MV) : K7 ⊕ (Int × Int) :=
 if k = 1 then .inl (A0C s (.mk 0 a [] []))
 else if k = 2 then .inl (A0C s (.mk 1 a [] []))
 else if k = 3 then (if (s.env.length : Int) - 1 - a < 0 then .inr (3, 0) else .inl (A0C s (s.env.getD ((s.env.length : Int) - 1 - a).toNat O6)))
 else if k = 4 then .inl { A0C s (.mk 2 s.at' s.env []) with at' := s.at' + a }
 else if k = 5 then (if s.fr.length = 0 then .inr (3, 0) else .inl { s with at' := (s.fr.getD (s.fr.length - 1) (0, [])).1, env := (s.fr.getD (s.fr.length - 1) (0, [])).2, fr := s.fr.take (s.fr.length - 1) })
 else if k = 6 then .inl { s with at' := (v.getD 0 O6).num, env := (v.getD 0 O6).env ++ [v.getD 1 O6], fr := s.fr ++ [(s.at', s.env)] }
 else if k = 7 then .inl (A0C s (.mk 0 (((v.getD 0 O6).num + (v.getD 1 O6).num) % 1000) [] []))
 else if k = 8 then .inl (A0C s (.mk 1 (if (v.getD 0 O6).num < (v.getD 1 O6).num then 1 else 0) [] []))
 else if k = 9 then .inl (if (v.getD 0 O6).num = 0 then { s with at' := s.at' + a } else s)
 else if k = 10 then .inl { s with at' := s.at' + a }
 else if k = 11 then .inl (A0C s (.mk 3 0 [] v))
 else .inl (A0C s ((v.getD 0 O6).parts.getD (k - 12).toNat O6))
def A0D (k : Int) (v : List MV) : Bool := (v.take (M6 k).2.1).all fun u => decide (u.k = (M6 k).1)
def M2 (k a : Int) (s : K7) : K7 ⊕ (Int × Int) :=
 if s.st.length < K5 k then .inr (3, 0)
 else if A0D k (s.st.drop (s.st.length - K5 k)) = true then mGo k a { s with at' := s.at' + 1, st := s.st.take (s.st.length - K5 k) } (s.st.drop (s.st.length - K5 k))
 else .inr (2, (M6 k).2.2)
def V0 (v : MV) : ByteArray := if v.k = 0 then ⟨(Lib.decDigits v.num.toNat).toArray⟩ else if v.k = 1 then (if v.num = 0 then ⟨#[70]⟩ else ⟨#[84]⟩) else if v.k = 2 then ⟨⟨[102, 117, 110, 99, 116, 105, 111, 110]⟩⟩ else ⟨⟨[112, 97, 105, 114]⟩⟩
theorem B2G {v : MV} {j : Nat} (h : v.k = 0) (hj : v.num = j) : V0 v = ⟨(Lib.decDigits j).toArray⟩ := by unfold V0; rw [if_pos h, hj, Int.toNat_natCast]
theorem B2H {v : MV} (h : v.k = 1) (hj : v.num = 0) : V0 v = ⟨#[70]⟩ := by unfold V0; rw [if_neg (by omega), if_pos h, if_pos hj]
theorem B2I {v : MV} (h : v.k = 1) (hj : v.num = 1) : V0 v = ⟨#[84]⟩ := by unfold V0; rw [if_neg (by omega), if_pos h, if_neg (by omega)]
theorem A5R {v : MV} (h : v.k = 2) : V0 v = ⟨⟨[102, 117, 110, 99, 116, 105, 111, 110]⟩⟩ := by unfold V0; rw [if_neg (by omega), if_neg (by omega), if_pos h]
theorem B2J {v : MV} (h : v.k = 3) : V0 v = ⟨⟨[112, 97, 105, 114]⟩⟩ := by unfold V0; rw [if_neg (by omega), if_neg (by omega), if_neg (by omega)]
theorem B2K {v : MV} {j : Nat} (h : v.k = 1) (hj : v.num = j) (h1 : j ≤ 1) : (⟨⟨[70, 84]⟩⟩ : ByteArray).extract j (j + 1) = V0 v := by
 have : j = 0 ∨ j = 1 := by omega
 rcases this with rfl | rfl
 ·rw [B2H h hj]; rfl
 ·rw [B2I h hj]; rfl
def A1g (s : K7) : ByteArray × Int × Int := if s.st.length ≠ 1 ∨ 0 < s.fr.length then (⟨#[]⟩, 3, 0) else (V0 (s.st.getD 0 O6), 0, 0)
def E8 (ops : List (Int × Int)) : Nat → K7 → ByteArray × Int × Int
 | t, s => if (ops.length : Int) ≤ s.at' then A1g s else match t with
  | 0 => (⟨#[]⟩, 5, 0)
  | t + 1 => match M2 (ops.getD s.at'.toNat (0, 0)).1 (ops.getD s.at'.toNat (0, 0)).2 s with
   | .inl s' => E8 ops t s'
   | .inr (c, e) => (⟨#[]⟩, c, e)
def O8 (k behind : Int) : Int := if k = 1 then 999 else if k = 2 then 1 else if k = 3 then 11 else if k = 4 ∨ k = 9 ∨ k = 10 then behind else 0
def M3 (n : Nat) (i : Nat) (x : Int × Int) : Bool := decide (1 ≤ x.1 ∧ x.1 ≤ 13 ∧ 0 ≤ x.2 ∧ x.2 ≤ O8 x.1 ((n : Int) - 1 - i))
def Q6 (ops : List (Int × Int)) : Bool := decide (1 ≤ ops.length ∧ ops.length ≤ 120) && (List.range ops.length).all fun i => M3 ops.length i (ops.getD i (0, 0))
def Q7 (ops : List (Int × Int)) (ticks : Int) : ByteArray × Int × Int :=
 if Q6 ops = true ∧ 0 ≤ ticks ∧ ticks ≤ 2000 then E8 ops ticks.toNat ⟨0, [], [], []⟩ else (⟨#[]⟩, 3, 0)
def S5 (k a : Int) (s : K7) : K7 ⊕ (Int × Int) :=
 if A0D k (s.st.drop (s.st.length - K5 k)) = true then mGo k a { s with at' := s.at' + 1, st := s.st.take (s.st.length - K5 k) } (s.st.drop (s.st.length - K5 k))
 else .inr (2, (M6 k).2.2)
theorem A3J {k a : Int} {s : K7} (h : s.st.length < K5 k) : M2 k a s = .inr (3, 0) := by unfold M2; rw [if_pos h]
theorem X3 {k a : Int} {s : K7} (h : ¬s.st.length < K5 k) : M2 k a s = S5 k a s := by unfold M2 S5; rw [if_neg h]
theorem A8w {k : Int} (h : k = 6 ∨ k = 7 ∨ k = 8 ∨ k = 11) : K5 k = 2 := by unfold K5; rw [if_pos h]
theorem A5S {k : Int} (h : k = 9 ∨ k = 12 ∨ k = 13) : K5 k = 1 := by unfold K5; rw [if_neg (by omega), if_pos h]
theorem A5T {k : Int} (h : ¬(k = 6 ∨ k = 7 ∨ k = 8 ∨ k = 11)) (h2 : ¬(k = 9 ∨ k = 12 ∨ k = 13)) : K5 k = 0 := by unfold K5; rw [if_neg h, if_neg h2]
section
variable {a : Int} {s : K7} {v0 v1 : MV}
theorem A4p (h : s.st.drop (s.st.length - 2) = [v0, v1]) : S5 6 a s = if v0.k = 2 then .inl ⟨v0.num, s.st.take (s.st.length - 2), v0.env ++ [v1], s.fr ++ [(s.at' + 1, s.env)]⟩ else .inr (2, 1) := by
 have hp : K5 6 = 2 := rfl
 have hw : M6 6 = (2, 1, 1) := rfl
 unfold S5 A0D
 rw [hp, h, hw]
 by_cases hk : v0.k = 2 <;> simp [hk, mGo]
theorem A5U (h : s.st.drop (s.st.length - 2) = [v0, v1]) : S5 7 a s = if v0.k = 0 ∧ v1.k = 0 then .inl ⟨s.at' + 1, s.st.take (s.st.length - 2) ++ [.mk 0 ((v0.num + v1.num) % 1000) [] []], s.env, s.fr⟩ else .inr (2, 2) := by
 have hp : K5 7 = 2 := rfl
 have hw : M6 7 = (0, 2, 2) := rfl
 unfold S5 A0D
 rw [hp, h, hw]
 by_cases hk : v0.k = 0 <;> by_cases hk1 : v1.k = 0 <;> simp [hk, hk1, mGo, A0C]
theorem A4q (h : s.st.drop (s.st.length - 2) = [v0, v1]) : S5 8 a s = if v0.k = 0 ∧ v1.k = 0 then .inl ⟨s.at' + 1, s.st.take (s.st.length - 2) ++ [.mk 1 (if v0.num < v1.num then 1 else 0) [] []], s.env, s.fr⟩ else .inr (2, 2) := by
 have hp : K5 8 = 2 := rfl
 have hw : M6 8 = (0, 2, 2) := rfl
 unfold S5 A0D
 rw [hp, h, hw]
 by_cases hk : v0.k = 0 <;> by_cases hk1 : v1.k = 0 <;> simp [hk, hk1, mGo, A0C]
theorem A5V (h : s.st.drop (s.st.length - 2) = [v0, v1]) : S5 11 a s = .inl ⟨s.at' + 1, s.st.take (s.st.length - 2) ++ [.mk 3 0 [] [v0, v1]], s.env, s.fr⟩ := by
 have hp : K5 11 = 2 := rfl
 have hw : M6 11 = (0, 0, 0) := rfl
 unfold S5 A0D
 rw [hp, h, hw]
 simp [mGo, A0C]
theorem A4r (h : s.st.drop (s.st.length - 1) = [v0]) : S5 9 a s = if v0.k = 1 then .inl ⟨if v0.num = 0 then s.at' + 1 + a else s.at' + 1, s.st.take (s.st.length - 1), s.env, s.fr⟩ else .inr (2, 3) := by
 have hp : K5 9 = 1 := rfl
 have hw : M6 9 = (1, 1, 3) := rfl
 unfold S5 A0D
 rw [hp, h, hw]
 by_cases hk : v0.k = 1 <;> by_cases hn : v0.num = 0 <;> simp [hk, hn, mGo]
theorem A5W {k : Int} (hk : k = 12 ∨ k = 13) (h : s.st.drop (s.st.length - 1) = [v0]) : S5 k a s = if v0.k = 3 then .inl ⟨s.at' + 1, s.st.take (s.st.length - 1) ++ [v0.parts.getD (k - 12).toNat O6], s.env, s.fr⟩ else .inr (2, 4) := by
 rcases hk with rfl | rfl
 ·have hp : K5 12 = 1 := rfl
  have hw : M6 12 = (3, 1, 4) := rfl
  unfold S5 A0D
  rw [hp, h, hw]
  by_cases hk : v0.k = 3 <;> simp [hk, mGo, A0C]
 ·have hp : K5 13 = 1 := rfl
  have hw : M6 13 = (3, 1, 4) := rfl
  unfold S5 A0D
  rw [hp, h, hw]
  by_cases hk : v0.k = 3 <;> simp [hk, mGo, A0C]
theorem A21 {k : Int} (h : ¬(k = 6 ∨ k = 7 ∨ k = 8 ∨ k = 11)) (h2 : ¬(k = 9 ∨ k = 12 ∨ k = 13)) : S5 k a s = mGo k a { s with at' := s.at' + 1 } [] := by
 have hw : M6 k = (0, 0, 0) := by unfold M6; rw [if_neg (by omega), if_neg (by omega), if_neg (by omega), if_neg (by omega)]
 unfold S5 A0D
 rw [A5T h h2, hw]
 simp
theorem A5X : S5 1 a s = .inl ⟨s.at' + 1, s.st ++ [.mk 0 a [] []], s.env, s.fr⟩ := by rw [A21 (by omega) (by omega)]; rfl
theorem A5Y : S5 2 a s = .inl ⟨s.at' + 1, s.st ++ [.mk 1 a [] []], s.env, s.fr⟩ := by rw [A21 (by omega) (by omega)]; rfl
theorem A4s : S5 3 a s = if (s.env.length : Int) - 1 - a < 0 then .inr (3, 0) else .inl ⟨s.at' + 1, s.st ++ [s.env.getD ((s.env.length : Int) - 1 - a).toNat O6], s.env, s.fr⟩ := by rw [A21 (by omega) (by omega)]; rfl
theorem A5Z : S5 4 a s = .inl ⟨s.at' + 1 + a, s.st ++ [.mk 2 (s.at' + 1) s.env []], s.env, s.fr⟩ := by rw [A21 (by omega) (by omega)]; rfl
theorem A2s : S5 5 a s = if s.fr.length = 0 then .inr (3, 0) else .inl ⟨(s.fr.getD (s.fr.length - 1) (0, [])).1, s.st, (s.fr.getD (s.fr.length - 1) (0, [])).2, s.fr.take (s.fr.length - 1)⟩ := by rw [A21 (by omega) (by omega)]; rfl
theorem A50 : S5 10 a s = .inl ⟨s.at' + 1 + a, s.st, s.env, s.fr⟩ := by rw [A21 (by omega) (by omega)]; rfl
end
mutual
def MV.ok (n : Int) (N : Nat) : MV → Prop
 | .mk k num env parts => 0 ≤ k ∧ k ≤ 3 ∧ 0 ≤ num ∧ num ≤ 999 ∧ (k = 1 → num ≤ 1) ∧ (k = 2 → num ≤ n) ∧ (k = 3 → parts.length = 2) ∧ env.length ≤ N ∧ MV.okL n N env ∧ MV.okL n N parts
def MV.okL (n : Int) (N : Nat) : List MV → Prop
 | [] => True
 | v :: vs => v.ok n N ∧ MV.okL n N vs
end
mutual
theorem MV.ok.mono {n : Int} {N M : Nat} (hN : N ≤ M) : ∀ {v : MV}, v.ok n N → v.ok n M
 | .mk k num env parts, h => by
  simp only [MV.ok] at h ⊢
  obtain ⟨h1, h2, h3, h4, h5, h6, h7, h8, h9, h10⟩ := h
  exact ⟨h1, h2, h3, h4, h5, h6, h7, by omega, MV.okL.mono hN h9, MV.okL.mono hN h10⟩
theorem MV.okL.mono {n : Int} {N M : Nat} (hN : N ≤ M) : ∀ {vs : List MV}, MV.okL n N vs → MV.okL n M vs
 | [], h => by simp only [MV.okL]
 | v :: vs, h => by
  simp only [MV.okL] at h ⊢
  exact ⟨MV.ok.mono hN h.1, MV.okL.mono hN h.2⟩
end
theorem A51 {n : Int} {N : Nat} : ∀ {vs : List MV}, MV.okL n N vs ↔ ∀ v ∈ vs, v.ok n N
 | [] => by simp [MV.okL]
 | v :: vs => by simp only [MV.okL, A51 (vs := vs), List.forall_mem_cons]
theorem MV.ok.spec {n : Int} {N : Nat} {v : MV} (h : v.ok n N) : 0 ≤ v.k ∧ v.k ≤ 3 ∧ 0 ≤ v.num ∧ v.num ≤ 999 ∧ (v.k = 1 → v.num ≤ 1) ∧ (v.k = 2 → v.num ≤ n) ∧ (v.k = 3 → v.parts.length = 2) ∧ v.env.length ≤ N ∧ (∀ u ∈ v.env, u.ok n N) ∧ (∀ u ∈ v.parts, u.ok n N) := by
 obtain ⟨k, num, env, parts⟩ := v
 simp only [MV.ok, A51] at h
 exact h
theorem MV.ok.mk {n : Int} {N : Nat} {k num : Int} {env parts : List MV} (h1 : 0 ≤ k ∧ k ≤ 3) (h2 : 0 ≤ num ∧ num ≤ 999) (h3 : k = 1 → num ≤ 1) (h4 : k = 2 → num ≤ n) (h5 : k = 3 → parts.length = 2) (h6 : env.length ≤ N) (h7 : ∀ u ∈ env, u.ok n N) (h8 : ∀ u ∈ parts, u.ok n N) : (MV.mk k num env parts).ok n N := by
 simp only [MV.ok, A51]
 exact ⟨h1.1, h1.2, h2.1, h2.2, h3, h4, h5, h6, h7, h8⟩
structure K7.ok (n : Int) (N : Nat) (s : K7) : Prop where
 lo : 0 ≤ s.at'
 hi : s.at' ≤ n
 st : s.st.length ≤ N
 env : s.env.length ≤ N
 fr : s.fr.length ≤ N
 sto : ∀ v ∈ s.st, v.ok n N
 envo : ∀ v ∈ s.env, v.ok n N
 fro : ∀ f ∈ s.fr, 0 ≤ f.1 ∧ f.1 ≤ n ∧ f.2.length ≤ N ∧ ∀ v ∈ f.2, v.ok n N
theorem A3K {l : List MV} (h : 2 ≤ l.length) : ∃ v0 v1, l.drop (l.length - 2) = [v0, v1] ∧ v0 ∈ l ∧ v1 ∈ l := by
 have hl : (l.drop (l.length - 2)).length = 2 := by rw [List.length_drop]; omega
 match hd : l.drop (l.length - 2), hl with
 | [v0, v1], _ => exact ⟨v0, v1, rfl, List.mem_of_mem_drop (i := l.length - 2) (by rw [hd]; simp), List.mem_of_mem_drop (i := l.length - 2) (by rw [hd]; simp)⟩
theorem A52 {l : List MV} (h : 1 ≤ l.length) : ∃ v0, l.drop (l.length - 1) = [v0] ∧ v0 ∈ l := by
 have hl : (l.drop (l.length - 1)).length = 1 := by rw [List.length_drop]; omega
 match hd : l.drop (l.length - 1), hl with
 | [v0], _ => exact ⟨v0, rfl, List.mem_of_mem_drop (i := l.length - 1) (by rw [hd]; simp)⟩
theorem A4t {α : Type} {l : List α} {d : α} {i : Nat} (h : i < l.length) : l.getD i d ∈ l := by
 rw [List.getD_eq_getElem?_getD, List.getElem?_eq_getElem h, Option.getD_some]; exact List.getElem_mem h
theorem A18 {α : Type} {l : List α} {d : α} {i : Nat} (h : i < l.length) : l[i]? = some (l.getD i d) := by
 rw [List.getD_eq_getElem?_getD, List.getElem?_eq_getElem h, Option.getD_some]
theorem A3L {n : Nat} {i : Nat} {k a : Int} (h : M3 n i (k, a) = true) (hi : i < n) : 1 ≤ k ∧ k ≤ 13 ∧ 0 ≤ a ∧ a ≤ 4294967296 + (n : Int) ∧ (k = 1 → a ≤ 999) ∧ (k = 2 → a ≤ 1) ∧ (k = 3 → a ≤ 11) ∧ (k = 4 ∨ k = 9 ∨ k = 10 → (i : Int) + 1 + a ≤ n) := by
 unfold M3 O8 at h
 rw [decide_eq_true_eq] at h
 dsimp only at h
 obtain ⟨h1, h2, h3, h4⟩ := h
 refine ⟨h1, h2, h3, ?_, ?_, ?_, ?_, ?_⟩ <;> (repeat' split at h4) <;> omega
theorem A8x {n : Nat} {N : Nat} {k a : Int} {s s' : K7} (hn : n ≤ 120) (hs : s.ok n N) (hlt : s.at' < n) (ho : M3 n s.at'.toNat (k, a) = true) (h : M2 k a s = .inl s') : s'.ok n (N + 1) := by
 obtain ⟨k1, k2, a1, a2, b1, b2, b3, b4⟩ := A3L ho (by have := hs.lo; omega)
 have hlo := hs.lo; have hst := hs.st; have henv := hs.env; have hfr := hs.fr
 have at0 : (s.at'.toNat : Int) = s.at' := by omega
 rw [at0] at b4
 have stm : ∀ v ∈ s.st, v.ok n (N + 1) := fun v hv => (hs.sto v hv).mono (by omega)
 have envm : ∀ v ∈ s.env, v.ok n (N + 1) := fun v hv => (hs.envo v hv).mono (by omega)
 have frm : ∀ f ∈ s.fr, 0 ≤ f.1 ∧ f.1 ≤ n ∧ f.2.length ≤ N + 1 ∧ ∀ v ∈ f.2, v.ok n (N + 1) := fun f hf => by
  obtain ⟨c1, c2, c3, c4⟩ := hs.fro f hf
  exact ⟨c1, c2, by omega, fun v hv => (c4 v hv).mono (by omega)⟩
 have stt : ∀ m, ∀ v ∈ s.st.take m, v.ok n (N + 1) := fun m v hv => stm v (List.mem_of_mem_take hv)
 have tl : ∀ m, (s.st.take m).length ≤ N := fun m => by rw [List.length_take]; omega
 have push : ∀ {m v}, v.ok n (N + 1) → ∀ u ∈ s.st.take m ++ [v], u.ok n (N + 1) := fun hv => A1f (stt _) hv
 by_cases hf : s.st.length < K5 k
 ·rw [A3J hf] at h; cases h
 rw [X3 hf] at h
 have hkk : k = 1 ∨ k = 2 ∨ k = 3 ∨ k = 4 ∨ k = 5 ∨ k = 6 ∨ k = 7 ∨ k = 8 ∨ k = 9 ∨ k = 10 ∨ k = 11 ∨ (k = 12 ∨ k = 13) := by omega
 rcases hkk with rfl | rfl | rfl | rfl | rfl | rfl | rfl | rfl | rfl | rfl | rfl | hk
 ·rw [A5X] at h; cases h
  exact ⟨by dsimp only; omega, by dsimp only; omega, by simp; omega, by dsimp only; omega, by dsimp only; omega, A1f stm (MV.ok.mk (by omega) (by omega) (by omega) (by omega) (by omega) (by simp) (by simp) (by simp)), envm, frm⟩
 ·rw [A5Y] at h; cases h
  exact ⟨by dsimp only; omega, by dsimp only; omega, by simp; omega, by dsimp only; omega, by dsimp only; omega, A1f stm (MV.ok.mk (by omega) (by omega) (by omega) (by omega) (by omega) (by simp) (by simp) (by simp)), envm, frm⟩
 ·rw [A4s] at h
  split at h
  ·cases h
  ·cases h
   exact ⟨by dsimp only; omega, by dsimp only; omega, by simp; omega, by dsimp only; omega, by dsimp only; omega, A1f stm (envm _ (A4t (by omega))), envm, frm⟩
 ·rw [A5Z] at h; cases h
  exact ⟨by dsimp only; omega, by dsimp only; omega, by simp; omega, by dsimp only; omega, by dsimp only; omega, A1f stm (MV.ok.mk (by omega) (by omega) (by omega) (by omega) (by omega) (by omega) envm (by simp)), envm, frm⟩
 ·rw [A2s] at h
  split at h
  ·cases h
  ·cases h
   obtain ⟨c1, c2, c3, c4⟩ := frm _ (A4t (d := (0, [])) (i := s.fr.length - 1) (by omega))
   exact ⟨c1, c2, by dsimp only; omega, c3, by simp; omega, stm, c4, fun f hf => frm f (List.mem_of_mem_take hf)⟩
 ·obtain ⟨v0, v1, hd, m0, m1⟩ := A3K (l := s.st) (by have : K5 6 = 2 := rfl; omega)
  rw [A4p hd] at h
  split at h
  ·cases h
   obtain ⟨c1, c2, c3, c4, c5, c6, c7, c8, c9, c10⟩ := (hs.sto _ m0).spec
   refine ⟨c3, c6 (by assumption), by have := tl (s.st.length - 2); dsimp only; omega, by simp; omega, by simp; omega, stt _, ?_, ?_⟩
   ·exact A1f (fun u hu => (c9 u hu).mono (by omega)) (stm _ m1)
   ·exact A1f frm ⟨by dsimp only; omega, by dsimp only; omega, by dsimp only; omega, envm⟩
  ·cases h
 ·obtain ⟨v0, v1, hd, m0, m1⟩ := A3K (l := s.st) (by have : K5 7 = 2 := rfl; omega)
  rw [A5U hd] at h
  split at h
  ·cases h
   obtain ⟨c1, c2, c3, c4, _⟩ := (hs.sto _ m0).spec
   obtain ⟨e1, e2, e3, e4, _⟩ := (hs.sto _ m1).spec
   exact ⟨by dsimp only; omega, by dsimp only; omega, by simp; omega, by dsimp only; omega, by dsimp only; omega, push (MV.ok.mk (by omega) (by omega) (by omega) (by omega) (by omega) (by simp) (by simp) (by simp)), envm, frm⟩
  ·cases h
 ·obtain ⟨v0, v1, hd, m0, m1⟩ := A3K (l := s.st) (by have : K5 8 = 2 := rfl; omega)
  rw [A4q hd] at h
  split at h
  ·cases h
   have hb : 0 ≤ (if v0.num < v1.num then (1 : Int) else 0) ∧ (if v0.num < v1.num then (1 : Int) else 0) ≤ 1 := by split <;> omega
   exact ⟨by dsimp only; omega, by dsimp only; omega, by simp; omega, by dsimp only; omega, by dsimp only; omega, push (MV.ok.mk (by omega) (by omega) (by omega) (by omega) (by omega) (by simp) (by simp) (by simp)), envm, frm⟩
  ·cases h
 ·obtain ⟨v0, hd, m0⟩ := A52 (l := s.st) (by have : K5 9 = 1 := rfl; omega)
  rw [A4r hd] at h
  split at h
  ·cases h
   exact ⟨by dsimp only; split <;> omega, by dsimp only; split <;> omega, by have := tl (s.st.length - 1); dsimp only; omega, by dsimp only; omega, by dsimp only; omega, stt _, envm, frm⟩
  ·cases h
 ·rw [A50] at h; cases h
  exact ⟨by dsimp only; omega, by dsimp only; omega, by dsimp only; omega, by dsimp only; omega, by dsimp only; omega, stm, envm, frm⟩
 ·obtain ⟨v0, v1, hd, m0, m1⟩ := A3K (l := s.st) (by have : K5 11 = 2 := rfl; omega)
  rw [A5V hd] at h; cases h
  exact ⟨by dsimp only; omega, by dsimp only; omega, by simp; omega, by dsimp only; omega, by dsimp only; omega, push (MV.ok.mk (by omega) (by omega) (by omega) (by omega) (by simp) (by simp) (by simp) (by simp [stm _ m0, stm _ m1])), envm, frm⟩
 ·obtain ⟨v0, hd, m0⟩ := A52 (l := s.st) (by have : K5 k = 1 := A5S (by omega); omega)
  rw [A5W hk hd] at h
  split at h
  ·cases h
   obtain ⟨c1, c2, c3, c4, c5, c6, c7, c8, c9, c10⟩ := (hs.sto _ m0).spec
   have c7' := c7 (by assumption)
   exact ⟨by dsimp only; omega, by dsimp only; omega, by simp; omega, by dsimp only; omega, by dsimp only; omega, push ((c10 _ (A4t (by omega))).mono (by omega)), envm, frm⟩
  ·cases h
section
variable {ops : List (Int × Int)} {t : Nat} {s s' : K7}
theorem A53 (h : (ops.length : Int) ≤ s.at') : E8 ops t s = A1g s := by cases t <;> rw [E8, if_pos h]
theorem B2L (h : ¬(ops.length : Int) ≤ s.at') : E8 ops 0 s = (⟨#[]⟩, 5, 0) := by rw [E8, if_neg h]
theorem B2M (h : ¬(ops.length : Int) ≤ s.at') (hs : M2 (ops.getD s.at'.toNat (0, 0)).1 (ops.getD s.at'.toNat (0, 0)).2 s = .inl s') : E8 ops (t + 1) s = E8 ops t s' := by rw [E8, if_neg h]; simp only [hs]
theorem B2N {c e : Int} (h : ¬(ops.length : Int) ≤ s.at') (hs : M2 (ops.getD s.at'.toNat (0, 0)).1 (ops.getD s.at'.toNat (0, 0)).2 s = .inr (c, e)) : E8 ops (t + 1) s = (⟨#[]⟩, c, e) := by rw [E8, if_neg h]; simp only [hs]
end
theorem B2O {k a : Int} {s : K7} {v : List MV} {x : Int × Int} (h : mGo k a s v = .inr x) : x = (3, 0) := by
 unfold mGo at h
 by_cases h1 : k = 1
 ·rw [if_pos h1] at h
  cases h
 rw [if_neg h1] at h
 by_cases h2 : k = 2
 ·rw [if_pos h2] at h
  cases h
 rw [if_neg h2] at h
 by_cases h3 : k = 3
 ·rw [if_pos h3] at h
  split at h <;> cases h
  rfl
 rw [if_neg h3] at h
 by_cases h4 : k = 4
 ·rw [if_pos h4] at h
  cases h
 rw [if_neg h4] at h
 by_cases h5 : k = 5
 ·rw [if_pos h5] at h
  split at h <;> cases h
  rfl
 rw [if_neg h5] at h
 by_cases h6 : k = 6
 ·rw [if_pos h6] at h
  cases h
 rw [if_neg h6] at h
 by_cases h7 : k = 7
 ·rw [if_pos h7] at h
  cases h
 rw [if_neg h7] at h
 by_cases h8 : k = 8
 ·rw [if_pos h8] at h
  cases h
 rw [if_neg h8] at h
 by_cases h9 : k = 9
 ·rw [if_pos h9] at h
  cases h
 rw [if_neg h9] at h
 by_cases h10 : k = 10
 ·rw [if_pos h10] at h
  cases h
 rw [if_neg h10] at h
 by_cases h11 : k = 11
 ·rw [if_pos h11] at h
  cases h
 rw [if_neg h11] at h
 cases h
theorem B2P {k a : Int} {s : K7} {c e : Int} (h : M2 k a s = .inr (c, e)) : c = 2 ∨ c = 3 := by
 unfold M2 at h
 split at h
 ·cases h; omega
 ·split at h
  ·have := B2O h; cases this; omega
  ·cases h; omega
theorem B2Q (n : Nat) : K7.ok (n : Int) 0 ⟨0, [], [], []⟩ := ⟨by simp, by simp, by simp, by simp, by simp, by simp, by simp, by simp⟩
structure A4u {ι : Type} (S : ι → Sy) (φ : ι → Prop) (e : Exit) (σ : Sy) : Prop where
 run : match e with
  | .normal => ∃ i, φ i ∧ Sub σ (S i)
  | _ => False
section cut
variable {P : Program} {Γ : J1} {K : Po} {σ : Sy} {ι : Type}
theorem A0i {c y : Code} (S : ι → Sy) (φ : ι → Prop) (h : I6 P Γ c (A4u S φ) σ) (k : ∀ i, φ i → I6 P Γ y K (S i)) : I6 P Γ c (A01 P Γ y K) σ := by
 refine tri_post h ?_
 rintro e σ ⟨hk⟩
 cases e with
 | normal => obtain ⟨i, hi, hs⟩ := hk; exact ⟨A7a hs (k i hi)⟩
 | _ => exact hk.elim
where
 tri_post {c : Code} {K K' : Po} {σ : Sy} (h : I6 P Γ c K σ) (hk : ∀ e σ, K e σ → K' e σ) : I6 P Γ c K' σ := A5c h hk
theorem P0 {S : ι → Sy} {φ : ι → Prop} {σ : Sy} (i : ι) (hs : Sub σ (S i)) (h : φ i) : A4u S φ .normal σ := ⟨⟨i, h, hs⟩⟩
theorem B2R {S : ι → Sy} {φ : ι → Prop} : Y6 (A4u S φ) := fun _ _ h => h.run
instance npC5 {S : ι → Sy} {φ : ι → Prop} : NpC (A4u S φ) := ⟨B2R⟩
end cut
def O4 : Ty := .mk 1 []
def P6 : Nat → Ty → Prop
 | 0, .mk k ks => ks = [] ∧ k ≠ 4 ∧ k ≠ 5
 | n + 1, .mk k ks => (k = 4 ∨ k = 5 → ks.length = 2) ∧ (k ≠ 4 → k ≠ 5 → ks.length = 0) ∧ ∀ t ∈ ks, P6 n t
mutual
def H4 : Ty → Prop
 | .mk k ks => (k = 4 ∨ k = 5 → ks.length = 2) ∧ (k ≠ 4 → k ≠ 5 → ks.length = 0) ∧ A0Q ks
def A0Q : List Ty → Prop
 | [] => True
 | t :: ts => H4 t ∧ A0Q ts
end
theorem A3M : ∀ {ts : List Ty}, A0Q ts ↔ ∀ t ∈ ts, H4 t
 | [] => by simp [A0Q]
 | t :: ts => by simp only [A0Q, A3M (ts := ts), List.forall_mem_cons]
theorem P6.ar : ∀ {n : Nat} {t : Ty}, P6 n t → H4 t
 | 0, .mk k ks, h => by
  obtain ⟨rfl, h1, h2⟩ := h
  rw [H4]
  exact ⟨fun h => by omega, fun _ _ => rfl, by rw [A0Q]; trivial⟩
 | n + 1, .mk k ks, h => by
  obtain ⟨h1, h2, h3⟩ := h
  rw [H4]
  exact ⟨h1, h2, A3M.2 fun t ht => (h3 t ht).ar⟩
theorem P6.up : ∀ {n : Nat} {t : Ty}, P6 n t → P6 (n + 1) t
 | 0, .mk k ks, h => by
  obtain ⟨rfl, h1, h2⟩ := h
  exact ⟨fun h => by omega, fun _ _ => rfl, by simp⟩
 | n + 1, .mk k ks, h => by
  obtain ⟨h1, h2, h3⟩ := h
  exact ⟨h1, h2, fun t ht => (h3 t ht).up⟩
theorem P6.le {n m : Nat} {t : Ty} (h : P6 n t) (hm : n ≤ m) : P6 m t := by
 induction hm with
 | refl => exact h
 | step _ ih => exact ih.up
theorem B2S {d : Nat} {k : Int} {ts : List Ty} (h0 : d = 0 → k < 4) (hl : (ts.length : Int) = U5 k) (h1 : 1 ≤ k) (h5 : k ≤ 5) (ha : ∀ u ∈ ts, P6 (d - 1) u) : P6 d (.mk k ts) := by
 have hk : k = 1 ∨ k = 2 ∨ k = 3 ∨ k = 4 ∨ k = 5 := by omega
 cases d with
 | zero =>
  have hk4 := h0 rfl
  refine ⟨?_, by omega, by omega⟩
  have : U5 k = 0 := by
   rcases hk with rfl | rfl | rfl | rfl | rfl <;> first | rfl | omega
  exact List.length_eq_zero_iff.1 (by omega)
 | succ d =>
  refine ⟨?_, ?_, ha⟩
  ·rintro (rfl | rfl)
   ·have : U5 4 = 2 := rfl
    omega
   ·have : U5 5 = 2 := rfl
    omega
  ·intro h4 h5
   have : U5 k = 0 := by
    rcases hk with rfl | rfl | rfl | rfl | rfl <;> first | rfl | omega
   omega
theorem A8y (n : Nat) : P6 n O4 := by
 refine P6.le (n := 0) ⟨rfl, by decide, by decide⟩ (Nat.zero_le n)
theorem A22 (n : Nat) {k : Int} (h4 : k ≠ 4) (h5 : k ≠ 5) : P6 n (.mk k []) := P6.le (n := 0) ⟨rfl, h4, h5⟩ (Nat.zero_le n)
theorem A54 : H4 O4 := (A8y 0).ar
mutual
theorem H4.small : ∀ {t : Ty}, H4 t → t.small
 | .mk k ks, h => by
  rw [H4] at h
  rw [Ty.small]
  exact ⟨by have h1 := h.1; have h2 := h.2.1; omega, A0Q.small h.2.2⟩
theorem A0Q.small : ∀ {ts : List Ty}, A0Q ts → Ty.smallL ts
 | [], _ => by rw [Ty.smallL]; trivial
 | t :: ts, h => by
  rw [A0Q] at h
  rw [Ty.smallL]
  exact ⟨h.1.small, A0Q.small h.2⟩
end
theorem A4v : ∀ {n : Nat} {t : Ty}, P6 n t → K0 t ≤ ((2 ^ (n + 1) - 2 : Nat) : Int)
 | 0, .mk k ks, h => by
  obtain ⟨rfl, h1, h2⟩ := h
  rw [K0, N9]; simp
 | n + 1, .mk k ks, h => by
  obtain ⟨h1, h2, h3⟩ := h
  have hp : 2 ≤ 2 ^ (n + 1) := by
   have := Nat.pow_le_pow_right (n := 2) (by omega) (show 1 ≤ n + 1 by omega)
   simpa using this
  have e : 2 ^ (n + 1 + 1) = 2 ^ (n + 1) * 2 := Nat.pow_succ ..
  have hl : ks.length = 0 ∨ ks.length = 2 := by omega
  rw [K0]
  match ks, hl, h3 with
  | [], _, _ => rw [N9]; simp
  | [a, b], _, h3 =>
   have := A4v (h3 a (by simp))
   have := A4v (h3 b (by simp))
   simp only [N9, List.length_cons, List.length_nil]; omega
theorem B2T {k : Int} {ks us : List Ty} : ∀ {n : Nat}, P6 n (.mk k ks) → us.length = ks.length → (∀ u ∈ us, P6 (n - 1) u) → P6 n (.mk k us)
 | 0, h, hl, _ => by
  obtain ⟨rfl, h1, h2⟩ := h
  exact ⟨List.length_eq_zero_iff.1 (by simpa using hl), h1, h2⟩
 | n + 1, h, hl, hu => by
  obtain ⟨h1, h2, h3⟩ := h
  exact ⟨fun hk => by rw [hl]; exact h1 hk, fun a b => by rw [hl]; exact h2 a b, hu⟩
theorem A55 {k : Int} {ks : List Ty} {t : Ty} : ∀ {n : Nat}, P6 n (.mk k ks) → t ∈ ks → P6 (n - 1) t
 | 0, h, ht => by
  obtain ⟨rfl, h1, h2⟩ := h
  simp at ht
 | n + 1, h, ht => h.2.2 t ht
section take
variable {P : Program} {Γ : J1} {env : J5} {hp : List A4} {G : IM} {K : Po} {ops : Array Oper} {rest : List Oper} {ty : TypeId} {pos : String} {af : Array Edge} {gd : Option (Nat × Bool)}
theorem D2 {d : Nat} {f : FuncId} [hF : B3 P f] {xs : List Operand} {ats : Array TypeId} {vs : List Value} {ins rst : List A4} {post : IM → Value → List A4 → Prop}
  (hx : evl env xs = some vs) (h : Fn P f vs ins G post) (hp' : hp.Perm (ins ++ rst)) (hw : K8 ops env gd = some true) (hd : Nat.blt d Γ.n = true)
  (k : ∀ v G' outs, B4 G G' → post G' v outs → F9 P Γ ops rest K ⟨(d, v) :: env, outs ++ rst, G'⟩) : F9 P Γ ops (⟨some d, .call ⟨.value (.func f), ⟨xs⟩, ats⟩, ty, pos, af, gd⟩ :: rest) K ⟨env, hp, G⟩ :=
 E0 (A2l hx h hp' hd) hw (by rintro _ ⟨v, G', outs, rfl, hle, hq⟩; exact k v G' outs hle hq)
end take
theorem A0b (G : IM) (br : Nat) (pb : Option Addr) (nb cb p : Nat) (bs : List UInt8) (q : Option Addr) (n c : Nat) (xs : List Value) (hb : Sl G pb nb cb 1 (N1 bs)) (hnb : nb ≤ 2000) (hp : p < 1099511627776) (hx : Sl G q n c 1 xs) (hn : 0 < n) :
  Fn Tryz.prog 99 [.pointer (some ⟨br, 0, none⟩), .slice q n c] [rd br pb nb cb p] G (fun G' v outs => G' = G ∧ outs = [rd br pb nb cb (p + 1)] ∧ v ∈ xs) := by
 refine B7 Tryz.func99 rfl Tryz.ntmps99 Tryz.results99 rfl ?_
 intro w0
 refine tS (tR (sQ (qA rfl) rfl (sD (nS (tS (tR (sQ (qM rfl) rfl (sQ (qM rfl) rfl (sQ (qM rfl) rfl (sQ (D8 rfl rfl) rfl ?_))))))))))
 (refine D2 rfl (X2 G br pb nb cb p bs (n : Int) hb hnb hp) (List.Perm.refl _) rfl rfl (fun v G1 outs hle1 hh => ?_); obtain ⟨rfl, rfl, k, rfl, hk0, hkn⟩ := hh; obtain ⟨j, rfl⟩ := Int.eq_ofNat_of_zero_le hk0)
 (obtain ⟨b, o, v, rfl, hv, hat, _⟩ := hx.kid (i := j) (by omega); refine sP (C2 rfl rfl rfl (by omega)) rfl rfl ?_)
 refine sL (Q2 rfl rfl (hat _)) rfl rfl ?_
 refine sQ (qA rfl) rfl (sD (nS (tT ?_)))
 refine E5 (rT rfl) A0.refl ?_
 exact ⟨rfl, rfl, List.mem_of_getElem? hv⟩
theorem A56 (G : IM) (br : Nat) (pb : Option Addr) (nb cb p : Nat) (bs : List UInt8) (q : Option Addr) (n c : Nat) (xs : List Value) (hb : Sl G pb nb cb 1 (N1 bs)) (hnb : nb ≤ 2000) (hp : p < 1099511627776) (hx : Sl G q n c 1 xs) (hn : 0 < n) :
  Fn Tryz.prog 96 [.pointer (some ⟨br, 0, none⟩), .slice q n c] [rd br pb nb cb p] G (fun G' v outs => G' = G ∧ outs = [rd br pb nb cb (p + 1)] ∧ v ∈ xs) := by
 refine B7 Tryz.func96 rfl Tryz.ntmps96 Tryz.results96 rfl ?_
 intro w0
 refine tS (tR (sQ (qA rfl) rfl (sD (nS (tS (tR (sQ (qM rfl) rfl (sQ (qM rfl) rfl (sQ (qM rfl) rfl (sQ (D8 rfl rfl) rfl ?_))))))))))
 (refine D2 rfl (X2 G br pb nb cb p bs (n : Int) hb hnb hp) (List.Perm.refl _) rfl rfl (fun v G1 outs hle1 hh => ?_); obtain ⟨rfl, rfl, k, rfl, hk0, hkn⟩ := hh; obtain ⟨j, rfl⟩ := Int.eq_ofNat_of_zero_le hk0)
 (obtain ⟨b, o, v, rfl, hv, hat, _⟩ := hx.kid (i := j) (by omega); refine sP (C2 rfl rfl rfl (by omega)) rfl rfl ?_)
 refine sL (Q2 rfl rfl (hat _)) rfl rfl ?_
 refine sQ (qA rfl) rfl (sD (nS (tT ?_)))
 refine E5 (rT rfl) A0.refl ?_
 exact ⟨rfl, rfl, List.mem_of_getElem? hv⟩
theorem A1Q (G : IM) : Fn Tryz.prog 116 [] [] G (H3 (.agg ⟨[.int .i64 1, .slice none 0 0]⟩) G) := by
 refine B7 Tryz.func116 rfl Tryz.ntmps116 Tryz.results116 rfl ?_
 intro w0
 refine tS (tR ?_)
 refine sE (B6 rfl) rfl (fun b3 => ?_)
 refine sD (nS (tS (tR (sQ (D9 rfl rfl) rfl (B9 ?_)))))
 refine sD (nS (tT ?_))
 refine A6 (rC rfl (A7 rfl rfl)) ?_
 exact ⟨rfl, rfl, rfl⟩
def dB : Nat → Nat
 | 0 => 0
 | d + 1 => 2 * dB d + 2
theorem B2U {d : Nat} (h : d ≤ 3) : dB (d + 1) ≤ 30 := by
 have : d = 0 ∨ d = 1 ∨ d = 2 ∨ d = 3 := by omega
 rcases this with rfl | rfl | rfl | rfl <;> decide
theorem B2V (k : Int) : U5 k ≤ 2 := by
 unfold U5; split <;> try split
 all_goals omega
theorem A4w : ∀ (ts : List Ty) (t : Ty), N9 (ts ++ [t]) = N9 ts + K0 t
 | [], t => by simp [N9]
 | a :: ts, t => by simp only [List.cons_append, N9, A4w ts t]; omega
theorem F8.ty {G : IM} {k : Int} {ts : List Ty} {es : List (List Value)} {p : Option Addr} {n c : Nat} (h : F8 G ts es) (hn : ts.length = n) (hs : Sl G p n c 2 es.flatten) (hk : C6 k) : C3 G (.mk k ts) [.int .i64 k, .slice p n c] := by
 subst hn
 simp only [C3]
 exact ⟨p, c, es, rfl, hk, C5.of hs h.len h.all (fun e he => (h.each e he).2), h⟩
theorem A3N (br : Nat) (pb : Option Addr) (nb cb : Nat) (bs : List UInt8) (hnb : nb ≤ 2000) : ∀ (d p : Nat) (G : IM), d ≤ 1000 → Sl G pb nb cb 1 (N1 bs) → p + dB (d + 1) < 1099511627776 →
  Fn Tryz.prog 111 [.pointer (some ⟨br, 0, none⟩), .int .i64 ((d + 1 : Nat) : Int)] [rd br pb nb cb p] G
   (A0q br pb nb cb p (dB (d + 1)) (fun G' v => ∃ t cells, v = .agg ⟨cells⟩ ∧ C3 G' t cells ∧ K0 t ≤ ((dB (d + 1) : Nat) : Int) ∧ P6 d t)) := by
 refine fun d => Nat.strongRecOn d fun d ih p G hd hb hp => ?_
 rw [dB] at hp ⊢
 refine B7 Tryz.func111 rfl Tryz.ntmps111 Tryz.results111 rfl ?_
 intro w0
 refine tS (tR ?_)
 refine sE (B6 rfl) rfl (fun b3 => ?_)
 refine sD (nS (tS (tR (sQ (qM rfl) rfl ?_))))
 (refine E0 (D0 rfl rfl rfl (by omega) (by unfold maxLen; omega) rfl) rfl ?_; rintro _ ⟨b9, rfl⟩)
 (refine Q8 (by repeat (first | exact Pk.here | apply Pk.there)) (fun G1 hle1 hsl1 _ => ?_); refine D2 rfl (A0b G1 br pb nb cb p bs _ _ _ _ (hb.mono hle1) hnb (by omega) hsl1 (by decide)) (Pk.perm (by repeat (first | exact Pk.here | apply Pk.there))) rfl rfl (fun v G2 outs hle2 hh => ?_); obtain ⟨rfl, rfl, hv⟩ := hh; replace hb := hb.mono hle1; obtain ⟨k, rfl, hk1⟩ : ∃ k, v = .int .i64 k ∧ 1 ≤ k ∧ k ≤ 5 := (by simp only [List.mem_cons, List.not_mem_nil, or_false] at hv; rcases hv with rfl | rfl | rfl | rfl | rfl | rfl | rfl <;> exact ⟨_, rfl, by decide, by decide⟩))
 refine sQ (qA rfl) rfl (sD (nS (tS (tS ?_))))
 (have hv' := hv; refine A0i (fun (x : Bool) => ⟨(16, .bool x) :: [(5, .int .i64 k), (4, .pointer (some ⟨b3, 0, none⟩)), (0, .pointer (some ⟨br, 0, none⟩)), (1, .int .i64 ((d + 1 : Nat) : Int))], [rd br pb nb cb (p + 1), .blk b3 [.int .i64 0, .slice none 0 0]], G2⟩) (fun x => x = false → d = 0 → k < 4) ?_ ?_)
 refine tR (sQ (qM rfl) rfl ?_)
 refine sB (J3 rfl rfl) rfl rfl (fun h19 => ?_) (fun h19 => ?_)
 refine sQ (qM rfl) rfl (sQ (qM rfl) rfl ?_)
 refine sB (Y0 rfl rfl) rfl rfl (fun h22 => ?_) (fun h22 => ?_)
 refine sQ (C1 rfl rfl) rfl (sD ?_)
 refine P0 true (O2 (by repeat (first | exact E4.nil | refine E4.cons rfl ?_)) (by repeat (first | exact A0.refl | exact A0.nil | refine A0.cons (by repeat (first | exact Pk.here | apply Pk.there)) ?_ | apply A0.drop))) ?_
 (show _ = false → d = 0 → k < 4; intro hf h0; first | exact absurd hf (by decide) | omega)
 refine sQ (C1 rfl rfl) rfl (sD ?_)
 refine P0 false (O2 (by repeat (first | exact E4.nil | refine E4.cons rfl ?_)) (by repeat (first | exact A0.refl | exact A0.nil | refine A0.cons (by repeat (first | exact Pk.here | apply Pk.there)) ?_ | apply A0.drop))) ?_
 (show _ = false → d = 0 → k < 4; intro hf h0; first | exact absurd hf (by decide) | omega)
 refine sQ (qM rfl) rfl (sK rfl rfl (sK rfl rfl (sQ (D7 rfl rfl) rfl (sD ?_))))
 refine P0 false (O2 (by repeat (first | exact E4.nil | refine E4.cons rfl ?_)) (by repeat (first | exact A0.refl | exact A0.nil | refine A0.cons (by repeat (first | exact Pk.here | apply Pk.there)) ?_ | apply A0.drop))) ?_
 (show _ = false → d = 0 → k < 4; intro hf h0; first | exact absurd hf (by decide) | omega)
 (rintro x hx; clear hv)
 (show I6 _ _ (.cond (.tmp 16) _ _) _ _; refine A0i (fun (x : Int) => ⟨[(5, .int .i64 x), (4, .pointer (some ⟨b3, 0, none⟩)), (0, .pointer (some ⟨br, 0, none⟩)), (1, .int .i64 ((d + 1 : Nat) : Int))], [rd br pb nb cb (p + 1), .blk b3 [.int .i64 0, .slice none 0 0]], G2⟩) (fun x => 1 ≤ x ∧ x ≤ 5 ∧ (d = 0 → x < 4)) (A3l rfl (fun hxt => ?_) (fun hxf => ?_)) ?_)
 refine tR (sQ (qA rfl) rfl (sD ?_))
 refine P0 1 (O2 (by repeat (first | exact E4.nil | refine E4.cons rfl ?_)) (by repeat (first | exact A0.refl | exact A0.nil | refine A0.cons (by repeat (first | exact Pk.here | apply Pk.there)) ?_ | apply A0.drop))) ?_
 (first | exact ⟨by omega, by omega, by omega⟩ | exact ⟨by omega, by omega, fun h0 => by have := hx hxf h0; omega⟩)
 refine tK ?_
 refine P0 k (O2 (by repeat (first | exact E4.nil | refine E4.cons rfl ?_)) (by repeat (first | exact A0.refl | exact A0.nil | refine A0.cons (by repeat (first | exact Pk.here | apply Pk.there)) ?_ | apply A0.drop))) ?_
 (first | exact ⟨by omega, by omega, by omega⟩ | exact ⟨by omega, by omega, fun h0 => by have := hx hxf h0; omega⟩)
 (rintro kk ⟨hk2, hk3, hk4⟩; have hop := B2V kk; have hk5 := (L9 kk).1; have hk6 := (L9 kk).2.1; have hK := A8j kk)
 refine tS (tR (sQ (qM rfl) rfl (sQ (D9 rfl rfl) rfl ?_)))
 refine sE (B6 rfl) rfl (fun b53 => ?_)
 refine B9 ?_
 refine sD (nS (tS (tS (tR (sQ (qA rfl) rfl (sD (nS ?_)))))))
 refine B5 ?_
 (refine W1 25 2 ?_; refine K4 (fun (x : Nat × Option Addr × Nat × List Ty × List (List Value) × Nat × IM) => ⟨[(7, .int .i64 x.1), (5, .int .i64 kk), (6, .pointer (some ⟨b53, 0, none⟩)), (4, .pointer (some ⟨b3, 0, none⟩)), (0, .pointer (some ⟨br, 0, none⟩)), (1, .int .i64 ((d + 1 : Nat) : Int))], [.blk b53 [.int .i64 kk, .slice x.2.1 x.1 x.2.2.1], .slc x.2.1 x.2.2.1 25 2 x.1 x.2.2.2.2.1.flatten, rd br pb nb cb x.2.2.2.2.2.1, .blk b3 [.int .i64 0, .slice none 0 0]], x.2.2.2.2.2.2⟩) (fun x => (∀ u ∈ x.2.2.2.1, P6 (d - 1) u) ∧ (x.1 : Int) ≤ U5 kk ∧ B4 G2 x.2.2.2.2.2.2 ∧ x.2.2.2.1.length = x.1 ∧ F8 x.2.2.2.2.2.2 x.2.2.2.1 x.2.2.2.2.1 ∧ N9 x.2.2.2.1 ≤ ((x.1 * dB d : Nat) : Int) ∧ p + 1 ≤ x.2.2.2.2.2.1 ∧ x.2.2.2.2.2.1 ≤ p + 1 + x.1 * dB d) (fun x => (U5 kk).toNat - x.1) (0, none, 0, [], [], p + 1, G2) ?_ ?_ ?_)
 (simp only [E2]; exact C9)
 (exact ⟨by simp, by dsimp only; omega, B4.refl _, rfl, by simp [F8], by simp [N9], by dsimp only; omega, by dsimp only; omega⟩)
 (rintro ⟨i, pn, cn, ts, es', p', Gi⟩ ⟨hah, hi, hle, hlt, hst, hsum, hq1, hq2⟩; simp only [] at hah hi hle hlt hst hsum hq1 hq2 ⊢; have hid : i * dB d ≤ 2 * dB d := Nat.mul_le_mul_right _ (by omega))
 refine tS (tS (tR (sQ (qM rfl) rfl (sQ (qM rfl) rfl ?_))))
 refine F0 rfl ((hK _)) rfl rfl ?_
 refine sB (J3 rfl rfl) rfl rfl (fun h74 => ?_) (fun h74 => ?_)
 refine sD (nS (qT rfl (tK (nS (tS ?_)))))
 refine B5 ?_
 (obtain ⟨d', rfl⟩ : ∃ d', d = d' + 1 := ⟨d - 1, by omega⟩; have hih := ih d' (by omega) p' Gi (by omega) (hb.mono hle) (by have := Nat.mul_le_mul_right (dB (d' + 1)) (show i + 1 ≤ 2 by omega); rw [Nat.succ_mul] at this; omega); refine I0 I1 rfl ?_)
 refine J2 (i := 0) (l' := [tt,ff,ff,ff,ff,ff,ff,ff,ff,ff]) rfl F4 (A3 rfl) rfl (by kernel_rfl) rfl rfl ?_
 refine aL 1 rfl (A5 rfl rfl) rfl ?_
 refine aP 2 rfl (qM rfl) rfl ?_
 refine aP 3 rfl (qM rfl) rfl ?_
 refine aP 4 rfl (A4n rfl rfl (by omega)) rfl ?_
 refine A8 5 ?_
 (refine A0a (l' := [tt,tt,tt,tt,tt,tt,ff,ff,ff,ff]) rfl rfl hih (Pk.perm (by repeat (first | exact Pk.here | apply Pk.there))) rfl rfl rfl (by repeat (first | exact B0.nil | apply B0.dep (by decide +kernel) | apply B0.blk (by decide +kernel) (by repeat (first | exact Pk.here | apply Pk.there)) (by repeat first | exact mH | apply mT))) (fun v G3 outs hle3 hh => ?_); obtain ⟨p3, hp31, hp32, rfl, t3, cells3, rfl, hr3, hs3, ha3⟩ := hh; obtain ⟨q3, c3, es3, rfl, _⟩ := hr3.open)
 refine A8 6 ?_
 (refine J9 rfl (D0 rfl rfl rfl (by omega) (by unfold maxLen; omega) rfl) rfl rfl ?_; rintro _ ⟨b91, rfl⟩)
 refine A8 7 ?_
 refine S9 rfl rfl rfl rfl rfl rfl (fun _ _ => by repeat (first | exact Sw.here | apply Sw.there)) (K9 (by repeat first | exact mH | apply mT)) rfl (by simp [Value.oneCell']) (by unfold maxLen; omega) (by omega) rfl rfl (by repeat (first | exact B0.nil | apply B0.dep (by decide +kernel) | apply B0.blk (by decide +kernel) (by repeat (first | exact Pk.here | apply Pk.there)) (by repeat first | exact mH | apply mT))) (fun pn' cn' => ?_)
 refine aP 8 rfl (A3 rfl) rfl ?_
 refine A8 9 ?_
 refine P3 rfl rfl rfl rfl rfl rfl rfl rfl (by kernel_rfl) (by repeat first | exact Sw.here | apply Sw.there) (by rfl) ?_
 refine D6 (C8 (nS (tR (sQ (qM rfl) rfl ?_))))
 refine sP (H6 rfl rfl (by omega) (by omega)) rfl rfl ?_
 refine sQ (qA rfl) rfl (sD ?_)
 refine K3 (i + 1, pn', cn', ts ++ [t3], es' ++ [[.int .i64 t3.k, .slice q3 t3.ks.length c3]], p3, G3) ?_ ?_ ?_
 (simp only [E2]; exact C9)
 (dsimp only; have e1 : (i + 1) * dB (d' + 1) = i * dB (d' + 1) + dB (d' + 1) := Nat.succ_mul _ _; have e2 := A4w ts t3; exact ⟨by simp only [List.forall_mem_append, List.forall_mem_singleton]; exact ⟨hah, ha3⟩, by omega, hle.trans hle3, by simp [hlt], F8.snoc (hst.mono hle3) hr3, by omega, by omega, by omega⟩)
 (show (U5 kk).toNat - (i + 1) < (U5 kk).toNat - i; omega)
 refine sD (nS (cF rfl (M7 (M8 (N3 (M9 (nS (tS (tR (sL (A7 rfl rfl) rfl rfl (B9 ?_)))))))))))
 refine sD (nS ?_)
 (refine Q4 (by repeat (first | exact Pk.here | apply Pk.there)) (fun G5 hle5 hsl5 hno5 => ?_))
 refine tT ?_
 refine E5 (outs := [rd br pb nb cb p']) (rC rfl (A7 rfl rfl)) (by repeat (first | exact A0.nil | refine A0.cons Pk.here ?_ | refine A0.cons (Pk.there Pk.here) ?_ | apply A0.drop)) ?_
 (refine ⟨p', by omega, by omega, rfl, .mk kk ts, _, rfl, (hst.mono hle5).ty hlt hsl5 ⟨by omega, by omega⟩, ?_, B2S hk4 (by omega) hk2 hk3 hah⟩; rw [K0]; omega)
theorem A8z (br : Nat) (pb : Option Addr) (nb cb : Nat) (bs : List UInt8) (hnb : nb ≤ 2000) (d p : Nat) (G : IM) (hd : d ≤ 1000) (hb : Sl G pb nb cb 1 (N1 bs)) (hp : p + dB (d + 1) < 1099511627776) :
  Fn Tryz.prog 111 [.pointer (some ⟨br, 0, none⟩), .int .i64 ((d + 1 : Nat) : Int)] [rd br pb nb cb p] G
   (A0q br pb nb cb p (dB (d + 1)) (fun G' v => ∃ t cells, v = .agg ⟨cells⟩ ∧ C3 G' t cells ∧ K0 t ≤ ((dB (d + 1) : Nat) : Int))) :=
 (A3N br pb nb cb bs hnb d p G hd hb hp).mono fun G' v outs _ ⟨p', h1, h2, h3, t, cells, h4, h5, h6, _⟩ => ⟨p', h1, h2, h3, t, cells, h4, h5, h6⟩
def H7 : Tm := .mk 0 ⟨⟨[]⟩⟩ 0 (.mk 0 []) (.mk 0 []) 0 []
theorem N4.zero (G : IM) : N4 G H7 z9 [] := by
 simp only [H7, N4, N8, L8, L4, z9]
 refine ⟨[.int .i64 0, .slice none 0 0], [.int .i64 0, .slice none 0 0], none, 0, [], [], [], [], rfl, ⟨by omega, by omega⟩, ⟨by omega, by omega⟩, ⟨by omega, by omega⟩, ?_, ?_, C5.nil _ _, ⟨rfl, rfl⟩, rfl, by simp [H5]⟩
 ·exact ⟨none, 0, [], [], rfl, ⟨by omega, by omega⟩, C5.nil _ _, ⟨rfl, rfl⟩, rfl, by simp [H5]⟩
 ·exact ⟨none, 0, [], [], rfl, ⟨by omega, by omega⟩, C5.nil _ _, ⟨rfl, rfl⟩, rfl, by simp [H5]⟩
def B64 (t : Tm) (path : List Int) : Tm × Bool := if N0 t = true then (match tAt t path with | some x => (x, true) | none => (H7, false)) else (H7, false)
def TbP (r : Tm × Bool) (G : IM) : IM → Value → List A4 → Prop := I9 fun G' v => ∃ cells F, v = .tuple ⟨[.agg ⟨cells⟩, .bool r.2]⟩ ∧ N4 (C4 G' G) r.1 cells F ∧ F.Nodup
theorem TbP.mk {r : Tm × Bool} {x : Tm} {b : Bool} {G G' : IM} {cells : List Value} {F : List Nat} (h : r = (x, b)) (hs : N4 (C4 G' G) x cells F) (hn : F.Nodup) : TbP r G G' (.tuple ⟨[.agg ⟨cells⟩, .bool b]⟩) [] := by
 subst h; exact ⟨rfl, cells, F, rfl, hs, hn⟩
end Gw
end Go.Proofs.YtgodjiieijekiaaGreatDoor
