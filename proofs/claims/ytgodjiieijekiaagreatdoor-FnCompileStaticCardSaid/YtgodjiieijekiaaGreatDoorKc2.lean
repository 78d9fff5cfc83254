/-
  The tests of terms.
-/
import Derived.Test.YtgodjiieijekiaaGreatDoorKc1
import Derived.Laws.Slices
import Derived.Lib.ItoaNum
import Derived.Test.YtgodjiieijekiaaGreatDoorKc0
set_option linter.unusedVariables false
set_option linter.unusedSimpArgs false
set_option maxHeartbeats 0
set_option maxRecDepth 100000
set_option synthInstance.maxSize 4000
set_option synthInstance.maxHeartbeats 0
namespace Go.Proofs.YtgodjiieijekiaaGreatDoor
open Go Go.RowKit
namespace Gw
theorem B2W (k : Int) (G : IM) (hk : C1 k) : Fn Tryz.prog 157 [.int .i64 k] [] G (J1 (.int .i64 (D5 k)) G) := by
 unfold C1 at hk
 refine B6 Tryz.func157 rfl Tryz.ntmps157 Tryz.results157 rfl ?_
 intro w0
 refine E8 ?_
 refine H8 rfl (A0J _ _ _ _) rfl rfl (fun h10 => ?_) (fun h10 => ?_)
 refine sQ (pNt rfl) rfl (sD (nS (cF rfl (tK (nS (tS (tR ?_)))))))
 (refine E9 (B4 rfl rfl rfl (by omega) (by unfold maxLen; omega) rfl) rfl ?_; rintro _ ⟨b19, rfl⟩)
 refine sQ (qM rfl) rfl ?_
 (have hkk : 1 ≤ k ∧ k ≤ 14 := B2e (by assumption); refine sP (N1 rfl rfl (by omega) (by omega)) rfl rfl ?_)
 refine sP (A7I rfl rfl rfl (by omega) (by omega)) rfl rfl ?_
 refine sL (Q8 rfl rfl (A3B (by repeat first | exact mH | apply mT) (B2k (by rw [Nat.zero_add, Nat.mul_one]; exact B2j hkk)))) rfl rfl ?_
 refine sQ (qA rfl) rfl (sD (nS (tT (I6 (rT rfl) ?_))))
 exact ⟨rfl, rfl, rfl⟩
 refine L4 ?_
 exact ⟨rfl, by rw [A4E (B2f (by assumption))], rfl⟩
theorem B2X (k : Int) (nm : ByteArray) (num : Int) (ty fr : Ty) (lb : Int) (ks : List Tm) (G : IM) (cells : List Value) (hr : B5 G (.mk k nm num ty fr lb ks) cells) :
  Fn Tryz.prog 92 [.agg ⟨cells⟩] [] G (J1 (.bool (X7 k nm num ty fr lb ks.length)) G) := by
 obtain ⟨tk, tks⟩ := ty
 obtain ⟨fk, fks⟩ := fr
 obtain ⟨pt, ct, pf, cf, p, c, es, rfl, hk, hnum, hlb, hty, hfr, hsl, hkl⟩ := hr.open9
 have hi := @R7 k nm num (.mk tk tks) (.mk fk fks) lb ks.length
 obtain ⟨R, hR⟩ : ∃ R, X7 k nm num (.mk tk tks) (.mk fk fks) lb ks.length = R := ⟨_, rfl⟩
 rw [hR] at hi ⊢
 clear hR hr
 have o1 := B2W k G hk
 have o2 := B2T nm G
 have o3 := A3R _ G _ hty
 have o4 := A8D _ G _ hty
 have o5 := B2V _ _ G _ _ hfr hty
 have o6 := B2S lb G
 have o7 := A8D _ G _ hfr
 refine B6 Tryz.func92 rfl Tryz.ntmps92 Tryz.results92 rfl ?_
 intro w0
 refine tS (tR ?_)
 refine sE (E2 rfl rfl) rfl (fun b3 => ?_)
 refine sQ (qA rfl) rfl (sD (nS (tS (tS ?_))))
 refine D7 D8 rfl ?_
 refine H4 (i := 0) (l' := [tt,ff,ff,ff,ff,ff,ff]) rfl D3 (B1 rfl) rfl (by kernel_rfl) rfl rfl ?_
 refine aL 1 rfl (D4 rfl rfl) rfl ?_
 refine aP 3 rfl (B1 rfl) rfl ?_
 refine aL 4 rfl (D4 rfl rfl) rfl ?_
 refine aP 5 rfl (W0 rfl rfl) rfl ?_
 refine A2 2 ?_
 refine S4 rfl rfl (o1) rfl rfl rfl ?_
 refine A2t (i := 6) (l' := [tt,tt,tt,tt,tt,tt,tt]) rfl D3 (X4 rfl rfl) rfl (by kernel_rfl) rfl rfl (fun h17 => ?_) (fun h17 => ?_)
 refine J3 ?_
 exact ⟨rfl, by (cases R with | false => rfl | true => (exfalso; obtain ⟨i1, i2, i3, i4, i5, i6, i7, i8, i9⟩ := hi.1 rfl; first | omega | (have j := i2 (by omega); simp_all; done) | (have j := i3 (by omega); simp_all; done) | (have j := i4 (by omega); simp_all; done) | (have j := i5 (by omega); simp_all; done) | (have j := i6 (by omega); simp_all; done) | (have j := i7 (by omega); simp_all; done) | (have j := i8 (by omega); simp_all; done) | (have j := i9 (by omega); simp_all; done))), rfl⟩
 refine E8 ?_
 refine sB (qE rfl rfl) rfl rfl (fun h39 => ?_) (fun h39 => ?_)
 refine L4 ?_
 refine sP (K9 rfl rfl (by omega)) rfl rfl ?_
 refine M3 ?_
 refine sP (K9 rfl rfl (by omega)) rfl rfl ?_
 refine K5 ?_
 refine sP (K9 rfl rfl (by omega)) rfl rfl ?_
 refine E1 ?_
 refine sP (K9 rfl rfl (by omega)) rfl rfl ?_
 refine L7 ?_
 refine sP (K9 rfl rfl (by omega)) rfl rfl ?_
 refine sD (nS (cF rfl (tK (nS (tS ?_)))))
 refine B2 ?_
 refine C5 ?_
 refine H8 rfl (o2) rfl rfl (fun h99 => ?_) (fun h99 => ?_)
 refine A2y ?_
 refine H8 rfl (A0J _ _ _ _) rfl rfl (fun h123 => ?_) (fun h123 => ?_)
 refine A52 ?_
 refine H8 rfl (o4) rfl rfl (fun h149 => ?_) (fun h149 => ?_)
 refine A0x ?_
 refine K5 ?_
 refine H8 rfl (o7) rfl rfl (fun h184 => ?_) (fun h184 => ?_)
 refine K5 ?_
 refine sB (X4 rfl rfl) rfl rfl (fun h189 => ?_) (fun h189 => ?_)
 refine J5 ?_
 exact ⟨rfl, by (cases R with | false => rfl | true => (exfalso; obtain ⟨i1, i2, i3, i4, i5, i6, i7, i8, i9⟩ := hi.1 rfl; first | omega | (have j := i2 (by omega); simp_all; done) | (have j := i3 (by omega); simp_all; done) | (have j := i4 (by omega); simp_all; done) | (have j := i5 (by omega); simp_all; done) | (have j := i6 (by omega); simp_all; done) | (have j := i7 (by omega); simp_all; done) | (have j := i8 (by omega); simp_all; done) | (have j := i9 (by omega); simp_all; done))), rfl⟩
 refine N9 ?_
 exact ⟨rfl, by rw [hi.2 ⟨by omega, fun _ => by (first | assumption | (exfalso; omega) | exact Classical.not_not.1 (by assumption)), fun _ => by (first | assumption | (exfalso; omega) | exact Classical.not_not.1 (by assumption)), fun _ => by (first | assumption | (exfalso; omega) | exact Classical.not_not.1 (by assumption)), fun _ => by (first | assumption | (exfalso; omega) | exact Classical.not_not.1 (by assumption)), fun _ => by (first | assumption | (exfalso; omega) | exact Classical.not_not.1 (by assumption)), fun _ => by (first | assumption | (exfalso; omega) | exact Classical.not_not.1 (by assumption)), fun _ => ⟨by (first | assumption | (exfalso; omega)), by (first | assumption | (exfalso; omega))⟩, fun _ => ⟨by (first | assumption | (exfalso; omega)), by (first | assumption | omega)⟩⟩], rfl⟩
 refine A1K ?_
 exact ⟨rfl, by (cases R with | false => rfl | true => (exfalso; obtain ⟨i1, i2, i3, i4, i5, i6, i7, i8, i9⟩ := hi.1 rfl; first | omega | (have j := i2 (by omega); simp_all; done) | (have j := i3 (by omega); simp_all; done) | (have j := i4 (by omega); simp_all; done) | (have j := i5 (by omega); simp_all; done) | (have j := i6 (by omega); simp_all; done) | (have j := i7 (by omega); simp_all; done) | (have j := i8 (by omega); simp_all; done) | (have j := i9 (by omega); simp_all; done))), rfl⟩
 refine J5 ?_
 exact ⟨rfl, by (cases R with | false => rfl | true => (exfalso; obtain ⟨i1, i2, i3, i4, i5, i6, i7, i8, i9⟩ := hi.1 rfl; first | omega | (have j := i2 (by omega); simp_all; done) | (have j := i3 (by omega); simp_all; done) | (have j := i4 (by omega); simp_all; done) | (have j := i5 (by omega); simp_all; done) | (have j := i6 (by omega); simp_all; done) | (have j := i7 (by omega); simp_all; done) | (have j := i8 (by omega); simp_all; done) | (have j := i9 (by omega); simp_all; done))), rfl⟩
 refine M5 ?_
 exact ⟨rfl, by (cases R with | false => rfl | true => (exfalso; obtain ⟨i1, i2, i3, i4, i5, i6, i7, i8, i9⟩ := hi.1 rfl; first | omega | (have j := i2 (by omega); simp_all; done) | (have j := i3 (by omega); simp_all; done) | (have j := i4 (by omega); simp_all; done) | (have j := i5 (by omega); simp_all; done) | (have j := i6 (by omega); simp_all; done) | (have j := i7 (by omega); simp_all; done) | (have j := i8 (by omega); simp_all; done) | (have j := i9 (by omega); simp_all; done))), rfl⟩
 refine A0g ?_
 exact ⟨rfl, by (cases R with | false => rfl | true => (exfalso; obtain ⟨i1, i2, i3, i4, i5, i6, i7, i8, i9⟩ := hi.1 rfl; first | omega | (have j := i2 (by omega); simp_all; done) | (have j := i3 (by omega); simp_all; done) | (have j := i4 (by omega); simp_all; done) | (have j := i5 (by omega); simp_all; done) | (have j := i6 (by omega); simp_all; done) | (have j := i7 (by omega); simp_all; done) | (have j := i8 (by omega); simp_all; done) | (have j := i9 (by omega); simp_all; done))), rfl⟩
 refine M3 ?_
 refine sB (qE rfl rfl) rfl rfl (fun h297 => ?_) (fun h297 => ?_)
 refine E1 ?_
 refine sP (A1i rfl rfl (by omega)) rfl rfl ?_
 refine U8 ?_
 refine sP (K9 rfl rfl (by omega)) rfl rfl ?_
 refine L7 ?_
 refine sP (K9 rfl rfl (by omega)) rfl rfl ?_
 refine sD (nS (cF rfl (tK (nS (tS ?_)))))
 refine B2 ?_
 refine C5 ?_
 refine H8 rfl (o2) rfl rfl (fun h353 => ?_) (fun h353 => ?_)
 refine A2y ?_
 refine H8 rfl (A0J _ _ _ _) rfl rfl (fun h377 => ?_) (fun h377 => ?_)
 refine L4 ?_
 refine H8 rfl (o3) rfl rfl (fun h390 => ?_) (fun h390 => ?_)
 refine A0x ?_
 refine U8 ?_
 refine H8 rfl (o7) rfl rfl (fun h438 => ?_) (fun h438 => ?_)
 refine K5 ?_
 refine sB (X4 rfl rfl) rfl rfl (fun h443 => ?_) (fun h443 => ?_)
 refine J5 ?_
 exact ⟨rfl, by (cases R with | false => rfl | true => (exfalso; obtain ⟨i1, i2, i3, i4, i5, i6, i7, i8, i9⟩ := hi.1 rfl; first | omega | (have j := i2 (by omega); simp_all; done) | (have j := i3 (by omega); simp_all; done) | (have j := i4 (by omega); simp_all; done) | (have j := i5 (by omega); simp_all; done) | (have j := i6 (by omega); simp_all; done) | (have j := i7 (by omega); simp_all; done) | (have j := i8 (by omega); simp_all; done) | (have j := i9 (by omega); simp_all; done))), rfl⟩
 refine N9 ?_
 exact ⟨rfl, by rw [hi.2 ⟨by omega, fun _ => by (first | assumption | (exfalso; omega) | exact Classical.not_not.1 (by assumption)), fun _ => by (first | assumption | (exfalso; omega) | exact Classical.not_not.1 (by assumption)), fun _ => by (first | assumption | (exfalso; omega) | exact Classical.not_not.1 (by assumption)), fun _ => by (first | assumption | (exfalso; omega) | exact Classical.not_not.1 (by assumption)), fun _ => by (first | assumption | (exfalso; omega) | exact Classical.not_not.1 (by assumption)), fun _ => by (first | assumption | (exfalso; omega) | exact Classical.not_not.1 (by assumption)), fun _ => ⟨by (first | assumption | (exfalso; omega)), by (first | assumption | (exfalso; omega))⟩, fun _ => ⟨by (first | assumption | (exfalso; omega)), by (first | assumption | omega)⟩⟩], rfl⟩
 refine A1K ?_
 exact ⟨rfl, by (cases R with | false => rfl | true => (exfalso; obtain ⟨i1, i2, i3, i4, i5, i6, i7, i8, i9⟩ := hi.1 rfl; first | omega | (have j := i2 (by omega); simp_all; done) | (have j := i3 (by omega); simp_all; done) | (have j := i4 (by omega); simp_all; done) | (have j := i5 (by omega); simp_all; done) | (have j := i6 (by omega); simp_all; done) | (have j := i7 (by omega); simp_all; done) | (have j := i8 (by omega); simp_all; done) | (have j := i9 (by omega); simp_all; done))), rfl⟩
 refine A0g ?_
 exact ⟨rfl, by (cases R with | false => rfl | true => (exfalso; obtain ⟨i1, i2, i3, i4, i5, i6, i7, i8, i9⟩ := hi.1 rfl; first | omega | (have j := i2 (by omega); simp_all; done) | (have j := i3 (by omega); simp_all; done) | (have j := i4 (by omega); simp_all; done) | (have j := i5 (by omega); simp_all; done) | (have j := i6 (by omega); simp_all; done) | (have j := i7 (by omega); simp_all; done) | (have j := i8 (by omega); simp_all; done) | (have j := i9 (by omega); simp_all; done))), rfl⟩
 refine M5 ?_
 exact ⟨rfl, by (cases R with | false => rfl | true => (exfalso; obtain ⟨i1, i2, i3, i4, i5, i6, i7, i8, i9⟩ := hi.1 rfl; first | omega | (have j := i2 (by omega); simp_all; done) | (have j := i3 (by omega); simp_all; done) | (have j := i4 (by omega); simp_all; done) | (have j := i5 (by omega); simp_all; done) | (have j := i6 (by omega); simp_all; done) | (have j := i7 (by omega); simp_all; done) | (have j := i8 (by omega); simp_all; done) | (have j := i9 (by omega); simp_all; done))), rfl⟩
 refine A0g ?_
 exact ⟨rfl, by (cases R with | false => rfl | true => (exfalso; obtain ⟨i1, i2, i3, i4, i5, i6, i7, i8, i9⟩ := hi.1 rfl; first | omega | (have j := i2 (by omega); simp_all; done) | (have j := i3 (by omega); simp_all; done) | (have j := i4 (by omega); simp_all; done) | (have j := i5 (by omega); simp_all; done) | (have j := i6 (by omega); simp_all; done) | (have j := i7 (by omega); simp_all; done) | (have j := i8 (by omega); simp_all; done) | (have j := i9 (by omega); simp_all; done))), rfl⟩
 refine E1 ?_
 refine sP (K9 rfl rfl (by omega)) rfl rfl ?_
 refine M3 ?_
 refine sB (qE rfl rfl) rfl rfl (fun h563 => ?_) (fun h563 => ?_)
 refine L7 ?_
 refine sP (K9 rfl rfl (by omega)) rfl rfl ?_
 refine L7 ?_
 refine sP (K9 rfl rfl (by omega)) rfl rfl ?_
 refine sD (nS (cF rfl (tK (nS (tS ?_)))))
 refine B2 ?_
 refine A1m ?_
 refine sB (A1F rfl rfl) rfl rfl (fun h620 => ?_) (fun h620 => ?_)
 refine U8 ?_
 exact ⟨rfl, by (cases R with | false => rfl | true => (exfalso; obtain ⟨i1, i2, i3, i4, i5, i6, i7, i8, i9⟩ := hi.1 rfl; first | omega | (have j := i2 (by omega); simp_all; done) | (have j := i3 (by omega); simp_all; done) | (have j := i4 (by omega); simp_all; done) | (have j := i5 (by omega); simp_all; done) | (have j := i6 (by omega); simp_all; done) | (have j := i7 (by omega); simp_all; done) | (have j := i8 (by omega); simp_all; done) | (have j := i9 (by omega); simp_all; done))), rfl⟩
 refine E8 ?_
 refine H8 rfl (A0J _ _ _ _) rfl rfl (fun h648 => ?_) (fun h648 => ?_)
 refine L4 ?_
 refine H8 rfl (o3) rfl rfl (fun h661 => ?_) (fun h661 => ?_)
 refine A0x ?_
 refine U8 ?_
 refine H8 rfl (o7) rfl rfl (fun h709 => ?_) (fun h709 => ?_)
 refine K5 ?_
 refine sB (X4 rfl rfl) rfl rfl (fun h714 => ?_) (fun h714 => ?_)
 refine J5 ?_
 exact ⟨rfl, by (cases R with | false => rfl | true => (exfalso; obtain ⟨i1, i2, i3, i4, i5, i6, i7, i8, i9⟩ := hi.1 rfl; first | omega | (have j := i2 (by omega); simp_all; done) | (have j := i3 (by omega); simp_all; done) | (have j := i4 (by omega); simp_all; done) | (have j := i5 (by omega); simp_all; done) | (have j := i6 (by omega); simp_all; done) | (have j := i7 (by omega); simp_all; done) | (have j := i8 (by omega); simp_all; done) | (have j := i9 (by omega); simp_all; done))), rfl⟩
 refine N9 ?_
 exact ⟨rfl, by rw [hi.2 ⟨by omega, fun _ => by (first | assumption | (exfalso; omega) | exact Classical.not_not.1 (by assumption)), fun _ => by (first | assumption | (exfalso; omega) | exact Classical.not_not.1 (by assumption)), fun _ => by (first | assumption | (exfalso; omega) | exact Classical.not_not.1 (by assumption)), fun _ => by (first | assumption | (exfalso; omega) | exact Classical.not_not.1 (by assumption)), fun _ => by (first | assumption | (exfalso; omega) | exact Classical.not_not.1 (by assumption)), fun _ => by (first | assumption | (exfalso; omega) | exact Classical.not_not.1 (by assumption)), fun _ => ⟨by (first | assumption | (exfalso; omega)), by (first | assumption | (exfalso; omega))⟩, fun _ => ⟨by (first | assumption | (exfalso; omega)), by (first | assumption | omega)⟩⟩], rfl⟩
 refine A1K ?_
 exact ⟨rfl, by (cases R with | false => rfl | true => (exfalso; obtain ⟨i1, i2, i3, i4, i5, i6, i7, i8, i9⟩ := hi.1 rfl; first | omega | (have j := i2 (by omega); simp_all; done) | (have j := i3 (by omega); simp_all; done) | (have j := i4 (by omega); simp_all; done) | (have j := i5 (by omega); simp_all; done) | (have j := i6 (by omega); simp_all; done) | (have j := i7 (by omega); simp_all; done) | (have j := i8 (by omega); simp_all; done) | (have j := i9 (by omega); simp_all; done))), rfl⟩
 refine A0g ?_
 exact ⟨rfl, by (cases R with | false => rfl | true => (exfalso; obtain ⟨i1, i2, i3, i4, i5, i6, i7, i8, i9⟩ := hi.1 rfl; first | omega | (have j := i2 (by omega); simp_all; done) | (have j := i3 (by omega); simp_all; done) | (have j := i4 (by omega); simp_all; done) | (have j := i5 (by omega); simp_all; done) | (have j := i6 (by omega); simp_all; done) | (have j := i7 (by omega); simp_all; done) | (have j := i8 (by omega); simp_all; done) | (have j := i9 (by omega); simp_all; done))), rfl⟩
 refine M5 ?_
 exact ⟨rfl, by (cases R with | false => rfl | true => (exfalso; obtain ⟨i1, i2, i3, i4, i5, i6, i7, i8, i9⟩ := hi.1 rfl; first | omega | (have j := i2 (by omega); simp_all; done) | (have j := i3 (by omega); simp_all; done) | (have j := i4 (by omega); simp_all; done) | (have j := i5 (by omega); simp_all; done) | (have j := i6 (by omega); simp_all; done) | (have j := i7 (by omega); simp_all; done) | (have j := i8 (by omega); simp_all; done) | (have j := i9 (by omega); simp_all; done))), rfl⟩
 refine K5 ?_
 refine sB (qE rfl rfl) rfl rfl (fun h807 => ?_) (fun h807 => ?_)
 refine E1 ?_
 refine sP (A1i rfl rfl (by omega)) rfl rfl ?_
 refine L7 ?_
 refine sP (K9 rfl rfl (by omega)) rfl rfl ?_
 refine sD (nS (cF rfl (tK (nS (tS ?_)))))
 refine B2 ?_
 refine A1m ?_
 refine sB (A1F rfl rfl) rfl rfl (fun h859 => ?_) (fun h859 => ?_)
 refine U8 ?_
 exact ⟨rfl, by (cases R with | false => rfl | true => (exfalso; obtain ⟨i1, i2, i3, i4, i5, i6, i7, i8, i9⟩ := hi.1 rfl; first | omega | (have j := i2 (by omega); simp_all; done) | (have j := i3 (by omega); simp_all; done) | (have j := i4 (by omega); simp_all; done) | (have j := i5 (by omega); simp_all; done) | (have j := i6 (by omega); simp_all; done) | (have j := i7 (by omega); simp_all; done) | (have j := i8 (by omega); simp_all; done) | (have j := i9 (by omega); simp_all; done))), rfl⟩
 refine E8 ?_
 refine H8 rfl (A0J _ _ _ _) rfl rfl (fun h887 => ?_) (fun h887 => ?_)
 refine L4 ?_
 refine H8 rfl (o3) rfl rfl (fun h900 => ?_) (fun h900 => ?_)
 refine A74 ?_
 refine H8 rfl (o5) rfl rfl (fun h929 => ?_) (fun h929 => ?_)
 refine K5 ?_
 refine H8 rfl (o6) rfl rfl (fun h934 => ?_) (fun h934 => ?_)
 refine A0x ?_
 refine sQ (qA rfl) rfl (sD (nS (tT (I6 (rT rfl) ?_))))
 exact ⟨rfl, by rw [hi.2 ⟨by omega, fun _ => by (first | assumption | (exfalso; omega) | exact Classical.not_not.1 (by assumption)), fun _ => by (first | assumption | (exfalso; omega) | exact Classical.not_not.1 (by assumption)), fun _ => by (first | assumption | (exfalso; omega) | exact Classical.not_not.1 (by assumption)), fun _ => by (first | assumption | (exfalso; omega) | exact Classical.not_not.1 (by assumption)), fun _ => by (first | assumption | (exfalso; omega) | exact Classical.not_not.1 (by assumption)), fun _ => by (first | assumption | (exfalso; omega) | exact Classical.not_not.1 (by assumption)), fun _ => ⟨by (first | assumption | (exfalso; omega)), by (first | assumption | (exfalso; omega))⟩, fun _ => ⟨by (first | assumption | (exfalso; omega)), by (first | assumption | omega)⟩⟩], rfl⟩
 refine A1l ?_
 exact ⟨rfl, by (cases R with | false => rfl | true => (exfalso; obtain ⟨i1, i2, i3, i4, i5, i6, i7, i8, i9⟩ := hi.1 rfl; first | omega | (have j := i2 (by omega); simp_all; done) | (have j := i3 (by omega); simp_all; done) | (have j := i4 (by omega); simp_all; done) | (have j := i5 (by omega); simp_all; done) | (have j := i6 (by omega); simp_all; done) | (have j := i7 (by omega); simp_all; done) | (have j := i8 (by omega); simp_all; done) | (have j := i9 (by omega); simp_all; done))), rfl⟩
 refine A25 ?_
 exact ⟨rfl, by (cases R with | false => rfl | true => (exfalso; obtain ⟨i1, i2, i3, i4, i5, i6, i7, i8, i9⟩ := hi.1 rfl; first | omega | (have j := i2 (by omega); simp_all; done) | (have j := i3 (by omega); simp_all; done) | (have j := i4 (by omega); simp_all; done) | (have j := i5 (by omega); simp_all; done) | (have j := i6 (by omega); simp_all; done) | (have j := i7 (by omega); simp_all; done) | (have j := i8 (by omega); simp_all; done) | (have j := i9 (by omega); simp_all; done))), rfl⟩
 refine A0g ?_
 exact ⟨rfl, by (cases R with | false => rfl | true => (exfalso; obtain ⟨i1, i2, i3, i4, i5, i6, i7, i8, i9⟩ := hi.1 rfl; first | omega | (have j := i2 (by omega); simp_all; done) | (have j := i3 (by omega); simp_all; done) | (have j := i4 (by omega); simp_all; done) | (have j := i5 (by omega); simp_all; done) | (have j := i6 (by omega); simp_all; done) | (have j := i7 (by omega); simp_all; done) | (have j := i8 (by omega); simp_all; done) | (have j := i9 (by omega); simp_all; done))), rfl⟩
 refine M5 ?_
 exact ⟨rfl, by (cases R with | false => rfl | true => (exfalso; obtain ⟨i1, i2, i3, i4, i5, i6, i7, i8, i9⟩ := hi.1 rfl; first | omega | (have j := i2 (by omega); simp_all; done) | (have j := i3 (by omega); simp_all; done) | (have j := i4 (by omega); simp_all; done) | (have j := i5 (by omega); simp_all; done) | (have j := i6 (by omega); simp_all; done) | (have j := i7 (by omega); simp_all; done) | (have j := i8 (by omega); simp_all; done) | (have j := i9 (by omega); simp_all; done))), rfl⟩
 refine E1 ?_
 refine sP (K9 rfl rfl (by omega)) rfl rfl ?_
 refine L7 ?_
 refine sB (qE rfl rfl) rfl rfl (fun h1072 => ?_) (fun h1072 => ?_)
 refine sD (nS (qT rfl (tR (sQ (qA rfl) rfl (sD (nS (tS ?_)))))))
 refine B2 ?_
 refine A1m ?_
 refine sB (A1F rfl rfl) rfl rfl (fun h1103 => ?_) (fun h1103 => ?_)
 refine U8 ?_
 exact ⟨rfl, by (cases R with | false => rfl | true => (exfalso; obtain ⟨i1, i2, i3, i4, i5, i6, i7, i8, i9⟩ := hi.1 rfl; first | omega | (have j := i2 (by omega); simp_all; done) | (have j := i3 (by omega); simp_all; done) | (have j := i4 (by omega); simp_all; done) | (have j := i5 (by omega); simp_all; done) | (have j := i6 (by omega); simp_all; done) | (have j := i7 (by omega); simp_all; done) | (have j := i8 (by omega); simp_all; done) | (have j := i9 (by omega); simp_all; done))), rfl⟩
 refine E8 ?_
 refine H8 rfl (A0J _ _ _ _) rfl rfl (fun h1131 => ?_) (fun h1131 => ?_)
 refine A52 ?_
 refine H8 rfl (o4) rfl rfl (fun h1157 => ?_) (fun h1157 => ?_)
 refine A0x ?_
 refine K5 ?_
 refine H8 rfl (o7) rfl rfl (fun h1192 => ?_) (fun h1192 => ?_)
 refine K5 ?_
 refine sB (X4 rfl rfl) rfl rfl (fun h1197 => ?_) (fun h1197 => ?_)
 refine J5 ?_
 exact ⟨rfl, by (cases R with | false => rfl | true => (exfalso; obtain ⟨i1, i2, i3, i4, i5, i6, i7, i8, i9⟩ := hi.1 rfl; first | omega | (have j := i2 (by omega); simp_all; done) | (have j := i3 (by omega); simp_all; done) | (have j := i4 (by omega); simp_all; done) | (have j := i5 (by omega); simp_all; done) | (have j := i6 (by omega); simp_all; done) | (have j := i7 (by omega); simp_all; done) | (have j := i8 (by omega); simp_all; done) | (have j := i9 (by omega); simp_all; done))), rfl⟩
 refine N9 ?_
 exact ⟨rfl, by rw [hi.2 ⟨by omega, fun _ => by (first | assumption | (exfalso; omega) | exact Classical.not_not.1 (by assumption)), fun _ => by (first | assumption | (exfalso; omega) | exact Classical.not_not.1 (by assumption)), fun _ => by (first | assumption | (exfalso; omega) | exact Classical.not_not.1 (by assumption)), fun _ => by (first | assumption | (exfalso; omega) | exact Classical.not_not.1 (by assumption)), fun _ => by (first | assumption | (exfalso; omega) | exact Classical.not_not.1 (by assumption)), fun _ => by (first | assumption | (exfalso; omega) | exact Classical.not_not.1 (by assumption)), fun _ => ⟨by (first | assumption | (exfalso; omega)), by (first | assumption | (exfalso; omega))⟩, fun _ => ⟨by (first | assumption | (exfalso; omega)), by (first | assumption | omega)⟩⟩], rfl⟩
 refine A1K ?_
 exact ⟨rfl, by (cases R with | false => rfl | true => (exfalso; obtain ⟨i1, i2, i3, i4, i5, i6, i7, i8, i9⟩ := hi.1 rfl; first | omega | (have j := i2 (by omega); simp_all; done) | (have j := i3 (by omega); simp_all; done) | (have j := i4 (by omega); simp_all; done) | (have j := i5 (by omega); simp_all; done) | (have j := i6 (by omega); simp_all; done) | (have j := i7 (by omega); simp_all; done) | (have j := i8 (by omega); simp_all; done) | (have j := i9 (by omega); simp_all; done))), rfl⟩
 refine J5 ?_
 exact ⟨rfl, by (cases R with | false => rfl | true => (exfalso; obtain ⟨i1, i2, i3, i4, i5, i6, i7, i8, i9⟩ := hi.1 rfl; first | omega | (have j := i2 (by omega); simp_all; done) | (have j := i3 (by omega); simp_all; done) | (have j := i4 (by omega); simp_all; done) | (have j := i5 (by omega); simp_all; done) | (have j := i6 (by omega); simp_all; done) | (have j := i7 (by omega); simp_all; done) | (have j := i8 (by omega); simp_all; done) | (have j := i9 (by omega); simp_all; done))), rfl⟩
 refine M5 ?_
 exact ⟨rfl, by (cases R with | false => rfl | true => (exfalso; obtain ⟨i1, i2, i3, i4, i5, i6, i7, i8, i9⟩ := hi.1 rfl; first | omega | (have j := i2 (by omega); simp_all; done) | (have j := i3 (by omega); simp_all; done) | (have j := i4 (by omega); simp_all; done) | (have j := i5 (by omega); simp_all; done) | (have j := i6 (by omega); simp_all; done) | (have j := i7 (by omega); simp_all; done) | (have j := i8 (by omega); simp_all; done) | (have j := i9 (by omega); simp_all; done))), rfl⟩
 refine sD (nS (cF rfl (tK (nS (tS ?_)))))
 refine B2 ?_
 refine A1m ?_
 refine sB (A1F rfl rfl) rfl rfl (fun h1311 => ?_) (fun h1311 => ?_)
 refine U8 ?_
 exact ⟨rfl, by (cases R with | false => rfl | true => (exfalso; obtain ⟨i1, i2, i3, i4, i5, i6, i7, i8, i9⟩ := hi.1 rfl; first | omega | (have j := i2 (by omega); simp_all; done) | (have j := i3 (by omega); simp_all; done) | (have j := i4 (by omega); simp_all; done) | (have j := i5 (by omega); simp_all; done) | (have j := i6 (by omega); simp_all; done) | (have j := i7 (by omega); simp_all; done) | (have j := i8 (by omega); simp_all; done) | (have j := i9 (by omega); simp_all; done))), rfl⟩
 refine E8 ?_
 refine H8 rfl (A0J _ _ _ _) rfl rfl (fun h1339 => ?_) (fun h1339 => ?_)
 refine A52 ?_
 refine H8 rfl (o4) rfl rfl (fun h1365 => ?_) (fun h1365 => ?_)
 refine A0x ?_
 refine K5 ?_
 refine H8 rfl (o7) rfl rfl (fun h1400 => ?_) (fun h1400 => ?_)
 refine K5 ?_
 refine sB (X4 rfl rfl) rfl rfl (fun h1405 => ?_) (fun h1405 => ?_)
 refine J5 ?_
 exact ⟨rfl, by (cases R with | false => rfl | true => (exfalso; obtain ⟨i1, i2, i3, i4, i5, i6, i7, i8, i9⟩ := hi.1 rfl; first | omega | (have j := i2 (by omega); simp_all; done) | (have j := i3 (by omega); simp_all; done) | (have j := i4 (by omega); simp_all; done) | (have j := i5 (by omega); simp_all; done) | (have j := i6 (by omega); simp_all; done) | (have j := i7 (by omega); simp_all; done) | (have j := i8 (by omega); simp_all; done) | (have j := i9 (by omega); simp_all; done))), rfl⟩
 refine N9 ?_
 exact ⟨rfl, by rw [hi.2 ⟨by omega, fun _ => by (first | assumption | (exfalso; omega) | exact Classical.not_not.1 (by assumption)), fun _ => by (first | assumption | (exfalso; omega) | exact Classical.not_not.1 (by assumption)), fun _ => by (first | assumption | (exfalso; omega) | exact Classical.not_not.1 (by assumption)), fun _ => by (first | assumption | (exfalso; omega) | exact Classical.not_not.1 (by assumption)), fun _ => by (first | assumption | (exfalso; omega) | exact Classical.not_not.1 (by assumption)), fun _ => by (first | assumption | (exfalso; omega) | exact Classical.not_not.1 (by assumption)), fun _ => ⟨by (first | assumption | (exfalso; omega)), by (first | assumption | (exfalso; omega))⟩, fun _ => ⟨by (first | assumption | (exfalso; omega)), by (first | assumption | omega)⟩⟩], rfl⟩
 refine A1K ?_
 exact ⟨rfl, by (cases R with | false => rfl | true => (exfalso; obtain ⟨i1, i2, i3, i4, i5, i6, i7, i8, i9⟩ := hi.1 rfl; first | omega | (have j := i2 (by omega); simp_all; done) | (have j := i3 (by omega); simp_all; done) | (have j := i4 (by omega); simp_all; done) | (have j := i5 (by omega); simp_all; done) | (have j := i6 (by omega); simp_all; done) | (have j := i7 (by omega); simp_all; done) | (have j := i8 (by omega); simp_all; done) | (have j := i9 (by omega); simp_all; done))), rfl⟩
 refine J5 ?_
 exact ⟨rfl, by (cases R with | false => rfl | true => (exfalso; obtain ⟨i1, i2, i3, i4, i5, i6, i7, i8, i9⟩ := hi.1 rfl; first | omega | (have j := i2 (by omega); simp_all; done) | (have j := i3 (by omega); simp_all; done) | (have j := i4 (by omega); simp_all; done) | (have j := i5 (by omega); simp_all; done) | (have j := i6 (by omega); simp_all; done) | (have j := i7 (by omega); simp_all; done) | (have j := i8 (by omega); simp_all; done) | (have j := i9 (by omega); simp_all; done))), rfl⟩
 refine M5 ?_
 exact ⟨rfl, by (cases R with | false => rfl | true => (exfalso; obtain ⟨i1, i2, i3, i4, i5, i6, i7, i8, i9⟩ := hi.1 rfl; first | omega | (have j := i2 (by omega); simp_all; done) | (have j := i3 (by omega); simp_all; done) | (have j := i4 (by omega); simp_all; done) | (have j := i5 (by omega); simp_all; done) | (have j := i6 (by omega); simp_all; done) | (have j := i7 (by omega); simp_all; done) | (have j := i8 (by omega); simp_all; done) | (have j := i9 (by omega); simp_all; done))), rfl⟩
theorem B2Y (M D N : Int) (hM : 0 ≤ M ∧ M ≤ 1000) (hD : 0 ≤ D ∧ D ≤ 1000) (bc : Nat) : ∀ (t : Tm) (deep c : Int) (G : IM) (cells : List Value), 0 ≤ deep ∧ deep ≤ D + 1 → 0 ≤ c ∧ c ≤ M → B5 G t cells →
  Fn Tryz.prog 43 [.agg ⟨cells⟩, .int .i64 deep, .int .i64 M, .int .i64 D, .int .i64 N, .pointer (some ⟨bc, 0, none⟩)] [.blk bc [.int .i64 c]] G
   (Z8 (.bool (T1 M D N t deep c).1) [.blk bc [.int .i64 (T1 M D N t deep c).2]] G) := by
 refine Tm.ind fun k nm num ty fr lb ks ih deep c G cells hd hc hr => ?_
 have hno := B2X k nm num ty fr lb ks G cells hr
 obtain ⟨tk, tks⟩ := ty
 obtain ⟨fk, fks⟩ := fr
 obtain ⟨pt, ct, pf, cf, p, cp, es, rfl, hk, hnum, hlb, hty, hfr, hsl, hkl⟩ := hr.open9
 have hn := hsl.le
 obtain ⟨R, hR⟩ : ∃ R, X7 k nm num (.mk tk tks) (.mk fk fks) lb ks.length = R := ⟨_, rfl⟩
 rw [hR] at hno
 refine B6 Tryz.func43 rfl Tryz.ntmps43 Tryz.results43 rfl ?_
 intro w0
 refine tS (tR ?_)
 refine sE (E2 rfl rfl) rfl (fun b3 => ?_)
 refine sQ (qA rfl) rfl (sD (nS (tS (tR (sQ (qM rfl) rfl ?_)))))
 refine sQ (I4 rfl) rfl ?_
 refine sL (D4 rfl rfl) rfl rfl ?_
 refine sP (H2 rfl rfl (by omega) (by omega)) rfl rfl ?_
 refine sQ (I4 rfl) rfl ?_
 refine I1 ?_
 refine sD (nS (tS (tS (tR (sQ (qM rfl) rfl ?_)))))
 refine sQ (I4 rfl) rfl ?_
 refine sL (D4 rfl rfl) rfl rfl (sQ (qM rfl) rfl ?_)
 refine sB (A0v rfl rfl) rfl rfl (fun h24 => ?_) (fun h24 => ?_)
 refine A73 ?_
 refine E3 (outs := [.blk bc [.int .i64 _]]) (rT rfl) (A0.cons (by repeat (first | exact Pk.here | apply Pk.there)) A0.nil) ?_
 (rw [A4F (by rw [hR]; first | omega | exact Or.inr (Or.inr (Or.inr (by assumption)))) ]; exact ⟨rfl, rfl, rfl⟩)
 refine sQ (qM rfl) rfl (sQ (qM rfl) rfl (sQ (qM rfl) rfl ?_))
 refine sB (A0v rfl rfl) rfl rfl (fun h56 => ?_) (fun h56 => ?_)
 refine A0S ?_
 refine E3 (outs := [.blk bc [.int .i64 _]]) (rT rfl) (A0.cons (by repeat (first | exact Pk.here | apply Pk.there)) A0.nil) ?_
 (rw [A4F (by rw [hR]; first | omega | exact Or.inr (Or.inr (Or.inr (by assumption)))) ]; exact ⟨rfl, rfl, rfl⟩)
 refine W1 ?_
 refine sB (qE rfl rfl) rfl rfl (fun h86 => ?_) (fun h86 => ?_)
 refine N9 ?_
 refine E3 (outs := [.blk bc [.int .i64 _]]) (rT rfl) (A0.cons (by repeat (first | exact Pk.here | apply Pk.there)) A0.nil) ?_
 (rw [A4F (by rw [hR]; first | omega | exact Or.inr (Or.inr (Or.inr (by assumption)))) ]; exact ⟨rfl, rfl, rfl⟩)
 refine M3 ?_
 refine H8 rfl (hno) rfl rfl (fun h108 => ?_) (fun h108 => ?_)
 refine N9 ?_
 refine B2 ?_
 (have hmk := B2l (M := M) (D := D) (N := N) (deep := deep) (c := c) (by omega) (hR.trans (by assumption)); refine J8 (fun (x : Nat × Int) => ⟨[(44, .int .i64 x.1), (43, .int .i64 ks.length), (42, .slice p ks.length cp), (5, .pointer (some ⟨bc, 0, none⟩)), (4, .int .i64 N), (3, .int .i64 D), (2, .int .i64 M), (1, .int .i64 deep)], [.blk bc [.int .i64 x.2]], G⟩) (fun x => x.1 ≤ ks.length ∧ 0 ≤ x.2 ∧ x.2 ≤ M ∧ V0 M D N ks (deep + 1) (c + 1) = V0 M D N (ks.drop x.1) (deep + 1) x.2) (fun x => ks.length - x.1) (0, c + 1) ?_ ?_ ?_)
 (simp only [E7]; exact C2)
 exact ⟨by simp, by simp; omega, by simp; omega, by simp⟩
 (rintro ⟨i, ci⟩ ⟨hi, hc0, hc1, hst⟩; simp only [] at hi hc0 hc1 hst ⊢)
 refine tS (tR ?_)
 refine sB (I7 rfl rfl) rfl rfl (fun h132 => ?_) (fun h132 => ?_)
 refine sD (nS (tS (qT rfl (tK (nS (tS ?_))))))
 refine B2 ?_
 refine tS (tR ?_)
 (obtain ⟨b, o, e, rfl, hl, hat, hre, hgb⟩ := hsl.kidTm hkl (i := i) (by omega) (by omega); have hone := hre.one; have hle := A79 M D N ks[i] (deep + 1) ci hc0 hc1; refine sP (B3 rfl rfl rfl (by omega)) rfl rfl ?_)
 refine sL (A6 rfl rfl (hat _) hl) rfl rfl ?_
 refine sE (B0 rfl) rfl (fun b145 => ?_)
 refine A1H rfl rfl rfl (by assumption) (by assumption) rfl (by repeat first | exact Sw.here | apply Sw.there) (by exact O5 (by symm; assumption)) ?_
 refine sD (nS (tS (tR ?_)))
 refine sL (A6 rfl rfl (H0 (by repeat first | exact mH | apply mT)) (by assumption)) rfl rfl ?_
 refine sQ (qM rfl) rfl ?_
 refine sP (H2 rfl rfl (by omega) (by omega)) rfl rfl ?_
 refine K5 ?_
 refine B17 rfl (ih ks[i] (List.getElem_mem _) (deep + 1) ci G e (by omega) (by omega) hre) (Pk.perm (by repeat (first | exact Pk.here | apply Pk.there))) rfl rfl (fun h158 => ?_) (fun h158 => ?_)
 refine E1 ?_
 refine sP (H2 rfl rfl (by omega) (by omega)) rfl rfl ?_
 refine sQ (qM rfl) rfl (sD ?_)
 refine J4 (i + 1, (T1 M D N ks[i] (deep + 1) ci).2) ?_ ?_ ?_
 (simp only [E7]; exact C2)
 exact ⟨by omega, by omega, hle.2.2 (by assumption), by rw [hst, B2m (by omega) (by assumption)]⟩
 (show ks.length - (i + 1) < ks.length - i; omega)
 refine J5 ?_
 refine E3 (outs := [.blk bc [.int .i64 _]]) (rT rfl) (A0.cons (by repeat (first | exact Pk.here | apply Pk.there)) A0.nil) ?_
 (rw [hmk, hst, B2n (by omega) (by assumption)]; exact ⟨rfl, rfl, rfl⟩)
 refine J5 ?_
 refine E3 (outs := [.blk bc [.int .i64 _]]) (rT rfl) (A0.cons (by repeat (first | exact Pk.here | apply Pk.there)) A0.nil) ?_
 (rw [hmk, hst, B2o (by omega)]; exact ⟨rfl, rfl, rfl⟩)
 refine L4 ?_
 refine E3 (outs := [.blk bc [.int .i64 _]]) (rT rfl) (A0.cons (by repeat (first | exact Pk.here | apply Pk.there)) A0.nil) ?_
 (rw [A4F (by rw [hR]; first | omega | exact Or.inr (Or.inr (Or.inr (by assumption)))) ]; exact ⟨rfl, rfl, rfl⟩)
theorem A6i (t : Tm) (G : IM) (cells : List Value) (hr : B5 G t cells) : Fn Tryz.prog 14 [.agg ⟨cells⟩] [] G (J1 (.bool (O6 t)) G) := by
 have hl := hr.len
 refine B6 Tryz.func14 rfl Tryz.ntmps14 Tryz.results14 rfl ?_
 intro w0
 refine tS (tR ?_)
 refine sE (E2 rfl rfl) rfl (fun b3 => ?_)
 refine sQ (qA rfl) rfl (sD (nS (tS (tR ?_))))
 refine sE (B0 rfl) rfl (fun b9 => ?_)
 refine I1 ?_
 refine sD (nS (tS (tR ?_)))
 refine sL (A6 rfl rfl (H0 (by repeat first | exact mH | apply mT)) (by assumption)) rfl rfl ?_
 refine A51 rfl (B2Y 30 12 14 (by omega) (by omega) _ t 1 0 G cells (by omega) (by omega) hr) A1J rfl rfl ?_
 refine sQ (qA rfl) rfl (sD (nS (tT (I6 (rT rfl) ?_))))
 exact ⟨rfl, rfl, rfl⟩
theorem A8E (k : Int) (G : IM) : Fn Tryz.prog 175 [.int .i64 k] [] G (J1 (.int .i64 (V9 k)) G) := by
 refine B6 Tryz.func175 rfl Tryz.ntmps175 Tryz.results175 rfl ?_
 intro w0
 refine J3 ?_
 refine B2 ?_
 refine tS (tS (tR ?_))
 refine sB (qE rfl rfl) rfl rfl (fun h16 => ?_) (fun h16 => ?_)
 refine N9 ?_
 exact ⟨rfl, by (first | rw [(N2 k).1 (by omega)] | rw [(N2 k).2.1 (by omega)] | rw [(N2 k).2.2 (by omega) (by omega) (by omega) (by omega) (by omega)]), rfl⟩
 refine sQ (qA rfl) rfl (sD (nS (cF rfl (tS (tR ?_)))))
 refine sB (qE rfl rfl) rfl rfl (fun h40 => ?_) (fun h40 => ?_)
 refine N9 ?_
 exact ⟨rfl, by (first | rw [(N2 k).1 (by omega)] | rw [(N2 k).2.1 (by omega)] | rw [(N2 k).2.2 (by omega) (by omega) (by omega) (by omega) (by omega)]), rfl⟩
 refine sQ (qA rfl) rfl (sD (nS (cF rfl (tR ?_))))
 refine sB (qE rfl rfl) rfl rfl (fun h63 => ?_) (fun h63 => ?_)
 refine L7 ?_
 exact ⟨rfl, by (first | rw [(N2 k).1 (by omega)] | rw [(N2 k).2.1 (by omega)] | rw [(N2 k).2.2 (by omega) (by omega) (by omega) (by omega) (by omega)]), rfl⟩
 refine sQ (qA rfl) rfl (sD (nS (cF rfl (tS (tS (tR ?_))))))
 refine sB (qE rfl rfl) rfl rfl (fun h85 => ?_) (fun h85 => ?_)
 refine N9 ?_
 exact ⟨rfl, by (first | rw [(N2 k).1 (by omega)] | rw [(N2 k).2.1 (by omega)] | rw [(N2 k).2.2 (by omega) (by omega) (by omega) (by omega) (by omega)]), rfl⟩
 refine sQ (qA rfl) rfl (sD (nS (cF rfl (tR ?_))))
 refine sB (qE rfl rfl) rfl rfl (fun h108 => ?_) (fun h108 => ?_)
 refine L7 ?_
 exact ⟨rfl, by (first | rw [(N2 k).1 (by omega)] | rw [(N2 k).2.1 (by omega)] | rw [(N2 k).2.2 (by omega) (by omega) (by omega) (by omega) (by omega)]), rfl⟩
 refine M5 ?_
 exact ⟨rfl, by (first | rw [(N2 k).1 (by omega)] | rw [(N2 k).2.1 (by omega)] | rw [(N2 k).2.2 (by omega) (by omega) (by omega) (by omega) (by omega)]), rfl⟩
theorem A6j (k : Int) (G : IM) : Fn Tryz.prog 93 [.int .i64 k] [] G (J1 (.int .i64 (D5 k)) G) := by
 refine B6 Tryz.func93 rfl Tryz.ntmps93 Tryz.results93 rfl ?_
 intro w0
 refine J3 ?_
 refine B2 ?_
 refine tS (tS (tR ?_))
 refine sB (qE rfl rfl) rfl rfl (fun h16 => ?_) (fun h16 => ?_)
 refine N9 ?_
 exact ⟨rfl, by (unfold D5; first | rw [if_pos (by omega)] | rw [if_neg (by omega), if_pos (by omega)] | rw [if_neg (by omega), if_neg (by omega), if_pos (by omega)] | rw [if_neg (by omega), if_neg (by omega), if_neg (by omega), if_pos (by omega)] | rw [if_neg (by omega), if_neg (by omega), if_neg (by omega), if_neg (by omega)]), rfl⟩
 refine sQ (qA rfl) rfl (sD (nS (cF rfl (tS (tR ?_)))))
 refine sB (qE rfl rfl) rfl rfl (fun h40 => ?_) (fun h40 => ?_)
 refine N9 ?_
 exact ⟨rfl, by (unfold D5; first | rw [if_pos (by omega)] | rw [if_neg (by omega), if_pos (by omega)] | rw [if_neg (by omega), if_neg (by omega), if_pos (by omega)] | rw [if_neg (by omega), if_neg (by omega), if_neg (by omega), if_pos (by omega)] | rw [if_neg (by omega), if_neg (by omega), if_neg (by omega), if_neg (by omega)]), rfl⟩
 refine sQ (qA rfl) rfl (sD (nS (cF rfl (tS (tR ?_)))))
 refine sB (qE rfl rfl) rfl rfl (fun h64 => ?_) (fun h64 => ?_)
 refine N9 ?_
 exact ⟨rfl, by (unfold D5; first | rw [if_pos (by omega)] | rw [if_neg (by omega), if_pos (by omega)] | rw [if_neg (by omega), if_neg (by omega), if_pos (by omega)] | rw [if_neg (by omega), if_neg (by omega), if_neg (by omega), if_pos (by omega)] | rw [if_neg (by omega), if_neg (by omega), if_neg (by omega), if_neg (by omega)]), rfl⟩
 refine sQ (qA rfl) rfl (sD (nS (cF rfl (tR ?_))))
 refine sB (qE rfl rfl) rfl rfl (fun h87 => ?_) (fun h87 => ?_)
 refine L7 ?_
 exact ⟨rfl, by (unfold D5; first | rw [if_pos (by omega)] | rw [if_neg (by omega), if_pos (by omega)] | rw [if_neg (by omega), if_neg (by omega), if_pos (by omega)] | rw [if_neg (by omega), if_neg (by omega), if_neg (by omega), if_pos (by omega)] | rw [if_neg (by omega), if_neg (by omega), if_neg (by omega), if_neg (by omega)]), rfl⟩
 refine sQ (qA rfl) rfl (sD (nS (cF rfl (tS (tS (tR ?_))))))
 refine sB (qE rfl rfl) rfl rfl (fun h109 => ?_) (fun h109 => ?_)
 refine N9 ?_
 exact ⟨rfl, by (unfold D5; first | rw [if_pos (by omega)] | rw [if_neg (by omega), if_pos (by omega)] | rw [if_neg (by omega), if_neg (by omega), if_pos (by omega)] | rw [if_neg (by omega), if_neg (by omega), if_neg (by omega), if_pos (by omega)] | rw [if_neg (by omega), if_neg (by omega), if_neg (by omega), if_neg (by omega)]), rfl⟩
 refine sQ (qA rfl) rfl (sD (nS (cF rfl (tS (tR ?_)))))
 refine sB (qE rfl rfl) rfl rfl (fun h133 => ?_) (fun h133 => ?_)
 refine N9 ?_
 exact ⟨rfl, by (unfold D5; first | rw [if_pos (by omega)] | rw [if_neg (by omega), if_pos (by omega)] | rw [if_neg (by omega), if_neg (by omega), if_pos (by omega)] | rw [if_neg (by omega), if_neg (by omega), if_neg (by omega), if_pos (by omega)] | rw [if_neg (by omega), if_neg (by omega), if_neg (by omega), if_neg (by omega)]), rfl⟩
 refine sQ (qA rfl) rfl (sD (nS (cF rfl (tS (tR ?_)))))
 refine sB (qE rfl rfl) rfl rfl (fun h157 => ?_) (fun h157 => ?_)
 refine N9 ?_
 exact ⟨rfl, by (unfold D5; first | rw [if_pos (by omega)] | rw [if_neg (by omega), if_pos (by omega)] | rw [if_neg (by omega), if_neg (by omega), if_pos (by omega)] | rw [if_neg (by omega), if_neg (by omega), if_neg (by omega), if_pos (by omega)] | rw [if_neg (by omega), if_neg (by omega), if_neg (by omega), if_neg (by omega)]), rfl⟩
 refine sQ (qA rfl) rfl (sD (nS (cF rfl (tS (tR ?_)))))
 refine sB (qE rfl rfl) rfl rfl (fun h181 => ?_) (fun h181 => ?_)
 refine N9 ?_
 exact ⟨rfl, by (unfold D5; first | rw [if_pos (by omega)] | rw [if_neg (by omega), if_pos (by omega)] | rw [if_neg (by omega), if_neg (by omega), if_pos (by omega)] | rw [if_neg (by omega), if_neg (by omega), if_neg (by omega), if_pos (by omega)] | rw [if_neg (by omega), if_neg (by omega), if_neg (by omega), if_neg (by omega)]), rfl⟩
 refine sQ (qA rfl) rfl (sD (nS (cF rfl (tR ?_))))
 refine sB (qE rfl rfl) rfl rfl (fun h204 => ?_) (fun h204 => ?_)
 refine L7 ?_
 exact ⟨rfl, by (unfold D5; first | rw [if_pos (by omega)] | rw [if_neg (by omega), if_pos (by omega)] | rw [if_neg (by omega), if_neg (by omega), if_pos (by omega)] | rw [if_neg (by omega), if_neg (by omega), if_neg (by omega), if_pos (by omega)] | rw [if_neg (by omega), if_neg (by omega), if_neg (by omega), if_neg (by omega)]), rfl⟩
 refine sQ (qA rfl) rfl (sD (nS (cF rfl (tS (tS (tR ?_))))))
 refine sB (qE rfl rfl) rfl rfl (fun h226 => ?_) (fun h226 => ?_)
 refine N9 ?_
 exact ⟨rfl, by (unfold D5; first | rw [if_pos (by omega)] | rw [if_neg (by omega), if_pos (by omega)] | rw [if_neg (by omega), if_neg (by omega), if_pos (by omega)] | rw [if_neg (by omega), if_neg (by omega), if_neg (by omega), if_pos (by omega)] | rw [if_neg (by omega), if_neg (by omega), if_neg (by omega), if_neg (by omega)]), rfl⟩
 refine sQ (qA rfl) rfl (sD (nS (cF rfl (tS (tR ?_)))))
 refine sB (qE rfl rfl) rfl rfl (fun h250 => ?_) (fun h250 => ?_)
 refine N9 ?_
 exact ⟨rfl, by (unfold D5; first | rw [if_pos (by omega)] | rw [if_neg (by omega), if_pos (by omega)] | rw [if_neg (by omega), if_neg (by omega), if_pos (by omega)] | rw [if_neg (by omega), if_neg (by omega), if_neg (by omega), if_pos (by omega)] | rw [if_neg (by omega), if_neg (by omega), if_neg (by omega), if_neg (by omega)]), rfl⟩
 refine sQ (qA rfl) rfl (sD (nS (cF rfl (tS (tR ?_)))))
 refine sB (qE rfl rfl) rfl rfl (fun h274 => ?_) (fun h274 => ?_)
 refine N9 ?_
 exact ⟨rfl, by (unfold D5; first | rw [if_pos (by omega)] | rw [if_neg (by omega), if_pos (by omega)] | rw [if_neg (by omega), if_neg (by omega), if_pos (by omega)] | rw [if_neg (by omega), if_neg (by omega), if_neg (by omega), if_pos (by omega)] | rw [if_neg (by omega), if_neg (by omega), if_neg (by omega), if_neg (by omega)]), rfl⟩
 refine sQ (qA rfl) rfl (sD (nS (cF rfl (tR ?_))))
 refine sB (qE rfl rfl) rfl rfl (fun h297 => ?_) (fun h297 => ?_)
 refine L7 ?_
 exact ⟨rfl, by (unfold D5; first | rw [if_pos (by omega)] | rw [if_neg (by omega), if_pos (by omega)] | rw [if_neg (by omega), if_neg (by omega), if_pos (by omega)] | rw [if_neg (by omega), if_neg (by omega), if_neg (by omega), if_pos (by omega)] | rw [if_neg (by omega), if_neg (by omega), if_neg (by omega), if_neg (by omega)]), rfl⟩
 refine sQ (qA rfl) rfl (sD (nS (cF rfl (tS (tR ?_)))))
 refine sB (qE rfl rfl) rfl rfl (fun h318 => ?_) (fun h318 => ?_)
 refine L7 ?_
 exact ⟨rfl, by (unfold D5; first | rw [if_pos (by omega)] | rw [if_neg (by omega), if_pos (by omega)] | rw [if_neg (by omega), if_neg (by omega), if_pos (by omega)] | rw [if_neg (by omega), if_neg (by omega), if_neg (by omega), if_pos (by omega)] | rw [if_neg (by omega), if_neg (by omega), if_neg (by omega), if_neg (by omega)]), rfl⟩
 refine M5 ?_
 exact ⟨rfl, by (unfold D5; first | rw [if_pos (by omega)] | rw [if_neg (by omega), if_pos (by omega)] | rw [if_neg (by omega), if_neg (by omega), if_pos (by omega)] | rw [if_neg (by omega), if_neg (by omega), if_neg (by omega), if_pos (by omega)] | rw [if_neg (by omega), if_neg (by omega), if_neg (by omega), if_neg (by omega)]), rfl⟩
theorem B2Z (s : ByteArray) (G : IM) : Fn Tryz.prog 104 [.string s] [] G (J1 (.bool (Y4 s)) G) := by
 refine B6 Tryz.func104 rfl Tryz.ntmps104 Tryz.results104 rfl ?_
 intro w0
 refine E1 ?_
 refine sQ (A0w rfl rfl) rfl (sB (qE rfl rfl) rfl rfl (fun h10 => ?_) (fun h10 => ?_))
 refine sQ (qM rfl) rfl (sQ (qM rfl) rfl ?_)
 refine sP (A3C rfl rfl rfl (by omega) (A4D (by omega))) rfl rfl ?_
 refine sB (Y2 rfl rfl) rfl rfl (fun h14 => ?_) (fun h14 => ?_)
 refine sQ (N4 rfl rfl) rfl (sQ (qM rfl) rfl (sQ (qM rfl) rfl ?_))
 refine sP (A3C rfl rfl rfl (by omega) (A4D (by omega))) rfl rfl ?_
 refine sB (V6 rfl rfl) rfl rfl (fun h19 => ?_) (fun h19 => ?_)
 refine N6 ?_
 exact ⟨rfl, by simp only [Y4]; (try simp only [Int.toNat_zero] at *); (first | rw [decide_eq_true (by omega)] | rw [decide_eq_false (by omega)]), rfl⟩
 refine N6 ?_
 exact ⟨rfl, by simp only [Y4]; (try simp only [Int.toNat_zero] at *); (first | rw [decide_eq_true (by omega)] | rw [decide_eq_false (by omega)]), rfl⟩
 refine J3 ?_
 exact ⟨rfl, by simp only [Y4]; (try simp only [Int.toNat_zero] at *); (first | rw [decide_eq_true (by omega)] | rw [decide_eq_false (by omega)]), rfl⟩
 refine J5 ?_
 exact ⟨rfl, by simp only [Y4]; (try simp only [Int.toNat_zero] at *); (first | rw [decide_eq_true (by omega)] | rw [decide_eq_false (by omega)]), rfl⟩
theorem A8F (t : Ty) (G : IM) (cells : List Value) (hr : A8 G t cells) : Fn Tryz.prog 164 [.agg ⟨cells⟩] [] G (J1 (.bool (Z5 t)) G) := by
 obtain ⟨p, c, es, rfl, hk, hsl, hkl⟩ := hr.open
 refine B6 Tryz.func164 rfl Tryz.ntmps164 Tryz.results164 rfl ?_
 intro w0
 refine tS (tR ?_)
 refine sE (E2 rfl rfl) rfl (fun b3 => ?_)
 refine C5 ?_
 refine sB (qE rfl rfl) rfl rfl (fun h11 => ?_) (fun h11 => ?_)
 refine K5 ?_
 refine sB (qE rfl rfl) rfl rfl (fun h16 => ?_) (fun h16 => ?_)
 refine N6 ?_
 exact ⟨rfl, by simp only [Z5]; (first | rw [decide_eq_true (by omega)] | rw [decide_eq_false (by omega)]), rfl⟩
 refine N6 ?_
 exact ⟨rfl, by simp only [Z5]; (first | rw [decide_eq_true (by omega)] | rw [decide_eq_false (by omega)]), rfl⟩
 refine J3 ?_
 exact ⟨rfl, by simp only [Z5]; (first | rw [decide_eq_true (by omega)] | rw [decide_eq_false (by omega)]), rfl⟩
def B7M (n : Int) : Int := if n < -99 ∨ n > 99 then 0 else if n < 0 then -n else n
theorem A8G {k : Int} {ks : List Ty} {d : Int} (h : 4 < d ∨ V9 k ≠ ks.length) : K3 (.mk k ks) d = false := by
 rw [K3]
 rcases h with h | h
 ·rw [decide_eq_false (by omega)]; rfl
 ·rw [decide_eq_false (p := V9 k = ks.length) h, Bool.and_false]; rfl
theorem A8H {k : Int} {ks : List Ty} {d : Int} (h : d ≤ 4) (h2 : V9 k = ks.length) : K3 (.mk k ks) d = U2 ks (d + 1) := by
 rw [K3, decide_eq_true h, decide_eq_true h2]; rfl
theorem B20 {ks : List Ty} {d : Int} {i : Nat} (hi : i < ks.length) (h : K3 ks[i] d = false) : U2 ks d = false := by
 cases hx : U2 ks d with
 | false => rfl
 | true => rw [(A4C ks d).1 hx i hi] at h; cases h
theorem B21 : ∀ (t : Ty) (d : Int) (G : IM) (cells : List Value), 0 ≤ d ∧ d ≤ 4 → A8 G t cells →
  Fn Tryz.prog 194 [.agg ⟨cells⟩, .int .i64 d] [] G (J1 (.bool (K3 t (5 - d))) G) := by
 refine Ty.ind fun k ks ih d G cells hd hr => ?_
 obtain ⟨p, c, es, rfl, hk, hsl, hkl⟩ := hr.open
 simp only [Ty.k, Ty.ks] at hk hsl hkl ⊢
 have hn := hsl.le
 have hk1 := A8E k G
 refine B6 Tryz.func194 rfl Tryz.ntmps194 Tryz.results194 rfl ?_
 intro w0
 refine tS (tR ?_)
 refine sE (E2 rfl rfl) rfl (fun b3 => ?_)
 refine sQ (qA rfl) rfl (sD (nS (tS (tS ?_))))
 refine D7 D8 rfl ?_
 refine H4 (i := 0) (l' := [tt,ff,ff,ff,ff,ff,ff,ff,ff,ff,ff]) rfl D3 (qM rfl) rfl (by kernel_rfl) rfl rfl ?_
 refine A2t (i := 1) (l' := [tt,tt,ff,ff,ff,ff,ff,ff,ff,ff,ff]) rfl D3 (I7 rfl rfl) rfl (by kernel_rfl) rfl rfl (fun h11 => ?_) (fun h11 => ?_)
 refine aP 2 rfl (qM rfl) rfl ?_
 refine E0 3 rfl rfl rfl ?_
 refine E0 4 rfl rfl rfl ?_
 refine E0 6 rfl rfl rfl ?_
 refine E0 7 rfl rfl rfl ?_
 refine E0 8 rfl rfl rfl ?_
 refine E0 5 rfl rfl rfl ?_
 refine E0 9 rfl rfl rfl ?_
 refine aP 10 rfl (N4 rfl rfl) rfl ?_
 refine J3 ?_
 (rw [A8G (by omega)]; exact ⟨rfl, rfl, rfl⟩)
 refine aP 2 rfl (qM rfl) rfl ?_
 refine aP 3 rfl (B1 rfl) rfl ?_
 refine aL 4 rfl (D4 rfl rfl) rfl ?_
 refine aP 6 rfl (B1 rfl) rfl ?_
 refine aL 7 rfl (D4 rfl rfl) rfl ?_
 refine aP 8 rfl (W0 rfl rfl) rfl ?_
 refine A2 5 ?_
 refine S4 rfl rfl (hk1) rfl rfl rfl ?_
 refine A2t (i := 9) (l' := [tt,tt,tt,tt,tt,tt,tt,tt,tt,tt,ff]) rfl D3 (X4 rfl rfl) rfl (by kernel_rfl) rfl rfl (fun h41 => ?_) (fun h41 => ?_)
 refine aP 10 rfl (S2 rfl rfl) rfl ?_
 refine J3 ?_
 (rw [A8G (by omega)]; exact ⟨rfl, rfl, rfl⟩)
 refine aP 10 rfl (S2 rfl rfl) rfl ?_
 refine J3 ?_
 refine B2 ?_
 (refine J8 (fun (i : Nat) => ⟨[(5, .int .i64 i), (2, .pointer (some ⟨b3, 0, none⟩)), (1, .int .i64 d)], [.blk b3 [.int .i64 k, .slice p ks.length c]], G⟩) (fun i => i ≤ ks.length ∧ ∀ j (h : j < ks.length), j < i → K3 ks[j] (5 - d + 1) = true) (fun i => ks.length - i) 0 ?_ ?_ ?_)
 exact C2
 exact ⟨by omega, by omega⟩
 (rintro i ⟨hi, hf⟩)
 refine C5 ?_
 refine sB (I7 rfl rfl) rfl rfl (fun h79 => ?_) (fun h79 => ?_)
 refine sD (nS (qT rfl (tK (nS (tS ?_)))))
 refine B2 ?_
 refine W1 ?_
 (obtain ⟨b, o, p2, c2, rfl, hat, hre, hgb⟩ := hsl.kidTy hkl (i := i) (by omega) (by omega); refine sP (B3 rfl rfl rfl (by omega)) rfl rfl ?_)
 refine sL (A6 rfl rfl (hat _) rfl) rfl rfl ?_
 refine sQ (qM rfl) rfl ?_
 refine sP (N1 rfl rfl (by omega) (by omega)) rfl rfl ?_
 (have hih := ih ks[i] (List.getElem_mem (by omega)) (d - 1) G _ (by omega) hre; rw [show 5 - (d - 1) = 5 - d + 1 by omega] at hih; refine H8 rfl hih rfl rfl (fun h96 => ?_) (fun h96 => ?_))
 refine E8 ?_
 refine sP (H2 rfl rfl (by omega) (by omega)) rfl rfl ?_
 refine sQ (qA rfl) rfl (sD ?_)
 refine J4 (i + 1) ?_ ?_ ?_
 exact C2
 exact ⟨by omega, fun j hj hji => by (by_cases he : j = i; (subst he; assumption); exact hf j hj (by omega))⟩
 omega
 refine N9 ?_
 (rw [A8H (by omega) (by omega), B20 (i := i) (by omega) (by assumption)]; exact ⟨rfl, rfl, rfl⟩)
 refine J5 ?_
 (rw [A8H (by omega) (by omega), (A4C ks _).2 (fun j hj => hf j hj (by omega))]; exact ⟨rfl, rfl, rfl⟩)
theorem A28 (t : Ty) (G : IM) (cells : List Value) (hr : A8 G t cells) : Fn Tryz.prog 163 [.agg ⟨cells⟩] [] G (J1 (.bool (E4 t)) G) := by
 have hl := hr.len
 have hv := B21 t 4 G cells (by omega) hr
 refine B6 Tryz.func163 rfl Tryz.ntmps163 Tryz.results163 rfl ?_
 intro w0
 refine tS (tR ?_)
 refine sE (E2 rfl rfl) rfl (fun b3 => ?_)
 refine sQ (qA rfl) rfl (sD (nS (tS (tR ?_))))
 refine sL (A6 rfl rfl (H0 (by repeat first | exact mH | apply mT)) (by assumption)) rfl rfl ?_
 refine H6 rfl (hv) rfl rfl ?_
 refine sQ (qA rfl) rfl (sD (nS (tT (I6 (rT rfl) ?_))))
 exact ⟨rfl, rfl, rfl⟩
theorem A6k {k : Int} {ks : List Ty} {d : Int} (h : K3 (.mk k ks) d = true) : V9 k = ks.length ∧ ∀ i, (hi : i < ks.length) → K3 ks[i] (d + 1) = true := by
 rw [K3] at h
 simp only [Bool.and_eq_true, decide_eq_true_eq] at h
 exact ⟨h.1.2, (A4C ks _).1 h.2⟩
theorem A8I {k k' : Int} {ks ks' : List Ty} (h : k = 1 ∨ k' = 1) : J6 (.mk k ks) (.mk k' ks') = true := by
 rw [T0]
 rcases h with h | h
 ·rw [decide_eq_true (p := k = 1) h]; rfl
 ·rw [decide_eq_true (p := k' = 1) h]; simp
theorem B22 {k k' : Int} {ks ks' : List Ty} (h : k ≠ 1) (h' : k' ≠ 1) (hk : k ≠ k') : J6 (.mk k ks) (.mk k' ks') = false := by
 rw [T0, decide_eq_false h, decide_eq_false h', decide_eq_false hk]; rfl
theorem A8J {k k' : Int} {ks ks' : List Ty} (h : k ≠ 1) (h' : k' ≠ 1) (hk : k = k') : J6 (.mk k ks) (.mk k' ks') = M6 ks ks' := by
 rw [T0, decide_eq_false h, decide_eq_false h', decide_eq_true hk]; rfl
theorem B23 {ks ks' : List Ty} {i : Nat} (hi : i < ks.length) (hi' : i < ks'.length) (h : J6 ks[i] ks'[i] = false) : M6 ks ks' = false := by
 cases hx : M6 ks ks' with
 | false => rfl
 | true => rw [((A2z ks ks').1 hx).2 i hi hi'] at h; cases h
section blaws
variable {P : Program} {Γ : I3} {env : J0} {hp : List A1} {G : IM} {ty : TypeId}
theorem A1Q {x y : Operand} {t t' : TypeId} {i : H7} [hI : C7 P t i] (hd : i.desc = .bool) {r : Bool} (hx : evo env x = some (.bool r)) (hy : evo env y = some (.bool r)) :
  E6 P Γ ⟨env, hp, G⟩ (.binOp .neq t x y t') ty (.bool false) := by
 have h := A5P (P := P) (Γ := Γ) (hp := hp) (G := G) (t := t) (t' := t') (ty := ty) hd hx hy
 rwa [decide_eq_false (by simp)] at h
theorem A8K {x y : Operand} {t t' : TypeId} {i : H7} [hI : C7 P t i] (hd : i.desc = .bool) (hx : evo env x = some (.bool true)) (hy : evo env y = some (.bool false)) :
  E6 P Γ ⟨env, hp, G⟩ (.binOp .neq t x y t') ty (.bool true) := A5P hd hx hy
theorem A6l {x y : Operand} {t t' : TypeId} {i : H7} [hI : C7 P t i] (hd : i.desc = .bool) (hx : evo env x = some (.bool false)) (hy : evo env y = some (.bool true)) :
  E6 P Γ ⟨env, hp, G⟩ (.binOp .neq t x y t') ty (.bool true) := A5P hd hx hy
end blaws
theorem B24 (k : Int) (nm : ByteArray) (num : Int) (ty fr : Ty) (lb : Int) (ks : List Tm) (G : IM) (cells : List Value) (hr : B5 G (.mk k nm num ty fr lb ks) cells) (R : Bool)
  (hi : R = true ↔ (k = 1 ∨ k = 5 → Y4 nm = true) ∧ (¬(k = 1 ∨ k = 5) → nm = ⟨#[]⟩) ∧ (k = 5 ∨ k = 13 ∨ k = 14 → E4 ty = true) ∧ (¬(k = 5 ∨ k = 13 ∨ k = 14) → Z5 ty = true) ∧ (k ≠ 14 → Z5 fr = true ∧ lb = 0) ∧ (k = 2 → 0 ≤ num ∧ num ≤ 999) ∧ (k ≠ 2 → num = 0)) :
  Fn Tryz.prog 94 [.agg ⟨cells⟩] [] G (J1 (.bool R) G) := by
 have he : nm = ⟨#[]⟩ → Y4 nm = false := by rintro rfl; rfl
 obtain ⟨tk, tks⟩ := ty
 obtain ⟨fk, fks⟩ := fr
 obtain ⟨pt, ct, pf, cf, p, c, es, rfl, hk, hnum, hlb, hty, hfr, hsl, hkl⟩ := hr.open9
 clear hr
 have o2 := B2Z nm G
 have o3 := A28 _ G _ hty
 have o4 := A8F _ G _ hty
 have o7 := A8F _ G _ hfr
 refine B6 Tryz.func94 rfl Tryz.ntmps94 Tryz.results94 rfl ?_
 intro w0
 refine tS (tR ?_)
 refine sE (E2 rfl rfl) rfl (fun b3 => ?_)
 refine C5 ?_
 refine sB (qE rfl rfl) rfl rfl (fun h11 => ?_) (fun h11 => ?_)
 refine L4 ?_
 refine sP (K9 rfl rfl (by omega)) rfl rfl ?_
 refine M3 ?_
 refine sP (K9 rfl rfl (by omega)) rfl rfl ?_
 refine K5 ?_
 refine sP (K9 rfl rfl (by omega)) rfl rfl ?_
 refine H9 ?_
 refine H8 rfl (o2) rfl rfl (fun h44 => ?_) (fun h44 => ?_)
 refine sQ (A1Q rfl rfl rfl) rfl ?_
 refine A25 ?_
 refine H8 rfl (o4) rfl rfl (fun h70 => ?_) (fun h70 => ?_)
 refine L7 ?_
 refine sP (A3D rfl rfl (by omega)) rfl rfl ?_
 refine M3 ?_
 refine H8 rfl (o7) rfl rfl (fun h88 => ?_) (fun h88 => ?_)
 refine K5 ?_
 refine sB (X4 rfl rfl) rfl rfl (fun h93 => ?_) (fun h93 => ?_)
 refine L7 ?_
 exact ⟨rfl, by (cases R with | false => rfl | true => (exfalso; obtain ⟨i1, i2, i3, i4, i5, i6, i7⟩ := hi.1 rfl; first | omega | (have j := i1 (by omega); simp_all; done) | (have j := he (i2 (by omega)); simp_all; done) | (have j := i2 (by omega); simp_all; done) | (have j := i3 (by omega); simp_all; done) | (have j := i4 (by omega); simp_all; done) | (have j := i5 (by omega); simp_all; done))), rfl⟩
 refine L4 ?_
 refine sP (K9 rfl rfl (by omega)) rfl rfl ?_
 refine E8 ?_
 refine sB (qE rfl rfl) rfl rfl (fun h130 => ?_) (fun h130 => ?_)
 refine sQ (qA rfl) rfl (sD (nS (tT (I6 (rT rfl) ?_))))
 exact ⟨rfl, by rw [hi.2 ⟨fun _ => by (first | assumption | (exfalso; omega)), fun _ => by (first | assumption | (exfalso; omega) | exact Classical.not_not.1 (by assumption)), fun _ => by (first | assumption | (exfalso; omega)), fun _ => by (first | assumption | (exfalso; omega)), fun _ => ⟨by (first | assumption | (exfalso; omega)), by (first | assumption | omega)⟩, by omega, by omega⟩], rfl⟩
 refine sQ (qA rfl) rfl (sD (nS (tT (I6 (rT rfl) ?_))))
 exact ⟨rfl, by (cases R with | false => rfl | true => (exfalso; obtain ⟨i1, i2, i3, i4, i5, i6, i7⟩ := hi.1 rfl; first | omega | (have j := i1 (by omega); simp_all; done) | (have j := he (i2 (by omega)); simp_all; done) | (have j := i2 (by omega); simp_all; done) | (have j := i3 (by omega); simp_all; done) | (have j := i4 (by omega); simp_all; done) | (have j := i5 (by omega); simp_all; done))), rfl⟩
 refine A0g ?_
 exact ⟨rfl, by (cases R with | false => rfl | true => (exfalso; obtain ⟨i1, i2, i3, i4, i5, i6, i7⟩ := hi.1 rfl; first | omega | (have j := i1 (by omega); simp_all; done) | (have j := he (i2 (by omega)); simp_all; done) | (have j := i2 (by omega); simp_all; done) | (have j := i3 (by omega); simp_all; done) | (have j := i4 (by omega); simp_all; done) | (have j := i5 (by omega); simp_all; done))), rfl⟩
 refine M5 ?_
 exact ⟨rfl, by (cases R with | false => rfl | true => (exfalso; obtain ⟨i1, i2, i3, i4, i5, i6, i7⟩ := hi.1 rfl; first | omega | (have j := i1 (by omega); simp_all; done) | (have j := he (i2 (by omega)); simp_all; done) | (have j := i2 (by omega); simp_all; done) | (have j := i3 (by omega); simp_all; done) | (have j := i4 (by omega); simp_all; done) | (have j := i5 (by omega); simp_all; done))), rfl⟩
 refine sQ (A8K rfl rfl rfl) rfl ?_
 refine A0x ?_
 refine E8 ?_
 exact ⟨rfl, by (cases R with | false => rfl | true => (exfalso; obtain ⟨i1, i2, i3, i4, i5, i6, i7⟩ := hi.1 rfl; first | omega | (have j := i1 (by omega); simp_all; done) | (have j := he (i2 (by omega)); simp_all; done) | (have j := i2 (by omega); simp_all; done) | (have j := i3 (by omega); simp_all; done) | (have j := i4 (by omega); simp_all; done) | (have j := i5 (by omega); simp_all; done))), rfl⟩
 refine M3 ?_
 refine sB (qE rfl rfl) rfl rfl (fun h221 => ?_) (fun h221 => ?_)
 refine E1 ?_
 refine sP (A1i rfl rfl (by omega)) rfl rfl ?_
 refine A1l ?_
 refine H8 rfl (o2) rfl rfl (fun h250 => ?_) (fun h250 => ?_)
 refine sQ (A1Q rfl rfl rfl) rfl ?_
 refine M5 ?_
 refine H8 rfl (o3) rfl rfl (fun h266 => ?_) (fun h266 => ?_)
 refine A2y ?_
 refine sP (A3D rfl rfl (by omega)) rfl rfl ?_
 refine M3 ?_
 refine H8 rfl (o7) rfl rfl (fun h294 => ?_) (fun h294 => ?_)
 refine K5 ?_
 refine sB (X4 rfl rfl) rfl rfl (fun h299 => ?_) (fun h299 => ?_)
 refine L7 ?_
 exact ⟨rfl, by (cases R with | false => rfl | true => (exfalso; obtain ⟨i1, i2, i3, i4, i5, i6, i7⟩ := hi.1 rfl; first | omega | (have j := i1 (by omega); simp_all; done) | (have j := he (i2 (by omega)); simp_all; done) | (have j := i2 (by omega); simp_all; done) | (have j := i3 (by omega); simp_all; done) | (have j := i4 (by omega); simp_all; done) | (have j := i5 (by omega); simp_all; done))), rfl⟩
 refine L4 ?_
 refine sP (K9 rfl rfl (by omega)) rfl rfl ?_
 refine E8 ?_
 refine sB (qE rfl rfl) rfl rfl (fun h336 => ?_) (fun h336 => ?_)
 refine sQ (qA rfl) rfl (sD (nS (tT (I6 (rT rfl) ?_))))
 exact ⟨rfl, by rw [hi.2 ⟨fun _ => by (first | assumption | (exfalso; omega)), fun _ => by (first | assumption | (exfalso; omega) | exact Classical.not_not.1 (by assumption)), fun _ => by (first | assumption | (exfalso; omega)), fun _ => by (first | assumption | (exfalso; omega)), fun _ => ⟨by (first | assumption | (exfalso; omega)), by (first | assumption | omega)⟩, by omega, by omega⟩], rfl⟩
 refine sQ (qA rfl) rfl (sD (nS (tT (I6 (rT rfl) ?_))))
 exact ⟨rfl, by (cases R with | false => rfl | true => (exfalso; obtain ⟨i1, i2, i3, i4, i5, i6, i7⟩ := hi.1 rfl; first | omega | (have j := i1 (by omega); simp_all; done) | (have j := he (i2 (by omega)); simp_all; done) | (have j := i2 (by omega); simp_all; done) | (have j := i3 (by omega); simp_all; done) | (have j := i4 (by omega); simp_all; done) | (have j := i5 (by omega); simp_all; done))), rfl⟩
 refine A0g ?_
 exact ⟨rfl, by (cases R with | false => rfl | true => (exfalso; obtain ⟨i1, i2, i3, i4, i5, i6, i7⟩ := hi.1 rfl; first | omega | (have j := i1 (by omega); simp_all; done) | (have j := he (i2 (by omega)); simp_all; done) | (have j := i2 (by omega); simp_all; done) | (have j := i3 (by omega); simp_all; done) | (have j := i4 (by omega); simp_all; done) | (have j := i5 (by omega); simp_all; done))), rfl⟩
 refine A25 ?_
 exact ⟨rfl, by (cases R with | false => rfl | true => (exfalso; obtain ⟨i1, i2, i3, i4, i5, i6, i7⟩ := hi.1 rfl; first | omega | (have j := i1 (by omega); simp_all; done) | (have j := he (i2 (by omega)); simp_all; done) | (have j := i2 (by omega); simp_all; done) | (have j := i3 (by omega); simp_all; done) | (have j := i4 (by omega); simp_all; done) | (have j := i5 (by omega); simp_all; done))), rfl⟩
 refine sQ (A8K rfl rfl rfl) rfl ?_
 refine A0x ?_
 refine E8 ?_
 exact ⟨rfl, by (cases R with | false => rfl | true => (exfalso; obtain ⟨i1, i2, i3, i4, i5, i6, i7⟩ := hi.1 rfl; first | omega | (have j := i1 (by omega); simp_all; done) | (have j := he (i2 (by omega)); simp_all; done) | (have j := i2 (by omega); simp_all; done) | (have j := i3 (by omega); simp_all; done) | (have j := i4 (by omega); simp_all; done) | (have j := i5 (by omega); simp_all; done))), rfl⟩
 refine E1 ?_
 refine sP (K9 rfl rfl (by omega)) rfl rfl ?_
 refine M3 ?_
 refine sB (qE rfl rfl) rfl rfl (fun h446 => ?_) (fun h446 => ?_)
 refine J5 ?_
 refine H8 rfl (o2) rfl rfl (fun h462 => ?_) (fun h462 => ?_)
 refine sQ (A6l rfl rfl rfl) rfl ?_
 refine A0x ?_
 refine E8 ?_
 exact ⟨rfl, by (cases R with | false => rfl | true => (exfalso; obtain ⟨i1, i2, i3, i4, i5, i6, i7⟩ := hi.1 rfl; first | omega | (have j := i1 (by omega); simp_all; done) | (have j := he (i2 (by omega)); simp_all; done) | (have j := i2 (by omega); simp_all; done) | (have j := i3 (by omega); simp_all; done) | (have j := i4 (by omega); simp_all; done) | (have j := i5 (by omega); simp_all; done))), rfl⟩
 refine sQ (A1Q rfl rfl rfl) rfl ?_
 refine N6 ?_
 refine sB (A1F rfl rfl) rfl rfl (fun h511 => ?_) (fun h511 => ?_)
 refine A0x ?_
 refine rS (I6 (rT rfl) ?_)
 exact ⟨rfl, by (cases R with | false => rfl | true => (exfalso; obtain ⟨i1, i2, i3, i4, i5, i6, i7⟩ := hi.1 rfl; first | omega | (have j := i1 (by omega); simp_all; done) | (have j := he (i2 (by omega)); simp_all; done) | (have j := i2 (by omega); simp_all; done) | (have j := i3 (by omega); simp_all; done) | (have j := i4 (by omega); simp_all; done) | (have j := i5 (by omega); simp_all; done))), rfl⟩
 refine C5 ?_
 refine H8 rfl (o3) rfl rfl (fun h552 => ?_) (fun h552 => ?_)
 refine A2y ?_
 refine sP (A3D rfl rfl (by omega)) rfl rfl ?_
 refine M3 ?_
 refine H8 rfl (o7) rfl rfl (fun h580 => ?_) (fun h580 => ?_)
 refine K5 ?_
 refine sB (X4 rfl rfl) rfl rfl (fun h585 => ?_) (fun h585 => ?_)
 refine L7 ?_
 exact ⟨rfl, by (cases R with | false => rfl | true => (exfalso; obtain ⟨i1, i2, i3, i4, i5, i6, i7⟩ := hi.1 rfl; first | omega | (have j := i1 (by omega); simp_all; done) | (have j := he (i2 (by omega)); simp_all; done) | (have j := i2 (by omega); simp_all; done) | (have j := i3 (by omega); simp_all; done) | (have j := i4 (by omega); simp_all; done) | (have j := i5 (by omega); simp_all; done))), rfl⟩
 refine L4 ?_
 refine sP (K9 rfl rfl (by omega)) rfl rfl ?_
 refine E8 ?_
 refine sB (qE rfl rfl) rfl rfl (fun h622 => ?_) (fun h622 => ?_)
 refine sQ (qA rfl) rfl (sD (nS (tT (I6 (rT rfl) ?_))))
 exact ⟨rfl, by rw [hi.2 ⟨fun _ => by (first | assumption | (exfalso; omega)), fun _ => by (first | assumption | (exfalso; omega) | exact Classical.not_not.1 (by assumption)), fun _ => by (first | assumption | (exfalso; omega)), fun _ => by (first | assumption | (exfalso; omega)), fun _ => ⟨by (first | assumption | (exfalso; omega)), by (first | assumption | omega)⟩, by omega, by omega⟩], rfl⟩
 refine sQ (qA rfl) rfl (sD (nS (tT (I6 (rT rfl) ?_))))
 exact ⟨rfl, by (cases R with | false => rfl | true => (exfalso; obtain ⟨i1, i2, i3, i4, i5, i6, i7⟩ := hi.1 rfl; first | omega | (have j := i1 (by omega); simp_all; done) | (have j := he (i2 (by omega)); simp_all; done) | (have j := i2 (by omega); simp_all; done) | (have j := i3 (by omega); simp_all; done) | (have j := i4 (by omega); simp_all; done) | (have j := i5 (by omega); simp_all; done))), rfl⟩
 refine A0g ?_
 exact ⟨rfl, by (cases R with | false => rfl | true => (exfalso; obtain ⟨i1, i2, i3, i4, i5, i6, i7⟩ := hi.1 rfl; first | omega | (have j := i1 (by omega); simp_all; done) | (have j := he (i2 (by omega)); simp_all; done) | (have j := i2 (by omega); simp_all; done) | (have j := i3 (by omega); simp_all; done) | (have j := i4 (by omega); simp_all; done) | (have j := i5 (by omega); simp_all; done))), rfl⟩
 refine A25 ?_
 exact ⟨rfl, by (cases R with | false => rfl | true => (exfalso; obtain ⟨i1, i2, i3, i4, i5, i6, i7⟩ := hi.1 rfl; first | omega | (have j := i1 (by omega); simp_all; done) | (have j := he (i2 (by omega)); simp_all; done) | (have j := i2 (by omega); simp_all; done) | (have j := i3 (by omega); simp_all; done) | (have j := i4 (by omega); simp_all; done) | (have j := i5 (by omega); simp_all; done))), rfl⟩
 refine K5 ?_
 refine sB (qE rfl rfl) rfl rfl (fun h683 => ?_) (fun h683 => ?_)
 refine H9 ?_
 refine H8 rfl (o2) rfl rfl (fun h694 => ?_) (fun h694 => ?_)
 refine sQ (A6l rfl rfl rfl) rfl ?_
 refine A0x ?_
 refine E8 ?_
 exact ⟨rfl, by (cases R with | false => rfl | true => (exfalso; obtain ⟨i1, i2, i3, i4, i5, i6, i7⟩ := hi.1 rfl; first | omega | (have j := i1 (by omega); simp_all; done) | (have j := he (i2 (by omega)); simp_all; done) | (have j := i2 (by omega); simp_all; done) | (have j := i3 (by omega); simp_all; done) | (have j := i4 (by omega); simp_all; done) | (have j := i5 (by omega); simp_all; done))), rfl⟩
 refine sQ (A1Q rfl rfl rfl) rfl ?_
 refine N6 ?_
 refine sB (A1F rfl rfl) rfl rfl (fun h743 => ?_) (fun h743 => ?_)
 refine A0x ?_
 refine rS (I6 (rT rfl) ?_)
 exact ⟨rfl, by (cases R with | false => rfl | true => (exfalso; obtain ⟨i1, i2, i3, i4, i5, i6, i7⟩ := hi.1 rfl; first | omega | (have j := i1 (by omega); simp_all; done) | (have j := he (i2 (by omega)); simp_all; done) | (have j := i2 (by omega); simp_all; done) | (have j := i3 (by omega); simp_all; done) | (have j := i4 (by omega); simp_all; done) | (have j := i5 (by omega); simp_all; done))), rfl⟩
 refine C5 ?_
 refine H8 rfl (o3) rfl rfl (fun h784 => ?_) (fun h784 => ?_)
 refine A2y ?_
 refine sP (A7P rfl rfl (by omega)) rfl rfl ?_
 refine A1m ?_
 refine sP (K9 rfl rfl (by omega)) rfl rfl ?_
 refine E8 ?_
 refine sB (qE rfl rfl) rfl rfl (fun h840 => ?_) (fun h840 => ?_)
 refine sQ (qA rfl) rfl (sD (nS (tT (I6 (rT rfl) ?_))))
 exact ⟨rfl, by rw [hi.2 ⟨fun _ => by (first | assumption | (exfalso; omega)), fun _ => by (first | assumption | (exfalso; omega) | exact Classical.not_not.1 (by assumption)), fun _ => by (first | assumption | (exfalso; omega)), fun _ => by (first | assumption | (exfalso; omega)), fun _ => ⟨by (first | assumption | (exfalso; omega)), by (first | assumption | omega)⟩, by omega, by omega⟩], rfl⟩
 refine sQ (qA rfl) rfl (sD (nS (tT (I6 (rT rfl) ?_))))
 exact ⟨rfl, by (cases R with | false => rfl | true => (exfalso; obtain ⟨i1, i2, i3, i4, i5, i6, i7⟩ := hi.1 rfl; first | omega | (have j := i1 (by omega); simp_all; done) | (have j := he (i2 (by omega)); simp_all; done) | (have j := i2 (by omega); simp_all; done) | (have j := i3 (by omega); simp_all; done) | (have j := i4 (by omega); simp_all; done) | (have j := i5 (by omega); simp_all; done))), rfl⟩
 refine A25 ?_
 exact ⟨rfl, by (cases R with | false => rfl | true => (exfalso; obtain ⟨i1, i2, i3, i4, i5, i6, i7⟩ := hi.1 rfl; first | omega | (have j := i1 (by omega); simp_all; done) | (have j := he (i2 (by omega)); simp_all; done) | (have j := i2 (by omega); simp_all; done) | (have j := i3 (by omega); simp_all; done) | (have j := i4 (by omega); simp_all; done) | (have j := i5 (by omega); simp_all; done))), rfl⟩
 refine H9 ?_
 refine H8 rfl (o2) rfl rfl (fun h888 => ?_) (fun h888 => ?_)
 refine sQ (A6l rfl rfl rfl) rfl ?_
 refine A0x ?_
 refine E8 ?_
 exact ⟨rfl, by (cases R with | false => rfl | true => (exfalso; obtain ⟨i1, i2, i3, i4, i5, i6, i7⟩ := hi.1 rfl; first | omega | (have j := i1 (by omega); simp_all; done) | (have j := he (i2 (by omega)); simp_all; done) | (have j := i2 (by omega); simp_all; done) | (have j := i3 (by omega); simp_all; done) | (have j := i4 (by omega); simp_all; done) | (have j := i5 (by omega); simp_all; done))), rfl⟩
 refine sQ (A1Q rfl rfl rfl) rfl ?_
 refine N6 ?_
 refine sB (A1F rfl rfl) rfl rfl (fun h937 => ?_) (fun h937 => ?_)
 refine A0x ?_
 refine rS (I6 (rT rfl) ?_)
 exact ⟨rfl, by (cases R with | false => rfl | true => (exfalso; obtain ⟨i1, i2, i3, i4, i5, i6, i7⟩ := hi.1 rfl; first | omega | (have j := i1 (by omega); simp_all; done) | (have j := he (i2 (by omega)); simp_all; done) | (have j := i2 (by omega); simp_all; done) | (have j := i3 (by omega); simp_all; done) | (have j := i4 (by omega); simp_all; done) | (have j := i5 (by omega); simp_all; done))), rfl⟩
 refine U8 ?_
 refine H8 rfl (o4) rfl rfl (fun h988 => ?_) (fun h988 => ?_)
 refine L7 ?_
 refine sP (A3D rfl rfl (by omega)) rfl rfl ?_
 refine M3 ?_
 refine H8 rfl (o7) rfl rfl (fun h1006 => ?_) (fun h1006 => ?_)
 refine K5 ?_
 refine sB (X4 rfl rfl) rfl rfl (fun h1011 => ?_) (fun h1011 => ?_)
 refine L7 ?_
 exact ⟨rfl, by (cases R with | false => rfl | true => (exfalso; obtain ⟨i1, i2, i3, i4, i5, i6, i7⟩ := hi.1 rfl; first | omega | (have j := i1 (by omega); simp_all; done) | (have j := he (i2 (by omega)); simp_all; done) | (have j := i2 (by omega); simp_all; done) | (have j := i3 (by omega); simp_all; done) | (have j := i4 (by omega); simp_all; done) | (have j := i5 (by omega); simp_all; done))), rfl⟩
 refine L4 ?_
 refine sB (qE rfl rfl) rfl rfl (fun h1038 => ?_) (fun h1038 => ?_)
 refine C5 ?_
 refine sB (Y2 rfl rfl) rfl rfl (fun h1046 => ?_) (fun h1046 => ?_)
 refine M3 ?_
 refine sB (V6 rfl rfl) rfl rfl (fun h1050 => ?_) (fun h1050 => ?_)
 refine C5 ?_
 exact ⟨rfl, by rw [hi.2 ⟨fun _ => by (first | assumption | (exfalso; omega)), fun _ => by (first | assumption | (exfalso; omega) | exact Classical.not_not.1 (by assumption)), fun _ => by (first | assumption | (exfalso; omega)), fun _ => by (first | assumption | (exfalso; omega)), fun _ => ⟨by (first | assumption | (exfalso; omega)), by (first | assumption | omega)⟩, by omega, by omega⟩], rfl⟩
 refine C5 ?_
 exact ⟨rfl, by (cases R with | false => rfl | true => (exfalso; obtain ⟨i1, i2, i3, i4, i5, i6, i7⟩ := hi.1 rfl; first | omega | (have j := i1 (by omega); simp_all; done) | (have j := he (i2 (by omega)); simp_all; done) | (have j := i2 (by omega); simp_all; done) | (have j := i3 (by omega); simp_all; done) | (have j := i4 (by omega); simp_all; done) | (have j := i5 (by omega); simp_all; done))), rfl⟩
 refine J3 ?_
 exact ⟨rfl, by (cases R with | false => rfl | true => (exfalso; obtain ⟨i1, i2, i3, i4, i5, i6, i7⟩ := hi.1 rfl; first | omega | (have j := i1 (by omega); simp_all; done) | (have j := he (i2 (by omega)); simp_all; done) | (have j := i2 (by omega); simp_all; done) | (have j := i3 (by omega); simp_all; done) | (have j := i4 (by omega); simp_all; done) | (have j := i5 (by omega); simp_all; done))), rfl⟩
 refine E8 ?_
 refine sB (qE rfl rfl) rfl rfl (fun h1088 => ?_) (fun h1088 => ?_)
 refine sQ (qA rfl) rfl (sD (nS (tT (I6 (rT rfl) ?_))))
 exact ⟨rfl, by rw [hi.2 ⟨fun _ => by (first | assumption | (exfalso; omega)), fun _ => by (first | assumption | (exfalso; omega) | exact Classical.not_not.1 (by assumption)), fun _ => by (first | assumption | (exfalso; omega)), fun _ => by (first | assumption | (exfalso; omega)), fun _ => ⟨by (first | assumption | (exfalso; omega)), by (first | assumption | omega)⟩, by omega, by omega⟩], rfl⟩
 refine sQ (qA rfl) rfl (sD (nS (tT (I6 (rT rfl) ?_))))
 exact ⟨rfl, by (cases R with | false => rfl | true => (exfalso; obtain ⟨i1, i2, i3, i4, i5, i6, i7⟩ := hi.1 rfl; first | omega | (have j := i1 (by omega); simp_all; done) | (have j := he (i2 (by omega)); simp_all; done) | (have j := i2 (by omega); simp_all; done) | (have j := i3 (by omega); simp_all; done) | (have j := i4 (by omega); simp_all; done) | (have j := i5 (by omega); simp_all; done))), rfl⟩
 refine A0g ?_
 exact ⟨rfl, by (cases R with | false => rfl | true => (exfalso; obtain ⟨i1, i2, i3, i4, i5, i6, i7⟩ := hi.1 rfl; first | omega | (have j := i1 (by omega); simp_all; done) | (have j := he (i2 (by omega)); simp_all; done) | (have j := i2 (by omega); simp_all; done) | (have j := i3 (by omega); simp_all; done) | (have j := i4 (by omega); simp_all; done) | (have j := i5 (by omega); simp_all; done))), rfl⟩
 refine M5 ?_
 exact ⟨rfl, by (cases R with | false => rfl | true => (exfalso; obtain ⟨i1, i2, i3, i4, i5, i6, i7⟩ := hi.1 rfl; first | omega | (have j := i1 (by omega); simp_all; done) | (have j := he (i2 (by omega)); simp_all; done) | (have j := i2 (by omega); simp_all; done) | (have j := i3 (by omega); simp_all; done) | (have j := i4 (by omega); simp_all; done) | (have j := i5 (by omega); simp_all; done))), rfl⟩
mutual
def I9 (D N : Int) : Tm → Int → Bool
 | .mk k nm num ty fr lb ks, deep => decide (deep ≤ D) && decide (k ≠ N) && X7 k nm num ty fr lb ks.length && F8 D N ks (deep + 1)
def F8 (D N : Int) : List Tm → Int → Bool
 | [], _ => true
 | t :: ts, deep => I9 D N t deep && F8 D N ts deep
end
theorem A0U (D N : Int) : ∀ (ts : List Tm) (d : Int), F8 D N ts d = true ↔ ∀ i, (h : i < ts.length) → I9 D N ts[i] d = true
 | [], d => by simp [F8]
 | t :: ts, d => by
  simp only [F8, Bool.and_eq_true, A0U D N ts d]
  constructor
  ·rintro ⟨h1, h2⟩ i hi
   cases i with
   | zero => exact h1
   | succ i => exact h2 i (by simpa using hi)
  ·intro h
   exact ⟨h 0 (by simp), fun i hi => h (i + 1) (by simpa using hi)⟩
theorem A3S {D N : Int} {k : Int} {nm : ByteArray} {num : Int} {ty fr : Ty} {lb : Int} {ks : List Tm} {d : Int} (h : D < d ∨ k = N ∨ X7 k nm num ty fr lb ks.length = false) : I9 D N (.mk k nm num ty fr lb ks) d = false := by
 rw [I9]
 rcases h with h | h | h
 ·rw [decide_eq_false (by omega)]; rfl
 ·rw [decide_eq_false (p := k ≠ N) (by omega), Bool.and_false]; rfl
 ·rw [h, Bool.and_false]; rfl
theorem A19 {D N : Int} {k : Int} {nm : ByteArray} {num : Int} {ty fr : Ty} {lb : Int} {ks : List Tm} {d : Int} (h1 : d ≤ D) (h2 : k ≠ N) (h3 : X7 k nm num ty fr lb ks.length = true) : I9 D N (.mk k nm num ty fr lb ks) d = F8 D N ks (d + 1) := by
 rw [I9, decide_eq_true h1, decide_eq_true h2, h3]; rfl
theorem B25 {D N : Int} {ks : List Tm} {d : Int} {i : Nat} (hi : i < ks.length) (h : I9 D N ks[i] d = false) : F8 D N ks d = false := by
 cases hx : F8 D N ks d with
 | false => rfl
 | true => rw [(A0U D N ks d).1 hx i hi] at h; cases h
theorem B26 {k : Int} {nm : ByteArray} {num : Int} {ty fr : Ty} {lb : Int} {n : Nat} (hk : k ≠ 14) (ha : D5 k = n) : X7 k nm num ty fr lb n = true ↔
  (k = 1 ∨ k = 5 → Y4 nm = true) ∧ (¬(k = 1 ∨ k = 5) → nm = ⟨#[]⟩) ∧ (k = 5 ∨ k = 13 ∨ k = 14 → E4 ty = true) ∧ (¬(k = 5 ∨ k = 13 ∨ k = 14) → Z5 ty = true) ∧ (k ≠ 14 → Z5 fr = true ∧ lb = 0) ∧ (k = 2 → 0 ≤ num ∧ num ≤ 999) ∧ (k ≠ 2 → num = 0) := by
 rw [R7]
 simp only [U1, decide_eq_true_eq]
 constructor
 ·rintro ⟨_, h2, h3, h4, h5, h6, h7, _, h9⟩
  exact ⟨h2, h3, h6, h7, h9, h4, fun h => by have := h5 h; omega⟩
 ·rintro ⟨h2, h3, h6, h7, h9, h4, h5⟩
  exact ⟨ha, h2, h3, h4, fun h => by have := h5 h; omega, h6, h7, fun h => absurd h hk, h9⟩
theorem B27 {D N : Int} {k : Int} {nm : ByteArray} {num : Int} {ty fr : Ty} {lb : Int} {ks : List Tm} {d : Int} (h : I9 D N (.mk k nm num ty fr lb ks) d = true) : d ≤ D ∧ ∀ i, (hi : i < ks.length) → I9 D N ks[i] (d + 1) = true := by
 rw [I9] at h
 simp only [Bool.and_eq_true, decide_eq_true_eq] at h
 exact ⟨h.1.1.1, (A0U D N ks _).1 h.2⟩
mutual
theorem A6m (M D N : Int) : ∀ (t : Tm) (deep c : Int), c ≤ M → ((T1 M D N t deep c).1 = true ↔ I9 D N t deep = true ∧ c + C9 t ≤ M)
 | .mk k nm num ty fr lb ks, deep, c, hc => by
  rw [T1, C9]
  by_cases h : c + 1 > M ∨ deep > D ∨ k = N ∨ X7 k nm num ty fr lb ks.length = false
  ·rw [if_pos h]
   constructor
   ·intro h; cases h
   ·rintro ⟨h1, h2⟩
    rcases h with h | h
    ·omega
    ·rw [A3S h] at h1; cases h1
  ·rw [if_neg h]
   have hn : X7 k nm num ty fr lb ks.length = true := by
    cases hx : X7 k nm num ty fr lb ks.length with
    | true => rfl
    | false => exact absurd (Or.inr (Or.inr (Or.inr hx))) h
   rw [A19 (by omega) (by omega) hn, A8L M D N ks (deep + 1) (c + 1) (by omega)]
   constructor
   ·rintro ⟨a, b⟩; exact ⟨a, by omega⟩
   ·rintro ⟨a, b⟩; exact ⟨a, by omega⟩
theorem A8L (M D N : Int) : ∀ (ts : List Tm) (deep c : Int), c ≤ M → ((V0 M D N ts deep c).1 = true ↔ F8 D N ts deep = true ∧ c + D2 ts ≤ M)
 | [], deep, c, hc => by simp [V0, F8, D2]; omega
 | t :: ts, deep, c, hc => by
  have h0 := A6m M D N t deep c hc
  rw [V0, F8, D2, Bool.and_eq_true]
  by_cases h : (T1 M D N t deep c).1 = true
  ·rw [if_pos h, A8i M D N t deep c h, A8L M D N ts deep _ (h0.1 h).2]
   have := h0.1 h
   constructor
   ·rintro ⟨a, b⟩; exact ⟨⟨this.1, a⟩, by omega⟩
   ·rintro ⟨⟨_, a⟩, b⟩; exact ⟨a, by omega⟩
  ·rw [if_neg h]
   constructor
   ·intro h'; cases h'
   ·rintro ⟨⟨a, _⟩, b⟩
    exact absurd (h0.2 ⟨a, by omega⟩) h
end
theorem A4O (t : Tm) : W4 t = true ↔ I9 40 13 t 1 = true ∧ C9 t ≤ 200 := by
 have := A6m 200 40 13 t 1 0 (by omega)
 rw [W4, this]
 constructor
 ·rintro ⟨a, b⟩; exact ⟨a, by omega⟩
 ·rintro ⟨a, b⟩; exact ⟨a, by omega⟩
theorem B28 (D N : Int) : ∀ (t : Tm) (d : Int) (G : IM) (cells : List Value), d ≤ 40 → I9 D N t (D + 1 - d) = true → C9 t ≤ 4294967296 → B5 G t cells →
  Fn Tryz.prog 45 [.agg ⟨cells⟩, .int .i64 d] [] G (J1 (.int .i64 (C9 t : Int)) G) := by
 refine Tm.ind fun k nm num ty fr lb ks ih d G cells hd hv hcnt hr => ?_
 have hone := hr.one
 obtain ⟨hv1, hv2⟩ := B27 hv
 obtain ⟨tk, tks⟩ := ty
 obtain ⟨fk, fks⟩ := fr
 obtain ⟨pt, ct, pf, cf, p, c, es, rfl, hk, hnum, hlb, hty, hfr, hsl, hkl⟩ := hr.open9
 have hn := hsl.le
 clear hr
 rw [C9] at hcnt ⊢
 refine B6 Tryz.func45 rfl Tryz.ntmps45 Tryz.results45 rfl ?_
 intro w0
 refine tS (tR ?_)
 refine sE (E2 rfl rfl) rfl (fun b3 => ?_)
 refine M5 ?_
 refine B2 ?_
 (refine J8 (fun (i : Nat) => ⟨[(6, .int .i64 i), (5, .int .i64 ((D2 (ks.take i) + 1 : Nat) : Int)), (2, .pointer (some ⟨b3, 0, none⟩)), (1, .int .i64 d)], [.blk b3 [.int .i64 k, .string nm, .int .i64 num, .int .i64 tk, .slice pt tks.length ct, .int .i64 fk, .slice pf fks.length cf, .int .i64 lb, .slice p ks.length c]], G⟩) (fun i => i ≤ ks.length) (fun i => ks.length - i) 0 ?_ ?_ ?_)
 exact C2
 exact Nat.zero_le _
 (rintro i hi)
 refine C5 ?_
 refine sB (I7 rfl rfl) rfl rfl (fun h30 => ?_) (fun h30 => ?_)
 refine sQ (qM rfl) rfl (sQ (qM rfl) rfl ?_)
 refine sP (A7S rfl rfl (by omega)) rfl rfl ?_
 refine sQ (N4 rfl rfl) rfl (sD (nS (qT rfl (tK (nS (tS ?_))))))
 refine B2 ?_
 refine W1 ?_
 (obtain ⟨b, o, e, rfl, hl, hat, hre, hgb⟩ := hsl.kidTm hkl (i := i) (by omega) (by omega); have htk := A4I (ks := ks) (i := i) (by omega); refine sP (B3 rfl rfl rfl (by omega)) rfl rfl ?_)
 refine sL (A6 rfl rfl (hat _) hl) rfl rfl ?_
 refine sQ (qM rfl) rfl ?_
 refine sP (N1 rfl rfl (by omega) (by omega)) rfl rfl ?_
 (have hvk := hv2 i (by omega); rw [show D + 1 - d + 1 = D + 1 - (d - 1) by omega] at hvk; refine H6 rfl (ih ks[i] (List.getElem_mem (by omega)) (d - 1) G _ (by omega) hvk (by omega) hre) rfl rfl ?_)
 refine sP (H2 rfl rfl (by omega) (by omega)) rfl rfl ?_
 refine N6 ?_
 refine sP (H2 rfl rfl (by omega) (by omega)) rfl rfl ?_
 refine sQ (qA rfl) rfl (sD ?_)
 (refine J4 (i + 1) ?_ ?_ ?_; rw [show ((D2 (ks.take (i + 1)) + 1 : Nat) : Int) = ((D2 (ks.take i) + 1 : Nat) : Int) + (C9 ks[i] : Int) from by rw [A4J (by omega)]; omega])
 exact C2
 omega
 omega
 refine A1K ?_
 (obtain rfl : i = ks.length := (by omega); rw [List.take_length]; exact ⟨rfl, rfl, rfl⟩)
theorem Sw.same {hp hp' : List A1} {e : A1} (h : Sw hp e e hp') : hp' = hp := by
 generalize he : e = e' at h
 have : ∀ {hp e e' hp'}, Sw hp e e' hp' → e = e' → hp' = hp := by
  intro hp e e' hp' h
  induction h with
  | here => rintro rfl; rfl
  | there _ ih => intro he; rw [ih he]
 subst he
 exact this h rfl
section
variable {P : Program} {Γ : I3} {env : J0} {hp : List A1} {G : IM} {ty : TypeId}
theorem A8M {d : Nat} {x y : Operand} {t el : TypeId} {i : H7} {sz by' : Nat} {zs : List Value} [hI : C7 P t i] {ie : H7} [hEl : C7 P el ie] (hd' : i.desc = .slice el) [hE : S8 P el sz by' zs] {p q : Option Addr} {c n m c2 : Nat} {cs news : List Value} {hp' : Option Addr → Nat → List A1}
  (hd : Nat.blt d Γ.n = true) (hx : evo env x = some (.slice p n c)) (hy : evo env y = some (.slice q m c2)) (hsz : Nat.blt 0 sz = true)
  (hm : ∀ p' c', Sw hp (.slc p c el sz n cs) (.slc p' c' el sz (n + m) (cs ++ news)) (hp' p' c'))
  (hS : Sl G q m c2 sz news) (h1 : ∀ u ∈ news, u.oneCell' = true) (hc : n ≤ c)
  (h63 : n + m ≤ maxLen) (hb : (n + m) * by' ≤ 140737488355328) :
  X3 P Γ ⟨env, hp, G⟩ (some d) (.call ⟨.builtin .append, ⟨[x, y]⟩, ⟨[t, t]⟩⟩) ty (H1 p) (fun σ' => ∃ p' c', σ' = ⟨(d, .slice p' (n + m) c') :: env, hp' p' c', G⟩) := by
 obtain ⟨hl, _, _, hat⟩ := hS
 rcases Nat.eq_zero_or_pos m with rfl | hm0
 ·obtain rfl : news = [] := List.length_eq_zero_iff.1 (by omega)
  have hpu := B16 (P := P) (Γ := Γ) (hp := hp) (G := G) (ty := ty) (t := t) (el := el) hd' hx hy hc
  refine ⟨fun a w hs pos af gd Q next hn => ?_⟩
  simp only [Oper.wp, hpu.run a w hs, Oper.upon]
  refine hn _ _ _ (hs.put d _ (by simpa using hd) hs.res) (Ext.refl _ _) ⟨p, c, ?_⟩
  have h0 := hm p c
  simp only [Nat.add_zero, List.append_nil] at h0 ⊢
  rw [h0.same]
 ·obtain ⟨b, o, full, rfl, hg, hv⟩ := hat.resolve_left (by omega)
  exact A5Z hd' hd hx hy hsz hm (A5O hg hv) hl h1 h63 hb
variable {K : Po} {ops : Array Oper} {rest : List Oper} {pos : String} {af : Array Edge} {gd : Option (Nat × Bool)}
theorem A3T {d : Nat} {x y : Operand} {t el : TypeId} {i : H7} {sz by' : Nat} {zs : List Value} [hI : C7 P t i] {ie : H7} [hEl : C7 P el ie] [hE : S8 P el sz by' zs] {p q : Option Addr} {c n m c2 : Nat} {cs news : List Value} {hp' : Option Addr → Nat → List A1}
  (hd' : i.desc = .slice el) (hd : Nat.blt d Γ.n = true) (hx : evo env x = some (.slice p n c)) (hy : evo env y = some (.slice q m c2)) (hsz : Nat.blt 0 sz = true)
  (hm : ∀ p' c', Sw hp (.slc p c el sz n cs) (.slc p' c' el sz (n + m) (cs ++ news)) (hp' p' c'))
  (hS : Sl G q m c2 sz news) (h1 : ∀ u ∈ news, u.oneCell' = true) (hc : n ≤ c)
  (h63 : n + m ≤ maxLen) (hb : (n + m) * by' ≤ 140737488355328) (hw : K8 ops env gd = some true)
  (k : ∀ p' c', F0 P Γ ops rest K ⟨(d, .slice p' (n + m) c') :: env, hp' p' c', G⟩) : F0 P Γ ops (⟨some d, .call ⟨.builtin .append, ⟨[x, y]⟩, ⟨[t, t]⟩⟩, ty, pos, af, gd⟩ :: rest) K ⟨env, hp, G⟩ :=
 E9 (A8M hd' hd hx hy hsz hm hS h1 hc h63 hb) hw (by rintro _ ⟨p', c', rfl⟩; exact k p' c')
theorem A29 {H : List (Nat × Nat)} {fuel : Nat} {listed l' : List Bool} {j d : Nat} {cs : List Value} {x y : Operand} {t el : TypeId} {i : H7} {sz by' : Nat} {zs : List Value} [hI : C7 P t i] {ie : H7} [hEl : C7 P el ie] [hE : S8 P el sz by' zs] {p q : Option Addr} {c n m c2 : Nat} {news : List Value} {hp' : Option Addr → Nat → List A1} {H' : List (Nat × Nat)}
  (hi : ops[j]? = some ⟨some d, .call ⟨.builtin .append, ⟨[x, y]⟩, ⟨[t, t]⟩⟩, ty, pos, af, gd⟩) (hd' : i.desc = .slice el)
  (hd : Nat.blt d Γ.n = true) (hx : evo env x = some (.slice p n c)) (hy : evo env y = some (.slice q m c2)) (hsz : Nat.blt 0 sz = true)
  (hm : ∀ p' c', Sw hp (.slc p c el sz n cs) (.slc p' c' el sz (n + m) (cs ++ news)) (hp' p' c'))
  (hS : Sl G q m c2 sz news) (h1 : ∀ u ∈ news, u.oneCell' = true) (hc : n ≤ c)
  (h63 : n + m ≤ maxLen) (hb : (n + m) * by' ≤ 140737488355328) (hw : K8 ops env gd = some true) (hl : listed.set j true = l')
  (hok : A4 ops j hp G (.slc p c el sz n cs) H H')
  (k : ∀ p' c', M1 P Γ ops K H' fuel l' ⟨(d, .slice p' (n + m) c') :: env, hp' p' c', G⟩) : U6 P Γ ops K H fuel listed j ⟨env, hp, G⟩ :=
 A3I hi (A8M hd' hd hx hy hsz hm hS h1 hc h63 hb) hw hl (fun _ _ hs => hok.spec hs) hok.filter (by rintro _ ⟨p', c', rfl⟩; exact k p' c')
theorem A0a {H H' : List (Nat × Nat)} {fuel : Nat} {listed l' : List Bool} {j d : Nat} {f : FuncId} [hF : A9 P f] {xs : List Operand} {ats : Array TypeId} {vs : List Value} {e : A1} {rst : List A1} {post : IM → Value → List A1 → Prop}
  (hi : ops[j]? = some ⟨some d, .call ⟨.value (.func f), ⟨xs⟩, ats⟩, ty, pos, af, gd⟩) (hx : evl env xs = some vs) (h : Fn P f vs [e] G post) (hp' : hp.Perm ([e] ++ rst)) (hw : K8 ops env gd = some true) (hd : Nat.blt d Γ.n = true) (hl : listed.set j true = l')
  (hok : A4 ops j hp G e H H')
  (k : ∀ v G' outs, A7 G G' → post G' v outs → M1 P Γ ops K H' fuel l' ⟨(d, v) :: env, outs ++ rst, G'⟩) : U6 P Γ ops K H fuel listed j ⟨env, hp, G⟩ :=
 A3I hi (A2v hx h hp' hd) hw hl (fun _ _ hs => by simpa [Fp] using hok.spec hs) hok.filter (by rintro _ ⟨v, G', outs, rfl, hle, hq⟩; exact k v G' outs hle hq)
end
section forget
variable {P : Program} {Γ : I3} {env : J0} {hp : List A1} {G : IM} {K : Po} {ops : Array Oper} {rest : List Oper} {ty : TypeId} {pos : String} {af : Array Edge} {gd : Option (Nat × Bool)}
end forget
def tAt : Tm → List Int → Option Tm
 | t, [] => some t
 | .mk _ _ _ _ _ _ ks, i :: is => if h : 0 ≤ i ∧ i < ks.length then tAt (ks[i.toNat]'(by omega)) is else none
def z9 : List Value := [.int .i64 0, .string ⟨⟨[]⟩⟩, .int .i64 0, .int .i64 0, .slice none 0 0, .int .i64 0, .slice none 0 0, .int .i64 0, .slice none 0 0]
def AtP (t : Tm) (path : List Int) (G : IM) : IM → Value → List A1 → Prop := fun G' v outs => G' = G ∧ outs = [] ∧
 ((∃ x cells, tAt t path = some x ∧ B5 G x cells ∧ v = .tuple ⟨[.agg ⟨cells⟩, .bool true]⟩) ∨ (tAt t path = none ∧ v = .tuple ⟨[.agg ⟨z9⟩, .bool false]⟩))
section slaw
variable {P : Program} {Γ : I3} {env : J0} {hp : List A1} {G : IM} {ty : TypeId} {K : Po} {ops : Array Oper} {rest : List Oper}
theorem B29 {x y : Operand} {t el : TypeId} {i : H7} {sz by' : Nat} {zs : List Value} [hI : C7 P t i] (hd' : i.desc = .slice el) [hE : S8 P el sz by' zs] {b o n c l : Nat}
  (hx : evo env x = some (.slice (some ⟨b, o, none⟩) n c)) (hy : evo env y = some (.int .i64 (l : Int))) (hl : l ≤ n) :
  E6 P Γ ⟨env, hp, G⟩ (.slice t x (some y) none none) ty (.slice (some ⟨b, if c = l then o else o + l * sz, none⟩) (n - l) (c - l)) := by
 refine ⟨fun a _ hs _ _ _ _ w => ?_⟩
 have hu := hI.und
 rw [hd'] at hu
 obtain ⟨d, hE⟩ := hE.ok
 obtain ⟨inf, z, t1, t2, t3, _⟩ := A15 (P := P) (t := el)
 have e1 : a.eval x = _ := hs.evo hx
 have e2 : a.eval y = _ := hs.evo hy
 have hb : ∀ code, (Instr.sliceBound (.int .i64 (l : Int)) n code).run P w = .ok l w := fun code => by
  have := run_sliceBound (P := P) w .i64 (l : Int) n code (by omega) (by omega)
  simpa using this
 simp only [execOp, Option.map, e1, e2, Instr.sliceAt, Sem.run_bind, run_underlying hu, Result.andThen_ok, Instr.slice, Instr.sliceBounds, Sem.run_pure, hb, t3]
 by_cases h : c = l
 ·simp [h]
 ·simp [h, A13]
theorem St.slc_open {a : Act} {w : World} {p : Option Addr} {c el sz n : Nat} {cs : List Value} {hp' : List A1} (hs : St Γ ⟨env, hp, G⟩ a w) (hk : Pk hp (.slc p c el sz n cs) hp') (h0 : 0 < n) :
  ∃ b C, p = some ⟨b, 0, none⟩ ∧ n ≤ c ∧ c ≤ maxLen ∧ St Γ ⟨env, .blk b (cs ++ C) :: hp', G⟩ a w := by
 have hown : S7 [.slc p c el sz n cs] G w := hs.res.own.of_mem hk.perm
 obtain ⟨hl, h⟩ := hown.ok _ List.mem_cons_self
 rcases h with ⟨hv, hn⟩ | ⟨g, cap, cur, hv, _, hg, hnc, hcm, hsz, ht⟩
 ·omega
 ·cases hv
  refine ⟨g, cur.toList.drop cs.length, rfl, hnc, hcm, ?_⟩
  have hcur : cur.toList = cs ++ cur.toList.drop cs.length := by
   have e : cs.length = n * sz := hl
   rw [e]
   conv => lhs; rw [← List.take_append_drop (n * sz) cur.toList, ht]
  have hr : P4 [.slc (some ⟨g, 0, none⟩) c el sz n cs] G w [.blk g (cs ++ cur.toList.drop cs.length)] G w := by
   refine ⟨⟨hown.inn, ?_, by simp [Fp, A1.fp], ?_⟩, Ext.refl _ _, A7.refl _, fun _ _ h => .inl h, ?_, fun b l h h0 => absurd h (by rw [h0]; simp)⟩
   ·intro e he
    simp at he; subst he
    refine ⟨el, ?_⟩
    rw [← hcur]; simpa using hg
   ·intro b' hb; exact hown.disj b' (by simpa [Fp, A1.fp, H1] using hb)
   ·intro b' hb; exact .inr (by simpa [Fp, A1.fp, H1] using hb)
  exact ⟨hs.size, hs.nod, hs.env, by have := (hs.res.perm hk.perm).frame hr; simpa using this⟩
theorem B3a {p : Option Addr} {c el sz n : Nat} {cs : List Value} {hp' : List A1} (hk : Pk hp (.slc p c el sz n cs) hp') (h0 : 0 < n)
  (h : ∀ b C, p = some ⟨b, 0, none⟩ → n ≤ c → c ≤ maxLen → F0 P Γ ops rest K ⟨env, .blk b (cs ++ C) :: hp', G⟩) : F0 P Γ ops rest K ⟨env, hp, G⟩ :=
 ⟨fun a w hs => let ⟨b, C, h1, h2, h3, h4⟩ := hs.slc_open hk h0; (h b C h1 h2 h3).run a w h4⟩
end slaw
theorem B3b {es : List (List Value)} {j : Nat} {vs : List Value} (hj : j < es.length) : (es.set j vs).flatten = (es.take j).flatten ++ (vs ++ (es.drop (j + 1)).flatten) := by
 rw [List.set_eq_take_append_cons_drop, if_pos hj]; simp
theorem A8N {es : List (List Value)} {j : Nat} (hj : j < es.length) : es.flatten = (es.take j).flatten ++ (es[j] ++ (es.drop (j + 1)).flatten) := by
 have h := congrArg List.flatten (List.take_append_drop j es).symm
 rw [List.drop_eq_getElem_cons hj, List.flatten_append, List.flatten_cons] at h
 exact h
theorem B3c {es : List (List Value)} {C vs : List Value} {j sz : Nat} (hj : j < es.length) (ha : ∀ e ∈ es, e.length = sz) (hv : vs.length = sz) : R1 (es.flatten ++ C) (0 + j * sz) vs = some ((es.set j vs).flatten ++ C) := by
 have := A56 (A := (es.take j).flatten) (B := es[j]) (C := (es.drop (j + 1)).flatten ++ C) (V := vs) (o := 0 + j * sz)
  (by rw [A17 (fun e he => ha e (List.mem_of_mem_take he)), List.length_take]; rw [Nat.min_eq_left (by omega)]; omega) (by rw [ha _ (List.getElem_mem hj), hv])
 rw [A8N hj, B3b hj]
 simp only [List.append_assoc] at this ⊢
 exact this
theorem F4.set {G : IM} : ∀ {ks : List Tm} {es : List (List Value)} {j : Nat} {y : Tm} {v : List Value}, F4 G ks es → B5 G y v → F4 G (ks.set j y) (es.set j v)
 | [], es, j, y, v, h, h2 => by simp only [F4] at h; subst h; simp [F4]
 | t :: ts, es, 0, y, v, h, h2 => by
  simp only [F4] at h
  obtain ⟨a, r, rfl, h3, h4⟩ := h
  simp only [List.set_cons_zero, F4]
  exact ⟨v, r, rfl, h2, h4⟩
 | t :: ts, es, j + 1, y, v, h, h2 => by
  simp only [F4] at h
  obtain ⟨a, r, rfl, h3, h4⟩ := h
  simp only [List.set_cons_succ, F4]
  exact ⟨a, r.set j v, rfl, h3, F4.set h4 h2⟩
def A8O : Tm → List Int → Tm → Tm
 | _, [], x => x
 | .mk k nm num ty fr lb ks, i :: is, x => if h : 0 ≤ i ∧ i < ks.length then .mk k nm num ty fr lb (ks.set i.toNat (A8O (ks[i.toNat]'(by omega)) is x)) else .mk k nm num ty fr lb ks
theorem A8P {P : Program} {Γ : I3} {env : J0} {hp : List A1} {G : IM} {ty : TypeId} {x y : Operand} {t t' : TypeId} {m n : Int} {z : Nat} (hx : evo env x = some (.int .i64 m)) (hy : evo env y = some (.int .i64 n)) (h : m - n = z) (hb : z ≤ 9223372036854775807) :
  E6 P Γ ⟨env, hp, G⟩ (.binOp .sub t x y t') ty (.int .i64 (z : Int)) := by
 have := N1 (P := P) (Γ := Γ) (hp := hp) (G := G) (ty := ty) (t := t) (t' := t') hx hy (by omega) (by omega)
 rwa [h] at this
inductive MV where
 | mk (k num : Int) (env parts : List MV)
def MV.k : MV → Int | .mk k _ _ _ => k
def MV.num : MV → Int | .mk _ n _ _ => n
def MV.env : MV → List MV | .mk _ _ e _ => e
def MV.parts : MV → List MV | .mk _ _ _ p => p
theorem A1b {α : Type} {P : α → Prop} {us : List α} {u : α} (h : ∀ x ∈ us, P x) (hu : P u) : ∀ x ∈ us ++ [u], P x := by
 intro x hx
 rcases List.mem_append.1 hx with hx | hx
 ·exact h x hx
 ·obtain rfl := List.mem_singleton.1 hx; exact hu
def R0 : MV := .mk 0 0 [] []
mutual
def Q4 (kc : Int → Int) (G : IM) : MV → List Value → Prop
 | .mk k num env parts, cells => ∃ p c es q d fs, cells = [.int .i64 (kc k), .int .i64 num, .slice p env.length c, .slice q parts.length d] ∧ C1 num ∧ C1 (kc k) ∧ C0 G p env.length c 4 es ∧ F9 kc G env es ∧ C0 G q parts.length d 4 fs ∧ F9 kc G parts fs
def F9 (kc : Int → Int) (G : IM) : List MV → List (List Value) → Prop
 | [], es => es = []
 | t :: ts, es => ∃ a r, es = a :: r ∧ Q4 kc G t a ∧ F9 kc G ts r
end
mutual
theorem Q4.mono {kc : Int → Int} {G G' : IM} (hg : A7 G G') : ∀ {t : MV} {cells : List Value}, Q4 kc G t cells → Q4 kc G' t cells
 | .mk k num env parts, cells, h => by
  simp only [Q4] at h ⊢
  obtain ⟨p, c, es, q, d, fs, h1, h2, h3, h4, h5, h6, h7⟩ := h
  exact ⟨p, c, es, q, d, fs, h1, h2, h3, h4.mono hg, F9.mono hg h5, h6.mono hg, F9.mono hg h7⟩
theorem F9.mono {kc : Int → Int} {G G' : IM} (hg : A7 G G') : ∀ {ts : List MV} {es : List (List Value)}, F9 kc G ts es → F9 kc G' ts es
 | [], es, h => by simpa only [F9] using h
 | t :: ts, es, h => by
  simp only [F9] at h ⊢
  obtain ⟨a, r, h1, h2, h3⟩ := h
  exact ⟨a, r, h1, Q4.mono hg h2, F9.mono hg h3⟩
end
section
variable {kc : Int → Int} {G : IM}
theorem Q4.open {t : MV} {cells : List Value} (h : Q4 kc G t cells) : ∃ p c es q d fs, cells = [.int .i64 (kc t.k), .int .i64 t.num, .slice p t.env.length c, .slice q t.parts.length d] ∧ C1 t.num ∧ C1 (kc t.k) ∧ C0 G p t.env.length c 4 es ∧ F9 kc G t.env es ∧ C0 G q t.parts.length d 4 fs ∧ F9 kc G t.parts fs := by
 obtain ⟨k, num, env, parts⟩ := t
 simp only [Q4] at h
 exact h
theorem Q4.mk {k num : Int} {env parts : List MV} {p q : Option Addr} {c d n m : Nat} {es fs : List (List Value)} (h1 : C1 num) (h2 : C1 (kc k)) (hn : n = env.length) (hm : m = parts.length) (h3 : C0 G p n c 4 es) (h4 : F9 kc G env es) (h5 : C0 G q m d 4 fs) (h6 : F9 kc G parts fs) :
  Q4 kc G (.mk k num env parts) [.int .i64 (kc k), .int .i64 num, .slice p n c, .slice q m d] := by
 subst hn hm
 simp only [Q4]
 exact ⟨p, c, es, q, d, fs, rfl, h1, h2, h3, h4, h5, h6⟩
theorem Q4.leaf {k num : Int} (h1 : C1 num) (h2 : C1 (kc k)) : Q4 kc G (.mk k num [] []) [.int .i64 (kc k), .int .i64 num, .slice none 0 0, .slice none 0 0] :=
 Q4.mk h1 h2 rfl rfl (C0.nil G 4) rfl (C0.nil G 4) rfl
theorem Q4.kids {t : MV} {a b : Value} {p q : Option Addr} {n m c d : Nat} (h : Q4 kc G t [a, b, .slice p n c, .slice q m d]) : ∃ es fs, C0 G p t.env.length c 4 es ∧ F9 kc G t.env es ∧ C0 G q t.parts.length d 4 fs ∧ F9 kc G t.parts fs := by
 obtain ⟨p', c', es, q', d', fs, he, _, _, h3, h4, h5, h6⟩ := h.open
 simp only [List.cons.injEq, Value.slice.injEq, and_true] at he
 obtain ⟨_, _, ⟨rfl, _, rfl⟩, rfl, _, rfl⟩ := he
 exact ⟨es, fs, h3, h4, h5, h6⟩
theorem Q4.len {t : MV} {cells : List Value} (h : Q4 kc G t cells) : cells.length = 4 := by
 obtain ⟨p, c, es, q, d, fs, rfl, _⟩ := h.open; rfl
theorem Q4.one {t : MV} {cells : List Value} (h : Q4 kc G t cells) : cells.all (·.oneCell') = true := by
 obtain ⟨p, c, es, q, d, fs, rfl, _⟩ := h.open; rfl
theorem F9.len : ∀ {ts : List MV} {es : List (List Value)}, F9 kc G ts es → es.length = ts.length
 | [], es, h => by simp only [F9] at h; subst h; rfl
 | t :: ts, es, h => by
  simp only [F9] at h
  obtain ⟨a, r, rfl, _, h3⟩ := h
  simp [F9.len h3]
theorem F9.get : ∀ {ts : List MV} {es : List (List Value)}, F9 kc G ts es → ∀ {i : Nat} {t : MV}, ts[i]? = some t → ∃ e, es[i]? = some e ∧ Q4 kc G t e
 | [], es, h, i, t, ht => by simp at ht
 | t' :: ts, es, h, i, t, ht => by
  simp only [F9] at h
  obtain ⟨a, r, rfl, h2, h3⟩ := h
  cases i with
  | zero => simp at ht; subst ht; exact ⟨a, by simp, h2⟩
  | succ i =>
   obtain ⟨e, he, hr⟩ := F9.get h3 (by simpa using ht)
   exact ⟨e, by simpa using he, hr⟩
theorem F9.each : ∀ {ts : List MV} {es : List (List Value)}, F9 kc G ts es → ∀ e ∈ es, e.length = 4 ∧ e.all (·.oneCell') = true
 | [], es, h, e, he => by simp only [F9] at h; subst h; simp at he
 | t :: ts, es, h, e, he => by
  simp only [F9] at h
  obtain ⟨a, r, rfl, h2, h3⟩ := h
  rcases List.mem_cons.1 he with rfl | he
  ·exact ⟨h2.len, h2.one⟩
  ·exact F9.each h3 e he
theorem F9.all {ts : List MV} {es : List (List Value)} (h : F9 kc G ts es) : ∀ e ∈ es, e.length = 4 := fun e he => (h.each e he).1
theorem F9.ones {ts : List MV} {es : List (List Value)} (h : F9 kc G ts es) : ∀ e ∈ es, e.all (·.oneCell') = true := fun e he => (h.each e he).2
theorem F9.append : ∀ {ts us : List MV} {es fs : List (List Value)}, F9 kc G ts es → F9 kc G us fs → F9 kc G (ts ++ us) (es ++ fs)
 | [], us, es, fs, h, h2 => by simp only [F9] at h; subst h; simpa using h2
 | t :: ts, us, es, fs, h, h2 => by
  simp only [F9] at h
  obtain ⟨a, r, rfl, h3, h4⟩ := h
  simp only [List.cons_append, F9]
  exact ⟨a, r ++ fs, rfl, h3, F9.append h4 h2⟩
theorem F9.one' {t : MV} {e : List Value} (h : Q4 kc G t e) : F9 kc G [t] [e] := by
 simp only [F9]; exact ⟨e, [], rfl, h, rfl⟩
theorem F9.snoc {ts : List MV} {es : List (List Value)} {t : MV} {e : List Value} (h : F9 kc G ts es) (h2 : Q4 kc G t e) : F9 kc G (ts ++ [t]) (es ++ [e]) := h.append (.one' h2)
theorem F9.take : ∀ {ts : List MV} {es : List (List Value)} (n : Nat), F9 kc G ts es → F9 kc G (ts.take n) (es.take n)
 | ts, es, 0, _ => by simp [F9]
 | [], es, n + 1, h => by simp only [F9] at h; subst h; simp [F9]
 | t :: ts, es, n + 1, h => by
  simp only [F9] at h
  obtain ⟨a, r, rfl, h3, h4⟩ := h
  simp only [List.take_succ_cons, F9]
  exact ⟨a, r.take n, rfl, h3, F9.take n h4⟩
theorem F9.drop : ∀ {ts : List MV} {es : List (List Value)} (n : Nat), F9 kc G ts es → F9 kc G (ts.drop n) (es.drop n)
 | ts, es, 0, h => by simpa using h
 | [], es, n + 1, h => by simp only [F9] at h; subst h; simp [F9]
 | t :: ts, es, n + 1, h => by
  simp only [F9] at h
  obtain ⟨a, r, rfl, h3, h4⟩ := h
  simp only [List.drop_succ_cons]
  exact F9.drop n h4
theorem C0.mvAt {p : Option Addr} {n c : Nat} {es : List (List Value)} {ts : List MV} (h : C0 G p n c 4 es) (hk : F9 kc G ts es) {i : Nat} {t : MV} (ht : ts[i]? = some t) :
  ∃ b o q d q' d', p = some ⟨b, o, none⟩ ∧ (∀ hp, At hp G b (o + i * 4) [.int .i64 (kc t.k), .int .i64 t.num, .slice q t.env.length d, .slice q' t.parts.length d']) ∧ Q4 kc G t [.int .i64 (kc t.k), .int .i64 t.num, .slice q t.env.length d, .slice q' t.parts.length d'] ∧ G b ≠ none := by
 obtain ⟨e, he, hr⟩ := hk.get ht
 have hi : i < n := by rw [← h.len]; exact (List.getElem?_eq_some_iff.1 he).1
 obtain ⟨e', b, o, he', hp, _, _, hat, hg⟩ := h.get hi
 rw [he] at he'; cases he'
 obtain ⟨q, d, _, q', d', _, rfl, _⟩ := hr.open
 exact ⟨b, o, q, d, q', d', hp, hat, hr, hg⟩
end

def RFr (kc : Int → Int) (G : IM) (f : Int × List MV) (cells : List Value) : Prop := ∃ p c es, cells = [.int .i64 f.1, .slice p f.2.length c] ∧ C1 f.1 ∧ C0 G p f.2.length c 4 es ∧ F9 kc G f.2 es
def P1 (kc : Int → Int) (G : IM) : List (Int × List MV) → List (List Value) → Prop
 | [], es => es = []
 | t :: ts, es => ∃ a r, es = a :: r ∧ RFr kc G t a ∧ P1 kc G ts r
section
variable {kc : Int → Int} {G : IM}
theorem RFr.mono {G' : IM} (hg : A7 G G') {f : Int × List MV} {cells : List Value} (h : RFr kc G f cells) : RFr kc G' f cells := by
 obtain ⟨p, c, es, h1, h2, h3, h4⟩ := h
 exact ⟨p, c, es, h1, h2, h3.mono hg, h4.mono hg⟩
theorem P1.mono {G' : IM} (hg : A7 G G') : ∀ {ts : List (Int × List MV)} {es : List (List Value)}, P1 kc G ts es → P1 kc G' ts es
 | [], es, h => by simpa only [P1] using h
 | t :: ts, es, h => by
  simp only [P1] at h ⊢
  obtain ⟨a, r, h1, h2, h3⟩ := h
  exact ⟨a, r, h1, h2.mono hg, P1.mono hg h3⟩
theorem RFr.mk {a : Int} {env : List MV} {p : Option Addr} {c n : Nat} {es : List (List Value)} (h1 : C1 a) (hn : n = env.length) (h3 : C0 G p n c 4 es) (h4 : F9 kc G env es) : RFr kc G (a, env) [.int .i64 a, .slice p n c] := by
 subst hn; exact ⟨p, c, es, rfl, h1, h3, h4⟩
theorem P1.get : ∀ {ts : List (Int × List MV)} {es : List (List Value)}, P1 kc G ts es → ∀ {i : Nat} {t : Int × List MV}, ts[i]? = some t → ∃ e, es[i]? = some e ∧ RFr kc G t e
 | [], es, h, i, t, ht => by simp at ht
 | t' :: ts, es, h, i, t, ht => by
  simp only [P1] at h
  obtain ⟨a, r, rfl, h2, h3⟩ := h
  cases i with
  | zero => simp at ht; subst ht; exact ⟨a, by simp, h2⟩
  | succ i =>
   obtain ⟨e, he, hr⟩ := P1.get h3 (by simpa using ht)
   exact ⟨e, by simpa using he, hr⟩
theorem P1.each : ∀ {ts : List (Int × List MV)} {es : List (List Value)}, P1 kc G ts es → ∀ e ∈ es, e.length = 2 ∧ e.all (·.oneCell') = true
 | [], es, h, e, he => by simp only [P1] at h; subst h; simp at he
 | t :: ts, es, h, e, he => by
  simp only [P1] at h
  obtain ⟨a, r, rfl, h2, h3⟩ := h
  rcases List.mem_cons.1 he with rfl | he
  ·obtain ⟨p, c, es, rfl, _⟩ := h2; exact ⟨rfl, rfl⟩
  ·exact P1.each h3 e he
theorem P1.all {ts : List (Int × List MV)} {es : List (List Value)} (h : P1 kc G ts es) : ∀ e ∈ es, e.length = 2 := fun e he => (h.each e he).1
theorem P1.snoc : ∀ {ts : List (Int × List MV)} {es : List (List Value)} {t : Int × List MV} {e : List Value}, P1 kc G ts es → RFr kc G t e → P1 kc G (ts ++ [t]) (es ++ [e])
 | [], es, t, e, h, h2 => by simp only [P1] at h; subst h; simp only [List.nil_append, P1]; exact ⟨e, [], rfl, h2, rfl⟩
 | t' :: ts, es, t, e, h, h2 => by
  simp only [P1] at h
  obtain ⟨a, r, rfl, h3, h4⟩ := h
  simp only [List.cons_append, P1]
  exact ⟨a, r ++ [e], rfl, h3, P1.snoc h4 h2⟩
theorem P1.take : ∀ {ts : List (Int × List MV)} {es : List (List Value)} (n : Nat), P1 kc G ts es → P1 kc G (ts.take n) (es.take n)
 | ts, es, 0, _ => by simp [P1]
 | [], es, n + 1, h => by simp only [P1] at h; subst h; simp [P1]
 | t :: ts, es, n + 1, h => by
  simp only [P1] at h
  obtain ⟨a, r, rfl, h3, h4⟩ := h
  simp only [List.take_succ_cons, P1]
  exact ⟨a, r.take n, rfl, h3, P1.take n h4⟩
end

theorem A8Q {sz : Nat} : ∀ {es : List (List Value)} (l : Nat), (∀ e ∈ es, e.length = sz) → es.flatten.drop (l * sz) = (es.drop l).flatten
 | [], l, _ => by simp
 | e :: es, 0, _ => by simp
 | e :: es, l + 1, h => by
  have he : e.length = sz := h e List.mem_cons_self
  rw [List.flatten_cons, List.drop_succ_cons, List.drop_append, show (l + 1) * sz - e.length = l * sz by rw [he, Nat.succ_mul]; omega, List.drop_eq_nil_of_le (by rw [he, Nat.succ_mul]; omega), List.nil_append]
  exact A8Q l fun x hx => h x (List.mem_cons_of_mem _ hx)
theorem A6n {sz : Nat} : ∀ {es : List (List Value)} (l : Nat), (∀ e ∈ es, e.length = sz) → es.flatten.take (l * sz) = (es.take l).flatten
 | [], l, _ => by simp
 | e :: es, 0, _ => by simp
 | e :: es, l + 1, h => by
  have he : e.length = sz := h e List.mem_cons_self
  rw [List.flatten_cons, List.take_succ_cons, List.flatten_cons, List.take_append, show (l + 1) * sz - e.length = l * sz by rw [he, Nat.succ_mul]; omega, List.take_of_length_le (by rw [he, Nat.succ_mul]; omega)]
  rw [A6n l fun x hx => h x (List.mem_cons_of_mem _ hx)]
structure N7 where
 at' : Int
 st : List MV
 env : List MV
 fr : List (Int × List MV)
def RSs (kc : Int → Int) (G : IM) (s : N7) (cells : List Value) : Prop := ∃ pe ce ps cs pf cf ee es ef, cells = [.int .i64 s.at', .slice pe s.env.length ce, .slice ps s.st.length cs, .slice pf s.fr.length cf] ∧ C1 s.at' ∧
 C0 G pe s.env.length ce 4 ee ∧ F9 kc G s.env ee ∧ C0 G ps s.st.length cs 4 es ∧ F9 kc G s.st es ∧ C0 G pf s.fr.length cf 2 ef ∧ P1 kc G s.fr ef
def L5 (k : Int) : Nat := if k = 6 ∨ k = 7 ∨ k = 8 ∨ k = 11 then 2 else if k = 9 ∨ k = 12 ∨ k = 13 then 1 else 0
def O1 (k : Int) : Int × Nat × Int := if k = 6 then (2, 1, 1) else if k = 7 ∨ k = 8 then (0, 2, 2) else if k = 9 then (1, 1, 3) else if k = 12 ∨ k = 13 then (3, 1, 4) else (0, 0, 0)
def A0K (s : N7) (v : MV) : N7 := { s with st := s.st ++ [v] }
def mGo (k a : Int) (s : N7) (v : List MV) : N7 ⊕ (Int × Int) :=
 if k = 1 then .inl (A0K s (.mk 0 a [] []))
 else if k = 2 then .inl (A0K s (.mk 1 a [] []))
 else if k = 3 then (if (s.env.length : Int) - 1 - a < 0 then .inr (3, 0) else .inl (A0K s (s.env.getD ((s.env.length : Int) - 1 - a).toNat R0)))
 else if k = 4 then .inl { A0K s (.mk 2 s.at' s.env []) with at' := s.at' + a }
 else if k = 5 then (if s.fr.length = 0 then .inr (3, 0) else .inl { s with at' := (s.fr.getD (s.fr.length - 1) (0, [])).1, env := (s.fr.getD (s.fr.length - 1) (0, [])).2, fr := s.fr.take (s.fr.length - 1) })
 else if k = 6 then .inl { s with at' := (v.getD 0 R0).num, env := (v.getD 0 R0).env ++ [v.getD 1 R0], fr := s.fr ++ [(s.at', s.env)] }
 else if k = 7 then .inl (A0K s (.mk 0 (((v.getD 0 R0).num + (v.getD 1 R0).num) % 1000) [] []))
 else if k = 8 then .inl (A0K s (.mk 1 (if (v.getD 0 R0).num < (v.getD 1 R0).num then 1 else 0) [] []))
 else if k = 9 then .inl (if (v.getD 0 R0).num = 0 then { s with at' := s.at' + a } else s)
 else if k = 10 then .inl { s with at' := s.at' + a }
 else if k = 11 then .inl (A0K s (.mk 3 0 [] v))
 else .inl (A0K s ((v.getD 0 R0).parts.getD (k - 12).toNat R0))
def A0L (k : Int) (v : List MV) : Bool := (v.take (O1 k).2.1).all fun u => decide (u.k = (O1 k).1)
def P5 (k a : Int) (s : N7) : N7 ⊕ (Int × Int) :=
 if s.st.length < L5 k then .inr (3, 0)
 else if A0L k (s.st.drop (s.st.length - L5 k)) = true then mGo k a { s with at' := s.at' + 1, st := s.st.take (s.st.length - L5 k) } (s.st.drop (s.st.length - L5 k))
 else .inr (2, (O1 k).2.2)
def A0l (v : MV) : ByteArray := if v.k = 0 then ⟨(Lib.decDigits v.num.toNat).toArray⟩ else if v.k = 1 then (if v.num = 0 then ⟨#[70]⟩ else ⟨#[84]⟩) else if v.k = 2 then ⟨⟨[102, 117, 110, 99, 116, 105, 111, 110]⟩⟩ else ⟨⟨[112, 97, 105, 114]⟩⟩
theorem B3d {v : MV} {j : Nat} (h : v.k = 0) (hj : v.num = j) : A0l v = ⟨(Lib.decDigits j).toArray⟩ := by unfold A0l; rw [if_pos h, hj, Int.toNat_natCast]
theorem B3e {v : MV} (h : v.k = 1) (hj : v.num = 0) : A0l v = ⟨#[70]⟩ := by unfold A0l; rw [if_neg (by omega), if_pos h, if_pos hj]
theorem B3f {v : MV} (h : v.k = 1) (hj : v.num = 1) : A0l v = ⟨#[84]⟩ := by unfold A0l; rw [if_neg (by omega), if_pos h, if_neg (by omega)]
theorem B3g {v : MV} (h : v.k = 2) : A0l v = ⟨⟨[102, 117, 110, 99, 116, 105, 111, 110]⟩⟩ := by unfold A0l; rw [if_neg (by omega), if_neg (by omega), if_pos h]
theorem B3h {v : MV} (h : v.k = 3) : A0l v = ⟨⟨[112, 97, 105, 114]⟩⟩ := by unfold A0l; rw [if_neg (by omega), if_neg (by omega), if_neg (by omega)]
theorem B3i {v : MV} {j : Nat} (h : v.k = 1) (hj : v.num = j) (h1 : j ≤ 1) : (⟨⟨[70, 84]⟩⟩ : ByteArray).extract j (j + 1) = A0l v := by
 have : j = 0 ∨ j = 1 := by omega
 rcases this with rfl | rfl
 ·rw [B3e h hj]; rfl
 ·rw [B3f h hj]; rfl
def A2a (s : N7) : ByteArray × Int × Int := if s.st.length ≠ 1 ∨ 0 < s.fr.length then (⟨#[]⟩, 3, 0) else (A0l (s.st.getD 0 R0), 0, 0)
def M7 (ops : List (Int × Int)) : Nat → N7 → ByteArray × Int × Int
 | t, s => if (ops.length : Int) ≤ s.at' then A2a s else match t with
  | 0 => (⟨#[]⟩, 5, 0)
  | t + 1 => match P5 (ops.getD s.at'.toNat (0, 0)).1 (ops.getD s.at'.toNat (0, 0)).2 s with
   | .inl s' => M7 ops t s'
   | .inr (c, e) => (⟨#[]⟩, c, e)
def Q0 (k behind : Int) : Int := if k = 1 then 999 else if k = 2 then 1 else if k = 3 then 11 else if k = 4 ∨ k = 9 ∨ k = 10 then behind else 0
def O2 (n : Nat) (i : Nat) (x : Int × Int) : Bool := decide (1 ≤ x.1 ∧ x.1 ≤ 13 ∧ 0 ≤ x.2 ∧ x.2 ≤ Q0 x.1 ((n : Int) - 1 - i))
def X0 (ops : List (Int × Int)) : Bool := decide (1 ≤ ops.length ∧ ops.length ≤ 120) && (List.range ops.length).all fun i => O2 ops.length i (ops.getD i (0, 0))
def A0z (ops : List (Int × Int)) (ticks : Int) : ByteArray × Int × Int :=
 if X0 ops = true ∧ 0 ≤ ticks ∧ ticks ≤ 2000 then M7 ops ticks.toNat ⟨0, [], [], []⟩ else (⟨#[]⟩, 3, 0)
def T2 (k a : Int) (s : N7) : N7 ⊕ (Int × Int) :=
 if A0L k (s.st.drop (s.st.length - L5 k)) = true then mGo k a { s with at' := s.at' + 1, st := s.st.take (s.st.length - L5 k) } (s.st.drop (s.st.length - L5 k))
 else .inr (2, (O1 k).2.2)
theorem A8R {k a : Int} {s : N7} (h : s.st.length < L5 k) : P5 k a s = .inr (3, 0) := by unfold P5; rw [if_pos h]
theorem A0m {k a : Int} {s : N7} (h : ¬s.st.length < L5 k) : P5 k a s = T2 k a s := by unfold P5 T2; rw [if_neg h]
theorem A8S {k : Int} (h : k = 6 ∨ k = 7 ∨ k = 8 ∨ k = 11) : L5 k = 2 := by unfold L5; rw [if_pos h]
theorem A6o {k : Int} (h : k = 9 ∨ k = 12 ∨ k = 13) : L5 k = 1 := by unfold L5; rw [if_neg (by omega), if_pos h]
theorem A6p {k : Int} (h : ¬(k = 6 ∨ k = 7 ∨ k = 8 ∨ k = 11)) (h2 : ¬(k = 9 ∨ k = 12 ∨ k = 13)) : L5 k = 0 := by unfold L5; rw [if_neg h, if_neg h2]
section
variable {a : Int} {s : N7} {v0 v1 : MV}
theorem A4P (h : s.st.drop (s.st.length - 2) = [v0, v1]) : T2 6 a s = if v0.k = 2 then .inl ⟨v0.num, s.st.take (s.st.length - 2), v0.env ++ [v1], s.fr ++ [(s.at' + 1, s.env)]⟩ else .inr (2, 1) := by
 have hp : L5 6 = 2 := rfl
 have hw : O1 6 = (2, 1, 1) := rfl
 unfold T2 A0L
 rw [hp, h, hw]
 by_cases hk : v0.k = 2 <;> simp [hk, mGo]
theorem A6q (h : s.st.drop (s.st.length - 2) = [v0, v1]) : T2 7 a s = if v0.k = 0 ∧ v1.k = 0 then .inl ⟨s.at' + 1, s.st.take (s.st.length - 2) ++ [.mk 0 ((v0.num + v1.num) % 1000) [] []], s.env, s.fr⟩ else .inr (2, 2) := by
 have hp : L5 7 = 2 := rfl
 have hw : O1 7 = (0, 2, 2) := rfl
 unfold T2 A0L
 rw [hp, h, hw]
 by_cases hk : v0.k = 0 <;> by_cases hk1 : v1.k = 0 <;> simp [hk, hk1, mGo, A0K]
theorem A4Q (h : s.st.drop (s.st.length - 2) = [v0, v1]) : T2 8 a s = if v0.k = 0 ∧ v1.k = 0 then .inl ⟨s.at' + 1, s.st.take (s.st.length - 2) ++ [.mk 1 (if v0.num < v1.num then 1 else 0) [] []], s.env, s.fr⟩ else .inr (2, 2) := by
 have hp : L5 8 = 2 := rfl
 have hw : O1 8 = (0, 2, 2) := rfl
 unfold T2 A0L
 rw [hp, h, hw]
 by_cases hk : v0.k = 0 <;> by_cases hk1 : v1.k = 0 <;> simp [hk, hk1, mGo, A0K]
theorem A6r (h : s.st.drop (s.st.length - 2) = [v0, v1]) : T2 11 a s = .inl ⟨s.at' + 1, s.st.take (s.st.length - 2) ++ [.mk 3 0 [] [v0, v1]], s.env, s.fr⟩ := by
 have hp : L5 11 = 2 := rfl
 have hw : O1 11 = (0, 0, 0) := rfl
 unfold T2 A0L
 rw [hp, h, hw]
 simp [mGo, A0K]
theorem A4R (h : s.st.drop (s.st.length - 1) = [v0]) : T2 9 a s = if v0.k = 1 then .inl ⟨if v0.num = 0 then s.at' + 1 + a else s.at' + 1, s.st.take (s.st.length - 1), s.env, s.fr⟩ else .inr (2, 3) := by
 have hp : L5 9 = 1 := rfl
 have hw : O1 9 = (1, 1, 3) := rfl
 unfold T2 A0L
 rw [hp, h, hw]
 by_cases hk : v0.k = 1 <;> by_cases hn : v0.num = 0 <;> simp [hk, hn, mGo]
theorem A6s {k : Int} (hk : k = 12 ∨ k = 13) (h : s.st.drop (s.st.length - 1) = [v0]) : T2 k a s = if v0.k = 3 then .inl ⟨s.at' + 1, s.st.take (s.st.length - 1) ++ [v0.parts.getD (k - 12).toNat R0], s.env, s.fr⟩ else .inr (2, 4) := by
 rcases hk with rfl | rfl
 ·have hp : L5 12 = 1 := rfl
  have hw : O1 12 = (3, 1, 4) := rfl
  unfold T2 A0L
  rw [hp, h, hw]
  by_cases hk : v0.k = 3 <;> simp [hk, mGo, A0K]
 ·have hp : L5 13 = 1 := rfl
  have hw : O1 13 = (3, 1, 4) := rfl
  unfold T2 A0L
  rw [hp, h, hw]
  by_cases hk : v0.k = 3 <;> simp [hk, mGo, A0K]
theorem A3a {k : Int} (h : ¬(k = 6 ∨ k = 7 ∨ k = 8 ∨ k = 11)) (h2 : ¬(k = 9 ∨ k = 12 ∨ k = 13)) : T2 k a s = mGo k a { s with at' := s.at' + 1 } [] := by
 have hw : O1 k = (0, 0, 0) := by unfold O1; rw [if_neg (by omega), if_neg (by omega), if_neg (by omega), if_neg (by omega)]
 unfold T2 A0L
 rw [A6p h h2, hw]
 simp
theorem A6t : T2 1 a s = .inl ⟨s.at' + 1, s.st ++ [.mk 0 a [] []], s.env, s.fr⟩ := by rw [A3a (by omega) (by omega)]; rfl
theorem A6u : T2 2 a s = .inl ⟨s.at' + 1, s.st ++ [.mk 1 a [] []], s.env, s.fr⟩ := by rw [A3a (by omega) (by omega)]; rfl
theorem A4S : T2 3 a s = if (s.env.length : Int) - 1 - a < 0 then .inr (3, 0) else .inl ⟨s.at' + 1, s.st ++ [s.env.getD ((s.env.length : Int) - 1 - a).toNat R0], s.env, s.fr⟩ := by rw [A3a (by omega) (by omega)]; rfl
theorem A6v : T2 4 a s = .inl ⟨s.at' + 1 + a, s.st ++ [.mk 2 (s.at' + 1) s.env []], s.env, s.fr⟩ := by rw [A3a (by omega) (by omega)]; rfl
theorem A4T : T2 5 a s = if s.fr.length = 0 then .inr (3, 0) else .inl ⟨(s.fr.getD (s.fr.length - 1) (0, [])).1, s.st, (s.fr.getD (s.fr.length - 1) (0, [])).2, s.fr.take (s.fr.length - 1)⟩ := by rw [A3a (by omega) (by omega)]; rfl
theorem A6w : T2 10 a s = .inl ⟨s.at' + 1 + a, s.st, s.env, s.fr⟩ := by rw [A3a (by omega) (by omega)]; rfl
end
mutual
def MV.ok (n : Int) (N : Nat) : MV → Prop
 | .mk k num env parts => 0 ≤ k ∧ k ≤ 3 ∧ 0 ≤ num ∧ num ≤ 999 ∧ (k = 1 → num ≤ 1) ∧ (k = 2 → num ≤ n) ∧ (k = 3 → parts.length = 2) ∧ env.length ≤ N ∧ MV.okL n N env ∧ MV.okL n N parts
def MV.okL (n : Int) (N : Nat) : List MV → Prop
 | [] => True
 | v :: vs => v.ok n N ∧ MV.okL n N vs
end
mutual
theorem MV.ok.mono {n : Int} {N M : Nat} (hN : N ≤ M) : ∀ {v : MV}, v.ok n N → v.ok n M
 | .mk k num env parts, h => by
  simp only [MV.ok] at h ⊢
  obtain ⟨h1, h2, h3, h4, h5, h6, h7, h8, h9, h10⟩ := h
  exact ⟨h1, h2, h3, h4, h5, h6, h7, by omega, MV.okL.mono hN h9, MV.okL.mono hN h10⟩
theorem MV.okL.mono {n : Int} {N M : Nat} (hN : N ≤ M) : ∀ {vs : List MV}, MV.okL n N vs → MV.okL n M vs
 | [], h => by simp only [MV.okL]
 | v :: vs, h => by
  simp only [MV.okL] at h ⊢
  exact ⟨MV.ok.mono hN h.1, MV.okL.mono hN h.2⟩
end
theorem A6x {n : Int} {N : Nat} : ∀ {vs : List MV}, MV.okL n N vs ↔ ∀ v ∈ vs, v.ok n N
 | [] => by simp [MV.okL]
 | v :: vs => by simp only [MV.okL, A6x (vs := vs), List.forall_mem_cons]
theorem MV.ok.spec {n : Int} {N : Nat} {v : MV} (h : v.ok n N) : 0 ≤ v.k ∧ v.k ≤ 3 ∧ 0 ≤ v.num ∧ v.num ≤ 999 ∧ (v.k = 1 → v.num ≤ 1) ∧ (v.k = 2 → v.num ≤ n) ∧ (v.k = 3 → v.parts.length = 2) ∧ v.env.length ≤ N ∧ (∀ u ∈ v.env, u.ok n N) ∧ (∀ u ∈ v.parts, u.ok n N) := by
 obtain ⟨k, num, env, parts⟩ := v
 simp only [MV.ok, A6x] at h
 exact h
theorem MV.ok.mk {n : Int} {N : Nat} {k num : Int} {env parts : List MV} (h1 : 0 ≤ k ∧ k ≤ 3) (h2 : 0 ≤ num ∧ num ≤ 999) (h3 : k = 1 → num ≤ 1) (h4 : k = 2 → num ≤ n) (h5 : k = 3 → parts.length = 2) (h6 : env.length ≤ N) (h7 : ∀ u ∈ env, u.ok n N) (h8 : ∀ u ∈ parts, u.ok n N) : (MV.mk k num env parts).ok n N := by
 simp only [MV.ok, A6x]
 exact ⟨h1.1, h1.2, h2.1, h2.2, h3, h4, h5, h6, h7, h8⟩
structure N7.ok (n : Int) (N : Nat) (s : N7) : Prop where
 lo : 0 ≤ s.at'
 hi : s.at' ≤ n
 st : s.st.length ≤ N
 env : s.env.length ≤ N
 fr : s.fr.length ≤ N
 sto : ∀ v ∈ s.st, v.ok n N
 envo : ∀ v ∈ s.env, v.ok n N
 fro : ∀ f ∈ s.fr, 0 ≤ f.1 ∧ f.1 ≤ n ∧ f.2.length ≤ N ∧ ∀ v ∈ f.2, v.ok n N
theorem A3U {l : List MV} (h : 2 ≤ l.length) : ∃ v0 v1, l.drop (l.length - 2) = [v0, v1] ∧ v0 ∈ l ∧ v1 ∈ l := by
 have hl : (l.drop (l.length - 2)).length = 2 := by rw [List.length_drop]; omega
 match hd : l.drop (l.length - 2), hl with
 | [v0, v1], _ => exact ⟨v0, v1, rfl, List.mem_of_mem_drop (i := l.length - 2) (by rw [hd]; simp), List.mem_of_mem_drop (i := l.length - 2) (by rw [hd]; simp)⟩
theorem A6y {l : List MV} (h : 1 ≤ l.length) : ∃ v0, l.drop (l.length - 1) = [v0] ∧ v0 ∈ l := by
 have hl : (l.drop (l.length - 1)).length = 1 := by rw [List.length_drop]; omega
 match hd : l.drop (l.length - 1), hl with
 | [v0], _ => exact ⟨v0, rfl, List.mem_of_mem_drop (i := l.length - 1) (by rw [hd]; simp)⟩
theorem A4U {α : Type} {l : List α} {d : α} {i : Nat} (h : i < l.length) : l.getD i d ∈ l := by
 rw [List.getD_eq_getElem?_getD, List.getElem?_eq_getElem h, Option.getD_some]; exact List.getElem_mem h
theorem A2D {α : Type} {l : List α} {d : α} {i : Nat} (h : i < l.length) : l[i]? = some (l.getD i d) := by
 rw [List.getD_eq_getElem?_getD, List.getElem?_eq_getElem h, Option.getD_some]
theorem A4V {n : Nat} {i : Nat} {k a : Int} (h : O2 n i (k, a) = true) (hi : i < n) : 1 ≤ k ∧ k ≤ 13 ∧ 0 ≤ a ∧ a ≤ 4294967296 + (n : Int) ∧ (k = 1 → a ≤ 999) ∧ (k = 2 → a ≤ 1) ∧ (k = 3 → a ≤ 11) ∧ (k = 4 ∨ k = 9 ∨ k = 10 → (i : Int) + 1 + a ≤ n) := by
 unfold O2 Q0 at h
 rw [decide_eq_true_eq] at h
 dsimp only at h
 obtain ⟨h1, h2, h3, h4⟩ := h
 refine ⟨h1, h2, h3, ?_, ?_, ?_, ?_, ?_⟩ <;> (repeat' split at h4) <;> omega
theorem B3j {n : Nat} {N : Nat} {k a : Int} {s s' : N7} (hn : n ≤ 120) (hs : s.ok n N) (hlt : s.at' < n) (ho : O2 n s.at'.toNat (k, a) = true) (h : P5 k a s = .inl s') : s'.ok n (N + 1) := by
 obtain ⟨k1, k2, a1, a2, b1, b2, b3, b4⟩ := A4V ho (by have := hs.lo; omega)
 have hlo := hs.lo; have hst := hs.st; have henv := hs.env; have hfr := hs.fr
 have at0 : (s.at'.toNat : Int) = s.at' := by omega
 rw [at0] at b4
 have stm : ∀ v ∈ s.st, v.ok n (N + 1) := fun v hv => (hs.sto v hv).mono (by omega)
 have envm : ∀ v ∈ s.env, v.ok n (N + 1) := fun v hv => (hs.envo v hv).mono (by omega)
 have frm : ∀ f ∈ s.fr, 0 ≤ f.1 ∧ f.1 ≤ n ∧ f.2.length ≤ N + 1 ∧ ∀ v ∈ f.2, v.ok n (N + 1) := fun f hf => by
  obtain ⟨c1, c2, c3, c4⟩ := hs.fro f hf
  exact ⟨c1, c2, by omega, fun v hv => (c4 v hv).mono (by omega)⟩
 have stt : ∀ m, ∀ v ∈ s.st.take m, v.ok n (N + 1) := fun m v hv => stm v (List.mem_of_mem_take hv)
 have tl : ∀ m, (s.st.take m).length ≤ N := fun m => by rw [List.length_take]; omega
 have push : ∀ {m v}, v.ok n (N + 1) → ∀ u ∈ s.st.take m ++ [v], u.ok n (N + 1) := fun hv => A1b (stt _) hv
 by_cases hf : s.st.length < L5 k
 ·rw [A8R hf] at h; cases h
 rw [A0m hf] at h
 have hkk : k = 1 ∨ k = 2 ∨ k = 3 ∨ k = 4 ∨ k = 5 ∨ k = 6 ∨ k = 7 ∨ k = 8 ∨ k = 9 ∨ k = 10 ∨ k = 11 ∨ (k = 12 ∨ k = 13) := by omega
 rcases hkk with rfl | rfl | rfl | rfl | rfl | rfl | rfl | rfl | rfl | rfl | rfl | hk
 ·rw [A6t] at h; cases h
  exact ⟨by dsimp only; omega, by dsimp only; omega, by simp; omega, by dsimp only; omega, by dsimp only; omega, A1b stm (MV.ok.mk (by omega) (by omega) (by omega) (by omega) (by omega) (by simp) (by simp) (by simp)), envm, frm⟩
 ·rw [A6u] at h; cases h
  exact ⟨by dsimp only; omega, by dsimp only; omega, by simp; omega, by dsimp only; omega, by dsimp only; omega, A1b stm (MV.ok.mk (by omega) (by omega) (by omega) (by omega) (by omega) (by simp) (by simp) (by simp)), envm, frm⟩
 ·rw [A4S] at h
  split at h
  ·cases h
  ·cases h
   exact ⟨by dsimp only; omega, by dsimp only; omega, by simp; omega, by dsimp only; omega, by dsimp only; omega, A1b stm (envm _ (A4U (by omega))), envm, frm⟩
 ·rw [A6v] at h; cases h
  exact ⟨by dsimp only; omega, by dsimp only; omega, by simp; omega, by dsimp only; omega, by dsimp only; omega, A1b stm (MV.ok.mk (by omega) (by omega) (by omega) (by omega) (by omega) (by omega) envm (by simp)), envm, frm⟩
 ·rw [A4T] at h
  split at h
  ·cases h
  ·cases h
   obtain ⟨c1, c2, c3, c4⟩ := frm _ (A4U (d := (0, [])) (i := s.fr.length - 1) (by omega))
   exact ⟨c1, c2, by dsimp only; omega, c3, by simp; omega, stm, c4, fun f hf => frm f (List.mem_of_mem_take hf)⟩
 ·obtain ⟨v0, v1, hd, m0, m1⟩ := A3U (l := s.st) (by have : L5 6 = 2 := rfl; omega)
  rw [A4P hd] at h
  split at h
  ·cases h
   obtain ⟨c1, c2, c3, c4, c5, c6, c7, c8, c9, c10⟩ := (hs.sto _ m0).spec
   refine ⟨c3, c6 (by assumption), by have := tl (s.st.length - 2); dsimp only; omega, by simp; omega, by simp; omega, stt _, ?_, ?_⟩
   ·exact A1b (fun u hu => (c9 u hu).mono (by omega)) (stm _ m1)
   ·exact A1b frm ⟨by dsimp only; omega, by dsimp only; omega, by dsimp only; omega, envm⟩
  ·cases h
 ·obtain ⟨v0, v1, hd, m0, m1⟩ := A3U (l := s.st) (by have : L5 7 = 2 := rfl; omega)
  rw [A6q hd] at h
  split at h
  ·cases h
   obtain ⟨c1, c2, c3, c4, _⟩ := (hs.sto _ m0).spec
   obtain ⟨e1, e2, e3, e4, _⟩ := (hs.sto _ m1).spec
   exact ⟨by dsimp only; omega, by dsimp only; omega, by simp; omega, by dsimp only; omega, by dsimp only; omega, push (MV.ok.mk (by omega) (by omega) (by omega) (by omega) (by omega) (by simp) (by simp) (by simp)), envm, frm⟩
  ·cases h
 ·obtain ⟨v0, v1, hd, m0, m1⟩ := A3U (l := s.st) (by have : L5 8 = 2 := rfl; omega)
  rw [A4Q hd] at h
  split at h
  ·cases h
   have hb : 0 ≤ (if v0.num < v1.num then (1 : Int) else 0) ∧ (if v0.num < v1.num then (1 : Int) else 0) ≤ 1 := by split <;> omega
   exact ⟨by dsimp only; omega, by dsimp only; omega, by simp; omega, by dsimp only; omega, by dsimp only; omega, push (MV.ok.mk (by omega) (by omega) (by omega) (by omega) (by omega) (by simp) (by simp) (by simp)), envm, frm⟩
  ·cases h
 ·obtain ⟨v0, hd, m0⟩ := A6y (l := s.st) (by have : L5 9 = 1 := rfl; omega)
  rw [A4R hd] at h
  split at h
  ·cases h
   exact ⟨by dsimp only; split <;> omega, by dsimp only; split <;> omega, by have := tl (s.st.length - 1); dsimp only; omega, by dsimp only; omega, by dsimp only; omega, stt _, envm, frm⟩
  ·cases h
 ·rw [A6w] at h; cases h
  exact ⟨by dsimp only; omega, by dsimp only; omega, by dsimp only; omega, by dsimp only; omega, by dsimp only; omega, stm, envm, frm⟩
 ·obtain ⟨v0, v1, hd, m0, m1⟩ := A3U (l := s.st) (by have : L5 11 = 2 := rfl; omega)
  rw [A6r hd] at h; cases h
  exact ⟨by dsimp only; omega, by dsimp only; omega, by simp; omega, by dsimp only; omega, by dsimp only; omega, push (MV.ok.mk (by omega) (by omega) (by omega) (by omega) (by simp) (by simp) (by simp) (by simp [stm _ m0, stm _ m1])), envm, frm⟩
 ·obtain ⟨v0, hd, m0⟩ := A6y (l := s.st) (by have : L5 k = 1 := A6o (by omega); omega)
  rw [A6s hk hd] at h
  split at h
  ·cases h
   obtain ⟨c1, c2, c3, c4, c5, c6, c7, c8, c9, c10⟩ := (hs.sto _ m0).spec
   have c7' := c7 (by assumption)
   exact ⟨by dsimp only; omega, by dsimp only; omega, by simp; omega, by dsimp only; omega, by dsimp only; omega, push ((c10 _ (A4U (by omega))).mono (by omega)), envm, frm⟩
  ·cases h
section
variable {ops : List (Int × Int)} {t : Nat} {s s' : N7}
theorem A6z (h : (ops.length : Int) ≤ s.at') : M7 ops t s = A2a s := by cases t <;> rw [M7, if_pos h]
theorem B3k (h : ¬(ops.length : Int) ≤ s.at') : M7 ops 0 s = (⟨#[]⟩, 5, 0) := by rw [M7, if_neg h]
theorem B3l (h : ¬(ops.length : Int) ≤ s.at') (hs : P5 (ops.getD s.at'.toNat (0, 0)).1 (ops.getD s.at'.toNat (0, 0)).2 s = .inl s') : M7 ops (t + 1) s = M7 ops t s' := by rw [M7, if_neg h]; simp only [hs]
theorem B3m {c e : Int} (h : ¬(ops.length : Int) ≤ s.at') (hs : P5 (ops.getD s.at'.toNat (0, 0)).1 (ops.getD s.at'.toNat (0, 0)).2 s = .inr (c, e)) : M7 ops (t + 1) s = (⟨#[]⟩, c, e) := by rw [M7, if_neg h]; simp only [hs]
end
theorem B3n {k a : Int} {s : N7} {v : List MV} {x : Int × Int} (h : mGo k a s v = .inr x) : x = (3, 0) := by
 unfold mGo at h
 by_cases h1 : k = 1
 ·rw [if_pos h1] at h
  cases h
 rw [if_neg h1] at h
 by_cases h2 : k = 2
 ·rw [if_pos h2] at h
  cases h
 rw [if_neg h2] at h
 by_cases h3 : k = 3
 ·rw [if_pos h3] at h
  split at h <;> cases h
  rfl
 rw [if_neg h3] at h
 by_cases h4 : k = 4
 ·rw [if_pos h4] at h
  cases h
 rw [if_neg h4] at h
 by_cases h5 : k = 5
 ·rw [if_pos h5] at h
  split at h <;> cases h
  rfl
 rw [if_neg h5] at h
 by_cases h6 : k = 6
 ·rw [if_pos h6] at h
  cases h
 rw [if_neg h6] at h
 by_cases h7 : k = 7
 ·rw [if_pos h7] at h
  cases h
 rw [if_neg h7] at h
 by_cases h8 : k = 8
 ·rw [if_pos h8] at h
  cases h
 rw [if_neg h8] at h
 by_cases h9 : k = 9
 ·rw [if_pos h9] at h
  cases h
 rw [if_neg h9] at h
 by_cases h10 : k = 10
 ·rw [if_pos h10] at h
  cases h
 rw [if_neg h10] at h
 by_cases h11 : k = 11
 ·rw [if_pos h11] at h
  cases h
 rw [if_neg h11] at h
 cases h
theorem B3o {k a : Int} {s : N7} {c e : Int} (h : P5 k a s = .inr (c, e)) : c = 2 ∨ c = 3 := by
 unfold P5 at h
 split at h
 ·cases h; omega
 ·split at h
  ·have := B3n h; cases this; omega
  ·cases h; omega
theorem B3p (n : Nat) : N7.ok (n : Int) 0 ⟨0, [], [], []⟩ := ⟨by simp, by simp, by simp, by simp, by simp, by simp, by simp, by simp⟩
structure A4W {ι : Type} (S : ι → Sy) (φ : ι → Prop) (e : Exit) (σ : Sy) : Prop where
 run : match e with
  | .normal => ∃ i, φ i ∧ Sub σ (S i)
  | _ => False
section cut
variable {P : Program} {Γ : I3} {K : Po} {σ : Sy} {ι : Type}
theorem A0n {c y : Code} (S : ι → Sy) (φ : ι → Prop) (h : H5 P Γ c (A4W S φ) σ) (k : ∀ i, φ i → H5 P Γ y K (S i)) : H5 P Γ c (A02 P Γ y K) σ := by
 refine tri_post h ?_
 rintro e σ ⟨hk⟩
 cases e with
 | normal => obtain ⟨i, hi, hs⟩ := hk; exact ⟨A7D hs (k i hi)⟩
 | _ => exact hk.elim
where
 tri_post {c : Code} {K K' : Po} {σ : Sy} (h : H5 P Γ c K σ) (hk : ∀ e σ, K e σ → K' e σ) : H5 P Γ c K' σ := A5L h hk
theorem P6 {S : ι → Sy} {φ : ι → Prop} {σ : Sy} (i : ι) (hs : Sub σ (S i)) (h : φ i) : A4W S φ .normal σ := ⟨⟨i, h, hs⟩⟩
theorem B3q {S : ι → Sy} {φ : ι → Prop} : Z7 (A4W S φ) := fun _ _ h => h.run
instance npC5 {S : ι → Sy} {φ : ι → Prop} : NpC (A4W S φ) := ⟨B3q⟩
end cut
def O4 : Ty := .mk 1 []
def Q5 : Nat → Ty → Prop
 | 0, .mk k ks => ks = [] ∧ k ≠ 4 ∧ k ≠ 5
 | n + 1, .mk k ks => (k = 4 ∨ k = 5 → ks.length = 2) ∧ (k ≠ 4 → k ≠ 5 → ks.length = 0) ∧ ∀ t ∈ ks, Q5 n t
mutual
def E5 : Ty → Prop
 | .mk k ks => (k = 4 ∨ k = 5 → ks.length = 2) ∧ (k ≠ 4 → k ≠ 5 → ks.length = 0) ∧ A0V ks
def A0V : List Ty → Prop
 | [] => True
 | t :: ts => E5 t ∧ A0V ts
end
theorem A3V : ∀ {ts : List Ty}, A0V ts ↔ ∀ t ∈ ts, E5 t
 | [] => by simp [A0V]
 | t :: ts => by simp only [A0V, A3V (ts := ts), List.forall_mem_cons]
theorem Q5.ar : ∀ {n : Nat} {t : Ty}, Q5 n t → E5 t
 | 0, .mk k ks, h => by
  obtain ⟨rfl, h1, h2⟩ := h
  rw [E5]
  exact ⟨fun h => by omega, fun _ _ => rfl, by rw [A0V]; trivial⟩
 | n + 1, .mk k ks, h => by
  obtain ⟨h1, h2, h3⟩ := h
  rw [E5]
  exact ⟨h1, h2, A3V.2 fun t ht => (h3 t ht).ar⟩
theorem Q5.up : ∀ {n : Nat} {t : Ty}, Q5 n t → Q5 (n + 1) t
 | 0, .mk k ks, h => by
  obtain ⟨rfl, h1, h2⟩ := h
  exact ⟨fun h => by omega, fun _ _ => rfl, by simp⟩
 | n + 1, .mk k ks, h => by
  obtain ⟨h1, h2, h3⟩ := h
  exact ⟨h1, h2, fun t ht => (h3 t ht).up⟩
theorem Q5.le {n m : Nat} {t : Ty} (h : Q5 n t) (hm : n ≤ m) : Q5 m t := by
 induction hm with
 | refl => exact h
 | step _ ih => exact ih.up
theorem B3r {d : Nat} {k : Int} {ts : List Ty} (h0 : d = 0 → k < 4) (hl : (ts.length : Int) = V9 k) (h1 : 1 ≤ k) (h5 : k ≤ 5) (ha : ∀ u ∈ ts, Q5 (d - 1) u) : Q5 d (.mk k ts) := by
 have hk : k = 1 ∨ k = 2 ∨ k = 3 ∨ k = 4 ∨ k = 5 := by omega
 cases d with
 | zero =>
  have hk4 := h0 rfl
  refine ⟨?_, by omega, by omega⟩
  have : V9 k = 0 := by
   rcases hk with rfl | rfl | rfl | rfl | rfl <;> first | rfl | omega
  exact List.length_eq_zero_iff.1 (by omega)
 | succ d =>
  refine ⟨?_, ?_, ha⟩
  ·rintro (rfl | rfl)
   ·have : V9 4 = 2 := rfl
    omega
   ·have : V9 5 = 2 := rfl
    omega
  ·intro h4 h5
   have : V9 k = 0 := by
    rcases hk with rfl | rfl | rfl | rfl | rfl <;> first | rfl | omega
   omega
theorem A8T (n : Nat) : Q5 n O4 := by
 refine Q5.le (n := 0) ⟨rfl, by decide, by decide⟩ (Nat.zero_le n)
theorem A3b (n : Nat) {k : Int} (h4 : k ≠ 4) (h5 : k ≠ 5) : Q5 n (.mk k []) := Q5.le (n := 0) ⟨rfl, h4, h5⟩ (Nat.zero_le n)
theorem A3W : E5 O4 := (A8T 0).ar
mutual
theorem E5.small : ∀ {t : Ty}, E5 t → t.small
 | .mk k ks, h => by
  rw [E5] at h
  rw [Ty.small]
  exact ⟨by have h1 := h.1; have h2 := h.2.1; omega, A0V.small h.2.2⟩
theorem A0V.small : ∀ {ts : List Ty}, A0V ts → Ty.smallL ts
 | [], _ => by rw [Ty.smallL]; trivial
 | t :: ts, h => by
  rw [A0V] at h
  rw [Ty.smallL]
  exact ⟨h.1.small, A0V.small h.2⟩
end
theorem A4X : ∀ {n : Nat} {t : Ty}, Q5 n t → I0 t ≤ ((2 ^ (n + 1) - 2 : Nat) : Int)
 | 0, .mk k ks, h => by
  obtain ⟨rfl, h1, h2⟩ := h
  rw [I0, O0]; simp
 | n + 1, .mk k ks, h => by
  obtain ⟨h1, h2, h3⟩ := h
  have hp : 2 ≤ 2 ^ (n + 1) := by
   have := Nat.pow_le_pow_right (n := 2) (by omega) (show 1 ≤ n + 1 by omega)
   simpa using this
  have e : 2 ^ (n + 1 + 1) = 2 ^ (n + 1) * 2 := Nat.pow_succ ..
  have hl : ks.length = 0 ∨ ks.length = 2 := by omega
  rw [I0]
  match ks, hl, h3 with
  | [], _, _ => rw [O0]; simp
  | [a, b], _, h3 =>
   have := A4X (h3 a (by simp))
   have := A4X (h3 b (by simp))
   simp only [O0, List.length_cons, List.length_nil]; omega
theorem B3s {k : Int} {ks us : List Ty} : ∀ {n : Nat}, Q5 n (.mk k ks) → us.length = ks.length → (∀ u ∈ us, Q5 (n - 1) u) → Q5 n (.mk k us)
 | 0, h, hl, _ => by
  obtain ⟨rfl, h1, h2⟩ := h
  exact ⟨List.length_eq_zero_iff.1 (by simpa using hl), h1, h2⟩
 | n + 1, h, hl, hu => by
  obtain ⟨h1, h2, h3⟩ := h
  exact ⟨fun hk => by rw [hl]; exact h1 hk, fun a b => by rw [hl]; exact h2 a b, hu⟩
theorem A6A {k : Int} {ks : List Ty} {t : Ty} : ∀ {n : Nat}, Q5 n (.mk k ks) → t ∈ ks → Q5 (n - 1) t
 | 0, h, ht => by
  obtain ⟨rfl, h1, h2⟩ := h
  simp at ht
 | n + 1, h, ht => h.2.2 t ht
section take
variable {P : Program} {Γ : I3} {env : J0} {hp : List A1} {G : IM} {K : Po} {ops : Array Oper} {rest : List Oper} {ty : TypeId} {pos : String} {af : Array Edge} {gd : Option (Nat × Bool)}
theorem C6 {d : Nat} {f : FuncId} [hF : A9 P f] {xs : List Operand} {ats : Array TypeId} {vs : List Value} {ins rst : List A1} {post : IM → Value → List A1 → Prop}
  (hx : evl env xs = some vs) (h : Fn P f vs ins G post) (hp' : hp.Perm (ins ++ rst)) (hw : K8 ops env gd = some true) (hd : Nat.blt d Γ.n = true)
  (k : ∀ v G' outs, A7 G G' → post G' v outs → F0 P Γ ops rest K ⟨(d, v) :: env, outs ++ rst, G'⟩) : F0 P Γ ops (⟨some d, .call ⟨.value (.func f), ⟨xs⟩, ats⟩, ty, pos, af, gd⟩ :: rest) K ⟨env, hp, G⟩ :=
 E9 (A2v hx h hp' hd) hw (by rintro _ ⟨v, G', outs, rfl, hle, hq⟩; exact k v G' outs hle hq)
end take
theorem A0o (G : IM) (br : Nat) (pb : Option Addr) (nb cb p : Nat) (bs : List UInt8) (q : Option Addr) (n c : Nat) (xs : List Value) (hb : Sl G pb nb cb 1 (O7 bs)) (hnb : nb ≤ 2000) (hp : p < 1099511627776) (hx : Sl G q n c 1 xs) (hn : 0 < n) :
  Fn Tryz.prog 99 [.pointer (some ⟨br, 0, none⟩), .slice q n c] [rd br pb nb cb p] G (fun G' v outs => G' = G ∧ outs = [rd br pb nb cb (p + 1)] ∧ v ∈ xs) := by
 refine B6 Tryz.func99 rfl Tryz.ntmps99 Tryz.results99 rfl ?_
 intro w0
 refine J3 ?_
 (refine C6 rfl (Y6 G br pb nb cb p bs (n : Int) hb hnb hp) (List.Perm.refl _) rfl rfl (fun v G1 outs hle1 hh => ?_); obtain ⟨rfl, rfl, k, rfl, hk0, hkn⟩ := hh; obtain ⟨j, rfl⟩ := Int.eq_ofNat_of_zero_le hk0)
 (obtain ⟨b, o, v, rfl, hv, hat, _⟩ := hx.kid (i := j) (by omega); refine sP (B3 rfl rfl rfl (by omega)) rfl rfl ?_)
 refine sL (Q8 rfl rfl (hat _)) rfl rfl ?_
 refine sQ (qA rfl) rfl (sD (nS (tT ?_)))
 refine E3 (rT rfl) A0.refl ?_
 exact ⟨rfl, rfl, List.mem_of_getElem? hv⟩
theorem A6B (G : IM) (br : Nat) (pb : Option Addr) (nb cb p : Nat) (bs : List UInt8) (q : Option Addr) (n c : Nat) (xs : List Value) (hb : Sl G pb nb cb 1 (O7 bs)) (hnb : nb ≤ 2000) (hp : p < 1099511627776) (hx : Sl G q n c 1 xs) (hn : 0 < n) :
  Fn Tryz.prog 96 [.pointer (some ⟨br, 0, none⟩), .slice q n c] [rd br pb nb cb p] G (fun G' v outs => G' = G ∧ outs = [rd br pb nb cb (p + 1)] ∧ v ∈ xs) := by
 refine B6 Tryz.func96 rfl Tryz.ntmps96 Tryz.results96 rfl ?_
 intro w0
 refine J3 ?_
 (refine C6 rfl (Y6 G br pb nb cb p bs (n : Int) hb hnb hp) (List.Perm.refl _) rfl rfl (fun v G1 outs hle1 hh => ?_); obtain ⟨rfl, rfl, k, rfl, hk0, hkn⟩ := hh; obtain ⟨j, rfl⟩ := Int.eq_ofNat_of_zero_le hk0)
 (obtain ⟨b, o, v, rfl, hv, hat, _⟩ := hx.kid (i := j) (by omega); refine sP (B3 rfl rfl rfl (by omega)) rfl rfl ?_)
 refine sL (Q8 rfl rfl (hat _)) rfl rfl ?_
 refine sQ (qA rfl) rfl (sD (nS (tT ?_)))
 refine E3 (rT rfl) A0.refl ?_
 exact ⟨rfl, rfl, List.mem_of_getElem? hv⟩
theorem A1R (G : IM) : Fn Tryz.prog 116 [] [] G (J1 (.agg ⟨[.int .i64 1, .slice none 0 0]⟩) G) := by
 refine B6 Tryz.func116 rfl Tryz.ntmps116 Tryz.results116 rfl ?_
 intro w0
 refine tS (tR ?_)
 refine sE (B0 rfl) rfl (fun b3 => ?_)
 refine E8 ?_
 refine I6 (rC rfl (A3 rfl rfl)) ?_
 exact ⟨rfl, rfl, rfl⟩
def dB : Nat → Nat
 | 0 => 0
 | d + 1 => 2 * dB d + 2
theorem B3t {d : Nat} (h : d ≤ 3) : dB (d + 1) ≤ 30 := by
 have : d = 0 ∨ d = 1 ∨ d = 2 ∨ d = 3 := by omega
 rcases this with rfl | rfl | rfl | rfl <;> decide
theorem B3u (k : Int) : V9 k ≤ 2 := by
 unfold V9; split <;> try split
 all_goals omega
theorem A4Y : ∀ (ts : List Ty) (t : Ty), O0 (ts ++ [t]) = O0 ts + I0 t
 | [], t => by simp [O0]
 | a :: ts, t => by simp only [List.cons_append, O0, A4Y ts t]; omega
theorem C3.ty {G : IM} {k : Int} {ts : List Ty} {es : List (List Value)} {p : Option Addr} {n c : Nat} (h : C3 G ts es) (hn : ts.length = n) (hs : Sl G p n c 2 es.flatten) (hk : C1 k) : A8 G (.mk k ts) [.int .i64 k, .slice p n c] := by
 subst hn
 simp only [A8]
 exact ⟨p, c, es, rfl, hk, C0.of hs h.len h.all (fun e he => (h.each e he).2), h⟩
theorem A3X (br : Nat) (pb : Option Addr) (nb cb : Nat) (bs : List UInt8) (hnb : nb ≤ 2000) : ∀ (d p : Nat) (G : IM), d ≤ 1000 → Sl G pb nb cb 1 (O7 bs) → p + dB (d + 1) < 1099511627776 →
  Fn Tryz.prog 111 [.pointer (some ⟨br, 0, none⟩), .int .i64 ((d + 1 : Nat) : Int)] [rd br pb nb cb p] G
   (A0y br pb nb cb p (dB (d + 1)) (fun G' v => ∃ t cells, v = .agg ⟨cells⟩ ∧ A8 G' t cells ∧ I0 t ≤ ((dB (d + 1) : Nat) : Int) ∧ Q5 d t)) := by
 refine fun d => Nat.strongRecOn d fun d ih p G hd hb hp => ?_
 rw [dB] at hp ⊢
 refine B6 Tryz.func111 rfl Tryz.ntmps111 Tryz.results111 rfl ?_
 intro w0
 refine tS (tR ?_)
 refine sE (B0 rfl) rfl (fun b3 => ?_)
 refine sD (nS (tS (tR (sQ (qM rfl) rfl ?_))))
 (refine E9 (B4 rfl rfl rfl (by omega) (by unfold maxLen; omega) rfl) rfl ?_; rintro _ ⟨b9, rfl⟩)
 (refine S9 (by repeat (first | exact Pk.here | apply Pk.there)) (fun G1 hle1 hsl1 _ => ?_); refine C6 rfl (A0o G1 br pb nb cb p bs _ _ _ _ (hb.mono hle1) hnb (by omega) hsl1 (by decide)) (Pk.perm (by repeat (first | exact Pk.here | apply Pk.there))) rfl rfl (fun v G2 outs hle2 hh => ?_); obtain ⟨rfl, rfl, hv⟩ := hh; replace hb := hb.mono hle1; obtain ⟨k, rfl, hk1⟩ : ∃ k, v = .int .i64 k ∧ 1 ≤ k ∧ k ≤ 5 := (by simp only [List.mem_cons, List.not_mem_nil, or_false] at hv; rcases hv with rfl | rfl | rfl | rfl | rfl | rfl | rfl <;> exact ⟨_, rfl, by decide, by decide⟩))
 refine sQ (qA rfl) rfl (sD (nS (tS (tS ?_))))
 (have hv' := hv; refine A0n (fun (x : Bool) => ⟨(16, .bool x) :: [(5, .int .i64 k), (4, .pointer (some ⟨b3, 0, none⟩)), (0, .pointer (some ⟨br, 0, none⟩)), (1, .int .i64 ((d + 1 : Nat) : Int))], [rd br pb nb cb (p + 1), .blk b3 [.int .i64 0, .slice none 0 0]], G2⟩) (fun x => x = false → d = 0 → k < 4) ?_ ?_)
 refine tR (sQ (qM rfl) rfl ?_)
 refine sB (I7 rfl rfl) rfl rfl (fun h19 => ?_) (fun h19 => ?_)
 refine sQ (qM rfl) rfl (sQ (qM rfl) rfl ?_)
 refine sB (Y2 rfl rfl) rfl rfl (fun h22 => ?_) (fun h22 => ?_)
 refine sQ (N4 rfl rfl) rfl (sD ?_)
 refine P6 true (M4 (by repeat (first | exact C8.nil | refine C8.cons rfl ?_)) (by repeat (first | exact A0.refl | exact A0.nil | refine A0.cons (by repeat (first | exact Pk.here | apply Pk.there)) ?_ | apply A0.drop))) ?_
 (show _ = false → d = 0 → k < 4; intro hf h0; first | exact absurd hf (by decide) | omega)
 refine sQ (N4 rfl rfl) rfl (sD ?_)
 refine P6 false (M4 (by repeat (first | exact C8.nil | refine C8.cons rfl ?_)) (by repeat (first | exact A0.refl | exact A0.nil | refine A0.cons (by repeat (first | exact Pk.here | apply Pk.there)) ?_ | apply A0.drop))) ?_
 (show _ = false → d = 0 → k < 4; intro hf h0; first | exact absurd hf (by decide) | omega)
 refine W1 ?_
 refine P6 false (M4 (by repeat (first | exact C8.nil | refine C8.cons rfl ?_)) (by repeat (first | exact A0.refl | exact A0.nil | refine A0.cons (by repeat (first | exact Pk.here | apply Pk.there)) ?_ | apply A0.drop))) ?_
 (show _ = false → d = 0 → k < 4; intro hf h0; first | exact absurd hf (by decide) | omega)
 (rintro x hx; clear hv)
 (show H5 _ _ (.cond (.tmp 16) _ _) _ _; refine A0n (fun (x : Int) => ⟨[(5, .int .i64 x), (4, .pointer (some ⟨b3, 0, none⟩)), (0, .pointer (some ⟨br, 0, none⟩)), (1, .int .i64 ((d + 1 : Nat) : Int))], [rd br pb nb cb (p + 1), .blk b3 [.int .i64 0, .slice none 0 0]], G2⟩) (fun x => 1 ≤ x ∧ x ≤ 5 ∧ (d = 0 → x < 4)) (A3w rfl (fun hxt => ?_) (fun hxf => ?_)) ?_)
 refine tR (sQ (qA rfl) rfl (sD ?_))
 refine P6 1 (M4 (by repeat (first | exact C8.nil | refine C8.cons rfl ?_)) (by repeat (first | exact A0.refl | exact A0.nil | refine A0.cons (by repeat (first | exact Pk.here | apply Pk.there)) ?_ | apply A0.drop))) ?_
 (first | exact ⟨by omega, by omega, by omega⟩ | exact ⟨by omega, by omega, fun h0 => by have := hx hxf h0; omega⟩)
 refine tK ?_
 refine P6 k (M4 (by repeat (first | exact C8.nil | refine C8.cons rfl ?_)) (by repeat (first | exact A0.refl | exact A0.nil | refine A0.cons (by repeat (first | exact Pk.here | apply Pk.there)) ?_ | apply A0.drop))) ?_
 (first | exact ⟨by omega, by omega, by omega⟩ | exact ⟨by omega, by omega, fun h0 => by have := hx hxf h0; omega⟩)
 (rintro kk ⟨hk2, hk3, hk4⟩; have hop := B3u kk; have hk5 := (N2 kk).1; have hk6 := (N2 kk).2.1; have hK := A8E kk)
 refine tS (tR (sQ (qM rfl) rfl (sQ (R6 rfl rfl) rfl ?_)))
 refine sE (B0 rfl) rfl (fun b53 => ?_)
 refine I1 ?_
 refine sD (nS (tS (tS (tR (sQ (qA rfl) rfl (sD (nS ?_)))))))
 refine B2 ?_
 (refine W9 25 2 ?_; refine J8 (fun (x : Nat × Option Addr × Nat × List Ty × List (List Value) × Nat × IM) => ⟨[(7, .int .i64 x.1), (5, .int .i64 kk), (6, .pointer (some ⟨b53, 0, none⟩)), (4, .pointer (some ⟨b3, 0, none⟩)), (0, .pointer (some ⟨br, 0, none⟩)), (1, .int .i64 ((d + 1 : Nat) : Int))], [.blk b53 [.int .i64 kk, .slice x.2.1 x.1 x.2.2.1], .slc x.2.1 x.2.2.1 25 2 x.1 x.2.2.2.2.1.flatten, rd br pb nb cb x.2.2.2.2.2.1, .blk b3 [.int .i64 0, .slice none 0 0]], x.2.2.2.2.2.2⟩) (fun x => (∀ u ∈ x.2.2.2.1, Q5 (d - 1) u) ∧ (x.1 : Int) ≤ V9 kk ∧ A7 G2 x.2.2.2.2.2.2 ∧ x.2.2.2.1.length = x.1 ∧ C3 x.2.2.2.2.2.2 x.2.2.2.1 x.2.2.2.2.1 ∧ O0 x.2.2.2.1 ≤ ((x.1 * dB d : Nat) : Int) ∧ p + 1 ≤ x.2.2.2.2.2.1 ∧ x.2.2.2.2.2.1 ≤ p + 1 + x.1 * dB d) (fun x => (V9 kk).toNat - x.1) (0, none, 0, [], [], p + 1, G2) ?_ ?_ ?_)
 (simp only [E7]; exact C2)
 (exact ⟨by simp, by dsimp only; omega, A7.refl _, rfl, by simp [C3], by simp [O0], by dsimp only; omega, by dsimp only; omega⟩)
 (rintro ⟨i, pn, cn, ts, es', p', Gi⟩ ⟨hah, hi, hle, hlt, hst, hsum, hq1, hq2⟩; simp only [] at hah hi hle hlt hst hsum hq1 hq2 ⊢; have hid : i * dB d ≤ 2 * dB d := Nat.mul_le_mul_right _ (by omega))
 refine tS (tS (tR (sQ (qM rfl) rfl (sQ (qM rfl) rfl ?_))))
 refine H6 rfl ((hK _)) rfl rfl ?_
 refine sB (I7 rfl rfl) rfl rfl (fun h74 => ?_) (fun h74 => ?_)
 refine sD (nS (qT rfl (tK (nS (tS ?_)))))
 refine B2 ?_
 (obtain ⟨d', rfl⟩ : ∃ d', d = d' + 1 := ⟨d - 1, by omega⟩; have hih := ih d' (by omega) p' Gi (by omega) (hb.mono hle) (by have := Nat.mul_le_mul_right (dB (d' + 1)) (show i + 1 ≤ 2 by omega); rw [Nat.succ_mul] at this; omega); refine D7 D8 rfl ?_)
 refine H4 (i := 0) (l' := [tt,ff,ff,ff,ff,ff,ff,ff,ff,ff]) rfl D3 (B1 rfl) rfl (by kernel_rfl) rfl rfl ?_
 refine aL 1 rfl (D4 rfl rfl) rfl ?_
 refine aP 2 rfl (qM rfl) rfl ?_
 refine aP 3 rfl (qM rfl) rfl ?_
 refine aP 4 rfl (A4M rfl rfl (by omega)) rfl ?_
 refine A2 5 ?_
 (refine A0a (l' := [tt,tt,tt,tt,tt,tt,ff,ff,ff,ff]) rfl rfl hih (Pk.perm (by repeat (first | exact Pk.here | apply Pk.there))) rfl rfl rfl (by repeat (first | exact A4.nil | apply A4.dep (by decide +kernel) | apply A4.blk (by decide +kernel) (by repeat (first | exact Pk.here | apply Pk.there)) (by repeat first | exact mH | apply mT))) (fun v G3 outs hle3 hh => ?_); obtain ⟨p3, hp31, hp32, rfl, t3, cells3, rfl, hr3, hs3, ha3⟩ := hh; obtain ⟨q3, c3, es3, rfl, _⟩ := hr3.open)
 refine A2 6 ?_
 (refine D6 rfl (B4 rfl rfl rfl (by omega) (by unfold maxLen; omega) rfl) rfl rfl ?_; rintro _ ⟨b91, rfl⟩)
 refine A2 7 ?_
 refine Q9 rfl rfl rfl rfl rfl rfl (fun _ _ => by repeat (first | exact Sw.here | apply Sw.there)) (J9 (by repeat first | exact mH | apply mT)) rfl (by simp [Value.oneCell']) (by unfold maxLen; omega) (by omega) rfl rfl (by repeat (first | exact A4.nil | apply A4.dep (by decide +kernel) | apply A4.blk (by decide +kernel) (by repeat (first | exact Pk.here | apply Pk.there)) (by repeat first | exact mH | apply mT))) (fun pn' cn' => ?_)
 refine aP 8 rfl (B1 rfl) rfl ?_
 refine A2 9 ?_
 refine R2 rfl rfl rfl rfl rfl rfl rfl rfl (by kernel_rfl) (by repeat first | exact Sw.here | apply Sw.there) (by rfl) ?_
 refine B9 (M2 (nS (tR (sQ (qM rfl) rfl ?_))))
 refine sP (H2 rfl rfl (by omega) (by omega)) rfl rfl ?_
 refine sQ (qA rfl) rfl (sD ?_)
 refine J4 (i + 1, pn', cn', ts ++ [t3], es' ++ [[.int .i64 t3.k, .slice q3 t3.ks.length c3]], p3, G3) ?_ ?_ ?_
 (simp only [E7]; exact C2)
 (dsimp only; have e1 : (i + 1) * dB (d' + 1) = i * dB (d' + 1) + dB (d' + 1) := Nat.succ_mul _ _; have e2 := A4Y ts t3; exact ⟨by simp only [List.forall_mem_append, List.forall_mem_singleton]; exact ⟨hah, ha3⟩, by omega, hle.trans hle3, by simp [hlt], C3.snoc (hst.mono hle3) hr3, by omega, by omega, by omega⟩)
 (show (V9 kk).toNat - (i + 1) < (V9 kk).toNat - i; omega)
 refine M5 ?_
 (refine I5 (by repeat (first | exact Pk.here | apply Pk.there)) (fun G5 hle5 hsl5 hno5 => ?_))
 refine tT ?_
 refine E3 (outs := [rd br pb nb cb p']) (rC rfl (A3 rfl rfl)) (by repeat (first | exact A0.nil | refine A0.cons Pk.here ?_ | refine A0.cons (Pk.there Pk.here) ?_ | apply A0.drop)) ?_
 (refine ⟨p', by omega, by omega, rfl, .mk kk ts, _, rfl, (hst.mono hle5).ty hlt hsl5 ⟨by omega, by omega⟩, ?_, B3r hk4 (by omega) hk2 hk3 hah⟩; rw [I0]; omega)
theorem A8U (br : Nat) (pb : Option Addr) (nb cb : Nat) (bs : List UInt8) (hnb : nb ≤ 2000) (d p : Nat) (G : IM) (hd : d ≤ 1000) (hb : Sl G pb nb cb 1 (O7 bs)) (hp : p + dB (d + 1) < 1099511627776) :
  Fn Tryz.prog 111 [.pointer (some ⟨br, 0, none⟩), .int .i64 ((d + 1 : Nat) : Int)] [rd br pb nb cb p] G
   (A0y br pb nb cb p (dB (d + 1)) (fun G' v => ∃ t cells, v = .agg ⟨cells⟩ ∧ A8 G' t cells ∧ I0 t ≤ ((dB (d + 1) : Nat) : Int))) :=
 (A3X br pb nb cb bs hnb d p G hd hb hp).mono fun G' v outs _ ⟨p', h1, h2, h3, t, cells, h4, h5, h6, _⟩ => ⟨p', h1, h2, h3, t, cells, h4, h5, h6⟩
def I2 : Tm := .mk 0 ⟨⟨[]⟩⟩ 0 (.mk 0 []) (.mk 0 []) 0 []
theorem P0.zero (G : IM) : P0 G I2 z9 [] := by
 simp only [I2, P0, O9, N5, L8, z9]
 refine ⟨[.int .i64 0, .slice none 0 0], [.int .i64 0, .slice none 0 0], none, 0, [], [], [], [], rfl, ⟨by omega, by omega⟩, ⟨by omega, by omega⟩, ⟨by omega, by omega⟩, ?_, ?_, C0.nil _ _, ⟨rfl, rfl⟩, rfl, by simp [H1]⟩
 ·exact ⟨none, 0, [], [], rfl, ⟨by omega, by omega⟩, C0.nil _ _, ⟨rfl, rfl⟩, rfl, by simp [H1]⟩
 ·exact ⟨none, 0, [], [], rfl, ⟨by omega, by omega⟩, C0.nil _ _, ⟨rfl, rfl⟩, rfl, by simp [H1]⟩
def B7N (t : Tm) (path : List Int) : Tm × Bool := if W4 t = true then (match tAt t path with | some x => (x, true) | none => (I2, false)) else (I2, false)
def TbP (r : Tm × Bool) (G : IM) : IM → Value → List A1 → Prop := I8 fun G' v => ∃ cells F, v = .tuple ⟨[.agg ⟨cells⟩, .bool r.2]⟩ ∧ P0 (B7 G' G) r.1 cells F ∧ F.Nodup
end Gw
end Go.Proofs.YtgodjiieijekiaaGreatDoor
