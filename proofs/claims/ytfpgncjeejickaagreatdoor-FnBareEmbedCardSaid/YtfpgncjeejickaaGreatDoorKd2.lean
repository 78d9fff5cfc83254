/-
  The tests of terms.
-/
import Derived.Test.YtfpgncjeejickaaGreatDoorKd1
set_option linter.unusedVariables false
set_option linter.unusedSimpArgs false
set_option maxHeartbeats 0
set_option maxRecDepth 100000
set_option synthInstance.maxSize 4000
set_option synthInstance.maxHeartbeats 0
namespace Go.Proofs.YtfpgncjeejickaaGreatDoor
open Go Go.RowKit
namespace Gw
theorem B3R (k : Int) (G : IM) (hk : F8 k) : Fn Tryz.prog 170 [.int .i64 k] [] G (H8 (.int .i64 (C4 k)) G) := by
 unfold F8 at hk
 refine B7 Tryz.func170 rfl Tryz.ntmps170 Tryz.results170 rfl ?_
 intro w0
 refine D8 ?_
 refine E1 rfl (A1t _ _ _ _) rfl rfl (fun h10 => ?_) (fun h10 => ?_)
 refine D0 ?_
 (refine M5 (D4 rfl rfl rfl (by omega) (by unfold maxLen; omega) rfl) rfl ?_; rintro _ ⟨b19, rfl⟩)
 refine E8 ?_
 (have hkk : 1 ≤ k ∧ k ≤ 14 := A24 (by assumption); refine sP (Q5 rfl rfl (by omega) (by omega)) rfl rfl ?_)
 refine sP (A74 rfl rfl rfl (by omega) (by omega)) rfl rfl ?_
 refine sL (A0u rfl rfl (B2F (by repeat first | exact mH | apply mT) (B3d (by rw [Nat.zero_add, Nat.mul_one]; exact B3c hkk)))) rfl rfl ?_
 refine B1 ?_
 exact ⟨rfl, rfl, rfl⟩
 refine O0 ?_
 exact ⟨rfl, by rw [A3O (A6f (by assumption))], rfl⟩
theorem B3S (k : Int) (nm : ByteArray) (num : Int) (ty fr : Ty) (lb : Int) (ks : List Tm) (G : IM) (cells : List Value) (hr : A8 G (.mk k nm num ty fr lb ks) cells) :
  Fn Tryz.prog 125 [.agg ⟨cells⟩] [] G (H8 (.bool (W1 k nm num ty fr lb ks.length)) G) := by
 obtain ⟨tk, tks⟩ := ty
 obtain ⟨fk, fks⟩ := fr
 obtain ⟨pt, ct, pf, cf, p, c, es, rfl, hk, hnum, hlb, hty, hfr, hsl, hkl⟩ := hr.open9
 have hi := @T0 k nm num (.mk tk tks) (.mk fk fks) lb ks.length
 obtain ⟨R, hR⟩ : ∃ R, W1 k nm num (.mk tk tks) (.mk fk fks) lb ks.length = R := ⟨_, rfl⟩
 rw [hR] at hi ⊢
 clear hR hr
 have o1 := B3R k G hk
 have o2 := B3O nm G
 have o3 := A3T _ G _ hty
 have o4 := A8T _ G _ hty
 have o5 := B3Q _ _ G _ _ hfr hty
 have o6 := B3N lb G
 have o7 := A8T _ G _ hfr
 refine B7 Tryz.func125 rfl Tryz.ntmps125 Tryz.results125 rfl ?_
 intro w0
 refine A1 ?_
 refine sE (C7 rfl rfl) rfl (fun b3 => ?_)
 refine B1 ?_
 refine E3 E4 rfl ?_
 refine J5 (i := 0) (l' := [tt,ff,ff,ff,ff,ff,ff]) rfl D7 (B9 rfl) rfl (by kernel_rfl) rfl rfl ?_
 refine aL 1 rfl (D3 rfl rfl) rfl ?_
 refine aP 3 rfl (B9 rfl) rfl ?_
 refine aL 4 rfl (D3 rfl rfl) rfl ?_
 refine aP 5 rfl (pLn rfl rfl) rfl ?_
 refine A3 2 ?_
 refine P4 rfl rfl (o1) rfl rfl rfl ?_
 refine A0Q (i := 6) (l' := [tt,tt,tt,tt,tt,tt,tt]) rfl D7 (N7 rfl rfl) rfl (by kernel_rfl) rfl rfl (fun h17 => ?_) (fun h17 => ?_)
 refine J4 ?_
 exact ⟨rfl, by (cases R with | false => rfl | true => (exfalso; obtain ⟨i1, i2, i3, i4, i5, i6, i7, i8, i9⟩ := hi.1 rfl; first | omega | (have j := i2 (by omega); simp_all; done) | (have j := i3 (by omega); simp_all; done) | (have j := i4 (by omega); simp_all; done) | (have j := i5 (by omega); simp_all; done) | (have j := i6 (by omega); simp_all; done) | (have j := i7 (by omega); simp_all; done) | (have j := i8 (by omega); simp_all; done) | (have j := i9 (by omega); simp_all; done))), rfl⟩
 refine D8 ?_
 refine sB (qE rfl rfl) rfl rfl (fun h39 => ?_) (fun h39 => ?_)
 refine O0 ?_
 refine sP (H7 rfl rfl (by omega)) rfl rfl ?_
 refine B6 ?_
 refine sP (H7 rfl rfl (by omega)) rfl rfl ?_
 refine B3 ?_
 refine sP (H7 rfl rfl (by omega)) rfl rfl ?_
 refine D0 ?_
 refine sP (H7 rfl rfl (by omega)) rfl rfl ?_
 refine J6 ?_
 refine sP (H7 rfl rfl (by omega)) rfl rfl ?_
 refine A7 ?_
 refine C0 ?_
 refine B4 ?_
 refine E1 rfl (o2) rfl rfl (fun h99 => ?_) (fun h99 => ?_)
 refine A08 ?_
 refine E1 rfl (A1t _ _ _ _) rfl rfl (fun h123 => ?_) (fun h123 => ?_)
 refine A4P ?_
 refine E1 rfl (o4) rfl rfl (fun h149 => ?_) (fun h149 => ?_)
 refine A0j ?_
 refine B3 ?_
 refine E1 rfl (o7) rfl rfl (fun h184 => ?_) (fun h184 => ?_)
 refine B3 ?_
 refine sB (N7 rfl rfl) rfl rfl (fun h189 => ?_) (fun h189 => ?_)
 refine I6 ?_
 exact ⟨rfl, by (cases R with | false => rfl | true => (exfalso; obtain ⟨i1, i2, i3, i4, i5, i6, i7, i8, i9⟩ := hi.1 rfl; first | omega | (have j := i2 (by omega); simp_all; done) | (have j := i3 (by omega); simp_all; done) | (have j := i4 (by omega); simp_all; done) | (have j := i5 (by omega); simp_all; done) | (have j := i6 (by omega); simp_all; done) | (have j := i7 (by omega); simp_all; done) | (have j := i8 (by omega); simp_all; done) | (have j := i9 (by omega); simp_all; done))), rfl⟩
 refine J7 ?_
 exact ⟨rfl, by rw [hi.2 ⟨by omega, fun _ => by (first | assumption | (exfalso; omega) | exact Classical.not_not.1 (by assumption)), fun _ => by (first | assumption | (exfalso; omega) | exact Classical.not_not.1 (by assumption)), fun _ => by (first | assumption | (exfalso; omega) | exact Classical.not_not.1 (by assumption)), fun _ => by (first | assumption | (exfalso; omega) | exact Classical.not_not.1 (by assumption)), fun _ => by (first | assumption | (exfalso; omega) | exact Classical.not_not.1 (by assumption)), fun _ => by (first | assumption | (exfalso; omega) | exact Classical.not_not.1 (by assumption)), fun _ => ⟨by (first | assumption | (exfalso; omega)), by (first | assumption | (exfalso; omega))⟩, fun _ => ⟨by (first | assumption | (exfalso; omega)), by (first | assumption | omega)⟩⟩], rfl⟩
 refine A0x ?_
 exact ⟨rfl, by (cases R with | false => rfl | true => (exfalso; obtain ⟨i1, i2, i3, i4, i5, i6, i7, i8, i9⟩ := hi.1 rfl; first | omega | (have j := i2 (by omega); simp_all; done) | (have j := i3 (by omega); simp_all; done) | (have j := i4 (by omega); simp_all; done) | (have j := i5 (by omega); simp_all; done) | (have j := i6 (by omega); simp_all; done) | (have j := i7 (by omega); simp_all; done) | (have j := i8 (by omega); simp_all; done) | (have j := i9 (by omega); simp_all; done))), rfl⟩
 refine I6 ?_
 exact ⟨rfl, by (cases R with | false => rfl | true => (exfalso; obtain ⟨i1, i2, i3, i4, i5, i6, i7, i8, i9⟩ := hi.1 rfl; first | omega | (have j := i2 (by omega); simp_all; done) | (have j := i3 (by omega); simp_all; done) | (have j := i4 (by omega); simp_all; done) | (have j := i5 (by omega); simp_all; done) | (have j := i6 (by omega); simp_all; done) | (have j := i7 (by omega); simp_all; done) | (have j := i8 (by omega); simp_all; done) | (have j := i9 (by omega); simp_all; done))), rfl⟩
 refine K2 ?_
 exact ⟨rfl, by (cases R with | false => rfl | true => (exfalso; obtain ⟨i1, i2, i3, i4, i5, i6, i7, i8, i9⟩ := hi.1 rfl; first | omega | (have j := i2 (by omega); simp_all; done) | (have j := i3 (by omega); simp_all; done) | (have j := i4 (by omega); simp_all; done) | (have j := i5 (by omega); simp_all; done) | (have j := i6 (by omega); simp_all; done) | (have j := i7 (by omega); simp_all; done) | (have j := i8 (by omega); simp_all; done) | (have j := i9 (by omega); simp_all; done))), rfl⟩
 refine V9 ?_
 exact ⟨rfl, by (cases R with | false => rfl | true => (exfalso; obtain ⟨i1, i2, i3, i4, i5, i6, i7, i8, i9⟩ := hi.1 rfl; first | omega | (have j := i2 (by omega); simp_all; done) | (have j := i3 (by omega); simp_all; done) | (have j := i4 (by omega); simp_all; done) | (have j := i5 (by omega); simp_all; done) | (have j := i6 (by omega); simp_all; done) | (have j := i7 (by omega); simp_all; done) | (have j := i8 (by omega); simp_all; done) | (have j := i9 (by omega); simp_all; done))), rfl⟩
 refine B6 ?_
 refine sB (qE rfl rfl) rfl rfl (fun h297 => ?_) (fun h297 => ?_)
 refine D0 ?_
 refine sP (S8 rfl rfl (by omega)) rfl rfl ?_
 refine V3 ?_
 refine sP (H7 rfl rfl (by omega)) rfl rfl ?_
 refine J6 ?_
 refine sP (H7 rfl rfl (by omega)) rfl rfl ?_
 refine A7 ?_
 refine C0 ?_
 refine B4 ?_
 refine E1 rfl (o2) rfl rfl (fun h353 => ?_) (fun h353 => ?_)
 refine A08 ?_
 refine E1 rfl (A1t _ _ _ _) rfl rfl (fun h377 => ?_) (fun h377 => ?_)
 refine O0 ?_
 refine E1 rfl (o3) rfl rfl (fun h390 => ?_) (fun h390 => ?_)
 refine A0j ?_
 refine V3 ?_
 refine E1 rfl (o7) rfl rfl (fun h438 => ?_) (fun h438 => ?_)
 refine B3 ?_
 refine sB (N7 rfl rfl) rfl rfl (fun h443 => ?_) (fun h443 => ?_)
 refine I6 ?_
 exact ⟨rfl, by (cases R with | false => rfl | true => (exfalso; obtain ⟨i1, i2, i3, i4, i5, i6, i7, i8, i9⟩ := hi.1 rfl; first | omega | (have j := i2 (by omega); simp_all; done) | (have j := i3 (by omega); simp_all; done) | (have j := i4 (by omega); simp_all; done) | (have j := i5 (by omega); simp_all; done) | (have j := i6 (by omega); simp_all; done) | (have j := i7 (by omega); simp_all; done) | (have j := i8 (by omega); simp_all; done) | (have j := i9 (by omega); simp_all; done))), rfl⟩
 refine J7 ?_
 exact ⟨rfl, by rw [hi.2 ⟨by omega, fun _ => by (first | assumption | (exfalso; omega) | exact Classical.not_not.1 (by assumption)), fun _ => by (first | assumption | (exfalso; omega) | exact Classical.not_not.1 (by assumption)), fun _ => by (first | assumption | (exfalso; omega) | exact Classical.not_not.1 (by assumption)), fun _ => by (first | assumption | (exfalso; omega) | exact Classical.not_not.1 (by assumption)), fun _ => by (first | assumption | (exfalso; omega) | exact Classical.not_not.1 (by assumption)), fun _ => by (first | assumption | (exfalso; omega) | exact Classical.not_not.1 (by assumption)), fun _ => ⟨by (first | assumption | (exfalso; omega)), by (first | assumption | (exfalso; omega))⟩, fun _ => ⟨by (first | assumption | (exfalso; omega)), by (first | assumption | omega)⟩⟩], rfl⟩
 refine A0x ?_
 exact ⟨rfl, by (cases R with | false => rfl | true => (exfalso; obtain ⟨i1, i2, i3, i4, i5, i6, i7, i8, i9⟩ := hi.1 rfl; first | omega | (have j := i2 (by omega); simp_all; done) | (have j := i3 (by omega); simp_all; done) | (have j := i4 (by omega); simp_all; done) | (have j := i5 (by omega); simp_all; done) | (have j := i6 (by omega); simp_all; done) | (have j := i7 (by omega); simp_all; done) | (have j := i8 (by omega); simp_all; done) | (have j := i9 (by omega); simp_all; done))), rfl⟩
 refine V9 ?_
 exact ⟨rfl, by (cases R with | false => rfl | true => (exfalso; obtain ⟨i1, i2, i3, i4, i5, i6, i7, i8, i9⟩ := hi.1 rfl; first | omega | (have j := i2 (by omega); simp_all; done) | (have j := i3 (by omega); simp_all; done) | (have j := i4 (by omega); simp_all; done) | (have j := i5 (by omega); simp_all; done) | (have j := i6 (by omega); simp_all; done) | (have j := i7 (by omega); simp_all; done) | (have j := i8 (by omega); simp_all; done) | (have j := i9 (by omega); simp_all; done))), rfl⟩
 refine K2 ?_
 exact ⟨rfl, by (cases R with | false => rfl | true => (exfalso; obtain ⟨i1, i2, i3, i4, i5, i6, i7, i8, i9⟩ := hi.1 rfl; first | omega | (have j := i2 (by omega); simp_all; done) | (have j := i3 (by omega); simp_all; done) | (have j := i4 (by omega); simp_all; done) | (have j := i5 (by omega); simp_all; done) | (have j := i6 (by omega); simp_all; done) | (have j := i7 (by omega); simp_all; done) | (have j := i8 (by omega); simp_all; done) | (have j := i9 (by omega); simp_all; done))), rfl⟩
 refine V9 ?_
 exact ⟨rfl, by (cases R with | false => rfl | true => (exfalso; obtain ⟨i1, i2, i3, i4, i5, i6, i7, i8, i9⟩ := hi.1 rfl; first | omega | (have j := i2 (by omega); simp_all; done) | (have j := i3 (by omega); simp_all; done) | (have j := i4 (by omega); simp_all; done) | (have j := i5 (by omega); simp_all; done) | (have j := i6 (by omega); simp_all; done) | (have j := i7 (by omega); simp_all; done) | (have j := i8 (by omega); simp_all; done) | (have j := i9 (by omega); simp_all; done))), rfl⟩
 refine D0 ?_
 refine sP (H7 rfl rfl (by omega)) rfl rfl ?_
 refine B6 ?_
 refine sB (qE rfl rfl) rfl rfl (fun h563 => ?_) (fun h563 => ?_)
 refine J6 ?_
 refine sP (H7 rfl rfl (by omega)) rfl rfl ?_
 refine J6 ?_
 refine sP (H7 rfl rfl (by omega)) rfl rfl ?_
 refine A7 ?_
 refine C0 ?_
 refine A0R ?_
 refine sB (A1M rfl rfl) rfl rfl (fun h620 => ?_) (fun h620 => ?_)
 refine V3 ?_
 exact ⟨rfl, by (cases R with | false => rfl | true => (exfalso; obtain ⟨i1, i2, i3, i4, i5, i6, i7, i8, i9⟩ := hi.1 rfl; first | omega | (have j := i2 (by omega); simp_all; done) | (have j := i3 (by omega); simp_all; done) | (have j := i4 (by omega); simp_all; done) | (have j := i5 (by omega); simp_all; done) | (have j := i6 (by omega); simp_all; done) | (have j := i7 (by omega); simp_all; done) | (have j := i8 (by omega); simp_all; done) | (have j := i9 (by omega); simp_all; done))), rfl⟩
 refine D8 ?_
 refine E1 rfl (A1t _ _ _ _) rfl rfl (fun h648 => ?_) (fun h648 => ?_)
 refine O0 ?_
 refine E1 rfl (o3) rfl rfl (fun h661 => ?_) (fun h661 => ?_)
 refine A0j ?_
 refine V3 ?_
 refine E1 rfl (o7) rfl rfl (fun h709 => ?_) (fun h709 => ?_)
 refine B3 ?_
 refine sB (N7 rfl rfl) rfl rfl (fun h714 => ?_) (fun h714 => ?_)
 refine I6 ?_
 exact ⟨rfl, by (cases R with | false => rfl | true => (exfalso; obtain ⟨i1, i2, i3, i4, i5, i6, i7, i8, i9⟩ := hi.1 rfl; first | omega | (have j := i2 (by omega); simp_all; done) | (have j := i3 (by omega); simp_all; done) | (have j := i4 (by omega); simp_all; done) | (have j := i5 (by omega); simp_all; done) | (have j := i6 (by omega); simp_all; done) | (have j := i7 (by omega); simp_all; done) | (have j := i8 (by omega); simp_all; done) | (have j := i9 (by omega); simp_all; done))), rfl⟩
 refine J7 ?_
 exact ⟨rfl, by rw [hi.2 ⟨by omega, fun _ => by (first | assumption | (exfalso; omega) | exact Classical.not_not.1 (by assumption)), fun _ => by (first | assumption | (exfalso; omega) | exact Classical.not_not.1 (by assumption)), fun _ => by (first | assumption | (exfalso; omega) | exact Classical.not_not.1 (by assumption)), fun _ => by (first | assumption | (exfalso; omega) | exact Classical.not_not.1 (by assumption)), fun _ => by (first | assumption | (exfalso; omega) | exact Classical.not_not.1 (by assumption)), fun _ => by (first | assumption | (exfalso; omega) | exact Classical.not_not.1 (by assumption)), fun _ => ⟨by (first | assumption | (exfalso; omega)), by (first | assumption | (exfalso; omega))⟩, fun _ => ⟨by (first | assumption | (exfalso; omega)), by (first | assumption | omega)⟩⟩], rfl⟩
 refine A0x ?_
 exact ⟨rfl, by (cases R with | false => rfl | true => (exfalso; obtain ⟨i1, i2, i3, i4, i5, i6, i7, i8, i9⟩ := hi.1 rfl; first | omega | (have j := i2 (by omega); simp_all; done) | (have j := i3 (by omega); simp_all; done) | (have j := i4 (by omega); simp_all; done) | (have j := i5 (by omega); simp_all; done) | (have j := i6 (by omega); simp_all; done) | (have j := i7 (by omega); simp_all; done) | (have j := i8 (by omega); simp_all; done) | (have j := i9 (by omega); simp_all; done))), rfl⟩
 refine V9 ?_
 exact ⟨rfl, by (cases R with | false => rfl | true => (exfalso; obtain ⟨i1, i2, i3, i4, i5, i6, i7, i8, i9⟩ := hi.1 rfl; first | omega | (have j := i2 (by omega); simp_all; done) | (have j := i3 (by omega); simp_all; done) | (have j := i4 (by omega); simp_all; done) | (have j := i5 (by omega); simp_all; done) | (have j := i6 (by omega); simp_all; done) | (have j := i7 (by omega); simp_all; done) | (have j := i8 (by omega); simp_all; done) | (have j := i9 (by omega); simp_all; done))), rfl⟩
 refine K2 ?_
 exact ⟨rfl, by (cases R with | false => rfl | true => (exfalso; obtain ⟨i1, i2, i3, i4, i5, i6, i7, i8, i9⟩ := hi.1 rfl; first | omega | (have j := i2 (by omega); simp_all; done) | (have j := i3 (by omega); simp_all; done) | (have j := i4 (by omega); simp_all; done) | (have j := i5 (by omega); simp_all; done) | (have j := i6 (by omega); simp_all; done) | (have j := i7 (by omega); simp_all; done) | (have j := i8 (by omega); simp_all; done) | (have j := i9 (by omega); simp_all; done))), rfl⟩
 refine B3 ?_
 refine sB (qE rfl rfl) rfl rfl (fun h807 => ?_) (fun h807 => ?_)
 refine D0 ?_
 refine sP (S8 rfl rfl (by omega)) rfl rfl ?_
 refine J6 ?_
 refine sP (H7 rfl rfl (by omega)) rfl rfl ?_
 refine A7 ?_
 refine C0 ?_
 refine A0R ?_
 refine sB (A1M rfl rfl) rfl rfl (fun h859 => ?_) (fun h859 => ?_)
 refine V3 ?_
 exact ⟨rfl, by (cases R with | false => rfl | true => (exfalso; obtain ⟨i1, i2, i3, i4, i5, i6, i7, i8, i9⟩ := hi.1 rfl; first | omega | (have j := i2 (by omega); simp_all; done) | (have j := i3 (by omega); simp_all; done) | (have j := i4 (by omega); simp_all; done) | (have j := i5 (by omega); simp_all; done) | (have j := i6 (by omega); simp_all; done) | (have j := i7 (by omega); simp_all; done) | (have j := i8 (by omega); simp_all; done) | (have j := i9 (by omega); simp_all; done))), rfl⟩
 refine D8 ?_
 refine E1 rfl (A1t _ _ _ _) rfl rfl (fun h887 => ?_) (fun h887 => ?_)
 refine O0 ?_
 refine E1 rfl (o3) rfl rfl (fun h900 => ?_) (fun h900 => ?_)
 refine A8k ?_
 refine E1 rfl (o5) rfl rfl (fun h929 => ?_) (fun h929 => ?_)
 refine B3 ?_
 refine E1 rfl (o6) rfl rfl (fun h934 => ?_) (fun h934 => ?_)
 refine A0j ?_
 refine B1 ?_
 exact ⟨rfl, by rw [hi.2 ⟨by omega, fun _ => by (first | assumption | (exfalso; omega) | exact Classical.not_not.1 (by assumption)), fun _ => by (first | assumption | (exfalso; omega) | exact Classical.not_not.1 (by assumption)), fun _ => by (first | assumption | (exfalso; omega) | exact Classical.not_not.1 (by assumption)), fun _ => by (first | assumption | (exfalso; omega) | exact Classical.not_not.1 (by assumption)), fun _ => by (first | assumption | (exfalso; omega) | exact Classical.not_not.1 (by assumption)), fun _ => by (first | assumption | (exfalso; omega) | exact Classical.not_not.1 (by assumption)), fun _ => ⟨by (first | assumption | (exfalso; omega)), by (first | assumption | (exfalso; omega))⟩, fun _ => ⟨by (first | assumption | (exfalso; omega)), by (first | assumption | omega)⟩⟩], rfl⟩
 refine A0B ?_
 exact ⟨rfl, by (cases R with | false => rfl | true => (exfalso; obtain ⟨i1, i2, i3, i4, i5, i6, i7, i8, i9⟩ := hi.1 rfl; first | omega | (have j := i2 (by omega); simp_all; done) | (have j := i3 (by omega); simp_all; done) | (have j := i4 (by omega); simp_all; done) | (have j := i5 (by omega); simp_all; done) | (have j := i6 (by omega); simp_all; done) | (have j := i7 (by omega); simp_all; done) | (have j := i8 (by omega); simp_all; done) | (have j := i9 (by omega); simp_all; done))), rfl⟩
 refine A22 ?_
 exact ⟨rfl, by (cases R with | false => rfl | true => (exfalso; obtain ⟨i1, i2, i3, i4, i5, i6, i7, i8, i9⟩ := hi.1 rfl; first | omega | (have j := i2 (by omega); simp_all; done) | (have j := i3 (by omega); simp_all; done) | (have j := i4 (by omega); simp_all; done) | (have j := i5 (by omega); simp_all; done) | (have j := i6 (by omega); simp_all; done) | (have j := i7 (by omega); simp_all; done) | (have j := i8 (by omega); simp_all; done) | (have j := i9 (by omega); simp_all; done))), rfl⟩
 refine V9 ?_
 exact ⟨rfl, by (cases R with | false => rfl | true => (exfalso; obtain ⟨i1, i2, i3, i4, i5, i6, i7, i8, i9⟩ := hi.1 rfl; first | omega | (have j := i2 (by omega); simp_all; done) | (have j := i3 (by omega); simp_all; done) | (have j := i4 (by omega); simp_all; done) | (have j := i5 (by omega); simp_all; done) | (have j := i6 (by omega); simp_all; done) | (have j := i7 (by omega); simp_all; done) | (have j := i8 (by omega); simp_all; done) | (have j := i9 (by omega); simp_all; done))), rfl⟩
 refine K2 ?_
 exact ⟨rfl, by (cases R with | false => rfl | true => (exfalso; obtain ⟨i1, i2, i3, i4, i5, i6, i7, i8, i9⟩ := hi.1 rfl; first | omega | (have j := i2 (by omega); simp_all; done) | (have j := i3 (by omega); simp_all; done) | (have j := i4 (by omega); simp_all; done) | (have j := i5 (by omega); simp_all; done) | (have j := i6 (by omega); simp_all; done) | (have j := i7 (by omega); simp_all; done) | (have j := i8 (by omega); simp_all; done) | (have j := i9 (by omega); simp_all; done))), rfl⟩
 refine D0 ?_
 refine sP (H7 rfl rfl (by omega)) rfl rfl ?_
 refine J6 ?_
 refine sB (qE rfl rfl) rfl rfl (fun h1072 => ?_) (fun h1072 => ?_)
 refine D0 ?_
 refine C0 ?_
 refine A0R ?_
 refine sB (A1M rfl rfl) rfl rfl (fun h1103 => ?_) (fun h1103 => ?_)
 refine V3 ?_
 exact ⟨rfl, by (cases R with | false => rfl | true => (exfalso; obtain ⟨i1, i2, i3, i4, i5, i6, i7, i8, i9⟩ := hi.1 rfl; first | omega | (have j := i2 (by omega); simp_all; done) | (have j := i3 (by omega); simp_all; done) | (have j := i4 (by omega); simp_all; done) | (have j := i5 (by omega); simp_all; done) | (have j := i6 (by omega); simp_all; done) | (have j := i7 (by omega); simp_all; done) | (have j := i8 (by omega); simp_all; done) | (have j := i9 (by omega); simp_all; done))), rfl⟩
 refine D8 ?_
 refine E1 rfl (A1t _ _ _ _) rfl rfl (fun h1131 => ?_) (fun h1131 => ?_)
 refine A4P ?_
 refine E1 rfl (o4) rfl rfl (fun h1157 => ?_) (fun h1157 => ?_)
 refine A0j ?_
 refine B3 ?_
 refine E1 rfl (o7) rfl rfl (fun h1192 => ?_) (fun h1192 => ?_)
 refine B3 ?_
 refine sB (N7 rfl rfl) rfl rfl (fun h1197 => ?_) (fun h1197 => ?_)
 refine I6 ?_
 exact ⟨rfl, by (cases R with | false => rfl | true => (exfalso; obtain ⟨i1, i2, i3, i4, i5, i6, i7, i8, i9⟩ := hi.1 rfl; first | omega | (have j := i2 (by omega); simp_all; done) | (have j := i3 (by omega); simp_all; done) | (have j := i4 (by omega); simp_all; done) | (have j := i5 (by omega); simp_all; done) | (have j := i6 (by omega); simp_all; done) | (have j := i7 (by omega); simp_all; done) | (have j := i8 (by omega); simp_all; done) | (have j := i9 (by omega); simp_all; done))), rfl⟩
 refine J7 ?_
 exact ⟨rfl, by rw [hi.2 ⟨by omega, fun _ => by (first | assumption | (exfalso; omega) | exact Classical.not_not.1 (by assumption)), fun _ => by (first | assumption | (exfalso; omega) | exact Classical.not_not.1 (by assumption)), fun _ => by (first | assumption | (exfalso; omega) | exact Classical.not_not.1 (by assumption)), fun _ => by (first | assumption | (exfalso; omega) | exact Classical.not_not.1 (by assumption)), fun _ => by (first | assumption | (exfalso; omega) | exact Classical.not_not.1 (by assumption)), fun _ => by (first | assumption | (exfalso; omega) | exact Classical.not_not.1 (by assumption)), fun _ => ⟨by (first | assumption | (exfalso; omega)), by (first | assumption | (exfalso; omega))⟩, fun _ => ⟨by (first | assumption | (exfalso; omega)), by (first | assumption | omega)⟩⟩], rfl⟩
 refine A0x ?_
 exact ⟨rfl, by (cases R with | false => rfl | true => (exfalso; obtain ⟨i1, i2, i3, i4, i5, i6, i7, i8, i9⟩ := hi.1 rfl; first | omega | (have j := i2 (by omega); simp_all; done) | (have j := i3 (by omega); simp_all; done) | (have j := i4 (by omega); simp_all; done) | (have j := i5 (by omega); simp_all; done) | (have j := i6 (by omega); simp_all; done) | (have j := i7 (by omega); simp_all; done) | (have j := i8 (by omega); simp_all; done) | (have j := i9 (by omega); simp_all; done))), rfl⟩
 refine I6 ?_
 exact ⟨rfl, by (cases R with | false => rfl | true => (exfalso; obtain ⟨i1, i2, i3, i4, i5, i6, i7, i8, i9⟩ := hi.1 rfl; first | omega | (have j := i2 (by omega); simp_all; done) | (have j := i3 (by omega); simp_all; done) | (have j := i4 (by omega); simp_all; done) | (have j := i5 (by omega); simp_all; done) | (have j := i6 (by omega); simp_all; done) | (have j := i7 (by omega); simp_all; done) | (have j := i8 (by omega); simp_all; done) | (have j := i9 (by omega); simp_all; done))), rfl⟩
 refine K2 ?_
 exact ⟨rfl, by (cases R with | false => rfl | true => (exfalso; obtain ⟨i1, i2, i3, i4, i5, i6, i7, i8, i9⟩ := hi.1 rfl; first | omega | (have j := i2 (by omega); simp_all; done) | (have j := i3 (by omega); simp_all; done) | (have j := i4 (by omega); simp_all; done) | (have j := i5 (by omega); simp_all; done) | (have j := i6 (by omega); simp_all; done) | (have j := i7 (by omega); simp_all; done) | (have j := i8 (by omega); simp_all; done) | (have j := i9 (by omega); simp_all; done))), rfl⟩
 refine A7 ?_
 refine C0 ?_
 refine A0R ?_
 refine sB (A1M rfl rfl) rfl rfl (fun h1311 => ?_) (fun h1311 => ?_)
 refine V3 ?_
 exact ⟨rfl, by (cases R with | false => rfl | true => (exfalso; obtain ⟨i1, i2, i3, i4, i5, i6, i7, i8, i9⟩ := hi.1 rfl; first | omega | (have j := i2 (by omega); simp_all; done) | (have j := i3 (by omega); simp_all; done) | (have j := i4 (by omega); simp_all; done) | (have j := i5 (by omega); simp_all; done) | (have j := i6 (by omega); simp_all; done) | (have j := i7 (by omega); simp_all; done) | (have j := i8 (by omega); simp_all; done) | (have j := i9 (by omega); simp_all; done))), rfl⟩
 refine D8 ?_
 refine E1 rfl (A1t _ _ _ _) rfl rfl (fun h1339 => ?_) (fun h1339 => ?_)
 refine A4P ?_
 refine E1 rfl (o4) rfl rfl (fun h1365 => ?_) (fun h1365 => ?_)
 refine A0j ?_
 refine B3 ?_
 refine E1 rfl (o7) rfl rfl (fun h1400 => ?_) (fun h1400 => ?_)
 refine B3 ?_
 refine sB (N7 rfl rfl) rfl rfl (fun h1405 => ?_) (fun h1405 => ?_)
 refine I6 ?_
 exact ⟨rfl, by (cases R with | false => rfl | true => (exfalso; obtain ⟨i1, i2, i3, i4, i5, i6, i7, i8, i9⟩ := hi.1 rfl; first | omega | (have j := i2 (by omega); simp_all; done) | (have j := i3 (by omega); simp_all; done) | (have j := i4 (by omega); simp_all; done) | (have j := i5 (by omega); simp_all; done) | (have j := i6 (by omega); simp_all; done) | (have j := i7 (by omega); simp_all; done) | (have j := i8 (by omega); simp_all; done) | (have j := i9 (by omega); simp_all; done))), rfl⟩
 refine J7 ?_
 exact ⟨rfl, by rw [hi.2 ⟨by omega, fun _ => by (first | assumption | (exfalso; omega) | exact Classical.not_not.1 (by assumption)), fun _ => by (first | assumption | (exfalso; omega) | exact Classical.not_not.1 (by assumption)), fun _ => by (first | assumption | (exfalso; omega) | exact Classical.not_not.1 (by assumption)), fun _ => by (first | assumption | (exfalso; omega) | exact Classical.not_not.1 (by assumption)), fun _ => by (first | assumption | (exfalso; omega) | exact Classical.not_not.1 (by assumption)), fun _ => by (first | assumption | (exfalso; omega) | exact Classical.not_not.1 (by assumption)), fun _ => ⟨by (first | assumption | (exfalso; omega)), by (first | assumption | (exfalso; omega))⟩, fun _ => ⟨by (first | assumption | (exfalso; omega)), by (first | assumption | omega)⟩⟩], rfl⟩
 refine A0x ?_
 exact ⟨rfl, by (cases R with | false => rfl | true => (exfalso; obtain ⟨i1, i2, i3, i4, i5, i6, i7, i8, i9⟩ := hi.1 rfl; first | omega | (have j := i2 (by omega); simp_all; done) | (have j := i3 (by omega); simp_all; done) | (have j := i4 (by omega); simp_all; done) | (have j := i5 (by omega); simp_all; done) | (have j := i6 (by omega); simp_all; done) | (have j := i7 (by omega); simp_all; done) | (have j := i8 (by omega); simp_all; done) | (have j := i9 (by omega); simp_all; done))), rfl⟩
 refine I6 ?_
 exact ⟨rfl, by (cases R with | false => rfl | true => (exfalso; obtain ⟨i1, i2, i3, i4, i5, i6, i7, i8, i9⟩ := hi.1 rfl; first | omega | (have j := i2 (by omega); simp_all; done) | (have j := i3 (by omega); simp_all; done) | (have j := i4 (by omega); simp_all; done) | (have j := i5 (by omega); simp_all; done) | (have j := i6 (by omega); simp_all; done) | (have j := i7 (by omega); simp_all; done) | (have j := i8 (by omega); simp_all; done) | (have j := i9 (by omega); simp_all; done))), rfl⟩
 refine K2 ?_
 exact ⟨rfl, by (cases R with | false => rfl | true => (exfalso; obtain ⟨i1, i2, i3, i4, i5, i6, i7, i8, i9⟩ := hi.1 rfl; first | omega | (have j := i2 (by omega); simp_all; done) | (have j := i3 (by omega); simp_all; done) | (have j := i4 (by omega); simp_all; done) | (have j := i5 (by omega); simp_all; done) | (have j := i6 (by omega); simp_all; done) | (have j := i7 (by omega); simp_all; done) | (have j := i8 (by omega); simp_all; done) | (have j := i9 (by omega); simp_all; done))), rfl⟩
theorem A8U (M D N : Int) (hM : 0 ≤ M ∧ M ≤ 1000) (hD : 0 ≤ D ∧ D ≤ 1000) (bc : Nat) : ∀ (t : Tm) (deep c : Int) (G : IM) (cells : List Value), 0 ≤ deep ∧ deep ≤ D + 1 → 0 ≤ c ∧ c ≤ M → A8 G t cells →
  Fn Tryz.prog 57 [.agg ⟨cells⟩, .int .i64 deep, .int .i64 M, .int .i64 D, .int .i64 N, .pointer (some ⟨bc, 0, none⟩)] [.blk bc [.int .i64 c]] G
   (V2 (.bool (T1 M D N t deep c).1) [.blk bc [.int .i64 (T1 M D N t deep c).2]] G) := by
 refine Tm.ind fun k nm num ty fr lb ks ih deep c G cells hd hc hr => ?_
 have hno := B3S k nm num ty fr lb ks G cells hr
 obtain ⟨tk, tks⟩ := ty
 obtain ⟨fk, fks⟩ := fr
 obtain ⟨pt, ct, pf, cf, p, cp, es, rfl, hk, hnum, hlb, hty, hfr, hsl, hkl⟩ := hr.open9
 have hn := hsl.le
 obtain ⟨R, hR⟩ : ∃ R, W1 k nm num (.mk tk tks) (.mk fk fks) lb ks.length = R := ⟨_, rfl⟩
 rw [hR] at hno
 refine B7 Tryz.func57 rfl Tryz.ntmps57 Tryz.results57 rfl ?_
 intro w0
 refine A1 ?_
 refine sE (C7 rfl rfl) rfl (fun b3 => ?_)
 refine A7 ?_
 refine sQ (Z1 rfl) rfl ?_
 refine E8 ?_
 refine sP (K5 rfl rfl (by omega) (by omega)) rfl rfl ?_
 refine sQ (Z1 rfl) rfl ?_
 refine B4 ?_
 refine sQ (Z1 rfl) rfl ?_
 refine A1 ?_
 refine sB (Z2 rfl rfl) rfl rfl (fun h24 => ?_) (fun h24 => ?_)
 refine A4Q ?_
 refine H5 (outs := [.blk bc [.int .i64 _]]) (rT rfl) (A0.cons (by repeat (first | exact Pk.here | apply Pk.there)) A0.nil) ?_
 (rw [A4U (by rw [hR]; first | omega | exact Or.inr (Or.inr (Or.inr (by assumption)))) ]; exact ⟨rfl, rfl, rfl⟩)
 refine B6 ?_
 refine sB (Z2 rfl rfl) rfl rfl (fun h56 => ?_) (fun h56 => ?_)
 refine A6b ?_
 refine H5 (outs := [.blk bc [.int .i64 _]]) (rT rfl) (A0.cons (by repeat (first | exact Pk.here | apply Pk.there)) A0.nil) ?_
 (rw [A4U (by rw [hR]; first | omega | exact Or.inr (Or.inr (Or.inr (by assumption)))) ]; exact ⟨rfl, rfl, rfl⟩)
 refine B1 ?_
 refine sB (qE rfl rfl) rfl rfl (fun h86 => ?_) (fun h86 => ?_)
 refine J7 ?_
 refine H5 (outs := [.blk bc [.int .i64 _]]) (rT rfl) (A0.cons (by repeat (first | exact Pk.here | apply Pk.there)) A0.nil) ?_
 (rw [A4U (by rw [hR]; first | omega | exact Or.inr (Or.inr (Or.inr (by assumption)))) ]; exact ⟨rfl, rfl, rfl⟩)
 refine B6 ?_
 refine E1 rfl (hno) rfl rfl (fun h108 => ?_) (fun h108 => ?_)
 refine J7 ?_
 refine C0 ?_
 (have hmk := B3e (M := M) (D := D) (N := N) (deep := deep) (c := c) (by omega) (hR.trans (by assumption)); refine L9 (fun (x : Nat × Int) => ⟨[(44, .int .i64 x.1), (43, .int .i64 ks.length), (42, .slice p ks.length cp), (5, .pointer (some ⟨bc, 0, none⟩)), (4, .int .i64 N), (3, .int .i64 D), (2, .int .i64 M), (1, .int .i64 deep)], [.blk bc [.int .i64 x.2]], G⟩) (fun x => x.1 ≤ ks.length ∧ 0 ≤ x.2 ∧ x.2 ≤ M ∧ U8 M D N ks (deep + 1) (c + 1) = U8 M D N (ks.drop x.1) (deep + 1) x.2) (fun x => ks.length - x.1) (0, c + 1) ?_ ?_ ?_)
 (simp only [I7]; exact D5)
 exact ⟨by simp, by simp; omega, by simp; omega, by simp⟩
 (rintro ⟨i, ci⟩ ⟨hi, hc0, hc1, hst⟩; simp only [] at hi hc0 hc1 hst ⊢)
 refine A1 ?_
 refine sB (K6 rfl rfl) rfl rfl (fun h132 => ?_) (fun h132 => ?_)
 refine B4 ?_
 refine C0 ?_
 refine A1 ?_
 (obtain ⟨b, o, e, rfl, hl, hat, hre, hgb⟩ := hsl.kidTm hkl (i := i) (by omega) (by omega); have hone := hre.one; have hle := A8r M D N ks[i] (deep + 1) ci hc0 hc1; refine sP (B8 rfl rfl rfl (by omega)) rfl rfl ?_)
 refine sL (A2 rfl rfl (hat _) hl) rfl rfl ?_
 refine sE (B0 rfl) rfl (fun b145 => ?_)
 refine Y4 rfl rfl rfl (by assumption) (by assumption) rfl (by repeat first | exact Sw.here | apply Sw.there) (by exact C9 (by symm; assumption)) ?_
 refine B3 ?_
 refine sL (A2 rfl rfl (B2 (by repeat first | exact mH | apply mT)) (by assumption)) rfl rfl ?_
 refine E8 ?_
 refine sP (K5 rfl rfl (by omega) (by omega)) rfl rfl ?_
 refine B3 ?_
 refine B24 rfl (ih ks[i] (List.getElem_mem _) (deep + 1) ci G e (by omega) (by omega) hre) (Pk.perm (by repeat (first | exact Pk.here | apply Pk.there))) rfl rfl (fun h158 => ?_) (fun h158 => ?_)
 refine D0 ?_
 refine sP (K5 rfl rfl (by omega) (by omega)) rfl rfl ?_
 refine A1 ?_
 refine L0 (i + 1, (T1 M D N ks[i] (deep + 1) ci).2) ?_ ?_ ?_
 (simp only [I7]; exact D5)
 exact ⟨by omega, by omega, hle.2.2 (by assumption), by rw [hst, B3f (by omega) (by assumption)]⟩
 (show ks.length - (i + 1) < ks.length - i; omega)
 refine I6 ?_
 refine H5 (outs := [.blk bc [.int .i64 _]]) (rT rfl) (A0.cons (by repeat (first | exact Pk.here | apply Pk.there)) A0.nil) ?_
 (rw [hmk, hst, B3g (by omega) (by assumption)]; exact ⟨rfl, rfl, rfl⟩)
 refine I6 ?_
 refine H5 (outs := [.blk bc [.int .i64 _]]) (rT rfl) (A0.cons (by repeat (first | exact Pk.here | apply Pk.there)) A0.nil) ?_
 (rw [hmk, hst, B3h (by omega)]; exact ⟨rfl, rfl, rfl⟩)
 refine O0 ?_
 refine H5 (outs := [.blk bc [.int .i64 _]]) (rT rfl) (A0.cons (by repeat (first | exact Pk.here | apply Pk.there)) A0.nil) ?_
 (rw [A4U (by rw [hR]; first | omega | exact Or.inr (Or.inr (Or.inr (by assumption)))) ]; exact ⟨rfl, rfl, rfl⟩)
theorem A41 (t : Tm) (G : IM) (cells : List Value) (hr : A8 G t cells) : Fn Tryz.prog 17 [.agg ⟨cells⟩] [] G (H8 (.bool (J1 t)) G) := by
 have hl := hr.len
 refine B7 Tryz.func17 rfl Tryz.ntmps17 Tryz.results17 rfl ?_
 intro w0
 refine A1 ?_
 refine sE (C7 rfl rfl) rfl (fun b3 => ?_)
 refine B1 ?_
 refine sE (B0 rfl) rfl (fun b9 => ?_)
 refine B1 ?_
 refine sL (A2 rfl rfl (B2 (by repeat first | exact mH | apply mT)) (by assumption)) rfl rfl ?_
 refine A4O rfl (A8U 200 40 13 (by omega) (by omega) _ t 1 0 G cells (by omega) (by omega) hr) A0i rfl rfl ?_
 refine B1 ?_
 exact ⟨rfl, rfl, rfl⟩
theorem A3U (t : Tm) (G : IM) (cells : List Value) (hr : A8 G t cells) : Fn Tryz.prog 70 [.agg ⟨cells⟩] [] G (H8 (.bool (M8 t)) G) := by
 have hl := hr.len
 refine B7 Tryz.func70 rfl Tryz.ntmps70 Tryz.results70 rfl ?_
 intro w0
 refine A1 ?_
 refine sE (C7 rfl rfl) rfl (fun b3 => ?_)
 refine B1 ?_
 refine sE (B0 rfl) rfl (fun b9 => ?_)
 refine B1 ?_
 refine sL (A2 rfl rfl (B2 (by repeat first | exact mH | apply mT)) (by assumption)) rfl rfl ?_
 refine A4O rfl (A8U 30 12 14 (by omega) (by omega) _ t 1 0 G cells (by omega) (by omega) hr) A0i rfl rfl ?_
 refine B1 ?_
 exact ⟨rfl, rfl, rfl⟩
theorem A8V (k : Int) (G : IM) : Fn Tryz.prog 183 [.int .i64 k] [] G (H8 (.int .i64 (V4 k)) G) := by
 refine B7 Tryz.func183 rfl Tryz.ntmps183 Tryz.results183 rfl ?_
 intro w0
 refine J4 ?_
 refine C0 ?_
 refine B6 ?_
 refine sB (qE rfl rfl) rfl rfl (fun h16 => ?_) (fun h16 => ?_)
 refine J7 ?_
 exact ⟨rfl, by (first | rw [(N9 k).1 (by omega)] | rw [(N9 k).2.1 (by omega)] | rw [(N9 k).2.2 (by omega) (by omega) (by omega) (by omega) (by omega)]), rfl⟩
 refine A7 ?_
 refine sB (qE rfl rfl) rfl rfl (fun h40 => ?_) (fun h40 => ?_)
 refine J7 ?_
 exact ⟨rfl, by (first | rw [(N9 k).1 (by omega)] | rw [(N9 k).2.1 (by omega)] | rw [(N9 k).2.2 (by omega) (by omega) (by omega) (by omega) (by omega)]), rfl⟩
 refine B1 ?_
 refine sB (qE rfl rfl) rfl rfl (fun h63 => ?_) (fun h63 => ?_)
 refine J6 ?_
 exact ⟨rfl, by (first | rw [(N9 k).1 (by omega)] | rw [(N9 k).2.1 (by omega)] | rw [(N9 k).2.2 (by omega) (by omega) (by omega) (by omega) (by omega)]), rfl⟩
 refine B4 ?_
 refine sB (qE rfl rfl) rfl rfl (fun h85 => ?_) (fun h85 => ?_)
 refine J7 ?_
 exact ⟨rfl, by (first | rw [(N9 k).1 (by omega)] | rw [(N9 k).2.1 (by omega)] | rw [(N9 k).2.2 (by omega) (by omega) (by omega) (by omega) (by omega)]), rfl⟩
 refine B1 ?_
 refine sB (qE rfl rfl) rfl rfl (fun h108 => ?_) (fun h108 => ?_)
 refine J6 ?_
 exact ⟨rfl, by (first | rw [(N9 k).1 (by omega)] | rw [(N9 k).2.1 (by omega)] | rw [(N9 k).2.2 (by omega) (by omega) (by omega) (by omega) (by omega)]), rfl⟩
 refine K2 ?_
 exact ⟨rfl, by (first | rw [(N9 k).1 (by omega)] | rw [(N9 k).2.1 (by omega)] | rw [(N9 k).2.2 (by omega) (by omega) (by omega) (by omega) (by omega)]), rfl⟩
theorem A42 (k : Int) (G : IM) : Fn Tryz.prog 165 [.int .i64 k] [] G (H8 (.int .i64 (C4 k)) G) := by
 refine B7 Tryz.func165 rfl Tryz.ntmps165 Tryz.results165 rfl ?_
 intro w0
 refine J4 ?_
 refine C0 ?_
 refine B6 ?_
 refine sB (qE rfl rfl) rfl rfl (fun h16 => ?_) (fun h16 => ?_)
 refine J7 ?_
 exact ⟨rfl, by (unfold C4; first | rw [if_pos (by omega)] | rw [if_neg (by omega), if_pos (by omega)] | rw [if_neg (by omega), if_neg (by omega), if_pos (by omega)] | rw [if_neg (by omega), if_neg (by omega), if_neg (by omega), if_pos (by omega)] | rw [if_neg (by omega), if_neg (by omega), if_neg (by omega), if_neg (by omega)]), rfl⟩
 refine A7 ?_
 refine sB (qE rfl rfl) rfl rfl (fun h40 => ?_) (fun h40 => ?_)
 refine J7 ?_
 exact ⟨rfl, by (unfold C4; first | rw [if_pos (by omega)] | rw [if_neg (by omega), if_pos (by omega)] | rw [if_neg (by omega), if_neg (by omega), if_pos (by omega)] | rw [if_neg (by omega), if_neg (by omega), if_neg (by omega), if_pos (by omega)] | rw [if_neg (by omega), if_neg (by omega), if_neg (by omega), if_neg (by omega)]), rfl⟩
 refine A7 ?_
 refine sB (qE rfl rfl) rfl rfl (fun h64 => ?_) (fun h64 => ?_)
 refine J7 ?_
 exact ⟨rfl, by (unfold C4; first | rw [if_pos (by omega)] | rw [if_neg (by omega), if_pos (by omega)] | rw [if_neg (by omega), if_neg (by omega), if_pos (by omega)] | rw [if_neg (by omega), if_neg (by omega), if_neg (by omega), if_pos (by omega)] | rw [if_neg (by omega), if_neg (by omega), if_neg (by omega), if_neg (by omega)]), rfl⟩
 refine B1 ?_
 refine sB (qE rfl rfl) rfl rfl (fun h87 => ?_) (fun h87 => ?_)
 refine J6 ?_
 exact ⟨rfl, by (unfold C4; first | rw [if_pos (by omega)] | rw [if_neg (by omega), if_pos (by omega)] | rw [if_neg (by omega), if_neg (by omega), if_pos (by omega)] | rw [if_neg (by omega), if_neg (by omega), if_neg (by omega), if_pos (by omega)] | rw [if_neg (by omega), if_neg (by omega), if_neg (by omega), if_neg (by omega)]), rfl⟩
 refine B4 ?_
 refine sB (qE rfl rfl) rfl rfl (fun h109 => ?_) (fun h109 => ?_)
 refine J7 ?_
 exact ⟨rfl, by (unfold C4; first | rw [if_pos (by omega)] | rw [if_neg (by omega), if_pos (by omega)] | rw [if_neg (by omega), if_neg (by omega), if_pos (by omega)] | rw [if_neg (by omega), if_neg (by omega), if_neg (by omega), if_pos (by omega)] | rw [if_neg (by omega), if_neg (by omega), if_neg (by omega), if_neg (by omega)]), rfl⟩
 refine A7 ?_
 refine sB (qE rfl rfl) rfl rfl (fun h133 => ?_) (fun h133 => ?_)
 refine J7 ?_
 exact ⟨rfl, by (unfold C4; first | rw [if_pos (by omega)] | rw [if_neg (by omega), if_pos (by omega)] | rw [if_neg (by omega), if_neg (by omega), if_pos (by omega)] | rw [if_neg (by omega), if_neg (by omega), if_neg (by omega), if_pos (by omega)] | rw [if_neg (by omega), if_neg (by omega), if_neg (by omega), if_neg (by omega)]), rfl⟩
 refine A7 ?_
 refine sB (qE rfl rfl) rfl rfl (fun h157 => ?_) (fun h157 => ?_)
 refine J7 ?_
 exact ⟨rfl, by (unfold C4; first | rw [if_pos (by omega)] | rw [if_neg (by omega), if_pos (by omega)] | rw [if_neg (by omega), if_neg (by omega), if_pos (by omega)] | rw [if_neg (by omega), if_neg (by omega), if_neg (by omega), if_pos (by omega)] | rw [if_neg (by omega), if_neg (by omega), if_neg (by omega), if_neg (by omega)]), rfl⟩
 refine A7 ?_
 refine sB (qE rfl rfl) rfl rfl (fun h181 => ?_) (fun h181 => ?_)
 refine J7 ?_
 exact ⟨rfl, by (unfold C4; first | rw [if_pos (by omega)] | rw [if_neg (by omega), if_pos (by omega)] | rw [if_neg (by omega), if_neg (by omega), if_pos (by omega)] | rw [if_neg (by omega), if_neg (by omega), if_neg (by omega), if_pos (by omega)] | rw [if_neg (by omega), if_neg (by omega), if_neg (by omega), if_neg (by omega)]), rfl⟩
 refine B1 ?_
 refine sB (qE rfl rfl) rfl rfl (fun h204 => ?_) (fun h204 => ?_)
 refine J6 ?_
 exact ⟨rfl, by (unfold C4; first | rw [if_pos (by omega)] | rw [if_neg (by omega), if_pos (by omega)] | rw [if_neg (by omega), if_neg (by omega), if_pos (by omega)] | rw [if_neg (by omega), if_neg (by omega), if_neg (by omega), if_pos (by omega)] | rw [if_neg (by omega), if_neg (by omega), if_neg (by omega), if_neg (by omega)]), rfl⟩
 refine B4 ?_
 refine sB (qE rfl rfl) rfl rfl (fun h226 => ?_) (fun h226 => ?_)
 refine J7 ?_
 exact ⟨rfl, by (unfold C4; first | rw [if_pos (by omega)] | rw [if_neg (by omega), if_pos (by omega)] | rw [if_neg (by omega), if_neg (by omega), if_pos (by omega)] | rw [if_neg (by omega), if_neg (by omega), if_neg (by omega), if_pos (by omega)] | rw [if_neg (by omega), if_neg (by omega), if_neg (by omega), if_neg (by omega)]), rfl⟩
 refine A7 ?_
 refine sB (qE rfl rfl) rfl rfl (fun h250 => ?_) (fun h250 => ?_)
 refine J7 ?_
 exact ⟨rfl, by (unfold C4; first | rw [if_pos (by omega)] | rw [if_neg (by omega), if_pos (by omega)] | rw [if_neg (by omega), if_neg (by omega), if_pos (by omega)] | rw [if_neg (by omega), if_neg (by omega), if_neg (by omega), if_pos (by omega)] | rw [if_neg (by omega), if_neg (by omega), if_neg (by omega), if_neg (by omega)]), rfl⟩
 refine A7 ?_
 refine sB (qE rfl rfl) rfl rfl (fun h274 => ?_) (fun h274 => ?_)
 refine J7 ?_
 exact ⟨rfl, by (unfold C4; first | rw [if_pos (by omega)] | rw [if_neg (by omega), if_pos (by omega)] | rw [if_neg (by omega), if_neg (by omega), if_pos (by omega)] | rw [if_neg (by omega), if_neg (by omega), if_neg (by omega), if_pos (by omega)] | rw [if_neg (by omega), if_neg (by omega), if_neg (by omega), if_neg (by omega)]), rfl⟩
 refine B1 ?_
 refine sB (qE rfl rfl) rfl rfl (fun h297 => ?_) (fun h297 => ?_)
 refine J6 ?_
 exact ⟨rfl, by (unfold C4; first | rw [if_pos (by omega)] | rw [if_neg (by omega), if_pos (by omega)] | rw [if_neg (by omega), if_neg (by omega), if_pos (by omega)] | rw [if_neg (by omega), if_neg (by omega), if_neg (by omega), if_pos (by omega)] | rw [if_neg (by omega), if_neg (by omega), if_neg (by omega), if_neg (by omega)]), rfl⟩
 refine A7 ?_
 refine sB (qE rfl rfl) rfl rfl (fun h318 => ?_) (fun h318 => ?_)
 refine J6 ?_
 exact ⟨rfl, by (unfold C4; first | rw [if_pos (by omega)] | rw [if_neg (by omega), if_pos (by omega)] | rw [if_neg (by omega), if_neg (by omega), if_pos (by omega)] | rw [if_neg (by omega), if_neg (by omega), if_neg (by omega), if_pos (by omega)] | rw [if_neg (by omega), if_neg (by omega), if_neg (by omega), if_neg (by omega)]), rfl⟩
 refine K2 ?_
 exact ⟨rfl, by (unfold C4; first | rw [if_pos (by omega)] | rw [if_neg (by omega), if_pos (by omega)] | rw [if_neg (by omega), if_neg (by omega), if_pos (by omega)] | rw [if_neg (by omega), if_neg (by omega), if_neg (by omega), if_pos (by omega)] | rw [if_neg (by omega), if_neg (by omega), if_neg (by omega), if_neg (by omega)]), rfl⟩
theorem B3T (s : ByteArray) (G : IM) : Fn Tryz.prog 215 [.string s] [] G (H8 (.bool (X5 s)) G) := by
 refine B7 Tryz.func215 rfl Tryz.ntmps215 Tryz.results215 rfl ?_
 intro w0
 refine D0 ?_
 refine sQ (A2y rfl rfl) rfl (sB (qE rfl rfl) rfl rfl (fun h10 => ?_) (fun h10 => ?_))
 refine A1 ?_
 refine sP (A3F rfl rfl rfl (by omega) (A4T (by omega))) rfl rfl ?_
 refine sB (A06 rfl rfl) rfl rfl (fun h14 => ?_) (fun h14 => ?_)
 refine B6 ?_
 refine sP (A3F rfl rfl rfl (by omega) (A4T (by omega))) rfl rfl ?_
 refine sB (A0t rfl rfl) rfl rfl (fun h19 => ?_) (fun h19 => ?_)
 refine A7 ?_
 exact ⟨rfl, by simp only [X5]; (try simp only [Int.toNat_zero] at *); (first | rw [decide_eq_true (by omega)] | rw [decide_eq_false (by omega)]), rfl⟩
 refine A7 ?_
 exact ⟨rfl, by simp only [X5]; (try simp only [Int.toNat_zero] at *); (first | rw [decide_eq_true (by omega)] | rw [decide_eq_false (by omega)]), rfl⟩
 refine J4 ?_
 exact ⟨rfl, by simp only [X5]; (try simp only [Int.toNat_zero] at *); (first | rw [decide_eq_true (by omega)] | rw [decide_eq_false (by omega)]), rfl⟩
 refine I6 ?_
 exact ⟨rfl, by simp only [X5]; (try simp only [Int.toNat_zero] at *); (first | rw [decide_eq_true (by omega)] | rw [decide_eq_false (by omega)]), rfl⟩
theorem A8W (t : Ty) (G : IM) (cells : List Value) (hr : C3 G t cells) : Fn Tryz.prog 216 [.agg ⟨cells⟩] [] G (H8 (.bool (Z3 t)) G) := by
 obtain ⟨p, c, es, rfl, hk, hsl, hkl⟩ := hr.open
 refine B7 Tryz.func216 rfl Tryz.ntmps216 Tryz.results216 rfl ?_
 intro w0
 refine A1 ?_
 refine sE (C7 rfl rfl) rfl (fun b3 => ?_)
 refine B4 ?_
 refine sB (qE rfl rfl) rfl rfl (fun h11 => ?_) (fun h11 => ?_)
 refine B3 ?_
 refine sB (qE rfl rfl) rfl rfl (fun h16 => ?_) (fun h16 => ?_)
 refine A7 ?_
 exact ⟨rfl, by simp only [Z3]; (first | rw [decide_eq_true (by omega)] | rw [decide_eq_false (by omega)]), rfl⟩
 refine A7 ?_
 exact ⟨rfl, by simp only [Z3]; (first | rw [decide_eq_true (by omega)] | rw [decide_eq_false (by omega)]), rfl⟩
 refine J4 ?_
 exact ⟨rfl, by simp only [Z3]; (first | rw [decide_eq_true (by omega)] | rw [decide_eq_false (by omega)]), rfl⟩
def A0S (n : Int) : Int := if n < -99 ∨ n > 99 then 0 else if n < 0 then -n else n
theorem B3U (n : Int) (G : IM) : Fn Tryz.prog 151 [.int .i64 n] [] G (H8 (.int .i64 (A0S n)) G) := by
 refine B7 Tryz.func151 rfl Tryz.ntmps151 Tryz.results151 rfl ?_
 intro w0
 refine D8 ?_
 refine sB (K6 rfl rfl) rfl rfl (fun h10 => ?_) (fun h10 => ?_)
 refine I6 ?_
 exact ⟨rfl, by (unfold A0S; first | rw [if_pos (by omega)] | rw [if_neg (by omega), if_pos (by omega)] | rw [if_neg (by omega), if_neg (by omega)]), rfl⟩
 refine A1 ?_
 refine sB (Z2 rfl rfl) rfl rfl (fun h29 => ?_) (fun h29 => ?_)
 refine O0 ?_
 exact ⟨rfl, by (unfold A0S; first | rw [if_pos (by omega)] | rw [if_neg (by omega), if_pos (by omega)] | rw [if_neg (by omega), if_neg (by omega)]), rfl⟩
 refine J2 ?_
 refine sB (K6 rfl rfl) rfl rfl (fun h53 => ?_) (fun h53 => ?_)
 refine A7 ?_
 refine sP (A50 rfl (by omega) (by omega)) rfl rfl ?_
 refine A7 ?_
 exact ⟨rfl, by (unfold A0S; first | rw [if_pos (by omega)] | rw [if_neg (by omega), if_pos (by omega)] | rw [if_neg (by omega), if_neg (by omega)]), rfl⟩
 refine J6 ?_
 exact ⟨rfl, by (unfold A0S; first | rw [if_pos (by omega)] | rw [if_neg (by omega), if_pos (by omega)] | rw [if_neg (by omega), if_neg (by omega)]), rfl⟩
theorem Sl.of_blk {G : IM} {b n c sz : Nat} {A C cs : List Value} (hl : cs.length = n * sz) (hc : n ≤ c) (hm : c ≤ maxLen) (hg : G b = some (A ++ (cs ++ C))) : Sl G (some ⟨b, A.length, none⟩) n c sz cs := by
 refine ⟨hl, hc, hm, .inr ⟨b, A.length, _, rfl, hg, fun j v hj => ?_⟩⟩
 have hlt : j < cs.length := (List.getElem?_eq_some_iff.1 hj).1
 rw [List.getElem?_append, if_neg (by omega), List.getElem?_append, if_pos (by omega), show A.length + j - A.length = j by omega]
 exact hj
def InG (G : IM) (bs : A1b) (F : List Nat) : Prop := (bs.map Prod.fst).Sublist F ∧ ∀ q ∈ bs, G q.1 = some q.2
mutual
theorem A3V : ∀ t : Ty, L4 t ≤ 4294967296 → t.small
 | .mk _ ks, h => by
  rw [L4] at h
  have := A2b ks
  simp only [Ty.small]
  exact ⟨by omega, A8X ks (by omega)⟩
theorem A8X : ∀ ts : List Ty, P6 ts ≤ 4294967296 → Ty.smallL ts
 | [], _ => by simp [Ty.smallL]
 | t :: ts, h => by
  rw [P6] at h
  have := A1c t
  have := A2b ts
  simp only [Ty.smallL]
  exact ⟨A3V t (by omega), A8X ts (by omega)⟩
end
mutual
theorem A6w : ∀ t : Tm, A0m t ≤ 4294967296 → t.small
 | .mk _ nm _ ty fr _ ks, h => by
  rw [A0m] at h
  have := A4Y ks
  have := A1c ty
  have := A1c fr
  simp only [Tm.small]
  exact ⟨by omega, A3V ty (by omega), A3V fr (by omega), by omega, A8Y ks (by omega)⟩
theorem A8Y : ∀ ts : List Tm, Y5 ts ≤ 4294967296 → Tm.smallL ts
 | [], _ => by simp [Tm.smallL]
 | t :: ts, h => by
  rw [Y5] at h
  have := A8H t
  have := A4Y ts
  simp only [Tm.smallL]
  exact ⟨A6w t (by omega), A8Y ts (by omega)⟩
end
mutual
theorem A3W : ∀ t : Tm, (D2 t : Int) ≤ A0m t + 1
 | .mk _ nm _ ty fr _ ks => by
  have := A8Z ks
  have := A1c ty
  have := A1c fr
  rw [A0m, D2]; omega
theorem A8Z : ∀ ts : List Tm, (E0 ts : Int) ≤ ts.length + Y5 ts
 | [] => by rw [Y5, E0]; simp
 | t :: ts => by
  have := A3W t
  have := A8Z ts
  rw [Y5, E0, List.length_cons]; omega
end
def K1 : Ty := .mk 1 []
def R6 : Nat → Ty → Prop
 | 0, .mk k ks => ks = [] ∧ k ≠ 4 ∧ k ≠ 5
 | n + 1, .mk k ks => (k = 4 ∨ k = 5 → ks.length = 2) ∧ (k ≠ 4 → k ≠ 5 → ks.length = 0) ∧ ∀ t ∈ ks, R6 n t
mutual
def F4 : Ty → Prop
 | .mk k ks => (k = 4 ∨ k = 5 → ks.length = 2) ∧ (k ≠ 4 → k ≠ 5 → ks.length = 0) ∧ A0T ks
def A0T : List Ty → Prop
 | [] => True
 | t :: ts => F4 t ∧ A0T ts
end
theorem A3X : ∀ {ts : List Ty}, A0T ts ↔ ∀ t ∈ ts, F4 t
 | [] => by simp [A0T]
 | t :: ts => by simp only [A0T, A3X (ts := ts), List.forall_mem_cons]
theorem R6.ar : ∀ {n : Nat} {t : Ty}, R6 n t → F4 t
 | 0, .mk k ks, h => by
  obtain ⟨rfl, h1, h2⟩ := h
  rw [F4]
  exact ⟨fun h => by omega, fun _ _ => rfl, by rw [A0T]; trivial⟩
 | n + 1, .mk k ks, h => by
  obtain ⟨h1, h2, h3⟩ := h
  rw [F4]
  exact ⟨h1, h2, A3X.2 fun t ht => (h3 t ht).ar⟩
theorem R6.up : ∀ {n : Nat} {t : Ty}, R6 n t → R6 (n + 1) t
 | 0, .mk k ks, h => by
  obtain ⟨rfl, h1, h2⟩ := h
  exact ⟨fun h => by omega, fun _ _ => rfl, by simp⟩
 | n + 1, .mk k ks, h => by
  obtain ⟨h1, h2, h3⟩ := h
  exact ⟨h1, h2, fun t ht => (h3 t ht).up⟩
theorem R6.le {n m : Nat} {t : Ty} (h : R6 n t) (hm : n ≤ m) : R6 m t := by
 induction hm with
 | refl => exact h
 | step _ ih => exact ih.up
theorem B3V {d : Nat} {k : Int} {ts : List Ty} (h0 : d = 0 → k < 4) (hl : (ts.length : Int) = V4 k) (h1 : 1 ≤ k) (h5 : k ≤ 5) (ha : ∀ u ∈ ts, R6 (d - 1) u) : R6 d (.mk k ts) := by
 have hk : k = 1 ∨ k = 2 ∨ k = 3 ∨ k = 4 ∨ k = 5 := by omega
 cases d with
 | zero =>
  have hk4 := h0 rfl
  refine ⟨?_, by omega, by omega⟩
  have : V4 k = 0 := by
   rcases hk with rfl | rfl | rfl | rfl | rfl <;> first | rfl | omega
  exact List.length_eq_zero_iff.1 (by omega)
 | succ d =>
  refine ⟨?_, ?_, ha⟩
  ·rintro (rfl | rfl)
   ·have : V4 4 = 2 := rfl
    omega
   ·have : V4 5 = 2 := rfl
    omega
  ·intro h4 h5
   have : V4 k = 0 := by
    rcases hk with rfl | rfl | rfl | rfl | rfl <;> first | rfl | omega
   omega
theorem A80 (n : Nat) : R6 n K1 := by
 refine R6.le (n := 0) ⟨rfl, by decide, by decide⟩ (Nat.zero_le n)
theorem A26 (n : Nat) {k : Int} (h4 : k ≠ 4) (h5 : k ≠ 5) : R6 n (.mk k []) := R6.le (n := 0) ⟨rfl, h4, h5⟩ (Nat.zero_le n)
theorem A3Y : F4 K1 := (A80 0).ar
mutual
theorem F4.small : ∀ {t : Ty}, F4 t → t.small
 | .mk k ks, h => by
  rw [F4] at h
  rw [Ty.small]
  exact ⟨by have h1 := h.1; have h2 := h.2.1; omega, A0T.small h.2.2⟩
theorem A0T.small : ∀ {ts : List Ty}, A0T ts → Ty.smallL ts
 | [], _ => by rw [Ty.smallL]; trivial
 | t :: ts, h => by
  rw [A0T] at h
  rw [Ty.smallL]
  exact ⟨h.1.small, A0T.small h.2⟩
end
theorem A43 : ∀ {n : Nat} {t : Ty}, R6 n t → L4 t ≤ ((2 ^ (n + 1) - 2 : Nat) : Int)
 | 0, .mk k ks, h => by
  obtain ⟨rfl, h1, h2⟩ := h
  rw [L4, P6]; simp
 | n + 1, .mk k ks, h => by
  obtain ⟨h1, h2, h3⟩ := h
  have hp : 2 ≤ 2 ^ (n + 1) := by
   have := Nat.pow_le_pow_right (n := 2) (by omega) (show 1 ≤ n + 1 by omega)
   simpa using this
  have e : 2 ^ (n + 1 + 1) = 2 ^ (n + 1) * 2 := Nat.pow_succ ..
  have hl : ks.length = 0 ∨ ks.length = 2 := by omega
  rw [L4]
  match ks, hl, h3 with
  | [], _, _ => rw [P6]; simp
  | [a, b], _, h3 =>
   have := A43 (h3 a (by simp))
   have := A43 (h3 b (by simp))
   simp only [P6, List.length_cons, List.length_nil]; omega
theorem B3W {k : Int} {ks us : List Ty} : ∀ {n : Nat}, R6 n (.mk k ks) → us.length = ks.length → (∀ u ∈ us, R6 (n - 1) u) → R6 n (.mk k us)
 | 0, h, hl, _ => by
  obtain ⟨rfl, h1, h2⟩ := h
  exact ⟨List.length_eq_zero_iff.1 (by simpa using hl), h1, h2⟩
 | n + 1, h, hl, hu => by
  obtain ⟨h1, h2, h3⟩ := h
  exact ⟨fun hk => by rw [hl]; exact h1 hk, fun a b => by rw [hl]; exact h2 a b, hu⟩
theorem A6x {k : Int} {ks : List Ty} {t : Ty} : ∀ {n : Nat}, R6 n (.mk k ks) → t ∈ ks → R6 (n - 1) t
 | 0, h, ht => by
  obtain ⟨rfl, h1, h2⟩ := h
  simp at ht
 | n + 1, h, ht => h.2.2 t ht
theorem A81 {k : Int} {ks : List Ty} {d : Int} (h : 4 < d ∨ V4 k ≠ ks.length) : L6 (.mk k ks) d = false := by
 rw [L6]
 rcases h with h | h
 ·rw [decide_eq_false (by omega)]; rfl
 ·rw [decide_eq_false (p := V4 k = ks.length) h, Bool.and_false]; rfl
theorem A82 {k : Int} {ks : List Ty} {d : Int} (h : d ≤ 4) (h2 : V4 k = ks.length) : L6 (.mk k ks) d = T9 ks (d + 1) := by
 rw [L6, decide_eq_true h, decide_eq_true h2]; rfl
theorem B3X {ks : List Ty} {d : Int} {i : Nat} (hi : i < ks.length) (h : L6 ks[i] d = false) : T9 ks d = false := by
 cases hx : T9 ks d with
 | false => rfl
 | true => rw [(A4S ks d).1 hx i hi] at h; cases h
theorem B3Y : ∀ (t : Ty) (d : Int) (G : IM) (cells : List Value), 0 ≤ d ∧ d ≤ 4 → C3 G t cells →
  Fn Tryz.prog 224 [.agg ⟨cells⟩, .int .i64 d] [] G (H8 (.bool (L6 t (5 - d))) G) := by
 refine Ty.ind fun k ks ih d G cells hd hr => ?_
 obtain ⟨p, c, es, rfl, hk, hsl, hkl⟩ := hr.open
 simp only [Ty.k, Ty.ks] at hk hsl hkl ⊢
 have hn := hsl.le
 have hk1 := A8V k G
 refine B7 Tryz.func224 rfl Tryz.ntmps224 Tryz.results224 rfl ?_
 intro w0
 refine A1 ?_
 refine sE (C7 rfl rfl) rfl (fun b3 => ?_)
 refine B1 ?_
 refine E3 E4 rfl ?_
 refine J5 (i := 0) (l' := [tt,ff,ff,ff,ff,ff,ff,ff,ff,ff,ff]) rfl D7 (qM rfl) rfl (by kernel_rfl) rfl rfl ?_
 refine A0Q (i := 1) (l' := [tt,tt,ff,ff,ff,ff,ff,ff,ff,ff,ff]) rfl D7 (K6 rfl rfl) rfl (by kernel_rfl) rfl rfl (fun h11 => ?_) (fun h11 => ?_)
 refine aP 2 rfl (qM rfl) rfl ?_
 refine C1 3 rfl rfl rfl ?_
 refine C1 4 rfl rfl rfl ?_
 refine C1 6 rfl rfl rfl ?_
 refine C1 7 rfl rfl rfl ?_
 refine C1 8 rfl rfl rfl ?_
 refine C1 5 rfl rfl rfl ?_
 refine C1 9 rfl rfl rfl ?_
 refine aP 10 rfl (O4 rfl rfl) rfl ?_
 refine J4 ?_
 (rw [A81 (by omega)]; exact ⟨rfl, rfl, rfl⟩)
 refine aP 2 rfl (qM rfl) rfl ?_
 refine aP 3 rfl (B9 rfl) rfl ?_
 refine aL 4 rfl (D3 rfl rfl) rfl ?_
 refine aP 6 rfl (B9 rfl) rfl ?_
 refine aL 7 rfl (D3 rfl rfl) rfl ?_
 refine aP 8 rfl (pLn rfl rfl) rfl ?_
 refine A3 5 ?_
 refine P4 rfl rfl (hk1) rfl rfl rfl ?_
 refine A0Q (i := 9) (l' := [tt,tt,tt,tt,tt,tt,tt,tt,tt,tt,ff]) rfl D7 (N7 rfl rfl) rfl (by kernel_rfl) rfl rfl (fun h41 => ?_) (fun h41 => ?_)
 refine aP 10 rfl (R0 rfl rfl) rfl ?_
 refine J4 ?_
 (rw [A81 (by omega)]; exact ⟨rfl, rfl, rfl⟩)
 refine aP 10 rfl (R0 rfl rfl) rfl ?_
 refine J4 ?_
 refine C0 ?_
 (refine L9 (fun (i : Nat) => ⟨[(5, .int .i64 i), (2, .pointer (some ⟨b3, 0, none⟩)), (1, .int .i64 d)], [.blk b3 [.int .i64 k, .slice p ks.length c]], G⟩) (fun i => i ≤ ks.length ∧ ∀ j (h : j < ks.length), j < i → L6 ks[j] (5 - d + 1) = true) (fun i => ks.length - i) 0 ?_ ?_ ?_)
 exact D5
 exact ⟨by omega, by omega⟩
 (rintro i ⟨hi, hf⟩)
 refine B4 ?_
 refine sB (K6 rfl rfl) rfl rfl (fun h79 => ?_) (fun h79 => ?_)
 refine A7 ?_
 refine C0 ?_
 refine B1 ?_
 (obtain ⟨b, o, p2, c2, rfl, hat, hre, hgb⟩ := hsl.kidTy hkl (i := i) (by omega) (by omega); refine sP (B8 rfl rfl rfl (by omega)) rfl rfl ?_)
 refine sL (A2 rfl rfl (hat _) rfl) rfl rfl ?_
 refine E8 ?_
 refine sP (Q5 rfl rfl (by omega) (by omega)) rfl rfl ?_
 (have hih := ih ks[i] (List.getElem_mem (by omega)) (d - 1) G _ (by omega) hre; rw [show 5 - (d - 1) = 5 - d + 1 by omega] at hih; refine E1 rfl hih rfl rfl (fun h96 => ?_) (fun h96 => ?_))
 refine D8 ?_
 refine sP (K5 rfl rfl (by omega) (by omega)) rfl rfl ?_
 refine A1 ?_
 refine L0 (i + 1) ?_ ?_ ?_
 exact D5
 exact ⟨by omega, fun j hj hji => by (by_cases he : j = i; (subst he; assumption); exact hf j hj (by omega))⟩
 omega
 refine J7 ?_
 (rw [A82 (by omega) (by omega), B3X (i := i) (by omega) (by assumption)]; exact ⟨rfl, rfl, rfl⟩)
 refine I6 ?_
 (rw [A82 (by omega) (by omega), (A4S ks _).2 (fun j hj => hf j hj (by omega))]; exact ⟨rfl, rfl, rfl⟩)
theorem A2c (t : Ty) (G : IM) (cells : List Value) (hr : C3 G t cells) : Fn Tryz.prog 178 [.agg ⟨cells⟩] [] G (H8 (.bool (H1 t)) G) := by
 have hl := hr.len
 have hv := B3Y t 4 G cells (by omega) hr
 refine B7 Tryz.func178 rfl Tryz.ntmps178 Tryz.results178 rfl ?_
 intro w0
 refine A1 ?_
 refine sE (C7 rfl rfl) rfl (fun b3 => ?_)
 refine B1 ?_
 refine sL (A2 rfl rfl (B2 (by repeat first | exact mH | apply mT)) (by assumption)) rfl rfl ?_
 refine I3 rfl (hv) rfl rfl ?_
 refine B1 ?_
 exact ⟨rfl, rfl, rfl⟩
theorem A3Z {k : Int} {ks : List Ty} {d : Int} (h : L6 (.mk k ks) d = true) : V4 k = ks.length ∧ ∀ i, (hi : i < ks.length) → L6 ks[i] (d + 1) = true := by
 rw [L6] at h
 simp only [Bool.and_eq_true, decide_eq_true_eq] at h
 exact ⟨h.1.2, (A4S ks _).1 h.2⟩
theorem A44 {k k' : Int} {ks ks' : List Ty} (h : k = 1 ∨ k' = 1) : K3 (.mk k ks) (.mk k' ks') = true := by
 rw [S9]
 rcases h with h | h
 ·rw [decide_eq_true (p := k = 1) h]; rfl
 ·rw [decide_eq_true (p := k' = 1) h]; simp
theorem A83 {k k' : Int} {ks ks' : List Ty} (h : k ≠ 1) (h' : k' ≠ 1) (hk : k ≠ k') : K3 (.mk k ks) (.mk k' ks') = false := by
 rw [S9, decide_eq_false h, decide_eq_false h', decide_eq_false hk]; rfl
theorem A45 {k k' : Int} {ks ks' : List Ty} (h : k ≠ 1) (h' : k' ≠ 1) (hk : k = k') : K3 (.mk k ks) (.mk k' ks') = O5 ks ks' := by
 rw [S9, decide_eq_false h, decide_eq_false h', decide_eq_true hk]; rfl
theorem A84 {ks ks' : List Ty} {i : Nat} (hi : i < ks.length) (hi' : i < ks'.length) (h : K3 ks[i] ks'[i] = false) : O5 ks ks' = false := by
 cases hx : O5 ks ks' with
 | false => rfl
 | true => rw [((A19 ks ks').1 hx).2 i hi hi'] at h; cases h
theorem B3Z : ∀ (t t' : Ty) (G : IM) (cells cells' : List Value) (d d' : Int), L6 t d = true → L6 t' d' = true → C3 G t cells → C3 G t' cells' →
  Fn Tryz.prog 107 [.agg ⟨cells⟩, .agg ⟨cells'⟩] [] G (H8 (.bool (K3 t t')) G) := by
 refine Ty.ind fun k ks ih t' G cells cells' d d' hv hv' hr hr' => ?_
 obtain ⟨k', ks'⟩ := t'
 obtain ⟨p, c, es, rfl, hk, hsl, hkl⟩ := hr.open
 obtain ⟨p', c', es', rfl, hk', hsl', hkl'⟩ := hr'.open
 simp only [Ty.k, Ty.ks] at hk hsl hkl hk' hsl' hkl' ⊢
 have hn := hsl.le
 have hn' := hsl'.le
 obtain ⟨hv1, hv2⟩ := A3Z hv
 obtain ⟨hv1', hv2'⟩ := A3Z hv'
 have hle : k = k' → ks.length = ks'.length := by rintro rfl; omega
 refine B7 Tryz.func107 rfl Tryz.ntmps107 Tryz.results107 rfl ?_
 intro w0
 refine A1 ?_
 refine sE (C7 rfl rfl) rfl (fun b3 => ?_)
 refine sE (C7 rfl rfl) rfl (fun b4 => ?_)
 refine D0 ?_
 refine sB (qE rfl rfl) rfl rfl (fun h13 => ?_) (fun h13 => ?_)
 refine J7 ?_
 (rw [A44 (by omega)]; exact ⟨rfl, rfl, rfl⟩)
 refine B6 ?_
 refine sB (qE rfl rfl) rfl rfl (fun h34 => ?_) (fun h34 => ?_)
 refine O0 ?_
 (rw [A44 (by omega)]; exact ⟨rfl, rfl, rfl⟩)
 refine J6 ?_
 refine sB (N7 rfl rfl) rfl rfl (fun h61 => ?_) (fun h61 => ?_)
 refine J4 ?_
 (rw [A83 (by omega) (by omega) (by omega)]; exact ⟨rfl, rfl, rfl⟩)
 refine J4 ?_
 refine C0 ?_
 (have hll : ks.length = ks'.length := hle (by omega); refine L9 (fun (i : Nat) => ⟨[(5, .int .i64 i), (3, .pointer (some ⟨b4, 0, none⟩)), (2, .pointer (some ⟨b3, 0, none⟩))], [.blk b3 [.int .i64 k, .slice p ks.length c], .blk b4 [.int .i64 k', .slice p' ks'.length c']], G⟩) (fun i => i ≤ ks.length ∧ ∀ j (h : j < ks.length) (h' : j < ks'.length), j < i → K3 ks[j] ks'[j] = true) (fun i => ks.length - i) 0 ?_ ?_ ?_)
 exact D5
 exact ⟨by omega, by omega⟩
 (rintro i ⟨hi, hf⟩)
 refine B4 ?_
 refine sB (K6 rfl rfl) rfl rfl (fun h97 => ?_) (fun h97 => ?_)
 refine A7 ?_
 refine C0 ?_
 refine tS ?_
 (obtain ⟨b, o, p2, c2, rfl, hat, hre, hgb⟩ := hsl.kidTy hkl (i := i) (by omega) (by omega); obtain ⟨b', o', p2', c2', rfl, hat', hre', hgb'⟩ := hsl'.kidTy hkl' (i := i) (by omega) (by omega); refine E3 E4 rfl ?_)
 refine J5 (i := 0) (l' := [tt,ff,ff,ff,ff,ff,ff,ff,ff,ff,ff,ff]) rfl D7 (B9 rfl) rfl (by kernel_rfl) rfl rfl ?_
 refine aL 1 rfl (D3 rfl rfl) rfl ?_
 refine aP 2 rfl (qM rfl) rfl ?_
 refine aP 3 rfl (B8 rfl rfl rfl (by omega)) rfl ?_
 refine aL 4 rfl (A2 rfl rfl (hat _) rfl) rfl ?_
 refine aP 5 rfl (B9 rfl) rfl ?_
 refine aL 6 rfl (D3 rfl rfl) rfl ?_
 refine aP 7 rfl (qM rfl) rfl ?_
 refine aP 8 rfl (B8 rfl rfl rfl (by omega)) rfl ?_
 refine aL 9 rfl (A2 rfl rfl (hat' _) rfl) rfl ?_
 refine A3 10 ?_
 refine U7 rfl rfl (ih ks[i] (List.getElem_mem (by omega)) ks'[i] G _ _ _ _ (hv2 i (by omega)) (hv2' i (by omega)) hre hre') rfl rfl rfl (fun h118 => ?_) (fun h118 => ?_)
 refine aP 11 rfl (pNt rfl) rfl ?_
 refine D0 ?_
 refine sP (K5 rfl rfl (by omega) (by omega)) rfl rfl ?_
 refine A1 ?_
 refine L0 (i + 1) ?_ ?_ ?_
 exact D5
 exact ⟨by omega, fun j hj hj' hji => by (by_cases he : j = i; (subst he; assumption); exact hf j hj hj' (by omega))⟩
 omega
 refine aP 11 rfl (pNf rfl) rfl ?_
 refine I6 ?_
 (rw [A45 (by omega) (by omega) (by omega), A84 (i := i) (by omega) (by omega) (by assumption)]; exact ⟨rfl, rfl, rfl⟩)
 refine I6 ?_
 (rw [A45 (by omega) (by omega) (by omega), (A19 ks _).2 ⟨hll, fun j hj hj' => hf j hj hj' (by omega)⟩]; exact ⟨rfl, rfl, rfl⟩)
section blaws
variable {P : Program} {Γ : L8} {env : M7} {hp : List A5} {G : IM} {ty : TypeId}
theorem A30 {x y : Operand} {t t' : TypeId} {i : M3} [hI : H6 P t i] (hd : i.desc = .bool) {r : Bool} (hx : evo env x = some (.bool r)) (hy : evo env y = some (.bool r)) :
  I2 P Γ ⟨env, hp, G⟩ (.binOp .neq t x y t') ty (.bool false) := by
 have h := A51 (P := P) (Γ := Γ) (hp := hp) (G := G) (t := t) (t' := t') (ty := ty) hd hx hy
 rwa [decide_eq_false (by simp)] at h
theorem A85 {x y : Operand} {t t' : TypeId} {i : M3} [hI : H6 P t i] (hd : i.desc = .bool) (hx : evo env x = some (.bool true)) (hy : evo env y = some (.bool false)) :
  I2 P Γ ⟨env, hp, G⟩ (.binOp .neq t x y t') ty (.bool true) := A51 hd hx hy
theorem A6y {x y : Operand} {t t' : TypeId} {i : M3} [hI : H6 P t i] (hd : i.desc = .bool) (hx : evo env x = some (.bool false)) (hy : evo env y = some (.bool true)) :
  I2 P Γ ⟨env, hp, G⟩ (.binOp .neq t x y t') ty (.bool true) := A51 hd hx hy
end blaws
theorem B30 (n : Int) : ((1 ≤ A0S n ∧ A0S n ≤ 99) ↔ A0y n = true) := by
 unfold A0S A0y Q0
 simp only [Bool.or_eq_true, decide_eq_true_eq]
 split
 ·omega
 ·split <;> omega
theorem B31 (k : Int) (nm : ByteArray) (num : Int) (ty fr : Ty) (lb : Int) (ks : List Tm) (G : IM) (cells : List Value) (hr : A8 G (.mk k nm num ty fr lb ks) cells) (R : Bool)
  (hi : R = true ↔ nm = ⟨#[]⟩ ∧ num = 0 ∧ (1 ≤ A0S lb ∧ A0S lb ≤ 99) ∧ H1 ty = true ∧ H1 fr = true ∧ K3 fr ty = true) :
  Fn Tryz.prog 166 [.agg ⟨cells⟩] [] G (H8 (.bool R) G) := by
 obtain ⟨tk, tks⟩ := ty
 obtain ⟨fk, fks⟩ := fr
 obtain ⟨pt, ct, pf, cf, p, c, es, rfl, hk, hnum, hlb, hty, hfr, hsl, hkl⟩ := hr.open9
 clear hr
 have o3 := A2c _ G _ hty
 have o4 := A2c _ G _ hfr
 have o6 := B3U lb G
 refine B7 Tryz.func166 rfl Tryz.ntmps166 Tryz.results166 rfl ?_
 intro w0
 refine A1 ?_
 refine sE (C7 rfl rfl) rfl (fun b3 => ?_)
 refine B4 ?_
 refine I3 rfl (o6) rfl rfl ?_
 refine B4 ?_
 refine sB (A1p rfl rfl) rfl rfl (fun h19 => ?_) (fun h19 => ?_)
 refine B6 ?_
 refine sB (qE rfl rfl) rfl rfl (fun h23 => ?_) (fun h23 => ?_)
 refine B6 ?_
 refine sB (A06 rfl rfl) rfl rfl (fun h27 => ?_) (fun h27 => ?_)
 refine B6 ?_
 refine sB (A0t rfl rfl) rfl rfl (fun h31 => ?_) (fun h31 => ?_)
 refine B3 ?_
 refine E1 rfl (o3) rfl rfl (fun h36 => ?_) (fun h36 => ?_)
 refine B3 ?_
 refine E1 rfl (o4) rfl rfl (fun h41 => ?_) (fun h41 => ?_)
 refine A7 ?_
 refine E1 rfl (B3Z _ _ G _ _ _ _ (by assumption) (by assumption) hfr hty) rfl rfl (fun h48 => ?_) (fun h48 => ?_)
 refine A7 ?_
 exact ⟨rfl, by rw [hi.2 ⟨by (first | assumption | exact Classical.not_not.1 (by assumption)), by omega, by omega, by assumption, by assumption, by assumption⟩], rfl⟩
 refine A7 ?_
 exact ⟨rfl, by (cases R with | false => rfl | true => (exfalso; obtain ⟨i1, i2, i3, i4, i5, i6⟩ := hi.1 rfl; first | omega | (simp_all; done))), rfl⟩
 refine J6 ?_
 exact ⟨rfl, by (cases R with | false => rfl | true => (exfalso; obtain ⟨i1, i2, i3, i4, i5, i6⟩ := hi.1 rfl; first | omega | (simp_all; done))), rfl⟩
 refine V9 ?_
 exact ⟨rfl, by (cases R with | false => rfl | true => (exfalso; obtain ⟨i1, i2, i3, i4, i5, i6⟩ := hi.1 rfl; first | omega | (simp_all; done))), rfl⟩
 refine A08 ?_
 exact ⟨rfl, by (cases R with | false => rfl | true => (exfalso; obtain ⟨i1, i2, i3, i4, i5, i6⟩ := hi.1 rfl; first | omega | (simp_all; done))), rfl⟩
 refine A8j ?_
 exact ⟨rfl, by (cases R with | false => rfl | true => (exfalso; obtain ⟨i1, i2, i3, i4, i5, i6⟩ := hi.1 rfl; first | omega | (simp_all; done))), rfl⟩
 refine A0j ?_
 refine E8 ?_
 exact ⟨rfl, by (cases R with | false => rfl | true => (exfalso; obtain ⟨i1, i2, i3, i4, i5, i6⟩ := hi.1 rfl; first | omega | (simp_all; done))), rfl⟩
 refine A0j ?_
 refine B1 ?_
 exact ⟨rfl, by (cases R with | false => rfl | true => (exfalso; obtain ⟨i1, i2, i3, i4, i5, i6⟩ := hi.1 rfl; first | omega | (simp_all; done))), rfl⟩
theorem A86 (k : Int) (nm : ByteArray) (num : Int) (ty fr : Ty) (lb : Int) (ks : List Tm) (G : IM) (cells : List Value) (hr : A8 G (.mk k nm num ty fr lb ks) cells) (R : Bool)
  (hi : R = true ↔ (k = 1 ∨ k = 5 → X5 nm = true) ∧ (¬(k = 1 ∨ k = 5) → nm = ⟨#[]⟩) ∧ (k = 5 ∨ k = 13 ∨ k = 14 → H1 ty = true) ∧ (¬(k = 5 ∨ k = 13 ∨ k = 14) → Z3 ty = true) ∧ (k ≠ 14 → Z3 fr = true ∧ lb = 0) ∧ (k = 2 → 0 ≤ num ∧ num ≤ 999) ∧ (k ≠ 2 → num = 0)) :
  Fn Tryz.prog 167 [.agg ⟨cells⟩] [] G (H8 (.bool R) G) := by
 have he : nm = ⟨#[]⟩ → X5 nm = false := by rintro rfl; rfl
 obtain ⟨tk, tks⟩ := ty
 obtain ⟨fk, fks⟩ := fr
 obtain ⟨pt, ct, pf, cf, p, c, es, rfl, hk, hnum, hlb, hty, hfr, hsl, hkl⟩ := hr.open9
 clear hr
 have o2 := B3T nm G
 have o3 := A2c _ G _ hty
 have o4 := A8W _ G _ hty
 have o7 := A8W _ G _ hfr
 refine B7 Tryz.func167 rfl Tryz.ntmps167 Tryz.results167 rfl ?_
 intro w0
 refine A1 ?_
 refine sE (C7 rfl rfl) rfl (fun b3 => ?_)
 refine B4 ?_
 refine sB (qE rfl rfl) rfl rfl (fun h11 => ?_) (fun h11 => ?_)
 refine O0 ?_
 refine sP (H7 rfl rfl (by omega)) rfl rfl ?_
 refine B6 ?_
 refine sP (H7 rfl rfl (by omega)) rfl rfl ?_
 refine B3 ?_
 refine sP (H7 rfl rfl (by omega)) rfl rfl ?_
 refine J2 ?_
 refine E1 rfl (o2) rfl rfl (fun h44 => ?_) (fun h44 => ?_)
 refine sQ (A30 rfl rfl rfl) rfl ?_
 refine A22 ?_
 refine E1 rfl (o4) rfl rfl (fun h70 => ?_) (fun h70 => ?_)
 refine J6 ?_
 refine sP (A0w rfl rfl (by omega)) rfl rfl ?_
 refine B6 ?_
 refine E1 rfl (o7) rfl rfl (fun h88 => ?_) (fun h88 => ?_)
 refine B3 ?_
 refine sB (N7 rfl rfl) rfl rfl (fun h93 => ?_) (fun h93 => ?_)
 refine J6 ?_
 exact ⟨rfl, by (cases R with | false => rfl | true => (exfalso; obtain ⟨i1, i2, i3, i4, i5, i6, i7⟩ := hi.1 rfl; first | omega | (have j := i1 (by omega); simp_all; done) | (have j := he (i2 (by omega)); simp_all; done) | (have j := i2 (by omega); simp_all; done) | (have j := i3 (by omega); simp_all; done) | (have j := i4 (by omega); simp_all; done) | (have j := i5 (by omega); simp_all; done))), rfl⟩
 refine O0 ?_
 refine sP (H7 rfl rfl (by omega)) rfl rfl ?_
 refine D8 ?_
 refine sB (qE rfl rfl) rfl rfl (fun h130 => ?_) (fun h130 => ?_)
 refine B1 ?_
 exact ⟨rfl, by rw [hi.2 ⟨fun _ => by (first | assumption | (exfalso; omega)), fun _ => by (first | assumption | (exfalso; omega) | exact Classical.not_not.1 (by assumption)), fun _ => by (first | assumption | (exfalso; omega)), fun _ => by (first | assumption | (exfalso; omega)), fun _ => ⟨by (first | assumption | (exfalso; omega)), by (first | assumption | omega)⟩, by omega, by omega⟩], rfl⟩
 refine B1 ?_
 exact ⟨rfl, by (cases R with | false => rfl | true => (exfalso; obtain ⟨i1, i2, i3, i4, i5, i6, i7⟩ := hi.1 rfl; first | omega | (have j := i1 (by omega); simp_all; done) | (have j := he (i2 (by omega)); simp_all; done) | (have j := i2 (by omega); simp_all; done) | (have j := i3 (by omega); simp_all; done) | (have j := i4 (by omega); simp_all; done) | (have j := i5 (by omega); simp_all; done))), rfl⟩
 refine V9 ?_
 exact ⟨rfl, by (cases R with | false => rfl | true => (exfalso; obtain ⟨i1, i2, i3, i4, i5, i6, i7⟩ := hi.1 rfl; first | omega | (have j := i1 (by omega); simp_all; done) | (have j := he (i2 (by omega)); simp_all; done) | (have j := i2 (by omega); simp_all; done) | (have j := i3 (by omega); simp_all; done) | (have j := i4 (by omega); simp_all; done) | (have j := i5 (by omega); simp_all; done))), rfl⟩
 refine K2 ?_
 exact ⟨rfl, by (cases R with | false => rfl | true => (exfalso; obtain ⟨i1, i2, i3, i4, i5, i6, i7⟩ := hi.1 rfl; first | omega | (have j := i1 (by omega); simp_all; done) | (have j := he (i2 (by omega)); simp_all; done) | (have j := i2 (by omega); simp_all; done) | (have j := i3 (by omega); simp_all; done) | (have j := i4 (by omega); simp_all; done) | (have j := i5 (by omega); simp_all; done))), rfl⟩
 refine sQ (A85 rfl rfl rfl) rfl ?_
 refine A0j ?_
 refine D8 ?_
 exact ⟨rfl, by (cases R with | false => rfl | true => (exfalso; obtain ⟨i1, i2, i3, i4, i5, i6, i7⟩ := hi.1 rfl; first | omega | (have j := i1 (by omega); simp_all; done) | (have j := he (i2 (by omega)); simp_all; done) | (have j := i2 (by omega); simp_all; done) | (have j := i3 (by omega); simp_all; done) | (have j := i4 (by omega); simp_all; done) | (have j := i5 (by omega); simp_all; done))), rfl⟩
 refine B6 ?_
 refine sB (qE rfl rfl) rfl rfl (fun h221 => ?_) (fun h221 => ?_)
 refine D0 ?_
 refine sP (S8 rfl rfl (by omega)) rfl rfl ?_
 refine A0B ?_
 refine E1 rfl (o2) rfl rfl (fun h250 => ?_) (fun h250 => ?_)
 refine sQ (A30 rfl rfl rfl) rfl ?_
 refine K2 ?_
 refine E1 rfl (o3) rfl rfl (fun h266 => ?_) (fun h266 => ?_)
 refine A08 ?_
 refine sP (A0w rfl rfl (by omega)) rfl rfl ?_
 refine B6 ?_
 refine E1 rfl (o7) rfl rfl (fun h294 => ?_) (fun h294 => ?_)
 refine B3 ?_
 refine sB (N7 rfl rfl) rfl rfl (fun h299 => ?_) (fun h299 => ?_)
 refine J6 ?_
 exact ⟨rfl, by (cases R with | false => rfl | true => (exfalso; obtain ⟨i1, i2, i3, i4, i5, i6, i7⟩ := hi.1 rfl; first | omega | (have j := i1 (by omega); simp_all; done) | (have j := he (i2 (by omega)); simp_all; done) | (have j := i2 (by omega); simp_all; done) | (have j := i3 (by omega); simp_all; done) | (have j := i4 (by omega); simp_all; done) | (have j := i5 (by omega); simp_all; done))), rfl⟩
 refine O0 ?_
 refine sP (H7 rfl rfl (by omega)) rfl rfl ?_
 refine D8 ?_
 refine sB (qE rfl rfl) rfl rfl (fun h336 => ?_) (fun h336 => ?_)
 refine B1 ?_
 exact ⟨rfl, by rw [hi.2 ⟨fun _ => by (first | assumption | (exfalso; omega)), fun _ => by (first | assumption | (exfalso; omega) | exact Classical.not_not.1 (by assumption)), fun _ => by (first | assumption | (exfalso; omega)), fun _ => by (first | assumption | (exfalso; omega)), fun _ => ⟨by (first | assumption | (exfalso; omega)), by (first | assumption | omega)⟩, by omega, by omega⟩], rfl⟩
 refine B1 ?_
 exact ⟨rfl, by (cases R with | false => rfl | true => (exfalso; obtain ⟨i1, i2, i3, i4, i5, i6, i7⟩ := hi.1 rfl; first | omega | (have j := i1 (by omega); simp_all; done) | (have j := he (i2 (by omega)); simp_all; done) | (have j := i2 (by omega); simp_all; done) | (have j := i3 (by omega); simp_all; done) | (have j := i4 (by omega); simp_all; done) | (have j := i5 (by omega); simp_all; done))), rfl⟩
 refine V9 ?_
 exact ⟨rfl, by (cases R with | false => rfl | true => (exfalso; obtain ⟨i1, i2, i3, i4, i5, i6, i7⟩ := hi.1 rfl; first | omega | (have j := i1 (by omega); simp_all; done) | (have j := he (i2 (by omega)); simp_all; done) | (have j := i2 (by omega); simp_all; done) | (have j := i3 (by omega); simp_all; done) | (have j := i4 (by omega); simp_all; done) | (have j := i5 (by omega); simp_all; done))), rfl⟩
 refine A22 ?_
 exact ⟨rfl, by (cases R with | false => rfl | true => (exfalso; obtain ⟨i1, i2, i3, i4, i5, i6, i7⟩ := hi.1 rfl; first | omega | (have j := i1 (by omega); simp_all; done) | (have j := he (i2 (by omega)); simp_all; done) | (have j := i2 (by omega); simp_all; done) | (have j := i3 (by omega); simp_all; done) | (have j := i4 (by omega); simp_all; done) | (have j := i5 (by omega); simp_all; done))), rfl⟩
 refine sQ (A85 rfl rfl rfl) rfl ?_
 refine A0j ?_
 refine D8 ?_
 exact ⟨rfl, by (cases R with | false => rfl | true => (exfalso; obtain ⟨i1, i2, i3, i4, i5, i6, i7⟩ := hi.1 rfl; first | omega | (have j := i1 (by omega); simp_all; done) | (have j := he (i2 (by omega)); simp_all; done) | (have j := i2 (by omega); simp_all; done) | (have j := i3 (by omega); simp_all; done) | (have j := i4 (by omega); simp_all; done) | (have j := i5 (by omega); simp_all; done))), rfl⟩
 refine D0 ?_
 refine sP (H7 rfl rfl (by omega)) rfl rfl ?_
 refine B6 ?_
 refine sB (qE rfl rfl) rfl rfl (fun h446 => ?_) (fun h446 => ?_)
 refine I6 ?_
 refine E1 rfl (o2) rfl rfl (fun h462 => ?_) (fun h462 => ?_)
 refine sQ (A6y rfl rfl rfl) rfl ?_
 refine A0j ?_
 refine D8 ?_
 exact ⟨rfl, by (cases R with | false => rfl | true => (exfalso; obtain ⟨i1, i2, i3, i4, i5, i6, i7⟩ := hi.1 rfl; first | omega | (have j := i1 (by omega); simp_all; done) | (have j := he (i2 (by omega)); simp_all; done) | (have j := i2 (by omega); simp_all; done) | (have j := i3 (by omega); simp_all; done) | (have j := i4 (by omega); simp_all; done) | (have j := i5 (by omega); simp_all; done))), rfl⟩
 refine sQ (A30 rfl rfl rfl) rfl ?_
 refine A7 ?_
 refine sB (A1M rfl rfl) rfl rfl (fun h511 => ?_) (fun h511 => ?_)
 refine A0j ?_
 refine A1 ?_
 exact ⟨rfl, by (cases R with | false => rfl | true => (exfalso; obtain ⟨i1, i2, i3, i4, i5, i6, i7⟩ := hi.1 rfl; first | omega | (have j := i1 (by omega); simp_all; done) | (have j := he (i2 (by omega)); simp_all; done) | (have j := i2 (by omega); simp_all; done) | (have j := i3 (by omega); simp_all; done) | (have j := i4 (by omega); simp_all; done) | (have j := i5 (by omega); simp_all; done))), rfl⟩
 refine B4 ?_
 refine E1 rfl (o3) rfl rfl (fun h552 => ?_) (fun h552 => ?_)
 refine A08 ?_
 refine sP (A0w rfl rfl (by omega)) rfl rfl ?_
 refine B6 ?_
 refine E1 rfl (o7) rfl rfl (fun h580 => ?_) (fun h580 => ?_)
 refine B3 ?_
 refine sB (N7 rfl rfl) rfl rfl (fun h585 => ?_) (fun h585 => ?_)
 refine J6 ?_
 exact ⟨rfl, by (cases R with | false => rfl | true => (exfalso; obtain ⟨i1, i2, i3, i4, i5, i6, i7⟩ := hi.1 rfl; first | omega | (have j := i1 (by omega); simp_all; done) | (have j := he (i2 (by omega)); simp_all; done) | (have j := i2 (by omega); simp_all; done) | (have j := i3 (by omega); simp_all; done) | (have j := i4 (by omega); simp_all; done) | (have j := i5 (by omega); simp_all; done))), rfl⟩
 refine O0 ?_
 refine sP (H7 rfl rfl (by omega)) rfl rfl ?_
 refine D8 ?_
 refine sB (qE rfl rfl) rfl rfl (fun h622 => ?_) (fun h622 => ?_)
 refine B1 ?_
 exact ⟨rfl, by rw [hi.2 ⟨fun _ => by (first | assumption | (exfalso; omega)), fun _ => by (first | assumption | (exfalso; omega) | exact Classical.not_not.1 (by assumption)), fun _ => by (first | assumption | (exfalso; omega)), fun _ => by (first | assumption | (exfalso; omega)), fun _ => ⟨by (first | assumption | (exfalso; omega)), by (first | assumption | omega)⟩, by omega, by omega⟩], rfl⟩
 refine B1 ?_
 exact ⟨rfl, by (cases R with | false => rfl | true => (exfalso; obtain ⟨i1, i2, i3, i4, i5, i6, i7⟩ := hi.1 rfl; first | omega | (have j := i1 (by omega); simp_all; done) | (have j := he (i2 (by omega)); simp_all; done) | (have j := i2 (by omega); simp_all; done) | (have j := i3 (by omega); simp_all; done) | (have j := i4 (by omega); simp_all; done) | (have j := i5 (by omega); simp_all; done))), rfl⟩
 refine V9 ?_
 exact ⟨rfl, by (cases R with | false => rfl | true => (exfalso; obtain ⟨i1, i2, i3, i4, i5, i6, i7⟩ := hi.1 rfl; first | omega | (have j := i1 (by omega); simp_all; done) | (have j := he (i2 (by omega)); simp_all; done) | (have j := i2 (by omega); simp_all; done) | (have j := i3 (by omega); simp_all; done) | (have j := i4 (by omega); simp_all; done) | (have j := i5 (by omega); simp_all; done))), rfl⟩
 refine A22 ?_
 exact ⟨rfl, by (cases R with | false => rfl | true => (exfalso; obtain ⟨i1, i2, i3, i4, i5, i6, i7⟩ := hi.1 rfl; first | omega | (have j := i1 (by omega); simp_all; done) | (have j := he (i2 (by omega)); simp_all; done) | (have j := i2 (by omega); simp_all; done) | (have j := i3 (by omega); simp_all; done) | (have j := i4 (by omega); simp_all; done) | (have j := i5 (by omega); simp_all; done))), rfl⟩
 refine B3 ?_
 refine sB (qE rfl rfl) rfl rfl (fun h683 => ?_) (fun h683 => ?_)
 refine J2 ?_
 refine E1 rfl (o2) rfl rfl (fun h694 => ?_) (fun h694 => ?_)
 refine sQ (A6y rfl rfl rfl) rfl ?_
 refine A0j ?_
 refine D8 ?_
 exact ⟨rfl, by (cases R with | false => rfl | true => (exfalso; obtain ⟨i1, i2, i3, i4, i5, i6, i7⟩ := hi.1 rfl; first | omega | (have j := i1 (by omega); simp_all; done) | (have j := he (i2 (by omega)); simp_all; done) | (have j := i2 (by omega); simp_all; done) | (have j := i3 (by omega); simp_all; done) | (have j := i4 (by omega); simp_all; done) | (have j := i5 (by omega); simp_all; done))), rfl⟩
 refine sQ (A30 rfl rfl rfl) rfl ?_
 refine A7 ?_
 refine sB (A1M rfl rfl) rfl rfl (fun h743 => ?_) (fun h743 => ?_)
 refine A0j ?_
 refine A1 ?_
 exact ⟨rfl, by (cases R with | false => rfl | true => (exfalso; obtain ⟨i1, i2, i3, i4, i5, i6, i7⟩ := hi.1 rfl; first | omega | (have j := i1 (by omega); simp_all; done) | (have j := he (i2 (by omega)); simp_all; done) | (have j := i2 (by omega); simp_all; done) | (have j := i3 (by omega); simp_all; done) | (have j := i4 (by omega); simp_all; done) | (have j := i5 (by omega); simp_all; done))), rfl⟩
 refine B4 ?_
 refine E1 rfl (o3) rfl rfl (fun h784 => ?_) (fun h784 => ?_)
 refine A08 ?_
 refine sP (A1O rfl rfl (by omega)) rfl rfl ?_
 refine A0R ?_
 refine sP (H7 rfl rfl (by omega)) rfl rfl ?_
 refine D8 ?_
 refine sB (qE rfl rfl) rfl rfl (fun h840 => ?_) (fun h840 => ?_)
 refine B1 ?_
 exact ⟨rfl, by rw [hi.2 ⟨fun _ => by (first | assumption | (exfalso; omega)), fun _ => by (first | assumption | (exfalso; omega) | exact Classical.not_not.1 (by assumption)), fun _ => by (first | assumption | (exfalso; omega)), fun _ => by (first | assumption | (exfalso; omega)), fun _ => ⟨by (first | assumption | (exfalso; omega)), by (first | assumption | omega)⟩, by omega, by omega⟩], rfl⟩
 refine B1 ?_
 exact ⟨rfl, by (cases R with | false => rfl | true => (exfalso; obtain ⟨i1, i2, i3, i4, i5, i6, i7⟩ := hi.1 rfl; first | omega | (have j := i1 (by omega); simp_all; done) | (have j := he (i2 (by omega)); simp_all; done) | (have j := i2 (by omega); simp_all; done) | (have j := i3 (by omega); simp_all; done) | (have j := i4 (by omega); simp_all; done) | (have j := i5 (by omega); simp_all; done))), rfl⟩
 refine A22 ?_
 exact ⟨rfl, by (cases R with | false => rfl | true => (exfalso; obtain ⟨i1, i2, i3, i4, i5, i6, i7⟩ := hi.1 rfl; first | omega | (have j := i1 (by omega); simp_all; done) | (have j := he (i2 (by omega)); simp_all; done) | (have j := i2 (by omega); simp_all; done) | (have j := i3 (by omega); simp_all; done) | (have j := i4 (by omega); simp_all; done) | (have j := i5 (by omega); simp_all; done))), rfl⟩
 refine J2 ?_
 refine E1 rfl (o2) rfl rfl (fun h888 => ?_) (fun h888 => ?_)
 refine sQ (A6y rfl rfl rfl) rfl ?_
 refine A0j ?_
 refine D8 ?_
 exact ⟨rfl, by (cases R with | false => rfl | true => (exfalso; obtain ⟨i1, i2, i3, i4, i5, i6, i7⟩ := hi.1 rfl; first | omega | (have j := i1 (by omega); simp_all; done) | (have j := he (i2 (by omega)); simp_all; done) | (have j := i2 (by omega); simp_all; done) | (have j := i3 (by omega); simp_all; done) | (have j := i4 (by omega); simp_all; done) | (have j := i5 (by omega); simp_all; done))), rfl⟩
 refine sQ (A30 rfl rfl rfl) rfl ?_
 refine A7 ?_
 refine sB (A1M rfl rfl) rfl rfl (fun h937 => ?_) (fun h937 => ?_)
 refine A0j ?_
 refine A1 ?_
 exact ⟨rfl, by (cases R with | false => rfl | true => (exfalso; obtain ⟨i1, i2, i3, i4, i5, i6, i7⟩ := hi.1 rfl; first | omega | (have j := i1 (by omega); simp_all; done) | (have j := he (i2 (by omega)); simp_all; done) | (have j := i2 (by omega); simp_all; done) | (have j := i3 (by omega); simp_all; done) | (have j := i4 (by omega); simp_all; done) | (have j := i5 (by omega); simp_all; done))), rfl⟩
 refine V3 ?_
 refine E1 rfl (o4) rfl rfl (fun h988 => ?_) (fun h988 => ?_)
 refine J6 ?_
 refine sP (A0w rfl rfl (by omega)) rfl rfl ?_
 refine B6 ?_
 refine E1 rfl (o7) rfl rfl (fun h1006 => ?_) (fun h1006 => ?_)
 refine B3 ?_
 refine sB (N7 rfl rfl) rfl rfl (fun h1011 => ?_) (fun h1011 => ?_)
 refine J6 ?_
 exact ⟨rfl, by (cases R with | false => rfl | true => (exfalso; obtain ⟨i1, i2, i3, i4, i5, i6, i7⟩ := hi.1 rfl; first | omega | (have j := i1 (by omega); simp_all; done) | (have j := he (i2 (by omega)); simp_all; done) | (have j := i2 (by omega); simp_all; done) | (have j := i3 (by omega); simp_all; done) | (have j := i4 (by omega); simp_all; done) | (have j := i5 (by omega); simp_all; done))), rfl⟩
 refine O0 ?_
 refine sB (qE rfl rfl) rfl rfl (fun h1038 => ?_) (fun h1038 => ?_)
 refine B4 ?_
 refine sB (A06 rfl rfl) rfl rfl (fun h1046 => ?_) (fun h1046 => ?_)
 refine B6 ?_
 refine sB (A0t rfl rfl) rfl rfl (fun h1050 => ?_) (fun h1050 => ?_)
 refine B4 ?_
 exact ⟨rfl, by rw [hi.2 ⟨fun _ => by (first | assumption | (exfalso; omega)), fun _ => by (first | assumption | (exfalso; omega) | exact Classical.not_not.1 (by assumption)), fun _ => by (first | assumption | (exfalso; omega)), fun _ => by (first | assumption | (exfalso; omega)), fun _ => ⟨by (first | assumption | (exfalso; omega)), by (first | assumption | omega)⟩, by omega, by omega⟩], rfl⟩
 refine B4 ?_
 exact ⟨rfl, by (cases R with | false => rfl | true => (exfalso; obtain ⟨i1, i2, i3, i4, i5, i6, i7⟩ := hi.1 rfl; first | omega | (have j := i1 (by omega); simp_all; done) | (have j := he (i2 (by omega)); simp_all; done) | (have j := i2 (by omega); simp_all; done) | (have j := i3 (by omega); simp_all; done) | (have j := i4 (by omega); simp_all; done) | (have j := i5 (by omega); simp_all; done))), rfl⟩
 refine J4 ?_
 exact ⟨rfl, by (cases R with | false => rfl | true => (exfalso; obtain ⟨i1, i2, i3, i4, i5, i6, i7⟩ := hi.1 rfl; first | omega | (have j := i1 (by omega); simp_all; done) | (have j := he (i2 (by omega)); simp_all; done) | (have j := i2 (by omega); simp_all; done) | (have j := i3 (by omega); simp_all; done) | (have j := i4 (by omega); simp_all; done) | (have j := i5 (by omega); simp_all; done))), rfl⟩
 refine D8 ?_
 refine sB (qE rfl rfl) rfl rfl (fun h1088 => ?_) (fun h1088 => ?_)
 refine B1 ?_
 exact ⟨rfl, by rw [hi.2 ⟨fun _ => by (first | assumption | (exfalso; omega)), fun _ => by (first | assumption | (exfalso; omega) | exact Classical.not_not.1 (by assumption)), fun _ => by (first | assumption | (exfalso; omega)), fun _ => by (first | assumption | (exfalso; omega)), fun _ => ⟨by (first | assumption | (exfalso; omega)), by (first | assumption | omega)⟩, by omega, by omega⟩], rfl⟩
 refine B1 ?_
 exact ⟨rfl, by (cases R with | false => rfl | true => (exfalso; obtain ⟨i1, i2, i3, i4, i5, i6, i7⟩ := hi.1 rfl; first | omega | (have j := i1 (by omega); simp_all; done) | (have j := he (i2 (by omega)); simp_all; done) | (have j := i2 (by omega); simp_all; done) | (have j := i3 (by omega); simp_all; done) | (have j := i4 (by omega); simp_all; done) | (have j := i5 (by omega); simp_all; done))), rfl⟩
 refine V9 ?_
 exact ⟨rfl, by (cases R with | false => rfl | true => (exfalso; obtain ⟨i1, i2, i3, i4, i5, i6, i7⟩ := hi.1 rfl; first | omega | (have j := i1 (by omega); simp_all; done) | (have j := he (i2 (by omega)); simp_all; done) | (have j := i2 (by omega); simp_all; done) | (have j := i3 (by omega); simp_all; done) | (have j := i4 (by omega); simp_all; done) | (have j := i5 (by omega); simp_all; done))), rfl⟩
 refine K2 ?_
 exact ⟨rfl, by (cases R with | false => rfl | true => (exfalso; obtain ⟨i1, i2, i3, i4, i5, i6, i7⟩ := hi.1 rfl; first | omega | (have j := i1 (by omega); simp_all; done) | (have j := he (i2 (by omega)); simp_all; done) | (have j := i2 (by omega); simp_all; done) | (have j := i3 (by omega); simp_all; done) | (have j := i4 (by omega); simp_all; done) | (have j := i5 (by omega); simp_all; done))), rfl⟩
mutual
def L7 (D N : Int) : Tm → Int → Bool
 | .mk k nm num ty fr lb ks, deep => decide (deep ≤ D) && decide (k ≠ N) && W1 k nm num ty fr lb ks.length && L5 D N ks (deep + 1)
def L5 (D N : Int) : List Tm → Int → Bool
 | [], _ => true
 | t :: ts, deep => L7 D N t deep && L5 D N ts deep
end
theorem A0U (D N : Int) : ∀ (ts : List Tm) (d : Int), L5 D N ts d = true ↔ ∀ i, (h : i < ts.length) → L7 D N ts[i] d = true
 | [], d => by simp [L5]
 | t :: ts, d => by
  simp only [L5, Bool.and_eq_true, A0U D N ts d]
  constructor
  ·rintro ⟨h1, h2⟩ i hi
   cases i with
   | zero => exact h1
   | succ i => exact h2 i (by simpa using hi)
  ·intro h
   exact ⟨h 0 (by simp), fun i hi => h (i + 1) (by simpa using hi)⟩
theorem A1u {D N : Int} {k : Int} {nm : ByteArray} {num : Int} {ty fr : Ty} {lb : Int} {ks : List Tm} {d : Int} (h : D < d ∨ k = N ∨ W1 k nm num ty fr lb ks.length = false) : L7 D N (.mk k nm num ty fr lb ks) d = false := by
 rw [L7]
 rcases h with h | h | h
 ·rw [decide_eq_false (by omega)]; rfl
 ·rw [decide_eq_false (p := k ≠ N) (by omega), Bool.and_false]; rfl
 ·rw [h, Bool.and_false]; rfl
theorem A0V {D N : Int} {k : Int} {nm : ByteArray} {num : Int} {ty fr : Ty} {lb : Int} {ks : List Tm} {d : Int} (h1 : d ≤ D) (h2 : k ≠ N) (h3 : W1 k nm num ty fr lb ks.length = true) : L7 D N (.mk k nm num ty fr lb ks) d = L5 D N ks (d + 1) := by
 rw [L7, decide_eq_true h1, decide_eq_true h2, h3]; rfl
theorem A6z {D N : Int} {ks : List Tm} {d : Int} {i : Nat} (hi : i < ks.length) (h : L7 D N ks[i] d = false) : L5 D N ks d = false := by
 cases hx : L5 D N ks d with
 | false => rfl
 | true => rw [(A0U D N ks d).1 hx i hi] at h; cases h
theorem B32 {k : Int} {nm : ByteArray} {num : Int} {ty fr : Ty} {lb : Int} {n : Nat} (hk : k = 14) (ha : C4 k = n) : W1 k nm num ty fr lb n = true ↔ nm = ⟨#[]⟩ ∧ num = 0 ∧ (1 ≤ A0S lb ∧ A0S lb ≤ 99) ∧ H1 ty = true ∧ H1 fr = true ∧ K3 fr ty = true := by
 rw [T0, B30]
 simp only [Q0, A09, decide_eq_true_eq, Bool.and_eq_true]
 constructor
 ·rintro ⟨_, _, h3, _, h5, h6, _, h8, _⟩
  have h8 := h8 hk
  exact ⟨h3 (by omega), by have := h5 (by omega); omega, h8.2, h6 (by omega), h8.1.1.1, h8.1.2⟩
 ·rintro ⟨h1, h2, h3, h4, h5, h6⟩
  exact ⟨ha, fun h => absurd h (by omega), fun _ => h1, fun h => absurd h (by omega), fun _ => by omega, fun _ => h4, fun h => absurd h (by omega), fun _ => ⟨⟨⟨h5, h4⟩, h6⟩, h3⟩, fun h => absurd hk h⟩
theorem A87 {k : Int} {nm : ByteArray} {num : Int} {ty fr : Ty} {lb : Int} {n : Nat} (hk : k ≠ 14) (ha : C4 k = n) : W1 k nm num ty fr lb n = true ↔
  (k = 1 ∨ k = 5 → X5 nm = true) ∧ (¬(k = 1 ∨ k = 5) → nm = ⟨#[]⟩) ∧ (k = 5 ∨ k = 13 ∨ k = 14 → H1 ty = true) ∧ (¬(k = 5 ∨ k = 13 ∨ k = 14) → Z3 ty = true) ∧ (k ≠ 14 → Z3 fr = true ∧ lb = 0) ∧ (k = 2 → 0 ≤ num ∧ num ≤ 999) ∧ (k ≠ 2 → num = 0) := by
 rw [T0]
 simp only [Q0, decide_eq_true_eq]
 constructor
 ·rintro ⟨_, h2, h3, h4, h5, h6, h7, _, h9⟩
  exact ⟨h2, h3, h6, h7, h9, h4, fun h => by have := h5 h; omega⟩
 ·rintro ⟨h2, h3, h6, h7, h9, h4, h5⟩
  exact ⟨ha, h2, h3, h4, fun h => by have := h5 h; omega, h6, h7, fun h => absurd h hk, h9⟩
theorem B33 : ∀ (t : Tm) (d : Int) (G : IM) (cells : List Value), 0 ≤ d ∧ d ≤ 40 → A8 G t cells →
  Fn Tryz.prog 119 [.agg ⟨cells⟩, .int .i64 d] [] G (H8 (.bool (L7 40 13 t (41 - d))) G) := by
 refine Tm.ind fun k nm num ty fr lb ks ih d G cells hd hr => ?_
 have hr0 := hr
 have h14 := fun h : k = 14 => @B32 k nm num ty fr lb ks.length h
 have hne := fun h : k ≠ 14 => @A87 k nm num ty fr lb ks.length h
 have har := fun h : W1 k nm num ty fr lb ks.length = true => (T0.1 h).1
 obtain ⟨R, hR⟩ : ∃ R, W1 k nm num ty fr lb ks.length = R := ⟨_, rfl⟩
 rw [hR] at h14 hne har
 have hlo := B31 k nm num ty fr lb ks G cells hr0 R
 have hl2 := A86 k nm num ty fr lb ks G cells hr0 R
 have hk1 := A42 k G
 obtain ⟨tk, tks⟩ := ty
 obtain ⟨fk, fks⟩ := fr
 obtain ⟨pt, ct, pf, cf, p, c, es, rfl, hk, hnum, hlb, hty, hfr, hsl, hkl⟩ := hr.open9
 have hn := hsl.le
 clear hr hr0
 refine B7 Tryz.func119 rfl Tryz.ntmps119 Tryz.results119 rfl ?_
 intro w0
 refine A1 ?_
 refine sE (C7 rfl rfl) rfl (fun b3 => ?_)
 refine B1 ?_
 refine E3 E4 rfl ?_
 refine J5 (i := 0) (l' := [tt,ff,ff,ff,ff,ff,ff,ff,ff,ff,ff,ff,ff,ff,ff,ff,ff,ff,ff,ff,ff,ff,ff,ff,ff,ff,ff,ff,ff,ff,ff,ff,ff,ff,ff,ff]) rfl D7 (qM rfl) rfl (by kernel_rfl) rfl rfl ?_
 refine A0Q (i := 1) (l' := [tt,tt,ff,ff,ff,ff,ff,ff,ff,ff,ff,ff,ff,ff,ff,ff,ff,ff,ff,ff,ff,ff,ff,ff,ff,ff,ff,ff,ff,ff,ff,ff,ff,ff,ff,ff]) rfl D7 (K6 rfl rfl) rfl (by kernel_rfl) rfl rfl (fun h11 => ?_) (fun h11 => ?_)
 refine aP 2 rfl (qM rfl) rfl ?_
 refine C1 3 rfl rfl rfl ?_
 refine C1 4 rfl rfl rfl ?_
 refine C1 6 rfl rfl rfl ?_
 refine C1 7 rfl rfl rfl ?_
 refine C1 8 rfl rfl rfl ?_
 refine C1 5 rfl rfl rfl ?_
 refine C1 9 rfl rfl rfl ?_
 refine aP 10 rfl (O4 rfl rfl) rfl ?_
 refine aP 11 rfl (qM rfl) rfl ?_
 refine C1 12 rfl rfl rfl ?_
 refine C1 13 rfl rfl rfl ?_
 refine C1 14 rfl rfl rfl ?_
 refine aP 15 rfl (O4 rfl rfl) rfl ?_
 refine aP 16 rfl (qM rfl) rfl ?_
 refine C1 17 rfl rfl rfl ?_
 refine C1 18 rfl rfl rfl ?_
 refine C1 19 rfl rfl rfl ?_
 refine C1 20 rfl rfl rfl ?_
 refine C1 21 rfl rfl rfl ?_
 refine C1 22 rfl rfl rfl ?_
 refine C1 23 rfl rfl rfl ?_
 refine C1 24 rfl rfl rfl ?_
 refine aP 25 rfl (O4 rfl rfl) rfl ?_
 refine aP 26 rfl (qM rfl) rfl ?_
 refine C1 27 rfl rfl rfl ?_
 refine C1 28 rfl rfl rfl ?_
 refine C1 29 rfl rfl rfl ?_
 refine C1 30 rfl rfl rfl ?_
 refine C1 31 rfl rfl rfl ?_
 refine C1 32 rfl rfl rfl ?_
 refine C1 33 rfl rfl rfl ?_
 refine C1 34 rfl rfl rfl ?_
 refine aP 35 rfl (O4 rfl rfl) rfl ?_
 refine J4 ?_
 (rw [A1u (by rw [hR]; first | omega | exact .inr (.inr (by assumption)) | exact .inr (.inr (by cases R with | false => rfl | true => exact absurd (har rfl) (by omega))))]; exact ⟨rfl, rfl, rfl⟩)
 refine aP 2 rfl (qM rfl) rfl ?_
 refine aP 3 rfl (B9 rfl) rfl ?_
 refine aL 4 rfl (D3 rfl rfl) rfl ?_
 refine aP 6 rfl (B9 rfl) rfl ?_
 refine aL 7 rfl (D3 rfl rfl) rfl ?_
 refine aP 8 rfl (pLn rfl rfl) rfl ?_
 refine A3 5 ?_
 refine P4 rfl rfl (hk1) rfl rfl rfl ?_
 refine A0Q (i := 9) (l' := [tt,tt,tt,tt,tt,tt,tt,tt,tt,tt,ff,ff,ff,ff,ff,ff,ff,ff,ff,ff,ff,ff,ff,ff,ff,ff,ff,ff,ff,ff,ff,ff,ff,ff,ff,ff]) rfl D7 (N7 rfl rfl) rfl (by kernel_rfl) rfl rfl (fun h66 => ?_) (fun h66 => ?_)
 refine aP 10 rfl (R0 rfl rfl) rfl ?_
 refine aP 11 rfl (qM rfl) rfl ?_
 refine C1 12 rfl rfl rfl ?_
 refine C1 13 rfl rfl rfl ?_
 refine C1 14 rfl rfl rfl ?_
 refine aP 15 rfl (O4 rfl rfl) rfl ?_
 refine aP 16 rfl (qM rfl) rfl ?_
 refine C1 17 rfl rfl rfl ?_
 refine C1 18 rfl rfl rfl ?_
 refine C1 19 rfl rfl rfl ?_
 refine C1 20 rfl rfl rfl ?_
 refine C1 21 rfl rfl rfl ?_
 refine C1 22 rfl rfl rfl ?_
 refine C1 23 rfl rfl rfl ?_
 refine C1 24 rfl rfl rfl ?_
 refine aP 25 rfl (O4 rfl rfl) rfl ?_
 refine aP 26 rfl (qM rfl) rfl ?_
 refine C1 27 rfl rfl rfl ?_
 refine C1 28 rfl rfl rfl ?_
 refine C1 29 rfl rfl rfl ?_
 refine C1 30 rfl rfl rfl ?_
 refine C1 31 rfl rfl rfl ?_
 refine C1 32 rfl rfl rfl ?_
 refine C1 33 rfl rfl rfl ?_
 refine C1 34 rfl rfl rfl ?_
 refine aP 35 rfl (O4 rfl rfl) rfl ?_
 refine J4 ?_
 (rw [A1u (by rw [hR]; first | omega | exact .inr (.inr (by assumption)) | exact .inr (.inr (by cases R with | false => rfl | true => exact absurd (har rfl) (by omega))))]; exact ⟨rfl, rfl, rfl⟩)
 refine aP 10 rfl (R0 rfl rfl) rfl ?_
 refine aP 11 rfl (qM rfl) rfl ?_
 refine aP 12 rfl (B9 rfl) rfl ?_
 refine aL 13 rfl (D3 rfl rfl) rfl ?_
 refine A0Q (i := 14) (l' := [tt,tt,tt,tt,tt,tt,tt,tt,tt,tt,tt,tt,tt,tt,tt,ff,ff,ff,ff,ff,ff,ff,ff,ff,ff,ff,ff,ff,ff,ff,ff,ff,ff,ff,ff,ff]) rfl D7 (qE rfl rfl) rfl (by kernel_rfl) rfl rfl (fun h109 => ?_) (fun h109 => ?_)
 refine aP 15 rfl (R0 rfl rfl) rfl ?_
 refine aP 16 rfl (qM rfl) rfl ?_
 refine C1 17 rfl rfl rfl ?_
 refine C1 18 rfl rfl rfl ?_
 refine C1 19 rfl rfl rfl ?_
 refine C1 20 rfl rfl rfl ?_
 refine C1 21 rfl rfl rfl ?_
 refine C1 22 rfl rfl rfl ?_
 refine C1 23 rfl rfl rfl ?_
 refine C1 24 rfl rfl rfl ?_
 refine aP 25 rfl (O4 rfl rfl) rfl ?_
 refine aP 26 rfl (qM rfl) rfl ?_
 refine C1 27 rfl rfl rfl ?_
 refine C1 28 rfl rfl rfl ?_
 refine C1 29 rfl rfl rfl ?_
 refine C1 30 rfl rfl rfl ?_
 refine C1 31 rfl rfl rfl ?_
 refine C1 32 rfl rfl rfl ?_
 refine C1 33 rfl rfl rfl ?_
 refine C1 34 rfl rfl rfl ?_
 refine aP 35 rfl (O4 rfl rfl) rfl ?_
 refine J4 ?_
 (rw [A1u (by rw [hR]; first | omega | exact .inr (.inr (by assumption)) | exact .inr (.inr (by cases R with | false => rfl | true => exact absurd (har rfl) (by omega))))]; exact ⟨rfl, rfl, rfl⟩)
 refine aP 15 rfl (R0 rfl rfl) rfl ?_
 refine aP 16 rfl (qM rfl) rfl ?_
 refine aP 17 rfl (B9 rfl) rfl ?_
 refine aL 18 rfl (D3 rfl rfl) rfl ?_
 refine A0Q (i := 19) (l' := [tt,tt,tt,tt,tt,tt,tt,tt,tt,tt,tt,tt,tt,tt,tt,tt,tt,tt,tt,tt,ff,ff,ff,ff,ff,ff,ff,ff,ff,ff,ff,ff,ff,ff,ff,ff]) rfl D7 (qE rfl rfl) rfl (by kernel_rfl) rfl rfl (fun h147 => ?_) (fun h147 => ?_)
 refine aP 20 rfl (qM rfl) rfl ?_
 refine aL 21 rfl (A4 rfl rfl) rfl ?_
 refine A3 22 ?_
 refine U7 rfl rfl (hlo (h14 (by omega) (by omega))) rfl rfl rfl (fun h151 => ?_) (fun h151 => ?_)
 refine aP 23 rfl (pNt rfl) rfl ?_
 refine aP 24 rfl (O4 rfl rfl) rfl ?_
 refine aP 25 rfl (R0 rfl rfl) rfl ?_
 refine aP 26 rfl (qM rfl) rfl ?_
 refine aP 27 rfl (B9 rfl) rfl ?_
 refine aL 28 rfl (D3 rfl rfl) rfl ?_
 refine aP 29 rfl (A1O rfl rfl (by omega)) rfl ?_
 refine aP 30 rfl (qM rfl) rfl ?_
 refine C1 31 rfl rfl rfl ?_
 refine C1 32 rfl rfl rfl ?_
 refine C1 33 rfl rfl rfl ?_
 refine aP 34 rfl (R0 rfl rfl) rfl ?_
 refine aP 35 rfl (R0 rfl rfl) rfl ?_
 refine J4 ?_
 refine C0 ?_
 (refine L9 (fun (i : Nat) => ⟨[(5, .int .i64 i), (2, .pointer (some ⟨b3, 0, none⟩)), (1, .int .i64 d)], [.blk b3 [.int .i64 k, .string nm, .int .i64 num, .int .i64 tk, .slice pt tks.length ct, .int .i64 fk, .slice pf fks.length cf, .int .i64 lb, .slice p ks.length c]], G⟩) (fun i => i ≤ ks.length ∧ ∀ j (h : j < ks.length), j < i → L7 40 13 ks[j] (41 - d + 1) = true) (fun i => ks.length - i) 0 ?_ ?_ ?_)
 exact D5
 exact ⟨by omega, by omega⟩
 (rintro i ⟨hi, hf⟩)
 refine B4 ?_
 refine sB (K6 rfl rfl) rfl rfl (fun h188 => ?_) (fun h188 => ?_)
 refine A7 ?_
 refine C0 ?_
 refine B1 ?_
 (obtain ⟨b, o, e, rfl, hl, hat, hre, hgb⟩ := hsl.kidTm hkl (i := i) (by omega) (by omega); refine sP (B8 rfl rfl rfl (by omega)) rfl rfl ?_)
 refine sL (A2 rfl rfl (hat _) hl) rfl rfl ?_
 refine E8 ?_
 refine sP (Q5 rfl rfl (by omega) (by omega)) rfl rfl ?_
 (have hih := ih ks[i] (List.getElem_mem (by omega)) (d - 1) G _ (by omega) hre; rw [show 41 - (d - 1) = 41 - d + 1 by omega] at hih; refine E1 rfl hih rfl rfl (fun h205 => ?_) (fun h205 => ?_))
 refine D8 ?_
 refine sP (K5 rfl rfl (by omega) (by omega)) rfl rfl ?_
 refine A1 ?_
 refine L0 (i + 1) ?_ ?_ ?_
 exact D5
 exact ⟨by omega, fun j hj hji => by (by_cases he : j = i; (subst he; assumption); exact hf j hj (by omega))⟩
 omega
 refine J7 ?_
 (rw [A0V (by omega) (by omega) (hR.trans (by assumption)), A6z (i := i) (by omega) (by assumption)]; exact ⟨rfl, rfl, rfl⟩)
 refine I6 ?_
 (rw [A0V (by omega) (by omega) (hR.trans (by assumption)), (A0U 40 13 ks _).2 (fun j hj => hf j hj (by omega))]; exact ⟨rfl, rfl, rfl⟩)
 refine aP 23 rfl (pNf rfl) rfl ?_
 refine aP 24 rfl (O4 rfl rfl) rfl ?_
 refine aP 25 rfl (R0 rfl rfl) rfl ?_
 refine aP 26 rfl (qM rfl) rfl ?_
 refine C1 27 rfl rfl rfl ?_
 refine C1 28 rfl rfl rfl ?_
 refine C1 29 rfl rfl rfl ?_
 refine C1 30 rfl rfl rfl ?_
 refine C1 31 rfl rfl rfl ?_
 refine C1 32 rfl rfl rfl ?_
 refine C1 33 rfl rfl rfl ?_
 refine C1 34 rfl rfl rfl ?_
 refine aP 35 rfl (O4 rfl rfl) rfl ?_
 refine J4 ?_
 (rw [A1u (by rw [hR]; first | omega | exact .inr (.inr (by assumption)) | exact .inr (.inr (by cases R with | false => rfl | true => exact absurd (har rfl) (by omega))))]; exact ⟨rfl, rfl, rfl⟩)
 refine aP 20 rfl (qM rfl) rfl ?_
 refine C1 21 rfl rfl rfl ?_
 refine C1 22 rfl rfl rfl ?_
 refine C1 23 rfl rfl rfl ?_
 refine aP 24 rfl (R0 rfl rfl) rfl ?_
 refine aP 25 rfl (R0 rfl rfl) rfl ?_
 refine aP 26 rfl (qM rfl) rfl ?_
 refine aP 27 rfl (B9 rfl) rfl ?_
 refine aL 28 rfl (D3 rfl rfl) rfl ?_
 refine aP 29 rfl (A0w rfl rfl (by omega)) rfl ?_
 refine aP 30 rfl (qM rfl) rfl ?_
 refine aL 31 rfl (A4 rfl rfl) rfl ?_
 refine A3 32 ?_
 refine U7 rfl rfl (hl2 (hne (by omega) (by omega))) rfl rfl rfl (fun h293 => ?_) (fun h293 => ?_)
 refine aP 33 rfl (pNt rfl) rfl ?_
 refine aP 34 rfl (O4 rfl rfl) rfl ?_
 refine aP 35 rfl (R0 rfl rfl) rfl ?_
 refine J4 ?_
 refine C0 ?_
 (refine L9 (fun (i : Nat) => ⟨[(5, .int .i64 i), (2, .pointer (some ⟨b3, 0, none⟩)), (1, .int .i64 d)], [.blk b3 [.int .i64 k, .string nm, .int .i64 num, .int .i64 tk, .slice pt tks.length ct, .int .i64 fk, .slice pf fks.length cf, .int .i64 lb, .slice p ks.length c]], G⟩) (fun i => i ≤ ks.length ∧ ∀ j (h : j < ks.length), j < i → L7 40 13 ks[j] (41 - d + 1) = true) (fun i => ks.length - i) 0 ?_ ?_ ?_)
 exact D5
 exact ⟨by omega, by omega⟩
 (rintro i ⟨hi, hf⟩)
 refine B4 ?_
 refine sB (K6 rfl rfl) rfl rfl (fun h320 => ?_) (fun h320 => ?_)
 refine A7 ?_
 refine C0 ?_
 refine B1 ?_
 (obtain ⟨b, o, e, rfl, hl, hat, hre, hgb⟩ := hsl.kidTm hkl (i := i) (by omega) (by omega); refine sP (B8 rfl rfl rfl (by omega)) rfl rfl ?_)
 refine sL (A2 rfl rfl (hat _) hl) rfl rfl ?_
 refine E8 ?_
 refine sP (Q5 rfl rfl (by omega) (by omega)) rfl rfl ?_
 (have hih := ih ks[i] (List.getElem_mem (by omega)) (d - 1) G _ (by omega) hre; rw [show 41 - (d - 1) = 41 - d + 1 by omega] at hih; refine E1 rfl hih rfl rfl (fun h337 => ?_) (fun h337 => ?_))
 refine D8 ?_
 refine sP (K5 rfl rfl (by omega) (by omega)) rfl rfl ?_
 refine A1 ?_
 refine L0 (i + 1) ?_ ?_ ?_
 exact D5
 exact ⟨by omega, fun j hj hji => by (by_cases he : j = i; (subst he; assumption); exact hf j hj (by omega))⟩
 omega
 refine J7 ?_
 (rw [A0V (by omega) (by omega) (hR.trans (by assumption)), A6z (i := i) (by omega) (by assumption)]; exact ⟨rfl, rfl, rfl⟩)
 refine I6 ?_
 (rw [A0V (by omega) (by omega) (hR.trans (by assumption)), (A0U 40 13 ks _).2 (fun j hj => hf j hj (by omega))]; exact ⟨rfl, rfl, rfl⟩)
 refine aP 33 rfl (pNf rfl) rfl ?_
 refine aP 34 rfl (O4 rfl rfl) rfl ?_
 refine aP 35 rfl (R0 rfl rfl) rfl ?_
 refine J4 ?_
 (rw [A1u (by rw [hR]; first | omega | exact .inr (.inr (by assumption)) | exact .inr (.inr (by cases R with | false => rfl | true => exact absurd (har rfl) (by omega))))]; exact ⟨rfl, rfl, rfl⟩)
def Q6 : Ty := .mk 2 []
def S7 : Ty := .mk 3 []
mutual
def N5 : Ty → Ty → Bool
 | .mk k ks, t => decide (k = t.k) && A0n ks t.ks
def A0n : List Ty → List Ty → Bool
 | [], [] => true
 | a :: xs, b :: ys => N5 a b && A0n xs ys
 | _, _ => false
end
theorem A2D (k k' : Int) (ks ks' : List Ty) : N5 (.mk k ks) (.mk k' ks') = (decide (k = k') && A0n ks ks') := by rw [N5]; rfl
mutual
theorem X6 : ∀ (a b : Ty), N5 a b = true ↔ a = b
 | .mk k ks, .mk k' ks' => by
  rw [A2D, Bool.and_eq_true, decide_eq_true_eq, A88 ks ks', Ty.mk.injEq]
theorem A88 : ∀ (xs ys : List Ty), A0n xs ys = true ↔ xs = ys
 | [], [] => by simp [A0n]
 | [], b :: ys => by simp [A0n]
 | a :: xs, [] => by simp [A0n]
 | a :: xs, b :: ys => by
  rw [A0n, Bool.and_eq_true, X6 a b, A88 xs ys, List.cons.injEq]
end
theorem A89 (a : Ty) : N5 a a = true := (X6 a a).2 rfl
theorem A31 : ∀ (xs ys : List Ty), A0n xs ys = true ↔ xs.length = ys.length ∧ ∀ i, (h : i < xs.length) → (h' : i < ys.length) → N5 xs[i] ys[i] = true
 | [], [] => by simp [A0n]
 | [], b :: ys => by simp [A0n]
 | a :: xs, [] => by simp [A0n]
 | a :: xs, b :: ys => by
  simp only [A0n, Bool.and_eq_true, A31 xs ys, List.length_cons]
  constructor
  ·rintro ⟨h1, h2, h3⟩
   refine ⟨by omega, fun i hi hi' => ?_⟩
   cases i with
   | zero => exact h1
   | succ i => exact h3 i (by simpa using hi) (by simpa using hi')
  ·rintro ⟨h1, h2⟩
   exact ⟨h2 0 (by simp) (by simp), by omega, fun i hi hi' => h2 (i + 1) (by simpa using hi) (by simpa using hi')⟩

abbrev Cx := List (ByteArray × Ty)
def W2 (cx : Cx) (nm : ByteArray) : Nat → Option Ty
 | 0 => none
 | n + 1 => match cx[n]? with
  | some b => if b.1 = nm then some b.2 else W2 cx nm n
  | none => W2 cx nm n
def P7 (cx : Cx) (nm : ByteArray) : Option Ty := W2 cx nm cx.length
theorem A32 {cx : Cx} {nm x : ByteArray} {n : Nat} {t : Ty} (h : cx[n]? = some (x, t)) (he : x = nm) : W2 cx nm (n + 1) = some t := by
 rw [W2, h]; simp only [he, if_true]
theorem A33 {cx : Cx} {nm x : ByteArray} {n : Nat} {t : Ty} (h : cx[n]? = some (x, t)) (he : ¬x = nm) : W2 cx nm (n + 1) = W2 cx nm n := by
 rw [W2, h]; simp only [he, if_false]

mutual
def U1 : Ty → Ty → Ty
 | .mk k ks, b => if k = 1 then b else if b.k = 1 then .mk k ks else .mk k (T2 ks b.ks)
def T2 : List Ty → List Ty → List Ty
 | a :: xs, b :: ys => U1 a b :: T2 xs ys
 | _, _ => []
end
theorem A1f (k k' : Int) (ks ks' : List Ty) : U1 (.mk k ks) (.mk k' ks') = if k = 1 then .mk k' ks' else if k' = 1 then .mk k ks else .mk k (T2 ks ks') := by rw [U1]; rfl
def S1 (kind : Int) (t : Ty) : Option (Ty × Ty) :=
 if t.k = kind then some (t.ks.getD 0 A6, t.ks.getD 1 A6) else if t.k = 1 then some (K1, K1) else none
def J8 (cx : Cx) (k : Int) (nm : ByteArray) (ty : Ty) (h : List Ty) : Option (List Ty × Ty) :=
 if k = 1 then (match P7 cx nm with | some t => some ([], t) | none => none)
 else if k = 2 then some ([], Q6)
 else if k = 3 ∨ k = 4 then some ([], S7)
 else if k = 5 then some ([], .mk 4 [ty, h.getD 0 A6])
 else if k = 6 then (match S1 4 (h.getD 0 A6) with | some (a, b) => if K3 (h.getD 1 A6) a = true then some ([.mk 4 [a, b], a], b) else none | none => none)
 else if k = 7 ∨ k = 8 then (if K3 (h.getD 0 A6) Q6 = true ∧ K3 (h.getD 1 A6) Q6 = true then some ([Q6, Q6], if k = 8 then S7 else Q6) else none)
 else if k = 9 then (if K3 (h.getD 0 A6) S7 = true ∧ K3 (h.getD 1 A6) (h.getD 2 A6) = true then some ([S7, U1 (h.getD 1 A6) (h.getD 2 A6), U1 (h.getD 1 A6) (h.getD 2 A6)], U1 (h.getD 1 A6) (h.getD 2 A6)) else none)
 else if k = 10 then some ([], .mk 5 [h.getD 0 A6, h.getD 1 A6])
 else if k = 13 then (if K3 (h.getD 0 A6) ty = true then some ([ty], ty) else none)
 else (match S1 5 (h.getD 0 A6) with | some (a, b) => some ([.mk 5 [a, b]], if k = 12 then b else a) | none => none)
def U2 (cx : Cx) (k : Int) (nm : ByteArray) (ty : Ty) (h : List Ty) : Option (List Ty × Ty) := match J8 cx k nm ty h with
 | some (w, t) => if H1 t = true then some (w, t) else none
 | none => none
def A0W : List Ty → List Ty → Bool
 | [], _ => true
 | a :: xs, b :: ys => N5 a b && A0W xs ys
 | _ :: _, [] => false
def J9 (cx : Cx) (k : Int) (nm : ByteArray) (ty : Ty) : Cx := if k = 5 then cx ++ [(nm, ty)] else cx
mutual
def H9 (cx : Cx) : Tm → Option Ty
 | .mk k nm num ty fr lb ks => match N6 (J9 cx k nm ty) ks with
  | none => none
  | some h => if k = 14 then (if N5 (h.getD 0 A6) fr = true then some ty else none)
   else match U2 cx k nm ty h with
    | none => none
    | some (w, t) => if A0W w h = true then some t else none
def N6 (cx : Cx) : List Tm → Option (List Ty)
 | [] => some []
 | t :: ts => match H9 cx t with
  | none => none
  | some u => match N6 cx ts with
   | none => none
   | some us => some (u :: us)
end
def B34 (e : Tm) : Option Ty := if J1 e = true then H9 [] e else none
theorem A2d : ∀ (t : Ty) (G : IM) (cells : List Value), t.small → C3 G t cells →
  Fn Tryz.prog 50 [.agg ⟨cells⟩] [] G (M9 fun G' v => ∃ cells' F, v = .agg ⟨cells'⟩ ∧ P5 (C8 G' G) t cells' F ∧ F.Nodup) := by
 refine Ty.ind fun k ks ih G cells hts hr => ?_
 simp only [Ty.small] at hts
 obtain ⟨hsm, hks⟩ := hts
 obtain ⟨p, c, es, rfl, hk, hsl, hkl⟩ := hr.open
 simp only [Ty.k, Ty.ks] at hk hsl hkl ⊢
 have hn := hsl.le
 refine B7 Tryz.func50 rfl Tryz.ntmps50 Tryz.results50 rfl ?_
 intro w0
 refine A1 ?_
 refine sE (C7 rfl rfl) rfl (fun b3 => ?_)
 refine sE (B0 rfl) rfl (fun b4 => ?_)
 refine B4 ?_
 refine sE (B0 rfl) rfl (fun b12 => ?_)
 refine O0 ?_
 refine C0 ?_
 (refine V7 25 2 ?_; refine L9 (fun (x : Nat × Option Addr × Nat × List (List Value) × List Nat × IM) => ⟨[(12, .int .i64 x.1), (11, .int .i64 ks.length), (10, .slice p ks.length c), (3, .pointer (some ⟨b12, 0, none⟩)), (2, .pointer (some ⟨b4, 0, none⟩))], [.blk b12 [.int .i64 k, .slice x.2.1 x.1 x.2.2.1], .slc x.2.1 x.2.2.1 25 2 x.1 x.2.2.2.1.flatten, .blk b4 [.int .i64 0, .slice none 0 0]], x.2.2.2.2.2⟩) (fun x => x.1 ≤ ks.length ∧ C2 G x.2.2.2.2.2 ∧ O1 (C8 x.2.2.2.2.2 G) (ks.take x.1) x.2.2.2.1 x.2.2.2.2.1 ∧ x.2.2.2.2.1.Nodup) (fun x => ks.length - x.1) (0, none, 0, [], [], G) ?_ ?_ ?_)
 (simp only [I7]; exact N8 (by repeat (first | exact E5.nil | refine E5.cons rfl ?_)) (by repeat (first | exact A0.refl | exact A0.nil | refine A0.cons (by repeat (first | exact Pk.here | apply Pk.there)) ?_)))
 exact ⟨by simp, C2.refl _, by simp [O1], by simp⟩
 (rintro ⟨i, pn, cn, es', F, Gi⟩ ⟨hi, hle, hst, hnd⟩; simp only [] at hi hle hst hnd ⊢; replace hsl := hsl.mono hle; replace hkl := hkl.mono hle)
 refine A1 ?_
 refine sB (K6 rfl rfl) rfl rfl (fun h32 => ?_) (fun h32 => ?_)
 refine B4 ?_
 refine C0 ?_
 refine A1 ?_
 (obtain ⟨b, o, p2, c2, rfl, hat, hre, hgb⟩ := hsl.kidTy hkl (i := i) (by omega) (by omega); refine sP (B8 rfl rfl rfl (by omega)) rfl rfl ?_)
 refine sL (A2 rfl rfl (hat _) rfl) rfl rfl ?_
 refine sE (B0 rfl) rfl (fun b45 => ?_)
 refine B6 ?_
 refine E3 E4 rfl ?_
 refine J5 (i := 0) (l' := [tt,ff,ff,ff,ff,ff,ff,ff]) rfl D7 (B9 rfl) rfl (by kernel_rfl) rfl rfl ?_
 refine aL 1 rfl (D3 rfl rfl) rfl ?_
 refine aL 2 rfl (A4 rfl rfl) rfl ?_
 refine A3 3 ?_
 (refine K4 rfl rfl (ih _ (List.getElem_mem (by omega)) _ _ (Ty.smallL_mem hks _ (List.getElem_mem (by omega))) hre) rfl rfl rfl (fun v G1 hle1 hh => ?_); obtain ⟨cells', F', rfl, hs', hnd'⟩ := hh; obtain ⟨p3, c3, es3, rfl, _⟩ := hs'.R.open)
 refine A3 4 ?_
 (refine E6 rfl (D4 rfl rfl rfl (by omega) (by unfold maxLen; omega) rfl) rfl rfl ?_; rintro _ ⟨b56, rfl⟩)
 refine A3 5 ?_
 refine R5 rfl rfl rfl rfl rfl rfl (fun _ _ => by repeat (first | exact Sw.here | apply Sw.there)) (P3 (by repeat first | exact mH | apply mT)) rfl (by simp [Value.oneCell']) (by unfold maxLen; omega) (by omega) rfl rfl (by repeat (first | exact A9.nil | apply A9.dep (by kernel_rfl) | apply A9.blk (by kernel_rfl) (by repeat (first | exact Pk.here | apply Pk.there)) (by repeat first | exact mH | apply mT))) (fun pn' cn' => ?_)
 refine aP 6 rfl (B9 rfl) rfl ?_
 refine A3 7 ?_
 refine R2 rfl rfl rfl rfl rfl rfl rfl rfl (by kernel_rfl) (by repeat first | exact Sw.here | apply Sw.there) (by rfl) ?_
 refine B3 ?_
 refine sP (K5 rfl rfl (by omega) (by omega)) rfl rfl ?_
 refine A1 ?_
 refine L0 (i + 1, pn', cn', es' ++ [[.int .i64 ks[i].k, .slice p3 ks[i].ks.length c3]], F ++ F', G1) ?_ ?_ ?_
 (simp only [I7]; exact N8 (by repeat (first | exact E5.nil | refine E5.cons rfl ?_)) (by repeat (first | exact A0.refl | exact A0.nil | refine A0.cons (by repeat (first | exact Pk.here | apply Pk.there)) ?_)))
 exact ⟨by omega, hle.trans hle1, O1.step hst hnd hle hle1 (by omega) hs' hnd'⟩
 (show ks.length - (i + 1) < ks.length - i; omega)
 refine I6 ?_
 (refine I5 (by repeat (first | exact Pk.here | apply Pk.there)) (fun G2 hle2 hsl2 hno2 => ?_); obtain rfl : i = ks.length := by omega)
 refine tT ?_
 refine L3 (rC rfl (A4 rfl rfl)) ?_
 (rw [List.take_length] at hst; obtain ⟨F2, hf1, hf2⟩ := P5.fin hst hnd hle hle2 hsl2 hno2 hk; exact ⟨rfl, _, F2, rfl, hf1, hf2⟩)
def B35 (t : Ty) (G : IM) : IM → Value → List A5 → Prop := M9 fun G' v => ∃ cells' F, v = .agg ⟨cells'⟩ ∧ P5 (C8 G' G) t cells' F ∧ F.Nodup
def B9T (ks : List Ty) (G : IM) : IM → Value → List A5 → Prop := M9 fun G' v => ∃ p c F, v = .slice p ks.length c ∧ A8u (C8 G' G) ks p c F ∧ F.Nodup
def A34 (t : Tm) (G : IM) : IM → Value → List A5 → Prop := M9 fun G' v => ∃ cells' F, v = .agg ⟨cells'⟩ ∧ O7 (C8 G' G) t cells' F ∧ F.Nodup
def B9U (ks : List Tm) (G : IM) : IM → Value → List A5 → Prop := M9 fun G' v => ∃ p c F, v = .slice p ks.length c ∧ A1a (C8 G' G) ks p c F ∧ F.Nodup
theorem W7 : ∀ (t : Ty) (G : IM) (cells : List Value), t.small → C3 G t cells → Fn Tryz.prog 152 [.agg ⟨cells⟩] [] G (B35 t G) := by
 refine Ty.ind fun k ks ih G cells hts hr => ?_
 simp only [Ty.small] at hts
 obtain ⟨hsm, hks⟩ := hts
 obtain ⟨p, c, es, rfl, hk, hsl, hkl⟩ := hr.open
 simp only [Ty.k, Ty.ks] at hk hsl hkl ⊢
 have hn := hsl.le
 refine B7 Tryz.func152 rfl Tryz.ntmps152 Tryz.results152 rfl ?_
 intro w0
 refine A1 ?_
 refine sE (C7 rfl rfl) rfl (fun b3 => ?_)
 refine sE (B0 rfl) rfl (fun b4 => ?_)
 refine B4 ?_
 refine sE (B0 rfl) rfl (fun b12 => ?_)
 refine D8 ?_
 refine C0 ?_
 (refine V7 25 2 ?_; refine L9 (fun (x : Nat × Option Addr × Nat × List (List Value) × List Nat × IM) => ⟨[(4, .int .i64 x.1), (3, .pointer (some ⟨b12, 0, none⟩)), (1, .pointer (some ⟨b3, 0, none⟩)), (2, .pointer (some ⟨b4, 0, none⟩))], [.blk b12 [.int .i64 k, .slice x.2.1 x.1 x.2.2.1], .slc x.2.1 x.2.2.1 25 2 x.1 x.2.2.2.1.flatten, .blk b4 [.int .i64 0, .slice none 0 0], .blk b3 [.int .i64 k, .slice p ks.length c]], x.2.2.2.2.2⟩) (fun x => x.1 ≤ ks.length ∧ C2 G x.2.2.2.2.2 ∧ O1 (C8 x.2.2.2.2.2 G) (ks.take x.1) x.2.2.2.1 x.2.2.2.2.1 ∧ x.2.2.2.2.1.Nodup) (fun x => ks.length - x.1) (0, none, 0, [], [], G) ?_ ?_ ?_)
 (simp only [I7]; exact D5)
 exact ⟨by simp, C2.refl _, by simp [O1], by simp⟩
 (rintro ⟨i, pn, cn, es', F, Gi⟩ ⟨hi, hle, hst, hnd⟩; simp only [] at hi hle hst hnd ⊢; replace hsl := hsl.mono hle; replace hkl := hkl.mono hle)
 refine B4 ?_
 refine sB (K6 rfl rfl) rfl rfl (fun h34 => ?_) (fun h34 => ?_)
 refine A7 ?_
 refine C0 ?_
 (obtain ⟨b, o, p2, c2, rfl, hat, hre, hgb⟩ := hsl.kidTy hkl (i := i) (by omega) (by omega); refine E3 E4 rfl ?_)
 refine J5 (i := 0) (l' := [tt,ff,ff,ff,ff,ff,ff,ff,ff,ff,ff,ff]) rfl D7 (B9 rfl) rfl (by kernel_rfl) rfl rfl ?_
 refine aL 1 rfl (D3 rfl rfl) rfl ?_
 refine aP 2 rfl (B9 rfl) rfl ?_
 refine aL 3 rfl (D3 rfl rfl) rfl ?_
 refine aP 4 rfl (qM rfl) rfl ?_
 refine aP 5 rfl (B8 rfl rfl rfl (by omega)) rfl ?_
 refine aL 6 rfl (A2 rfl rfl (hat _) rfl) rfl ?_
 refine A3 7 ?_
 (refine K4 rfl rfl (ih ks[i] (List.getElem_mem (by omega)) _ _ (Ty.smallL_mem hks _ (List.getElem_mem (by omega))) hre) rfl rfl rfl (fun v G1 hle1 hh => ?_); obtain ⟨cells', F', rfl, hs', hnd'⟩ := hh; obtain ⟨p3, c3, es3, rfl, _⟩ := hs'.R.open)
 refine A3 8 ?_
 (refine E6 rfl (D4 rfl rfl rfl (by omega) (by unfold maxLen; omega) rfl) rfl rfl ?_; rintro _ ⟨b53, rfl⟩)
 refine A3 9 ?_
 refine R5 rfl rfl rfl rfl rfl rfl (fun _ _ => by repeat (first | exact Sw.here | apply Sw.there)) (P3 (by repeat first | exact mH | apply mT)) rfl (by simp [Value.oneCell']) (by unfold maxLen; omega) (by omega) rfl rfl (by repeat (first | exact A9.nil | apply A9.dep (by decide +kernel) | apply A9.blk (by decide +kernel) (by repeat (first | exact Pk.here | apply Pk.there)) (by repeat first | exact mH | apply mT))) (fun pn' cn' => ?_)
 refine aP 10 rfl (B9 rfl) rfl ?_
 refine A3 11 ?_
 refine R2 rfl rfl rfl rfl rfl rfl rfl rfl (by kernel_rfl) (by repeat first | exact Sw.here | apply Sw.there) (by rfl) ?_
 refine B1 ?_
 refine sP (K5 rfl rfl (by omega) (by omega)) rfl rfl ?_
 refine A1 ?_
 refine L0 (i + 1, pn', cn', es' ++ [[.int .i64 ks[i].k, .slice p3 ks[i].ks.length c3]], F ++ F', G1) ?_ ?_ ?_
 (simp only [I7]; exact D5)
 exact ⟨by omega, hle.trans hle1, O1.step hst hnd hle hle1 (by omega) hs' hnd'⟩
 (show ks.length - (i + 1) < ks.length - i; omega)
 refine K2 ?_
 (refine I5 (by repeat (first | exact Pk.here | apply Pk.there)) (fun G2 hle2 hsl2 hno2 => ?_); obtain rfl : i = ks.length := (by omega))
 refine tT ?_
 refine L3 (rC rfl (A4 rfl rfl)) ?_
 (rw [List.take_length] at hst; obtain ⟨F2, hf1, hf2⟩ := P5.fin hst hnd hle hle2 hsl2 hno2 hk; exact ⟨rfl, _, F2, rfl, hf1, hf2⟩)
theorem A35 : ∀ (t : Tm) (G : IM) (cells : List Value), t.small → A8 G t cells → Fn Tryz.prog 94 [.agg ⟨cells⟩] [] G (A34 t G) := by
 refine Tm.ind fun k nm num ty fr lb ks ih G cells hts hr => ?_
 have hone := hr.one
 simp only [Tm.small] at hts
 obtain ⟨hnm, hty', hfr', hsm, hks⟩ := hts
 obtain ⟨tk, tks⟩ := ty
 obtain ⟨fk, fks⟩ := fr
 obtain ⟨pt, ct, pf, cf, p, c, es, rfl, hk, hnum, hlb, hty, hfr, hsl, hkl⟩ := hr.open9
 have hn := hsl.le
 have hT := W7 (.mk tk tks) G _ hty' hty
 refine B7 Tryz.func94 rfl Tryz.ntmps94 Tryz.results94 rfl ?_
 intro w0
 refine A1 ?_
 refine sE (C7 rfl rfl) rfl (fun b3 => ?_)
 refine sE (B0 rfl) rfl (fun b4 => ?_)
 refine B1 ?_
 refine sE (B0 rfl) rfl (fun b10 => ?_)
 refine B4 ?_
 (refine E7 rfl hT rfl rfl (fun v G1 hle1 hh => ?_); obtain ⟨T8, F1, rfl, hs1, hn1⟩ := hh; obtain ⟨p1, c1, rfl, _⟩ := hs1.open; have hF := W7 (.mk fk fks) G1 _ hfr' (hfr.mono hle1))
 refine D0 ?_
 (refine E7 rfl hF rfl rfl (fun v G2 hle2 hh => ?_); obtain ⟨cs2, F2, rfl, hs2, hn2⟩ := hh; obtain ⟨p2, c2, rfl, _⟩ := hs2.open; replace hsl := hsl.mono (hle1.trans hle2); replace hkl := hkl.mono (hle1.trans hle2))
 refine J7 ?_
 refine C0 ?_
 (refine V7 28 9 ?_; refine L9 (fun (x : Nat × Option Addr × Nat × List (List Value) × List Nat × IM) => ⟨[(4, .int .i64 x.1), (3, .pointer (some ⟨b10, 0, none⟩)), (1, .pointer (some ⟨b3, 0, none⟩)), (2, .pointer (some ⟨b4, 0, none⟩))], [.blk b10 [.int .i64 k, .string nm, .int .i64 num, .int .i64 tk, .slice p1 tks.length c1, .int .i64 fk, .slice p2 fks.length c2, .int .i64 lb, .slice x.2.1 x.1 x.2.2.1], .slc x.2.1 x.2.2.1 28 9 x.1 x.2.2.2.1.flatten, .blk b4 [.int .i64 0, .string ⟨⟨[]⟩⟩, .int .i64 0, .int .i64 0, .slice none 0 0, .int .i64 0, .slice none 0 0, .int .i64 0, .slice none 0 0], .blk b3 [.int .i64 k, .string nm, .int .i64 num, .int .i64 tk, .slice pt tks.length ct, .int .i64 fk, .slice pf fks.length cf, .int .i64 lb, .slice p ks.length c]], x.2.2.2.2.2⟩) (fun x => x.1 ≤ ks.length ∧ C2 G2 x.2.2.2.2.2 ∧ N2 (C8 x.2.2.2.2.2 G2) (ks.take x.1) x.2.2.2.1 x.2.2.2.2.1 ∧ x.2.2.2.2.1.Nodup) (fun x => ks.length - x.1) (0, none, 0, [], [], G2) ?_ ?_ ?_)
 (simp only [I7]; exact D5)
 exact ⟨by simp, C2.refl _, by simp [N2], by simp⟩
 (rintro ⟨i, pn, cn, es', F, Gi⟩ ⟨hi, hle, hst, hnd⟩; simp only [] at hi hle hst hnd ⊢; replace hsl := hsl.mono hle; replace hkl := hkl.mono hle)
 refine B4 ?_
 refine sB (K6 rfl rfl) rfl rfl (fun h56 => ?_) (fun h56 => ?_)
 refine A7 ?_
 refine C0 ?_
 (obtain ⟨b, o, e, rfl, hl, hat, hre, hgb⟩ := hsl.kidTm hkl (i := i) (by omega) (by omega); have hone := hre.one; refine E3 E4 rfl ?_)
 refine J5 (i := 0) (l' := [tt,ff,ff,ff,ff,ff,ff,ff,ff,ff,ff,ff]) rfl D7 (B9 rfl) rfl (by kernel_rfl) rfl rfl ?_
 refine aL 1 rfl (D3 rfl rfl) rfl ?_
 refine aP 2 rfl (B9 rfl) rfl ?_
 refine aL 3 rfl (D3 rfl rfl) rfl ?_
 refine aP 4 rfl (qM rfl) rfl ?_
 refine aP 5 rfl (B8 rfl rfl rfl (by omega)) rfl ?_
 refine aL 6 rfl (A2 rfl rfl (hat _) hl) rfl ?_
 refine A3 7 ?_
 (refine K4 rfl rfl (ih ks[i] (List.getElem_mem (by omega)) _ _ (Tm.smallL_mem hks _ (List.getElem_mem (by omega))) hre) rfl rfl rfl (fun v G3 hle3 hh => ?_); obtain ⟨cells', F', rfl, hs', hnd'⟩ := hh; obtain ⟨qt, dt, et', qf, df, ef', q3, d3, es3, rfl, _⟩ := hs'.R.open)
 refine A3 8 ?_
 (refine E6 rfl (D4 rfl rfl rfl (by omega) (by unfold maxLen; omega) rfl) rfl rfl ?_; rintro _ ⟨b75, rfl⟩)
 refine A3 9 ?_
 refine R5 rfl rfl rfl rfl rfl rfl (fun _ _ => by repeat (first | exact Sw.here | apply Sw.there)) (P3 (by repeat first | exact mH | apply mT)) rfl (by simp [Value.oneCell']) (by unfold maxLen; omega) (by omega) rfl rfl (by repeat (first | exact A9.nil | apply A9.dep (by decide +kernel) | apply A9.blk (by decide +kernel) (by repeat (first | exact Pk.here | apply Pk.there)) (by repeat first | exact mH | apply mT))) (fun pn' cn' => ?_)
 refine aP 10 rfl (B9 rfl) rfl ?_
 refine A3 11 ?_
 refine R2 rfl rfl rfl rfl rfl rfl rfl rfl (by kernel_rfl) (by repeat first | exact Sw.here | apply Sw.there) (by rfl) ?_
 refine B1 ?_
 refine sP (K5 rfl rfl (by omega) (by omega)) rfl rfl ?_
 refine A1 ?_
 refine L0 (i + 1, pn', cn', es' ++ [[.int .i64 ks[i].k, .string ks[i].nm, .int .i64 ks[i].num, .int .i64 ks[i].ty.k, .slice qt ks[i].ty.ks.length dt, .int .i64 ks[i].fr.k, .slice qf ks[i].fr.ks.length df, .int .i64 ks[i].lb, .slice q3 ks[i].ks.length d3]], F ++ F', G3) ?_ ?_ ?_
 (simp only [I7]; exact D5)
 exact ⟨by omega, hle.trans hle3, N2.step hst hnd hle hle3 (by omega) hs' hnd'⟩
 (show ks.length - (i + 1) < ks.length - i; omega)
 refine K2 ?_
 (refine I5 (by repeat (first | exact Pk.here | apply Pk.there)) (fun G4 hle4 hsl4 hno4 => ?_); obtain rfl : i = ks.length := (by omega))
 refine tT ?_
 refine L3 (rC rfl (A4 rfl rfl)) ?_
 (rw [List.take_length] at hst; obtain ⟨F3, hf1, hf2⟩ := A1a.fin hst hnd hle hle4 hsl4 hno4; obtain ⟨F5, hg1, hg2⟩ := O7.mk3 (nm := nm) hk hnum hlb hle1 hle2 (hle.trans hle4) hs1 hn1 hs2 hn2 hf1 hf2; exact ⟨rfl, _, F5, rfl, hg1, hg2⟩)
mutual
def A0o (g : Tm → Tm) : Tm → Tm
 | .mk k nm num ty fr lb ks => g (.mk k nm num ty fr lb (Y7 g ks))
def Y7 (g : Tm → Tm) : List Tm → List Tm
 | [] => []
 | t :: ts => A0o g t :: Y7 g ts
end
theorem A6A (g : Tm → Tm) : ∀ ks, Y7 g ks = ks.map (A0o g)
 | [] => rfl
 | t :: ts => by rw [Y7, A6A g ts, List.map_cons]
mutual
theorem A9a : ∀ t, A0o id t = t
 | .mk k nm num ty fr lb ks => by rw [A0o, A9b ks]; rfl
theorem A9b : ∀ ks, Y7 id ks = ks
 | [] => rfl
 | t :: ts => by rw [Y7, A9a t, A9b ts]
end
theorem O7.mk3k {G G1 G2 G3 : IM} {k : Int} {nm : ByteArray} {num : Int} {ty fr : Ty} {lb : Int} {ks : List Tm} {tc fc : List Value} {p : Option Addr} {c : Nat} {F1 F2 F3 : List Nat} (hk : F8 k) (hnum : F8 num) (hlb : F8 lb)
  (hl1 : C2 G G1) (hl2 : C2 G1 G2) (hl3 : C2 G2 G3) (h3 : A1a (C8 G1 G) ks p c F3) (n3 : F3.Nodup) (h1 : P5 (C8 G2 G1) ty tc F1) (n1 : F1.Nodup) (h2 : P5 (C8 G3 G2) fr fc F2) (n2 : F2.Nodup) :
  ∃ F, O7 (C8 G3 G) (.mk k nm num ty fr lb ks) ([.int .i64 k, .string nm, .int .i64 num] ++ tc ++ fc ++ [.int .i64 lb, .slice p ks.length c]) F ∧ F.Nodup := by
 obtain ⟨es, Fs, e1, e2, rfl, e4⟩ := h3
 have i3 : ∀ b ∈ K0 p ++ Fs, C8 G1 G b ≠ none := by
  intro b hb
  rcases List.mem_append.1 hb with hb | hb
  ·exact e4 b hb
  ·exact e2.inG b hb
 have a1 : C2 (C8 G1 G) (C8 G3 G) := C8.mono (hl2.trans hl3)
 have a2 : C2 (C8 G2 G1) (C8 G3 G) := fun b l h => C8.mono hl3 b l (C8.anti hl1 b l h)
 have a3 : C2 (C8 G3 G2) (C8 G3 G) := C8.anti (hl1.trans hl2)
 refine ⟨F1 ++ (F2 ++ (K0 p ++ Fs)), ?_, ?_⟩
 ·simp only [O7]
  exact ⟨tc, fc, p, c, es, F1, F2, Fs, rfl, hk, hnum, hlb, h1.mono a2, h2.mono a3, e1.mono a1, e2.mono a1, rfl, A25 a1 e4⟩
 ·rw [List.nodup_append, List.nodup_append]
  refine ⟨n1, ⟨n2, n3, ?_⟩, ?_⟩
  ·rintro x hx y hy rfl
   exact A2C (A25 (C8.mono hl2) i3) h2.inG x hy x hx rfl
  ·rintro x hx y hy rfl
   rcases List.mem_append.1 hy with hy | hy
   ·exact A2C (A25 (C8.anti hl1) h1.inG) h2.inG x hx x hy rfl
   ·exact A2C i3 h1.inG x hy x hx rfl
mutual
def mOk (Q : Tm → Prop) (g : Tm → Tm) : Tm → Prop
 | .mk k nm num ty fr lb ks => A0A Q g ks ∧ Q (.mk k nm num ty fr lb (Y7 g ks))
def A0A (Q : Tm → Prop) (g : Tm → Tm) : List Tm → Prop
 | [] => True
 | t :: ts => mOk Q g t ∧ A0A Q g ts
end
theorem A9c {Q : Tm → Prop} {g : Tm → Tm} : ∀ {ts : List Tm}, A0A Q g ts → ∀ t ∈ ts, mOk Q g t
 | [], _, t, h => by simp at h
 | t' :: ts, h, t, ht => by
  simp only [A0A] at h
  rcases List.mem_cons.1 ht with rfl | ht
  ·exact h.1
  ·exact A9c h.2 t ht
mutual
theorem A9d (g : Tm → Tm) : ∀ t, mOk (fun _ => True) g t
 | .mk k nm num ty fr lb ks => by rw [mOk]; exact ⟨A9e g ks, trivial⟩
theorem A9e (g : Tm → Tm) : ∀ ts, A0A (fun _ => True) g ts
 | [] => by rw [A0A]; trivial
 | t :: ts => by rw [A0A]; exact ⟨A9d g t, A9e g ts⟩
end
def A6B (g : Tm → Tm) (Q : Tm → Prop) (fid : FuncId) (us cs : List Value) : Prop := ∀ (t : Tm) (G0 G1 : IM) (cells : List Value) (F : List Nat), Q t → C2 G0 G1 → O7 (C8 G1 G0) t cells F → F.Nodup →
 Fn Tryz.prog fid (us ++ [.agg ⟨cells⟩] ++ cs) [] G1 (M9 fun G2 v => ∃ cells' F', v = .agg ⟨cells'⟩ ∧ O7 (C8 G2 G0) (g t) cells' F' ∧ F'.Nodup)
theorem A9f (g : Tm → Tm) (Q : Tm → Prop) (fid : FuncId) [B5 Tryz.prog fid] (us cs : List Value) (hg : A6B g Q fid us cs) : ∀ (t : Tm) (G : IM) (cells : List Value), mOk Q g t → t.small → A8 G t cells →
  Fn Tryz.prog 76 [.agg ⟨cells⟩, .func (.func fid) ⟨us⟩ ⟨cs⟩] [] G (A34 (A0o g t) G) := by
 refine Tm.ind fun k nm num ty fr lb ks ih G cells hmo hts hr => ?_
 have hone := hr.one
 simp only [mOk] at hmo
 obtain ⟨hmoL, hQ⟩ := hmo
 simp only [Tm.small] at hts
 obtain ⟨hnm, hty', hfr', hsm, hks⟩ := hts
 obtain ⟨tk, tks⟩ := ty
 obtain ⟨fk, fks⟩ := fr
 obtain ⟨pt, ct, pf, cf, p, c, es, rfl, hk, hnum, hlb, hty, hfr, hsl, hkl⟩ := hr.open9
 have hn := hsl.le
 have hlen : (Y7 g ks).length = ks.length := by rw [A6A, List.length_map]
 have hget : ∀ i (h : i < ks.length) (h' : i < (Y7 g ks).length), (Y7 g ks)[i] = A0o g ks[i] := fun i h h' => by simp [A6A]
 refine B7 Tryz.func76 rfl Tryz.ntmps76 Tryz.results76 rfl ?_
 intro w0
 refine A1 ?_
 refine sE (C7 rfl rfl) rfl (fun b3 => ?_)
 refine sE (B0 rfl) rfl (fun b4 => ?_)
 refine J7 ?_
 refine C0 ?_
 (refine V7 28 9 ?_; refine L9 (fun (x : Nat × Option Addr × Nat × List (List Value) × List Nat × IM) => ⟨[(11, .int .i64 x.1), (10, .int .i64 ks.length), (9, .slice p ks.length c), (5, .slice x.2.1 x.1 x.2.2.1), (2, .pointer (some ⟨b3, 0, none⟩)), (1, .func (.func fid) ⟨us⟩ ⟨cs⟩), (4, .pointer (some ⟨b4, 0, none⟩))], [.slc x.2.1 x.2.2.1 28 9 x.1 x.2.2.2.1.flatten, .blk b4 [.int .i64 0, .string ⟨⟨[]⟩⟩, .int .i64 0, .int .i64 0, .slice none 0 0, .int .i64 0, .slice none 0 0, .int .i64 0, .slice none 0 0], .blk b3 [.int .i64 k, .string nm, .int .i64 num, .int .i64 tk, .slice pt tks.length ct, .int .i64 fk, .slice pf fks.length cf, .int .i64 lb, .slice p ks.length c]], x.2.2.2.2.2⟩) (fun x => x.1 ≤ ks.length ∧ C2 G x.2.2.2.2.2 ∧ N2 (C8 x.2.2.2.2.2 G) ((Y7 g ks).take x.1) x.2.2.2.1 x.2.2.2.2.1 ∧ x.2.2.2.2.1.Nodup) (fun x => ks.length - x.1) (0, none, 0, [], [], G) ?_ ?_ ?_)
 (simp only [I7]; exact D5)
 exact ⟨by simp, C2.refl _, by simp [N2], by simp⟩
 (rintro ⟨i, pn, cn, es', F, Gi⟩ ⟨hi, hle, hst, hnd⟩; simp only [] at hi hle hst hnd ⊢; replace hsl := hsl.mono hle; replace hkl := hkl.mono hle)
 refine A1 ?_
 refine sB (K6 rfl rfl) rfl rfl (fun h28 => ?_) (fun h28 => ?_)
 refine B4 ?_
 refine C0 ?_
 refine A1 ?_
 (obtain ⟨b, o, e, rfl, hl, hat, hre, hgb⟩ := hsl.kidTm hkl (i := i) (by omega) (by omega); have hone := hre.one; refine sP (B8 rfl rfl rfl (by omega)) rfl rfl ?_)
 refine sL (A2 rfl rfl (hat _) hl) rfl rfl ?_
 refine sE (B0 rfl) rfl (fun b41 => ?_)
 refine sS rfl rfl rfl hl hone rfl ?_ (hu := by exact C9 hl.symm)
 refine B3 ?_
 refine sL (A2 rfl rfl (B2 (by repeat first | exact mH | apply mT)) (by assumption)) rfl rfl ?_
 refine E8 ?_
 (refine E7 rfl (ih ks[i] (List.getElem_mem (by omega)) _ _ (A9c hmoL _ (List.getElem_mem (by omega))) (Tm.smallL_mem hks _ (List.getElem_mem (by omega))) hre) rfl rfl (fun v G3 hle3 hh => ?_); obtain ⟨cells', F', rfl, hs', hnd'⟩ := hh; rw [← hget i (by omega) (by omega)] at hs'; have hlc := hs'.R.len; have hoc := hs'.R.one)
 (obtain ⟨v1, v2, v3, v4, v5, v6, v7, v8, v9, rfl⟩ : ∃ v1 v2 v3 v4 v5 v6 v7 v8 v9, cells' = [v1, v2, v3, v4, v5, v6, v7, v8, v9] := by obtain ⟨_, _, _, _, _, _, _, _, _, rfl, _⟩ := hs'.R.open; exact ⟨_, _, _, _, _, _, _, _, _, rfl⟩)
 (refine M5 (D4 rfl rfl rfl (by omega) (by unfold maxLen; omega) rfl) rfl ?_; rintro _ ⟨b51, rfl⟩)
 refine A4R rfl rfl rfl rfl rfl (fun _ _ => by repeat (first | exact Sw.here | apply Sw.there)) (P3 (by repeat first | exact mH | apply mT)) rfl (fun u hu => List.all_eq_true.1 hoc u hu) (by unfold maxLen; omega) (by omega) rfl (fun pn' cn' => ?_)
 refine B1 ?_
 refine sP (K5 rfl rfl (by omega) (by omega)) rfl rfl ?_
 refine A1 ?_
 refine L0 (i + 1, pn', cn', es' ++ [[v1, v2, v3, v4, v5, v6, v7, v8, v9]], F ++ F', G3) ?_ ?_ ?_
 (simp only [I7]; exact D5)
 exact ⟨by omega, hle.trans hle3, N2.step hst hnd hle hle3 (by omega) hs' hnd'⟩
 (show ks.length - (i + 1) < ks.length - i; omega)
 refine J2 ?_
 (obtain rfl : i = ks.length := (by omega); refine A1Q (by repeat (first | exact Pk.here | apply Pk.there)) (fun G2 hle2 hsl2 hno2 => ?_); rw [← hlen, List.take_length] at hst; rw [← hlen] at hsl2; obtain ⟨F3, hf1, hf2⟩ := A1a.fin hst hnd hle hle2 hsl2 hno2; have hleG := hle.trans hle2; have hT := A2d (.mk tk tks) G2 _ hty' (hty.mono hleG); refine E3 E4 rfl ?_)
 refine J5 (i := 0) (l' := [tt,ff,ff,ff,ff,ff,ff,ff,ff,ff,ff,ff,ff]) rfl D7 (B9 rfl) rfl (by kernel_rfl) rfl rfl ?_
 refine aL 1 rfl (A4 rfl rfl) rfl ?_
 refine aP 3 rfl (B9 rfl) rfl ?_
 refine aL 4 rfl (A4 rfl rfl) rfl ?_
 refine aP 6 rfl (qM rfl) rfl ?_
 refine A3 2 ?_
 (refine K4 rfl rfl hT rfl rfl rfl (fun v G4 hle4 hh => ?_); obtain ⟨T8, F1, rfl, hs1, hn1⟩ := hh; obtain ⟨p1, c1, rfl, _⟩ := hs1.open; have hF := A2d (.mk fk fks) G4 _ hfr' (hfr.mono (hleG.trans hle4)))
 refine aP 7 rfl (B9 rfl) rfl ?_
 refine A3 5 ?_
 (refine K4 rfl rfl hF rfl rfl rfl (fun v G5 hle5 hh => ?_); obtain ⟨cs2, F2, rfl, hs2, hn2⟩ := hh; obtain ⟨p2, c2, rfl, _⟩ := hs2.open; obtain ⟨F6, hg1, hg2⟩ := O7.mk3k (nm := nm) hk hnum hlb hleG hle4 hle5 hf1 hf2 hs1 hn1 hs2 hn2; rw [hlen] at hg1; have hch := hg _ G G5 _ F6 hQ (hleG.trans (hle4.trans hle5)) hg1 hg2)
 refine A3 8 ?_
 refine R2 rfl rfl rfl rfl rfl rfl rfl rfl (by kernel_rfl) (by repeat first | exact Sw.here | apply Sw.there) (by rfl) ?_
 refine aP 9 rfl (B9 rfl) rfl ?_
 refine A3 10 ?_
 refine R2 rfl rfl rfl rfl rfl rfl rfl rfl (by kernel_rfl) (by repeat first | exact Sw.here | apply Sw.there) (by rfl) ?_
 refine aP 11 rfl (B9 rfl) rfl ?_
 refine A3 12 ?_
 refine R2 rfl rfl rfl rfl rfl rfl rfl rfl (by kernel_rfl) (by repeat first | exact Sw.here | apply Sw.there) (by rfl) ?_
 refine A7 ?_
 (refine M5 (A4K rfl rfl hch (List.Perm.refl _) rfl) rfl ?_; rintro _ ⟨v, G7, outs, rfl, hle7, rfl, cells7, F7, rfl, hs7, hn7⟩; have hl7 := hs7.R.len; have ho7 := hs7.R.one)
 refine sS rfl rfl rfl hl7 ho7 rfl ?_ (hu := by exact C9 hl7.symm)
 refine B6 ?_
 refine L3 (rC rfl (A2 rfl rfl (B2 (by repeat first | exact mH | apply mT)) hl7)) ?_
 (rw [A0o]; exact ⟨rfl, cells7, F7, rfl, hs7, hn7⟩)
theorem B36 (G : IM) (cells : List Value) (hl : cells.length = 9) (hone : cells.all (·.oneCell') = true) : Fn Tryz.prog 192 [.agg ⟨cells⟩] [] G (H8 (.agg ⟨cells⟩) G) := by
 refine B7 Tryz.func192 rfl Tryz.ntmps192 Tryz.results192 rfl ?_
 intro w0
 refine A1 ?_
 refine sE (C7 rfl rfl) rfl (fun b3 => ?_)
 refine sE (B0 rfl) rfl (fun b4 => ?_)
 refine B3 ?_
 refine sL (A2 rfl rfl (B2 (by repeat first | exact mH | apply mT)) (by assumption)) rfl rfl ?_
 refine sS rfl rfl rfl hl hone rfl ?_ (hu := by exact C9 hl.symm)
 refine B6 ?_
 refine L3 (rC rfl (A2 rfl rfl (B2 (by repeat first | exact mH | apply mT)) hl)) ?_
 exact ⟨rfl, rfl, rfl⟩
theorem B37 : A6B id (fun _ => True) 192 [] [] := fun t G0 G1 cells F _ hle hs hn =>
 (B36 G1 cells hs.R.len hs.R.one).mono fun G' v outs _ ⟨h1, h2, h3⟩ => ⟨h3, cells, F, h2, by rw [h1]; exact hs, hn⟩
theorem A27 (t : Tm) (G : IM) (cells : List Value) (hts : t.small) (hr : A8 G t cells) : Fn Tryz.prog 140 [.agg ⟨cells⟩] [] G (A34 t G) := by
 have hl := hr.len
 have hone := hr.one
 have hM := A9f id (fun _ => True) 192 [] [] B37 t G cells (A9d _ t) hts hr
 rw [A9a] at hM
 refine B7 Tryz.func140 rfl Tryz.ntmps140 Tryz.results140 rfl ?_
 intro w0
 refine A1 ?_
 refine sE (C7 rfl rfl) rfl (fun b3 => ?_)
 refine sE (B0 rfl) rfl (fun b4 => ?_)
 refine B3 ?_
 refine sL (A2 rfl rfl (B2 (by repeat first | exact mH | apply mT)) (by assumption)) rfl rfl ?_
 (refine E7 rfl hM rfl rfl (fun v G3 hle3 hh => ?_); obtain ⟨cells', F', rfl, hs', hnd'⟩ := hh; have hl' := hs'.R.len; have ho' := hs'.R.one)
 refine sS rfl rfl rfl hl' ho' rfl ?_ (hu := by exact C9 hl'.symm)
 refine B6 ?_
 refine L3 (rC rfl (A2 rfl rfl (B2 (by repeat first | exact mH | apply mT)) hl')) ?_
 exact ⟨rfl, cells', F', rfl, hs', hnd'⟩
theorem B38 {D N : Int} {k : Int} {nm : ByteArray} {num : Int} {ty fr : Ty} {lb : Int} {ks : List Tm} {d : Int} (h : L7 D N (.mk k nm num ty fr lb ks) d = true) : d ≤ D ∧ ∀ i, (hi : i < ks.length) → L7 D N ks[i] (d + 1) = true := by
 rw [L7] at h
 simp only [Bool.and_eq_true, decide_eq_true_eq] at h
 exact ⟨h.1.1.1, (A0U D N ks _).1 h.2⟩
mutual
theorem A6C (M D N : Int) : ∀ (t : Tm) (deep c : Int), c ≤ M → ((T1 M D N t deep c).1 = true ↔ L7 D N t deep = true ∧ c + D2 t ≤ M)
 | .mk k nm num ty fr lb ks, deep, c, hc => by
  rw [T1, D2]
  by_cases h : c + 1 > M ∨ deep > D ∨ k = N ∨ W1 k nm num ty fr lb ks.length = false
  ·rw [if_pos h]
   constructor
   ·intro h; cases h
   ·rintro ⟨h1, h2⟩
    rcases h with h | h
    ·omega
    ·rw [A1u h] at h1; cases h1
  ·rw [if_neg h]
   have hn : W1 k nm num ty fr lb ks.length = true := by
    cases hx : W1 k nm num ty fr lb ks.length with
    | true => rfl
    | false => exact absurd (Or.inr (Or.inr (Or.inr hx))) h
   rw [A0V (by omega) (by omega) hn, A9g M D N ks (deep + 1) (c + 1) (by omega)]
   constructor
   ·rintro ⟨a, b⟩; exact ⟨a, by omega⟩
   ·rintro ⟨a, b⟩; exact ⟨a, by omega⟩
theorem A9g (M D N : Int) : ∀ (ts : List Tm) (deep c : Int), c ≤ M → ((U8 M D N ts deep c).1 = true ↔ L5 D N ts deep = true ∧ c + E0 ts ≤ M)
 | [], deep, c, hc => by simp [U8, L5, E0]; omega
 | t :: ts, deep, c, hc => by
  have h0 := A6C M D N t deep c hc
  rw [U8, L5, E0, Bool.and_eq_true]
  by_cases h : (T1 M D N t deep c).1 = true
  ·rw [if_pos h, A8A M D N t deep c h, A9g M D N ts deep _ (h0.1 h).2]
   have := h0.1 h
   constructor
   ·rintro ⟨a, b⟩; exact ⟨⟨this.1, a⟩, by omega⟩
   ·rintro ⟨⟨_, a⟩, b⟩; exact ⟨a, by omega⟩
  ·rw [if_neg h]
   constructor
   ·intro h'; cases h'
   ·rintro ⟨⟨a, _⟩, b⟩
    exact absurd (h0.2 ⟨a, by omega⟩) h
end
theorem A28 (t : Tm) : J1 t = true ↔ L7 40 13 t 1 = true ∧ D2 t ≤ 200 := by
 have := A6C 200 40 13 t 1 0 (by omega)
 rw [J1, this]
 constructor
 ·rintro ⟨a, b⟩; exact ⟨a, by omega⟩
 ·rintro ⟨a, b⟩; exact ⟨a, by omega⟩
theorem A9h (D N : Int) : ∀ (t : Tm) (d : Int) (G : IM) (cells : List Value), d ≤ 40 → L7 D N t (D + 1 - d) = true → D2 t ≤ 4294967296 → A8 G t cells →
  Fn Tryz.prog 120 [.agg ⟨cells⟩, .int .i64 d] [] G (H8 (.int .i64 (D2 t : Int)) G) := by
 refine Tm.ind fun k nm num ty fr lb ks ih d G cells hd hv hcnt hr => ?_
 have hone := hr.one
 obtain ⟨hv1, hv2⟩ := B38 hv
 obtain ⟨tk, tks⟩ := ty
 obtain ⟨fk, fks⟩ := fr
 obtain ⟨pt, ct, pf, cf, p, c, es, rfl, hk, hnum, hlb, hty, hfr, hsl, hkl⟩ := hr.open9
 have hn := hsl.le
 clear hr
 rw [D2] at hcnt ⊢
 refine B7 Tryz.func120 rfl Tryz.ntmps120 Tryz.results120 rfl ?_
 intro w0
 refine A1 ?_
 refine sE (C7 rfl rfl) rfl (fun b3 => ?_)
 refine K2 ?_
 refine C0 ?_
 (refine L9 (fun (i : Nat) => ⟨[(6, .int .i64 i), (5, .int .i64 ((E0 (ks.take i) + 1 : Nat) : Int)), (2, .pointer (some ⟨b3, 0, none⟩)), (1, .int .i64 d)], [.blk b3 [.int .i64 k, .string nm, .int .i64 num, .int .i64 tk, .slice pt tks.length ct, .int .i64 fk, .slice pf fks.length cf, .int .i64 lb, .slice p ks.length c]], G⟩) (fun i => i ≤ ks.length) (fun i => ks.length - i) 0 ?_ ?_ ?_)
 exact D5
 exact Nat.zero_le _
 (rintro i hi)
 refine B4 ?_
 refine sB (K6 rfl rfl) rfl rfl (fun h30 => ?_) (fun h30 => ?_)
 refine A1 ?_
 refine sP (A3I rfl rfl (by omega)) rfl rfl ?_
 refine B4 ?_
 refine C0 ?_
 refine B1 ?_
 (obtain ⟨b, o, e, rfl, hl, hat, hre, hgb⟩ := hsl.kidTm hkl (i := i) (by omega) (by omega); have htk := A8x (ks := ks) (i := i) (by omega); refine sP (B8 rfl rfl rfl (by omega)) rfl rfl ?_)
 refine sL (A2 rfl rfl (hat _) hl) rfl rfl ?_
 refine E8 ?_
 refine sP (Q5 rfl rfl (by omega) (by omega)) rfl rfl ?_
 (have hvk := hv2 i (by omega); rw [show D + 1 - d + 1 = D + 1 - (d - 1) by omega] at hvk; refine I3 rfl (ih ks[i] (List.getElem_mem (by omega)) (d - 1) G _ (by omega) hvk (by omega) hre) rfl rfl ?_)
 refine sP (K5 rfl rfl (by omega) (by omega)) rfl rfl ?_
 refine A7 ?_
 refine sP (K5 rfl rfl (by omega) (by omega)) rfl rfl ?_
 refine A1 ?_
 (refine L0 (i + 1) ?_ ?_ ?_; rw [show ((E0 (ks.take (i + 1)) + 1 : Nat) : Int) = ((E0 (ks.take i) + 1 : Nat) : Int) + (D2 ks[i] : Int) from by rw [A8y (by omega)]; omega])
 exact D5
 omega
 omega
 refine A0x ?_
 (obtain rfl : i = ks.length := (by omega); rw [List.take_length]; exact ⟨rfl, rfl, rfl⟩)
theorem A6D (t : Tm) (G : IM) (cells : List Value) (hcnt : D2 t ≤ 4294967296) (hr : A8 G t cells) :
  Fn Tryz.prog 51 [.agg ⟨cells⟩] [] G (H8 (.bool (J1 t)) G) := by
 have hl := hr.len
 have hv := B33 t 40 G cells (by omega) hr
 have hc := fun h => A9h 40 13 t 40 G cells (by omega) h hcnt hr
 have hi := A28 t
 obtain ⟨R, hR⟩ : ∃ R, J1 t = R := ⟨_, rfl⟩
 rw [hR] at hi ⊢
 refine B7 Tryz.func51 rfl Tryz.ntmps51 Tryz.results51 rfl ?_
 intro w0
 refine A1 ?_
 refine sE (C7 rfl rfl) rfl (fun b3 => ?_)
 refine B1 ?_
 refine sL (A2 rfl rfl (B2 (by repeat first | exact mH | apply mT)) (by assumption)) rfl rfl ?_
 refine E1 rfl (hv) rfl rfl (fun h10 => ?_) (fun h10 => ?_)
 refine E8 ?_
 refine sL (A2 rfl rfl (B2 (by repeat first | exact mH | apply mT)) (by assumption)) rfl rfl ?_
 refine I3 rfl (hc (by assumption)) rfl rfl ?_
 refine sB (A0t rfl rfl) rfl rfl (fun h14 => ?_) (fun h14 => ?_)
 refine A7 ?_
 exact ⟨rfl, by rw [hi.2 ⟨by assumption, by omega⟩], rfl⟩
 refine A7 ?_
 exact ⟨rfl, by (cases R with | false => rfl | true => (exfalso; have h0 := hi.1 rfl; first | omega | simp_all)), rfl⟩
 refine J2 ?_
 exact ⟨rfl, by (cases R with | false => rfl | true => (exfalso; have h0 := hi.1 rfl; first | omega | simp_all)), rfl⟩
end Gw
end Go.Proofs.YtfpgncjeejickaaGreatDoor
