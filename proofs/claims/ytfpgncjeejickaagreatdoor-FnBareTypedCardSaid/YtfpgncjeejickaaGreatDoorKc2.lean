/-
  The tests of terms. The scan of a term, CastValid, TermValid. The reference model's tests of types and nodes: they compute the same plain functions. Fresh data taken back into the call's own hands, and given up again; sizes. How high and how wide types are. The reference model's scans of types. The reference model's consistency of types. The reference model's tests of nodes. The reference model's scan of terms with casts. Types of terms with casts, in plain words over trees: what a node wants of its operands, and what it is. The laws' copies of types and terms. Copies of types and terms: the reference model's, the program's, the laws' of paths. Terms each node of which is changed, operands first; own copies. The reference model's count of nodes, its CastValid.
-/
import Derived.Test.YtfpgncjeejickaaGreatDoorKc1
set_option linter.unusedVariables false
set_option linter.unusedSimpArgs false
set_option maxHeartbeats 0
set_option maxRecDepth 100000
set_option synthInstance.maxSize 4000
set_option synthInstance.maxHeartbeats 0
namespace Go.Proofs.YtfpgncjeejickaaGreatDoor
open Go Go.RowKit
namespace Gw
theorem B2M (k : Int) (G : IM) (hk : E6 k) : Fn Tryz.prog 170 [.int .i64 k] [] G (H0 (.int .i64 (C7 k)) G) := by
 unfold E6 at hk
 refine B2 Tryz.func170 rfl Tryz.ntmps170 Tryz.results170 rfl ?_
 intro w0
 refine D4 ?_
 refine D8 rfl (A1f _ _ _ _) rfl rfl (fun h10 => ?_) (fun h10 => ?_)
 refine sQ (Z3 rfl) rfl (sD (nS (cF rfl (tK (nS (tS (tR ?_)))))))
 (refine L9 (C9 rfl rfl rfl (by omega) (by unfold maxLen; omega) rfl) rfl ?_; rintro _ ⟨b19, rfl⟩)
 refine sQ (qM rfl) rfl ?_
 (have hkk : 1 ≤ k ∧ k ≤ 14 := A2Q (by assumption); refine sP (P5 rfl rfl (by omega) (by omega)) rfl rfl ?_)
 refine sP (A7o rfl rfl rfl (by omega) (by omega)) rfl rfl ?_
 refine sL (A0p rfl rfl (B1G (by repeat first | exact mH | apply mT) (B2c (by rw [Nat.zero_add, Nat.mul_one]; exact B2b hkk)))) rfl rfl ?_
 refine sQ (qA rfl) rfl (sD (nS (tT (D9 (rT rfl) ?_))))
 exact ⟨rfl, rfl, rfl⟩
 refine N6 ?_
 exact ⟨rfl, by rw [A4v (A5T (by assumption))], rfl⟩
theorem B2N (k : Int) (nm : ByteArray) (num : Int) (ty fr : Ty) (lb : Int) (ks : List Tm) (G : IM) (cells : List Value) (hr : A8 G (.mk k nm num ty fr lb ks) cells) :
  Fn Tryz.prog 125 [.agg ⟨cells⟩] [] G (H0 (.bool (T8 k nm num ty fr lb ks.length)) G) := by
 obtain ⟨tk, tks⟩ := ty
 obtain ⟨fk, fks⟩ := fr
 obtain ⟨pt, ct, pf, cf, p, c, es, rfl, hk, hnum, hlb, hty, hfr, hsl, hkl⟩ := hr.open9
 have hi := @U8 k nm num (.mk tk tks) (.mk fk fks) lb ks.length
 obtain ⟨R, hR⟩ : ∃ R, T8 k nm num (.mk tk tks) (.mk fk fks) lb ks.length = R := ⟨_, rfl⟩
 rw [hR] at hi ⊢
 clear hR hr
 have o1 := B2M k G hk
 have o2 := B2J nm G
 have o3 := A3A _ G _ hty
 have o4 := A8i _ G _ hty
 have o5 := B2L _ _ G _ _ hfr hty
 have o6 := B2I lb G
 have o7 := A8i _ G _ hfr
 refine B2 Tryz.func125 rfl Tryz.ntmps125 Tryz.results125 rfl ?_
 intro w0
 refine tS (tR ?_)
 refine sE (B9 rfl rfl) rfl (fun b3 => ?_)
 refine sQ (qA rfl) rfl (sD (nS (tS (tS ?_))))
 refine E1 E2 rfl ?_
 refine J5 (i := 0) (l' := [tt,ff,ff,ff,ff,ff,ff]) rfl D5 (B1 rfl) rfl (by kernel_rfl) rfl rfl ?_
 refine aL 1 rfl (C0 rfl rfl) rfl ?_
 refine aP 3 rfl (B1 rfl) rfl ?_
 refine aL 4 rfl (C0 rfl rfl) rfl ?_
 refine aP 5 rfl (pLn rfl rfl) rfl ?_
 refine A3 2 ?_
 refine P6 rfl rfl (o1) rfl rfl rfl ?_
 refine A0K (i := 6) (l' := [tt,tt,tt,tt,tt,tt,tt]) rfl D5 (M7 rfl rfl) rfl (by kernel_rfl) rfl rfl (fun h17 => ?_) (fun h17 => ?_)
 refine I6 ?_
 exact ⟨rfl, by (cases R with | false => rfl | true => (exfalso; obtain ⟨i1, i2, i3, i4, i5, i6, i7, i8, i9⟩ := hi.1 rfl; first | omega | (have j := i2 (by omega); simp_all; done) | (have j := i3 (by omega); simp_all; done) | (have j := i4 (by omega); simp_all; done) | (have j := i5 (by omega); simp_all; done) | (have j := i6 (by omega); simp_all; done) | (have j := i7 (by omega); simp_all; done) | (have j := i8 (by omega); simp_all; done) | (have j := i9 (by omega); simp_all; done))), rfl⟩
 refine D4 ?_
 refine sB (qE rfl rfl) rfl rfl (fun h39 => ?_) (fun h39 => ?_)
 refine N6 ?_
 refine sP (H4 rfl rfl (by omega)) rfl rfl ?_
 refine K3 ?_
 refine sP (H4 rfl rfl (by omega)) rfl rfl ?_
 refine F0 ?_
 refine sP (H4 rfl rfl (by omega)) rfl rfl ?_
 refine D3 ?_
 refine sP (H4 rfl rfl (by omega)) rfl rfl ?_
 refine J9 ?_
 refine sP (H4 rfl rfl (by omega)) rfl rfl ?_
 refine sD (nS (cF rfl (tK (nS (tS ?_)))))
 refine B4 ?_
 refine C2 ?_
 refine D8 rfl (o2) rfl rfl (fun h99 => ?_) (fun h99 => ?_)
 refine A1c ?_
 refine D8 rfl (A1f _ _ _ _) rfl rfl (fun h123 => ?_) (fun h123 => ?_)
 refine A5P ?_
 refine D8 rfl (o4) rfl rfl (fun h149 => ?_) (fun h149 => ?_)
 refine A0g ?_
 refine F0 ?_
 refine D8 rfl (o7) rfl rfl (fun h184 => ?_) (fun h184 => ?_)
 refine F0 ?_
 refine sB (M7 rfl rfl) rfl rfl (fun h189 => ?_) (fun h189 => ?_)
 refine H9 ?_
 exact ⟨rfl, by (cases R with | false => rfl | true => (exfalso; obtain ⟨i1, i2, i3, i4, i5, i6, i7, i8, i9⟩ := hi.1 rfl; first | omega | (have j := i2 (by omega); simp_all; done) | (have j := i3 (by omega); simp_all; done) | (have j := i4 (by omega); simp_all; done) | (have j := i5 (by omega); simp_all; done) | (have j := i6 (by omega); simp_all; done) | (have j := i7 (by omega); simp_all; done) | (have j := i8 (by omega); simp_all; done) | (have j := i9 (by omega); simp_all; done))), rfl⟩
 refine K4 ?_
 exact ⟨rfl, by rw [hi.2 ⟨by omega, fun _ => by (first | assumption | (exfalso; omega) | exact Classical.not_not.1 (by assumption)), fun _ => by (first | assumption | (exfalso; omega) | exact Classical.not_not.1 (by assumption)), fun _ => by (first | assumption | (exfalso; omega) | exact Classical.not_not.1 (by assumption)), fun _ => by (first | assumption | (exfalso; omega) | exact Classical.not_not.1 (by assumption)), fun _ => by (first | assumption | (exfalso; omega) | exact Classical.not_not.1 (by assumption)), fun _ => by (first | assumption | (exfalso; omega) | exact Classical.not_not.1 (by assumption)), fun _ => ⟨by (first | assumption | (exfalso; omega)), by (first | assumption | (exfalso; omega))⟩, fun _ => ⟨by (first | assumption | (exfalso; omega)), by (first | assumption | omega)⟩⟩], rfl⟩
 refine A0u ?_
 exact ⟨rfl, by (cases R with | false => rfl | true => (exfalso; obtain ⟨i1, i2, i3, i4, i5, i6, i7, i8, i9⟩ := hi.1 rfl; first | omega | (have j := i2 (by omega); simp_all; done) | (have j := i3 (by omega); simp_all; done) | (have j := i4 (by omega); simp_all; done) | (have j := i5 (by omega); simp_all; done) | (have j := i6 (by omega); simp_all; done) | (have j := i7 (by omega); simp_all; done) | (have j := i8 (by omega); simp_all; done) | (have j := i9 (by omega); simp_all; done))), rfl⟩
 refine H9 ?_
 exact ⟨rfl, by (cases R with | false => rfl | true => (exfalso; obtain ⟨i1, i2, i3, i4, i5, i6, i7, i8, i9⟩ := hi.1 rfl; first | omega | (have j := i2 (by omega); simp_all; done) | (have j := i3 (by omega); simp_all; done) | (have j := i4 (by omega); simp_all; done) | (have j := i5 (by omega); simp_all; done) | (have j := i6 (by omega); simp_all; done) | (have j := i7 (by omega); simp_all; done) | (have j := i8 (by omega); simp_all; done) | (have j := i9 (by omega); simp_all; done))), rfl⟩
 refine J2 ?_
 exact ⟨rfl, by (cases R with | false => rfl | true => (exfalso; obtain ⟨i1, i2, i3, i4, i5, i6, i7, i8, i9⟩ := hi.1 rfl; first | omega | (have j := i2 (by omega); simp_all; done) | (have j := i3 (by omega); simp_all; done) | (have j := i4 (by omega); simp_all; done) | (have j := i5 (by omega); simp_all; done) | (have j := i6 (by omega); simp_all; done) | (have j := i7 (by omega); simp_all; done) | (have j := i8 (by omega); simp_all; done) | (have j := i9 (by omega); simp_all; done))), rfl⟩
 refine V6 ?_
 exact ⟨rfl, by (cases R with | false => rfl | true => (exfalso; obtain ⟨i1, i2, i3, i4, i5, i6, i7, i8, i9⟩ := hi.1 rfl; first | omega | (have j := i2 (by omega); simp_all; done) | (have j := i3 (by omega); simp_all; done) | (have j := i4 (by omega); simp_all; done) | (have j := i5 (by omega); simp_all; done) | (have j := i6 (by omega); simp_all; done) | (have j := i7 (by omega); simp_all; done) | (have j := i8 (by omega); simp_all; done) | (have j := i9 (by omega); simp_all; done))), rfl⟩
 refine K3 ?_
 refine sB (qE rfl rfl) rfl rfl (fun h297 => ?_) (fun h297 => ?_)
 refine D3 ?_
 refine sP (T5 rfl rfl (by omega)) rfl rfl ?_
 refine T0 ?_
 refine sP (H4 rfl rfl (by omega)) rfl rfl ?_
 refine J9 ?_
 refine sP (H4 rfl rfl (by omega)) rfl rfl ?_
 refine sD (nS (cF rfl (tK (nS (tS ?_)))))
 refine B4 ?_
 refine C2 ?_
 refine D8 rfl (o2) rfl rfl (fun h353 => ?_) (fun h353 => ?_)
 refine A1c ?_
 refine D8 rfl (A1f _ _ _ _) rfl rfl (fun h377 => ?_) (fun h377 => ?_)
 refine N6 ?_
 refine D8 rfl (o3) rfl rfl (fun h390 => ?_) (fun h390 => ?_)
 refine A0g ?_
 refine T0 ?_
 refine D8 rfl (o7) rfl rfl (fun h438 => ?_) (fun h438 => ?_)
 refine F0 ?_
 refine sB (M7 rfl rfl) rfl rfl (fun h443 => ?_) (fun h443 => ?_)
 refine H9 ?_
 exact ⟨rfl, by (cases R with | false => rfl | true => (exfalso; obtain ⟨i1, i2, i3, i4, i5, i6, i7, i8, i9⟩ := hi.1 rfl; first | omega | (have j := i2 (by omega); simp_all; done) | (have j := i3 (by omega); simp_all; done) | (have j := i4 (by omega); simp_all; done) | (have j := i5 (by omega); simp_all; done) | (have j := i6 (by omega); simp_all; done) | (have j := i7 (by omega); simp_all; done) | (have j := i8 (by omega); simp_all; done) | (have j := i9 (by omega); simp_all; done))), rfl⟩
 refine K4 ?_
 exact ⟨rfl, by rw [hi.2 ⟨by omega, fun _ => by (first | assumption | (exfalso; omega) | exact Classical.not_not.1 (by assumption)), fun _ => by (first | assumption | (exfalso; omega) | exact Classical.not_not.1 (by assumption)), fun _ => by (first | assumption | (exfalso; omega) | exact Classical.not_not.1 (by assumption)), fun _ => by (first | assumption | (exfalso; omega) | exact Classical.not_not.1 (by assumption)), fun _ => by (first | assumption | (exfalso; omega) | exact Classical.not_not.1 (by assumption)), fun _ => by (first | assumption | (exfalso; omega) | exact Classical.not_not.1 (by assumption)), fun _ => ⟨by (first | assumption | (exfalso; omega)), by (first | assumption | (exfalso; omega))⟩, fun _ => ⟨by (first | assumption | (exfalso; omega)), by (first | assumption | omega)⟩⟩], rfl⟩
 refine A0u ?_
 exact ⟨rfl, by (cases R with | false => rfl | true => (exfalso; obtain ⟨i1, i2, i3, i4, i5, i6, i7, i8, i9⟩ := hi.1 rfl; first | omega | (have j := i2 (by omega); simp_all; done) | (have j := i3 (by omega); simp_all; done) | (have j := i4 (by omega); simp_all; done) | (have j := i5 (by omega); simp_all; done) | (have j := i6 (by omega); simp_all; done) | (have j := i7 (by omega); simp_all; done) | (have j := i8 (by omega); simp_all; done) | (have j := i9 (by omega); simp_all; done))), rfl⟩
 refine V6 ?_
 exact ⟨rfl, by (cases R with | false => rfl | true => (exfalso; obtain ⟨i1, i2, i3, i4, i5, i6, i7, i8, i9⟩ := hi.1 rfl; first | omega | (have j := i2 (by omega); simp_all; done) | (have j := i3 (by omega); simp_all; done) | (have j := i4 (by omega); simp_all; done) | (have j := i5 (by omega); simp_all; done) | (have j := i6 (by omega); simp_all; done) | (have j := i7 (by omega); simp_all; done) | (have j := i8 (by omega); simp_all; done) | (have j := i9 (by omega); simp_all; done))), rfl⟩
 refine J2 ?_
 exact ⟨rfl, by (cases R with | false => rfl | true => (exfalso; obtain ⟨i1, i2, i3, i4, i5, i6, i7, i8, i9⟩ := hi.1 rfl; first | omega | (have j := i2 (by omega); simp_all; done) | (have j := i3 (by omega); simp_all; done) | (have j := i4 (by omega); simp_all; done) | (have j := i5 (by omega); simp_all; done) | (have j := i6 (by omega); simp_all; done) | (have j := i7 (by omega); simp_all; done) | (have j := i8 (by omega); simp_all; done) | (have j := i9 (by omega); simp_all; done))), rfl⟩
 refine V6 ?_
 exact ⟨rfl, by (cases R with | false => rfl | true => (exfalso; obtain ⟨i1, i2, i3, i4, i5, i6, i7, i8, i9⟩ := hi.1 rfl; first | omega | (have j := i2 (by omega); simp_all; done) | (have j := i3 (by omega); simp_all; done) | (have j := i4 (by omega); simp_all; done) | (have j := i5 (by omega); simp_all; done) | (have j := i6 (by omega); simp_all; done) | (have j := i7 (by omega); simp_all; done) | (have j := i8 (by omega); simp_all; done) | (have j := i9 (by omega); simp_all; done))), rfl⟩
 refine D3 ?_
 refine sP (H4 rfl rfl (by omega)) rfl rfl ?_
 refine K3 ?_
 refine sB (qE rfl rfl) rfl rfl (fun h563 => ?_) (fun h563 => ?_)
 refine J9 ?_
 refine sP (H4 rfl rfl (by omega)) rfl rfl ?_
 refine J9 ?_
 refine sP (H4 rfl rfl (by omega)) rfl rfl ?_
 refine sD (nS (cF rfl (tK (nS (tS ?_)))))
 refine B4 ?_
 refine A0D ?_
 refine sB (A1V rfl rfl) rfl rfl (fun h620 => ?_) (fun h620 => ?_)
 refine T0 ?_
 exact ⟨rfl, by (cases R with | false => rfl | true => (exfalso; obtain ⟨i1, i2, i3, i4, i5, i6, i7, i8, i9⟩ := hi.1 rfl; first | omega | (have j := i2 (by omega); simp_all; done) | (have j := i3 (by omega); simp_all; done) | (have j := i4 (by omega); simp_all; done) | (have j := i5 (by omega); simp_all; done) | (have j := i6 (by omega); simp_all; done) | (have j := i7 (by omega); simp_all; done) | (have j := i8 (by omega); simp_all; done) | (have j := i9 (by omega); simp_all; done))), rfl⟩
 refine D4 ?_
 refine D8 rfl (A1f _ _ _ _) rfl rfl (fun h648 => ?_) (fun h648 => ?_)
 refine N6 ?_
 refine D8 rfl (o3) rfl rfl (fun h661 => ?_) (fun h661 => ?_)
 refine A0g ?_
 refine T0 ?_
 refine D8 rfl (o7) rfl rfl (fun h709 => ?_) (fun h709 => ?_)
 refine F0 ?_
 refine sB (M7 rfl rfl) rfl rfl (fun h714 => ?_) (fun h714 => ?_)
 refine H9 ?_
 exact ⟨rfl, by (cases R with | false => rfl | true => (exfalso; obtain ⟨i1, i2, i3, i4, i5, i6, i7, i8, i9⟩ := hi.1 rfl; first | omega | (have j := i2 (by omega); simp_all; done) | (have j := i3 (by omega); simp_all; done) | (have j := i4 (by omega); simp_all; done) | (have j := i5 (by omega); simp_all; done) | (have j := i6 (by omega); simp_all; done) | (have j := i7 (by omega); simp_all; done) | (have j := i8 (by omega); simp_all; done) | (have j := i9 (by omega); simp_all; done))), rfl⟩
 refine K4 ?_
 exact ⟨rfl, by rw [hi.2 ⟨by omega, fun _ => by (first | assumption | (exfalso; omega) | exact Classical.not_not.1 (by assumption)), fun _ => by (first | assumption | (exfalso; omega) | exact Classical.not_not.1 (by assumption)), fun _ => by (first | assumption | (exfalso; omega) | exact Classical.not_not.1 (by assumption)), fun _ => by (first | assumption | (exfalso; omega) | exact Classical.not_not.1 (by assumption)), fun _ => by (first | assumption | (exfalso; omega) | exact Classical.not_not.1 (by assumption)), fun _ => by (first | assumption | (exfalso; omega) | exact Classical.not_not.1 (by assumption)), fun _ => ⟨by (first | assumption | (exfalso; omega)), by (first | assumption | (exfalso; omega))⟩, fun _ => ⟨by (first | assumption | (exfalso; omega)), by (first | assumption | omega)⟩⟩], rfl⟩
 refine A0u ?_
 exact ⟨rfl, by (cases R with | false => rfl | true => (exfalso; obtain ⟨i1, i2, i3, i4, i5, i6, i7, i8, i9⟩ := hi.1 rfl; first | omega | (have j := i2 (by omega); simp_all; done) | (have j := i3 (by omega); simp_all; done) | (have j := i4 (by omega); simp_all; done) | (have j := i5 (by omega); simp_all; done) | (have j := i6 (by omega); simp_all; done) | (have j := i7 (by omega); simp_all; done) | (have j := i8 (by omega); simp_all; done) | (have j := i9 (by omega); simp_all; done))), rfl⟩
 refine V6 ?_
 exact ⟨rfl, by (cases R with | false => rfl | true => (exfalso; obtain ⟨i1, i2, i3, i4, i5, i6, i7, i8, i9⟩ := hi.1 rfl; first | omega | (have j := i2 (by omega); simp_all; done) | (have j := i3 (by omega); simp_all; done) | (have j := i4 (by omega); simp_all; done) | (have j := i5 (by omega); simp_all; done) | (have j := i6 (by omega); simp_all; done) | (have j := i7 (by omega); simp_all; done) | (have j := i8 (by omega); simp_all; done) | (have j := i9 (by omega); simp_all; done))), rfl⟩
 refine J2 ?_
 exact ⟨rfl, by (cases R with | false => rfl | true => (exfalso; obtain ⟨i1, i2, i3, i4, i5, i6, i7, i8, i9⟩ := hi.1 rfl; first | omega | (have j := i2 (by omega); simp_all; done) | (have j := i3 (by omega); simp_all; done) | (have j := i4 (by omega); simp_all; done) | (have j := i5 (by omega); simp_all; done) | (have j := i6 (by omega); simp_all; done) | (have j := i7 (by omega); simp_all; done) | (have j := i8 (by omega); simp_all; done) | (have j := i9 (by omega); simp_all; done))), rfl⟩
 refine F0 ?_
 refine sB (qE rfl rfl) rfl rfl (fun h807 => ?_) (fun h807 => ?_)
 refine D3 ?_
 refine sP (T5 rfl rfl (by omega)) rfl rfl ?_
 refine J9 ?_
 refine sP (H4 rfl rfl (by omega)) rfl rfl ?_
 refine sD (nS (cF rfl (tK (nS (tS ?_)))))
 refine B4 ?_
 refine A0D ?_
 refine sB (A1V rfl rfl) rfl rfl (fun h859 => ?_) (fun h859 => ?_)
 refine T0 ?_
 exact ⟨rfl, by (cases R with | false => rfl | true => (exfalso; obtain ⟨i1, i2, i3, i4, i5, i6, i7, i8, i9⟩ := hi.1 rfl; first | omega | (have j := i2 (by omega); simp_all; done) | (have j := i3 (by omega); simp_all; done) | (have j := i4 (by omega); simp_all; done) | (have j := i5 (by omega); simp_all; done) | (have j := i6 (by omega); simp_all; done) | (have j := i7 (by omega); simp_all; done) | (have j := i8 (by omega); simp_all; done) | (have j := i9 (by omega); simp_all; done))), rfl⟩
 refine D4 ?_
 refine D8 rfl (A1f _ _ _ _) rfl rfl (fun h887 => ?_) (fun h887 => ?_)
 refine N6 ?_
 refine D8 rfl (o3) rfl rfl (fun h900 => ?_) (fun h900 => ?_)
 refine A7F ?_
 refine D8 rfl (o5) rfl rfl (fun h929 => ?_) (fun h929 => ?_)
 refine F0 ?_
 refine D8 rfl (o6) rfl rfl (fun h934 => ?_) (fun h934 => ?_)
 refine A0g ?_
 refine sQ (qA rfl) rfl (sD (nS (tT (D9 (rT rfl) ?_))))
 exact ⟨rfl, by rw [hi.2 ⟨by omega, fun _ => by (first | assumption | (exfalso; omega) | exact Classical.not_not.1 (by assumption)), fun _ => by (first | assumption | (exfalso; omega) | exact Classical.not_not.1 (by assumption)), fun _ => by (first | assumption | (exfalso; omega) | exact Classical.not_not.1 (by assumption)), fun _ => by (first | assumption | (exfalso; omega) | exact Classical.not_not.1 (by assumption)), fun _ => by (first | assumption | (exfalso; omega) | exact Classical.not_not.1 (by assumption)), fun _ => by (first | assumption | (exfalso; omega) | exact Classical.not_not.1 (by assumption)), fun _ => ⟨by (first | assumption | (exfalso; omega)), by (first | assumption | (exfalso; omega))⟩, fun _ => ⟨by (first | assumption | (exfalso; omega)), by (first | assumption | omega)⟩⟩], rfl⟩
 refine A0q ?_
 exact ⟨rfl, by (cases R with | false => rfl | true => (exfalso; obtain ⟨i1, i2, i3, i4, i5, i6, i7, i8, i9⟩ := hi.1 rfl; first | omega | (have j := i2 (by omega); simp_all; done) | (have j := i3 (by omega); simp_all; done) | (have j := i4 (by omega); simp_all; done) | (have j := i5 (by omega); simp_all; done) | (have j := i6 (by omega); simp_all; done) | (have j := i7 (by omega); simp_all; done) | (have j := i8 (by omega); simp_all; done) | (have j := i9 (by omega); simp_all; done))), rfl⟩
 refine A2O ?_
 exact ⟨rfl, by (cases R with | false => rfl | true => (exfalso; obtain ⟨i1, i2, i3, i4, i5, i6, i7, i8, i9⟩ := hi.1 rfl; first | omega | (have j := i2 (by omega); simp_all; done) | (have j := i3 (by omega); simp_all; done) | (have j := i4 (by omega); simp_all; done) | (have j := i5 (by omega); simp_all; done) | (have j := i6 (by omega); simp_all; done) | (have j := i7 (by omega); simp_all; done) | (have j := i8 (by omega); simp_all; done) | (have j := i9 (by omega); simp_all; done))), rfl⟩
 refine V6 ?_
 exact ⟨rfl, by (cases R with | false => rfl | true => (exfalso; obtain ⟨i1, i2, i3, i4, i5, i6, i7, i8, i9⟩ := hi.1 rfl; first | omega | (have j := i2 (by omega); simp_all; done) | (have j := i3 (by omega); simp_all; done) | (have j := i4 (by omega); simp_all; done) | (have j := i5 (by omega); simp_all; done) | (have j := i6 (by omega); simp_all; done) | (have j := i7 (by omega); simp_all; done) | (have j := i8 (by omega); simp_all; done) | (have j := i9 (by omega); simp_all; done))), rfl⟩
 refine J2 ?_
 exact ⟨rfl, by (cases R with | false => rfl | true => (exfalso; obtain ⟨i1, i2, i3, i4, i5, i6, i7, i8, i9⟩ := hi.1 rfl; first | omega | (have j := i2 (by omega); simp_all; done) | (have j := i3 (by omega); simp_all; done) | (have j := i4 (by omega); simp_all; done) | (have j := i5 (by omega); simp_all; done) | (have j := i6 (by omega); simp_all; done) | (have j := i7 (by omega); simp_all; done) | (have j := i8 (by omega); simp_all; done) | (have j := i9 (by omega); simp_all; done))), rfl⟩
 refine D3 ?_
 refine sP (H4 rfl rfl (by omega)) rfl rfl ?_
 refine J9 ?_
 refine sB (qE rfl rfl) rfl rfl (fun h1072 => ?_) (fun h1072 => ?_)
 refine sD (nS (qT rfl (tR (sQ (qA rfl) rfl (sD (nS (tS ?_)))))))
 refine B4 ?_
 refine A0D ?_
 refine sB (A1V rfl rfl) rfl rfl (fun h1103 => ?_) (fun h1103 => ?_)
 refine T0 ?_
 exact ⟨rfl, by (cases R with | false => rfl | true => (exfalso; obtain ⟨i1, i2, i3, i4, i5, i6, i7, i8, i9⟩ := hi.1 rfl; first | omega | (have j := i2 (by omega); simp_all; done) | (have j := i3 (by omega); simp_all; done) | (have j := i4 (by omega); simp_all; done) | (have j := i5 (by omega); simp_all; done) | (have j := i6 (by omega); simp_all; done) | (have j := i7 (by omega); simp_all; done) | (have j := i8 (by omega); simp_all; done) | (have j := i9 (by omega); simp_all; done))), rfl⟩
 refine D4 ?_
 refine D8 rfl (A1f _ _ _ _) rfl rfl (fun h1131 => ?_) (fun h1131 => ?_)
 refine A5P ?_
 refine D8 rfl (o4) rfl rfl (fun h1157 => ?_) (fun h1157 => ?_)
 refine A0g ?_
 refine F0 ?_
 refine D8 rfl (o7) rfl rfl (fun h1192 => ?_) (fun h1192 => ?_)
 refine F0 ?_
 refine sB (M7 rfl rfl) rfl rfl (fun h1197 => ?_) (fun h1197 => ?_)
 refine H9 ?_
 exact ⟨rfl, by (cases R with | false => rfl | true => (exfalso; obtain ⟨i1, i2, i3, i4, i5, i6, i7, i8, i9⟩ := hi.1 rfl; first | omega | (have j := i2 (by omega); simp_all; done) | (have j := i3 (by omega); simp_all; done) | (have j := i4 (by omega); simp_all; done) | (have j := i5 (by omega); simp_all; done) | (have j := i6 (by omega); simp_all; done) | (have j := i7 (by omega); simp_all; done) | (have j := i8 (by omega); simp_all; done) | (have j := i9 (by omega); simp_all; done))), rfl⟩
 refine K4 ?_
 exact ⟨rfl, by rw [hi.2 ⟨by omega, fun _ => by (first | assumption | (exfalso; omega) | exact Classical.not_not.1 (by assumption)), fun _ => by (first | assumption | (exfalso; omega) | exact Classical.not_not.1 (by assumption)), fun _ => by (first | assumption | (exfalso; omega) | exact Classical.not_not.1 (by assumption)), fun _ => by (first | assumption | (exfalso; omega) | exact Classical.not_not.1 (by assumption)), fun _ => by (first | assumption | (exfalso; omega) | exact Classical.not_not.1 (by assumption)), fun _ => by (first | assumption | (exfalso; omega) | exact Classical.not_not.1 (by assumption)), fun _ => ⟨by (first | assumption | (exfalso; omega)), by (first | assumption | (exfalso; omega))⟩, fun _ => ⟨by (first | assumption | (exfalso; omega)), by (first | assumption | omega)⟩⟩], rfl⟩
 refine A0u ?_
 exact ⟨rfl, by (cases R with | false => rfl | true => (exfalso; obtain ⟨i1, i2, i3, i4, i5, i6, i7, i8, i9⟩ := hi.1 rfl; first | omega | (have j := i2 (by omega); simp_all; done) | (have j := i3 (by omega); simp_all; done) | (have j := i4 (by omega); simp_all; done) | (have j := i5 (by omega); simp_all; done) | (have j := i6 (by omega); simp_all; done) | (have j := i7 (by omega); simp_all; done) | (have j := i8 (by omega); simp_all; done) | (have j := i9 (by omega); simp_all; done))), rfl⟩
 refine H9 ?_
 exact ⟨rfl, by (cases R with | false => rfl | true => (exfalso; obtain ⟨i1, i2, i3, i4, i5, i6, i7, i8, i9⟩ := hi.1 rfl; first | omega | (have j := i2 (by omega); simp_all; done) | (have j := i3 (by omega); simp_all; done) | (have j := i4 (by omega); simp_all; done) | (have j := i5 (by omega); simp_all; done) | (have j := i6 (by omega); simp_all; done) | (have j := i7 (by omega); simp_all; done) | (have j := i8 (by omega); simp_all; done) | (have j := i9 (by omega); simp_all; done))), rfl⟩
 refine J2 ?_
 exact ⟨rfl, by (cases R with | false => rfl | true => (exfalso; obtain ⟨i1, i2, i3, i4, i5, i6, i7, i8, i9⟩ := hi.1 rfl; first | omega | (have j := i2 (by omega); simp_all; done) | (have j := i3 (by omega); simp_all; done) | (have j := i4 (by omega); simp_all; done) | (have j := i5 (by omega); simp_all; done) | (have j := i6 (by omega); simp_all; done) | (have j := i7 (by omega); simp_all; done) | (have j := i8 (by omega); simp_all; done) | (have j := i9 (by omega); simp_all; done))), rfl⟩
 refine sD (nS (cF rfl (tK (nS (tS ?_)))))
 refine B4 ?_
 refine A0D ?_
 refine sB (A1V rfl rfl) rfl rfl (fun h1311 => ?_) (fun h1311 => ?_)
 refine T0 ?_
 exact ⟨rfl, by (cases R with | false => rfl | true => (exfalso; obtain ⟨i1, i2, i3, i4, i5, i6, i7, i8, i9⟩ := hi.1 rfl; first | omega | (have j := i2 (by omega); simp_all; done) | (have j := i3 (by omega); simp_all; done) | (have j := i4 (by omega); simp_all; done) | (have j := i5 (by omega); simp_all; done) | (have j := i6 (by omega); simp_all; done) | (have j := i7 (by omega); simp_all; done) | (have j := i8 (by omega); simp_all; done) | (have j := i9 (by omega); simp_all; done))), rfl⟩
 refine D4 ?_
 refine D8 rfl (A1f _ _ _ _) rfl rfl (fun h1339 => ?_) (fun h1339 => ?_)
 refine A5P ?_
 refine D8 rfl (o4) rfl rfl (fun h1365 => ?_) (fun h1365 => ?_)
 refine A0g ?_
 refine F0 ?_
 refine D8 rfl (o7) rfl rfl (fun h1400 => ?_) (fun h1400 => ?_)
 refine F0 ?_
 refine sB (M7 rfl rfl) rfl rfl (fun h1405 => ?_) (fun h1405 => ?_)
 refine H9 ?_
 exact ⟨rfl, by (cases R with | false => rfl | true => (exfalso; obtain ⟨i1, i2, i3, i4, i5, i6, i7, i8, i9⟩ := hi.1 rfl; first | omega | (have j := i2 (by omega); simp_all; done) | (have j := i3 (by omega); simp_all; done) | (have j := i4 (by omega); simp_all; done) | (have j := i5 (by omega); simp_all; done) | (have j := i6 (by omega); simp_all; done) | (have j := i7 (by omega); simp_all; done) | (have j := i8 (by omega); simp_all; done) | (have j := i9 (by omega); simp_all; done))), rfl⟩
 refine K4 ?_
 exact ⟨rfl, by rw [hi.2 ⟨by omega, fun _ => by (first | assumption | (exfalso; omega) | exact Classical.not_not.1 (by assumption)), fun _ => by (first | assumption | (exfalso; omega) | exact Classical.not_not.1 (by assumption)), fun _ => by (first | assumption | (exfalso; omega) | exact Classical.not_not.1 (by assumption)), fun _ => by (first | assumption | (exfalso; omega) | exact Classical.not_not.1 (by assumption)), fun _ => by (first | assumption | (exfalso; omega) | exact Classical.not_not.1 (by assumption)), fun _ => by (first | assumption | (exfalso; omega) | exact Classical.not_not.1 (by assumption)), fun _ => ⟨by (first | assumption | (exfalso; omega)), by (first | assumption | (exfalso; omega))⟩, fun _ => ⟨by (first | assumption | (exfalso; omega)), by (first | assumption | omega)⟩⟩], rfl⟩
 refine A0u ?_
 exact ⟨rfl, by (cases R with | false => rfl | true => (exfalso; obtain ⟨i1, i2, i3, i4, i5, i6, i7, i8, i9⟩ := hi.1 rfl; first | omega | (have j := i2 (by omega); simp_all; done) | (have j := i3 (by omega); simp_all; done) | (have j := i4 (by omega); simp_all; done) | (have j := i5 (by omega); simp_all; done) | (have j := i6 (by omega); simp_all; done) | (have j := i7 (by omega); simp_all; done) | (have j := i8 (by omega); simp_all; done) | (have j := i9 (by omega); simp_all; done))), rfl⟩
 refine H9 ?_
 exact ⟨rfl, by (cases R with | false => rfl | true => (exfalso; obtain ⟨i1, i2, i3, i4, i5, i6, i7, i8, i9⟩ := hi.1 rfl; first | omega | (have j := i2 (by omega); simp_all; done) | (have j := i3 (by omega); simp_all; done) | (have j := i4 (by omega); simp_all; done) | (have j := i5 (by omega); simp_all; done) | (have j := i6 (by omega); simp_all; done) | (have j := i7 (by omega); simp_all; done) | (have j := i8 (by omega); simp_all; done) | (have j := i9 (by omega); simp_all; done))), rfl⟩
 refine J2 ?_
 exact ⟨rfl, by (cases R with | false => rfl | true => (exfalso; obtain ⟨i1, i2, i3, i4, i5, i6, i7, i8, i9⟩ := hi.1 rfl; first | omega | (have j := i2 (by omega); simp_all; done) | (have j := i3 (by omega); simp_all; done) | (have j := i4 (by omega); simp_all; done) | (have j := i5 (by omega); simp_all; done) | (have j := i6 (by omega); simp_all; done) | (have j := i7 (by omega); simp_all; done) | (have j := i8 (by omega); simp_all; done) | (have j := i9 (by omega); simp_all; done))), rfl⟩
theorem A8j (M D N : Int) (hM : 0 ≤ M ∧ M ≤ 1000) (hD : 0 ≤ D ∧ D ≤ 1000) (bc : Nat) : ∀ (t : Tm) (deep c : Int) (G : IM) (cells : List Value), 0 ≤ deep ∧ deep ≤ D + 1 → 0 ≤ c ∧ c ≤ M → A8 G t cells →
  Fn Tryz.prog 57 [.agg ⟨cells⟩, .int .i64 deep, .int .i64 M, .int .i64 D, .int .i64 N, .pointer (some ⟨bc, 0, none⟩)] [.blk bc [.int .i64 c]] G
   (U6 (.bool (S6 M D N t deep c).1) [.blk bc [.int .i64 (S6 M D N t deep c).2]] G) := by
 refine Tm.ind fun k nm num ty fr lb ks ih deep c G cells hd hc hr => ?_
 have hno := B2N k nm num ty fr lb ks G cells hr
 obtain ⟨tk, tks⟩ := ty
 obtain ⟨fk, fks⟩ := fr
 obtain ⟨pt, ct, pf, cf, p, cp, es, rfl, hk, hnum, hlb, hty, hfr, hsl, hkl⟩ := hr.open9
 have hn := hsl.le
 obtain ⟨R, hR⟩ : ∃ R, T8 k nm num (.mk tk tks) (.mk fk fks) lb ks.length = R := ⟨_, rfl⟩
 rw [hR] at hno
 refine B2 Tryz.func57 rfl Tryz.ntmps57 Tryz.results57 rfl ?_
 intro w0
 refine tS (tR ?_)
 refine sE (B9 rfl rfl) rfl (fun b3 => ?_)
 refine sQ (qA rfl) rfl (sD (nS (tS (tR (sQ (qM rfl) rfl ?_)))))
 refine sQ (Z4 rfl) rfl ?_
 refine sL (C0 rfl rfl) rfl rfl ?_
 refine sP (K2 rfl rfl (by omega) (by omega)) rfl rfl ?_
 refine sQ (Z4 rfl) rfl ?_
 refine F9 ?_
 refine sD (nS (tS (tS (tR (sQ (qM rfl) rfl ?_)))))
 refine sQ (Z4 rfl) rfl ?_
 refine sL (C0 rfl rfl) rfl rfl (sQ (qM rfl) rfl ?_)
 refine sB (X6 rfl rfl) rfl rfl (fun h24 => ?_) (fun h24 => ?_)
 refine A4r ?_
 refine H6 (outs := [.blk bc [.int .i64 _]]) (rT rfl) (A0.cons (by repeat (first | exact Pk.here | apply Pk.there)) A0.nil) ?_
 (rw [A4w (by rw [hR]; first | omega | exact Or.inr (Or.inr (Or.inr (by assumption)))) ]; exact ⟨rfl, rfl, rfl⟩)
 refine sQ (qM rfl) rfl (sQ (qM rfl) rfl (sQ (qM rfl) rfl ?_))
 refine sB (X6 rfl rfl) rfl rfl (fun h56 => ?_) (fun h56 => ?_)
 refine A5O ?_
 refine H6 (outs := [.blk bc [.int .i64 _]]) (rT rfl) (A0.cons (by repeat (first | exact Pk.here | apply Pk.there)) A0.nil) ?_
 (rw [A4w (by rw [hR]; first | omega | exact Or.inr (Or.inr (Or.inr (by assumption)))) ]; exact ⟨rfl, rfl, rfl⟩)
 refine R1 ?_
 refine sB (qE rfl rfl) rfl rfl (fun h86 => ?_) (fun h86 => ?_)
 refine K4 ?_
 refine H6 (outs := [.blk bc [.int .i64 _]]) (rT rfl) (A0.cons (by repeat (first | exact Pk.here | apply Pk.there)) A0.nil) ?_
 (rw [A4w (by rw [hR]; first | omega | exact Or.inr (Or.inr (Or.inr (by assumption)))) ]; exact ⟨rfl, rfl, rfl⟩)
 refine K3 ?_
 refine D8 rfl (hno) rfl rfl (fun h108 => ?_) (fun h108 => ?_)
 refine K4 ?_
 refine B4 ?_
 (have hmk := B2d (M := M) (D := D) (N := N) (deep := deep) (c := c) (by omega) (hR.trans (by assumption)); refine K9 (fun (x : Nat × Int) => ⟨[(44, .int .i64 x.1), (43, .int .i64 ks.length), (42, .slice p ks.length cp), (5, .pointer (some ⟨bc, 0, none⟩)), (4, .int .i64 N), (3, .int .i64 D), (2, .int .i64 M), (1, .int .i64 deep)], [.blk bc [.int .i64 x.2]], G⟩) (fun x => x.1 ≤ ks.length ∧ 0 ≤ x.2 ∧ x.2 ≤ M ∧ U9 M D N ks (deep + 1) (c + 1) = U9 M D N (ks.drop x.1) (deep + 1) x.2) (fun x => ks.length - x.1) (0, c + 1) ?_ ?_ ?_)
 (simp only [J6]; exact D1)
 exact ⟨by simp, by simp; omega, by simp; omega, by simp⟩
 (rintro ⟨i, ci⟩ ⟨hi, hc0, hc1, hst⟩; simp only [] at hi hc0 hc1 hst ⊢)
 refine tS (tR ?_)
 refine sB (K6 rfl rfl) rfl rfl (fun h132 => ?_) (fun h132 => ?_)
 refine sD (nS (tS (qT rfl (tK (nS (tS ?_))))))
 refine B4 ?_
 refine tS (tR ?_)
 (obtain ⟨b, o, e, rfl, hl, hat, hre, hgb⟩ := hsl.kidTm hkl (i := i) (by omega) (by omega); have hone := hre.one; have hle := A7M M D N ks[i] (deep + 1) ci hc0 hc1; refine sP (B3 rfl rfl rfl (by omega)) rfl rfl ?_)
 refine sL (A1 rfl rfl (hat _) hl) rfl rfl ?_
 refine sE (A5 rfl) rfl (fun b145 => ?_)
 refine X7 rfl rfl rfl (by assumption) (by assumption) rfl (by repeat first | exact Sw.here | apply Sw.there) (by exact C3 (by symm; assumption)) ?_
 refine sD (nS (tS (tR ?_)))
 refine sL (A1 rfl rfl (A9 (by repeat first | exact mH | apply mT)) (by assumption)) rfl rfl ?_
 refine sQ (qM rfl) rfl ?_
 refine sP (K2 rfl rfl (by omega) (by omega)) rfl rfl ?_
 refine F0 ?_
 refine B13 rfl (ih ks[i] (List.getElem_mem _) (deep + 1) ci G e (by omega) (by omega) hre) (Pk.perm (by repeat (first | exact Pk.here | apply Pk.there))) rfl rfl (fun h158 => ?_) (fun h158 => ?_)
 refine D3 ?_
 refine sP (K2 rfl rfl (by omega) (by omega)) rfl rfl ?_
 refine sQ (qM rfl) rfl (sD ?_)
 refine K7 (i + 1, (S6 M D N ks[i] (deep + 1) ci).2) ?_ ?_ ?_
 (simp only [J6]; exact D1)
 exact ⟨by omega, by omega, hle.2.2 (by assumption), by rw [hst, B2e (by omega) (by assumption)]⟩
 (show ks.length - (i + 1) < ks.length - i; omega)
 refine H9 ?_
 refine H6 (outs := [.blk bc [.int .i64 _]]) (rT rfl) (A0.cons (by repeat (first | exact Pk.here | apply Pk.there)) A0.nil) ?_
 (rw [hmk, hst, B2f (by omega) (by assumption)]; exact ⟨rfl, rfl, rfl⟩)
 refine H9 ?_
 refine H6 (outs := [.blk bc [.int .i64 _]]) (rT rfl) (A0.cons (by repeat (first | exact Pk.here | apply Pk.there)) A0.nil) ?_
 (rw [hmk, hst, B2g (by omega)]; exact ⟨rfl, rfl, rfl⟩)
 refine N6 ?_
 refine H6 (outs := [.blk bc [.int .i64 _]]) (rT rfl) (A0.cons (by repeat (first | exact Pk.here | apply Pk.there)) A0.nil) ?_
 (rw [A4w (by rw [hR]; first | omega | exact Or.inr (Or.inr (Or.inr (by assumption)))) ]; exact ⟨rfl, rfl, rfl⟩)
theorem A4F (t : Tm) (G : IM) (cells : List Value) (hr : A8 G t cells) : Fn Tryz.prog 17 [.agg ⟨cells⟩] [] G (H0 (.bool (J3 t)) G) := by
 have hl := hr.len
 refine B2 Tryz.func17 rfl Tryz.ntmps17 Tryz.results17 rfl ?_
 intro w0
 refine tS (tR ?_)
 refine sE (B9 rfl rfl) rfl (fun b3 => ?_)
 refine sQ (qA rfl) rfl (sD (nS (tS (tR ?_))))
 refine sE (A5 rfl) rfl (fun b9 => ?_)
 refine F9 ?_
 refine sD (nS (tS (tR ?_)))
 refine sL (A1 rfl rfl (A9 (by repeat first | exact mH | apply mT)) (by assumption)) rfl rfl ?_
 refine A4q rfl (A8j 200 40 13 (by omega) (by omega) _ t 1 0 G cells (by omega) (by omega) hr) Z6 rfl rfl ?_
 refine sQ (qA rfl) rfl (sD (nS (tT (D9 (rT rfl) ?_))))
 exact ⟨rfl, rfl, rfl⟩
theorem A4G (t : Tm) (G : IM) (cells : List Value) (hr : A8 G t cells) : Fn Tryz.prog 70 [.agg ⟨cells⟩] [] G (H0 (.bool (N9 t)) G) := by
 have hl := hr.len
 refine B2 Tryz.func70 rfl Tryz.ntmps70 Tryz.results70 rfl ?_
 intro w0
 refine tS (tR ?_)
 refine sE (B9 rfl rfl) rfl (fun b3 => ?_)
 refine sQ (qA rfl) rfl (sD (nS (tS (tR ?_))))
 refine sE (A5 rfl) rfl (fun b9 => ?_)
 refine F9 ?_
 refine sD (nS (tS (tR ?_)))
 refine sL (A1 rfl rfl (A9 (by repeat first | exact mH | apply mT)) (by assumption)) rfl rfl ?_
 refine A4q rfl (A8j 30 12 14 (by omega) (by omega) _ t 1 0 G cells (by omega) (by omega) hr) Z6 rfl rfl ?_
 refine sQ (qA rfl) rfl (sD (nS (tT (D9 (rT rfl) ?_))))
 exact ⟨rfl, rfl, rfl⟩
theorem A8k (k : Int) (G : IM) : Fn Tryz.prog 183 [.int .i64 k] [] G (H0 (.int .i64 (V7 k)) G) := by
 refine B2 Tryz.func183 rfl Tryz.ntmps183 Tryz.results183 rfl ?_
 intro w0
 refine I6 ?_
 refine B4 ?_
 refine tS (tS (tR ?_))
 refine sB (qE rfl rfl) rfl rfl (fun h16 => ?_) (fun h16 => ?_)
 refine K4 ?_
 exact ⟨rfl, by (first | rw [(N7 k).1 (by omega)] | rw [(N7 k).2.1 (by omega)] | rw [(N7 k).2.2 (by omega) (by omega) (by omega) (by omega) (by omega)]), rfl⟩
 refine sQ (qA rfl) rfl (sD (nS (cF rfl (tS (tR ?_)))))
 refine sB (qE rfl rfl) rfl rfl (fun h40 => ?_) (fun h40 => ?_)
 refine K4 ?_
 exact ⟨rfl, by (first | rw [(N7 k).1 (by omega)] | rw [(N7 k).2.1 (by omega)] | rw [(N7 k).2.2 (by omega) (by omega) (by omega) (by omega) (by omega)]), rfl⟩
 refine sQ (qA rfl) rfl (sD (nS (cF rfl (tR ?_))))
 refine sB (qE rfl rfl) rfl rfl (fun h63 => ?_) (fun h63 => ?_)
 refine J9 ?_
 exact ⟨rfl, by (first | rw [(N7 k).1 (by omega)] | rw [(N7 k).2.1 (by omega)] | rw [(N7 k).2.2 (by omega) (by omega) (by omega) (by omega) (by omega)]), rfl⟩
 refine sQ (qA rfl) rfl (sD (nS (cF rfl (tS (tS (tR ?_))))))
 refine sB (qE rfl rfl) rfl rfl (fun h85 => ?_) (fun h85 => ?_)
 refine K4 ?_
 exact ⟨rfl, by (first | rw [(N7 k).1 (by omega)] | rw [(N7 k).2.1 (by omega)] | rw [(N7 k).2.2 (by omega) (by omega) (by omega) (by omega) (by omega)]), rfl⟩
 refine sQ (qA rfl) rfl (sD (nS (cF rfl (tR ?_))))
 refine sB (qE rfl rfl) rfl rfl (fun h108 => ?_) (fun h108 => ?_)
 refine J9 ?_
 exact ⟨rfl, by (first | rw [(N7 k).1 (by omega)] | rw [(N7 k).2.1 (by omega)] | rw [(N7 k).2.2 (by omega) (by omega) (by omega) (by omega) (by omega)]), rfl⟩
 refine J2 ?_
 exact ⟨rfl, by (first | rw [(N7 k).1 (by omega)] | rw [(N7 k).2.1 (by omega)] | rw [(N7 k).2.2 (by omega) (by omega) (by omega) (by omega) (by omega)]), rfl⟩
theorem A4H (k : Int) (G : IM) : Fn Tryz.prog 165 [.int .i64 k] [] G (H0 (.int .i64 (C7 k)) G) := by
 refine B2 Tryz.func165 rfl Tryz.ntmps165 Tryz.results165 rfl ?_
 intro w0
 refine I6 ?_
 refine B4 ?_
 refine tS (tS (tR ?_))
 refine sB (qE rfl rfl) rfl rfl (fun h16 => ?_) (fun h16 => ?_)
 refine K4 ?_
 exact ⟨rfl, by (unfold C7; first | rw [if_pos (by omega)] | rw [if_neg (by omega), if_pos (by omega)] | rw [if_neg (by omega), if_neg (by omega), if_pos (by omega)] | rw [if_neg (by omega), if_neg (by omega), if_neg (by omega), if_pos (by omega)] | rw [if_neg (by omega), if_neg (by omega), if_neg (by omega), if_neg (by omega)]), rfl⟩
 refine sQ (qA rfl) rfl (sD (nS (cF rfl (tS (tR ?_)))))
 refine sB (qE rfl rfl) rfl rfl (fun h40 => ?_) (fun h40 => ?_)
 refine K4 ?_
 exact ⟨rfl, by (unfold C7; first | rw [if_pos (by omega)] | rw [if_neg (by omega), if_pos (by omega)] | rw [if_neg (by omega), if_neg (by omega), if_pos (by omega)] | rw [if_neg (by omega), if_neg (by omega), if_neg (by omega), if_pos (by omega)] | rw [if_neg (by omega), if_neg (by omega), if_neg (by omega), if_neg (by omega)]), rfl⟩
 refine sQ (qA rfl) rfl (sD (nS (cF rfl (tS (tR ?_)))))
 refine sB (qE rfl rfl) rfl rfl (fun h64 => ?_) (fun h64 => ?_)
 refine K4 ?_
 exact ⟨rfl, by (unfold C7; first | rw [if_pos (by omega)] | rw [if_neg (by omega), if_pos (by omega)] | rw [if_neg (by omega), if_neg (by omega), if_pos (by omega)] | rw [if_neg (by omega), if_neg (by omega), if_neg (by omega), if_pos (by omega)] | rw [if_neg (by omega), if_neg (by omega), if_neg (by omega), if_neg (by omega)]), rfl⟩
 refine sQ (qA rfl) rfl (sD (nS (cF rfl (tR ?_))))
 refine sB (qE rfl rfl) rfl rfl (fun h87 => ?_) (fun h87 => ?_)
 refine J9 ?_
 exact ⟨rfl, by (unfold C7; first | rw [if_pos (by omega)] | rw [if_neg (by omega), if_pos (by omega)] | rw [if_neg (by omega), if_neg (by omega), if_pos (by omega)] | rw [if_neg (by omega), if_neg (by omega), if_neg (by omega), if_pos (by omega)] | rw [if_neg (by omega), if_neg (by omega), if_neg (by omega), if_neg (by omega)]), rfl⟩
 refine sQ (qA rfl) rfl (sD (nS (cF rfl (tS (tS (tR ?_))))))
 refine sB (qE rfl rfl) rfl rfl (fun h109 => ?_) (fun h109 => ?_)
 refine K4 ?_
 exact ⟨rfl, by (unfold C7; first | rw [if_pos (by omega)] | rw [if_neg (by omega), if_pos (by omega)] | rw [if_neg (by omega), if_neg (by omega), if_pos (by omega)] | rw [if_neg (by omega), if_neg (by omega), if_neg (by omega), if_pos (by omega)] | rw [if_neg (by omega), if_neg (by omega), if_neg (by omega), if_neg (by omega)]), rfl⟩
 refine sQ (qA rfl) rfl (sD (nS (cF rfl (tS (tR ?_)))))
 refine sB (qE rfl rfl) rfl rfl (fun h133 => ?_) (fun h133 => ?_)
 refine K4 ?_
 exact ⟨rfl, by (unfold C7; first | rw [if_pos (by omega)] | rw [if_neg (by omega), if_pos (by omega)] | rw [if_neg (by omega), if_neg (by omega), if_pos (by omega)] | rw [if_neg (by omega), if_neg (by omega), if_neg (by omega), if_pos (by omega)] | rw [if_neg (by omega), if_neg (by omega), if_neg (by omega), if_neg (by omega)]), rfl⟩
 refine sQ (qA rfl) rfl (sD (nS (cF rfl (tS (tR ?_)))))
 refine sB (qE rfl rfl) rfl rfl (fun h157 => ?_) (fun h157 => ?_)
 refine K4 ?_
 exact ⟨rfl, by (unfold C7; first | rw [if_pos (by omega)] | rw [if_neg (by omega), if_pos (by omega)] | rw [if_neg (by omega), if_neg (by omega), if_pos (by omega)] | rw [if_neg (by omega), if_neg (by omega), if_neg (by omega), if_pos (by omega)] | rw [if_neg (by omega), if_neg (by omega), if_neg (by omega), if_neg (by omega)]), rfl⟩
 refine sQ (qA rfl) rfl (sD (nS (cF rfl (tS (tR ?_)))))
 refine sB (qE rfl rfl) rfl rfl (fun h181 => ?_) (fun h181 => ?_)
 refine K4 ?_
 exact ⟨rfl, by (unfold C7; first | rw [if_pos (by omega)] | rw [if_neg (by omega), if_pos (by omega)] | rw [if_neg (by omega), if_neg (by omega), if_pos (by omega)] | rw [if_neg (by omega), if_neg (by omega), if_neg (by omega), if_pos (by omega)] | rw [if_neg (by omega), if_neg (by omega), if_neg (by omega), if_neg (by omega)]), rfl⟩
 refine sQ (qA rfl) rfl (sD (nS (cF rfl (tR ?_))))
 refine sB (qE rfl rfl) rfl rfl (fun h204 => ?_) (fun h204 => ?_)
 refine J9 ?_
 exact ⟨rfl, by (unfold C7; first | rw [if_pos (by omega)] | rw [if_neg (by omega), if_pos (by omega)] | rw [if_neg (by omega), if_neg (by omega), if_pos (by omega)] | rw [if_neg (by omega), if_neg (by omega), if_neg (by omega), if_pos (by omega)] | rw [if_neg (by omega), if_neg (by omega), if_neg (by omega), if_neg (by omega)]), rfl⟩
 refine sQ (qA rfl) rfl (sD (nS (cF rfl (tS (tS (tR ?_))))))
 refine sB (qE rfl rfl) rfl rfl (fun h226 => ?_) (fun h226 => ?_)
 refine K4 ?_
 exact ⟨rfl, by (unfold C7; first | rw [if_pos (by omega)] | rw [if_neg (by omega), if_pos (by omega)] | rw [if_neg (by omega), if_neg (by omega), if_pos (by omega)] | rw [if_neg (by omega), if_neg (by omega), if_neg (by omega), if_pos (by omega)] | rw [if_neg (by omega), if_neg (by omega), if_neg (by omega), if_neg (by omega)]), rfl⟩
 refine sQ (qA rfl) rfl (sD (nS (cF rfl (tS (tR ?_)))))
 refine sB (qE rfl rfl) rfl rfl (fun h250 => ?_) (fun h250 => ?_)
 refine K4 ?_
 exact ⟨rfl, by (unfold C7; first | rw [if_pos (by omega)] | rw [if_neg (by omega), if_pos (by omega)] | rw [if_neg (by omega), if_neg (by omega), if_pos (by omega)] | rw [if_neg (by omega), if_neg (by omega), if_neg (by omega), if_pos (by omega)] | rw [if_neg (by omega), if_neg (by omega), if_neg (by omega), if_neg (by omega)]), rfl⟩
 refine sQ (qA rfl) rfl (sD (nS (cF rfl (tS (tR ?_)))))
 refine sB (qE rfl rfl) rfl rfl (fun h274 => ?_) (fun h274 => ?_)
 refine K4 ?_
 exact ⟨rfl, by (unfold C7; first | rw [if_pos (by omega)] | rw [if_neg (by omega), if_pos (by omega)] | rw [if_neg (by omega), if_neg (by omega), if_pos (by omega)] | rw [if_neg (by omega), if_neg (by omega), if_neg (by omega), if_pos (by omega)] | rw [if_neg (by omega), if_neg (by omega), if_neg (by omega), if_neg (by omega)]), rfl⟩
 refine sQ (qA rfl) rfl (sD (nS (cF rfl (tR ?_))))
 refine sB (qE rfl rfl) rfl rfl (fun h297 => ?_) (fun h297 => ?_)
 refine J9 ?_
 exact ⟨rfl, by (unfold C7; first | rw [if_pos (by omega)] | rw [if_neg (by omega), if_pos (by omega)] | rw [if_neg (by omega), if_neg (by omega), if_pos (by omega)] | rw [if_neg (by omega), if_neg (by omega), if_neg (by omega), if_pos (by omega)] | rw [if_neg (by omega), if_neg (by omega), if_neg (by omega), if_neg (by omega)]), rfl⟩
 refine sQ (qA rfl) rfl (sD (nS (cF rfl (tS (tR ?_)))))
 refine sB (qE rfl rfl) rfl rfl (fun h318 => ?_) (fun h318 => ?_)
 refine J9 ?_
 exact ⟨rfl, by (unfold C7; first | rw [if_pos (by omega)] | rw [if_neg (by omega), if_pos (by omega)] | rw [if_neg (by omega), if_neg (by omega), if_pos (by omega)] | rw [if_neg (by omega), if_neg (by omega), if_neg (by omega), if_pos (by omega)] | rw [if_neg (by omega), if_neg (by omega), if_neg (by omega), if_neg (by omega)]), rfl⟩
 refine J2 ?_
 exact ⟨rfl, by (unfold C7; first | rw [if_pos (by omega)] | rw [if_neg (by omega), if_pos (by omega)] | rw [if_neg (by omega), if_neg (by omega), if_pos (by omega)] | rw [if_neg (by omega), if_neg (by omega), if_neg (by omega), if_pos (by omega)] | rw [if_neg (by omega), if_neg (by omega), if_neg (by omega), if_neg (by omega)]), rfl⟩
theorem B2O (s : ByteArray) (G : IM) : Fn Tryz.prog 215 [.string s] [] G (H0 (.bool (Z7 s)) G) := by
 refine B2 Tryz.func215 rfl Tryz.ntmps215 Tryz.results215 rfl ?_
 intro w0
 refine D3 ?_
 refine sQ (A2n rfl rfl) rfl (sB (qE rfl rfl) rfl rfl (fun h10 => ?_) (fun h10 => ?_))
 refine sQ (qM rfl) rfl (sQ (qM rfl) rfl ?_)
 refine sP (A4k rfl rfl rfl (by omega) (A4u (by omega))) rfl rfl ?_
 refine sB (A0L rfl rfl) rfl rfl (fun h14 => ?_) (fun h14 => ?_)
 refine sQ (L4 rfl rfl) rfl (sQ (qM rfl) rfl (sQ (qM rfl) rfl ?_))
 refine sP (A4k rfl rfl rfl (by omega) (A4u (by omega))) rfl rfl ?_
 refine sB (A0o rfl rfl) rfl rfl (fun h19 => ?_) (fun h19 => ?_)
 refine J8 ?_
 exact ⟨rfl, by simp only [Z7]; (try simp only [Int.toNat_zero] at *); (first | rw [decide_eq_true (by omega)] | rw [decide_eq_false (by omega)]), rfl⟩
 refine J8 ?_
 exact ⟨rfl, by simp only [Z7]; (try simp only [Int.toNat_zero] at *); (first | rw [decide_eq_true (by omega)] | rw [decide_eq_false (by omega)]), rfl⟩
 refine I6 ?_
 exact ⟨rfl, by simp only [Z7]; (try simp only [Int.toNat_zero] at *); (first | rw [decide_eq_true (by omega)] | rw [decide_eq_false (by omega)]), rfl⟩
 refine H9 ?_
 exact ⟨rfl, by simp only [Z7]; (try simp only [Int.toNat_zero] at *); (first | rw [decide_eq_true (by omega)] | rw [decide_eq_false (by omega)]), rfl⟩
theorem A8l (t : Ty) (G : IM) (cells : List Value) (hr : B7 G t cells) : Fn Tryz.prog 216 [.agg ⟨cells⟩] [] G (H0 (.bool (Y5 t)) G) := by
 obtain ⟨p, c, es, rfl, hk, hsl, hkl⟩ := hr.open
 refine B2 Tryz.func216 rfl Tryz.ntmps216 Tryz.results216 rfl ?_
 intro w0
 refine tS (tR ?_)
 refine sE (B9 rfl rfl) rfl (fun b3 => ?_)
 refine C2 ?_
 refine sB (qE rfl rfl) rfl rfl (fun h11 => ?_) (fun h11 => ?_)
 refine F0 ?_
 refine sB (qE rfl rfl) rfl rfl (fun h16 => ?_) (fun h16 => ?_)
 refine J8 ?_
 exact ⟨rfl, by simp only [Y5]; (first | rw [decide_eq_true (by omega)] | rw [decide_eq_false (by omega)]), rfl⟩
 refine J8 ?_
 exact ⟨rfl, by simp only [Y5]; (first | rw [decide_eq_true (by omega)] | rw [decide_eq_false (by omega)]), rfl⟩
 refine I6 ?_
 exact ⟨rfl, by simp only [Y5]; (first | rw [decide_eq_true (by omega)] | rw [decide_eq_false (by omega)]), rfl⟩
def A0M (n : Int) : Int := if n < -99 ∨ n > 99 then 0 else if n < 0 then -n else n
theorem B2P (n : Int) (G : IM) : Fn Tryz.prog 151 [.int .i64 n] [] G (H0 (.int .i64 (A0M n)) G) := by
 refine B2 Tryz.func151 rfl Tryz.ntmps151 Tryz.results151 rfl ?_
 intro w0
 refine D4 ?_
 refine sB (K6 rfl rfl) rfl rfl (fun h10 => ?_) (fun h10 => ?_)
 refine H9 ?_
 exact ⟨rfl, by (unfold A0M; first | rw [if_pos (by omega)] | rw [if_neg (by omega), if_pos (by omega)] | rw [if_neg (by omega), if_neg (by omega)]), rfl⟩
 refine sQ (qM rfl) rfl (sQ (qM rfl) rfl ?_)
 refine sB (X6 rfl rfl) rfl rfl (fun h29 => ?_) (fun h29 => ?_)
 refine N6 ?_
 exact ⟨rfl, by (unfold A0M; first | rw [if_pos (by omega)] | rw [if_neg (by omega), if_pos (by omega)] | rw [if_neg (by omega), if_neg (by omega)]), rfl⟩
 refine I9 ?_
 refine sB (K6 rfl rfl) rfl rfl (fun h53 => ?_) (fun h53 => ?_)
 refine sD (nS (qT rfl (tS (tR (sQ (qM rfl) rfl ?_)))))
 refine sP (A5C rfl (by omega) (by omega)) rfl rfl ?_
 refine sQ (qA rfl) rfl (sD (nS (tT (rS (D9 (rT rfl) ?_)))))
 exact ⟨rfl, by (unfold A0M; first | rw [if_pos (by omega)] | rw [if_neg (by omega), if_pos (by omega)] | rw [if_neg (by omega), if_neg (by omega)]), rfl⟩
 refine J9 ?_
 exact ⟨rfl, by (unfold A0M; first | rw [if_pos (by omega)] | rw [if_neg (by omega), if_pos (by omega)] | rw [if_neg (by omega), if_neg (by omega)]), rfl⟩
theorem Sl.of_blk {G : IM} {b n c sz : Nat} {A C cs : List Value} (hl : cs.length = n * sz) (hc : n ≤ c) (hm : c ≤ maxLen) (hg : G b = some (A ++ (cs ++ C))) : Sl G (some ⟨b, A.length, none⟩) n c sz cs := by
 refine ⟨hl, hc, hm, .inr ⟨b, A.length, _, rfl, hg, fun j v hj => ?_⟩⟩
 have hlt : j < cs.length := (List.getElem?_eq_some_iff.1 hj).1
 rw [List.getElem?_append, if_neg (by omega), List.getElem?_append, if_pos (by omega), show A.length + j - A.length = j by omega]
 exact hj
def InG (G : IM) (bs : A02) (F : List Nat) : Prop := (bs.map Prod.fst).Sublist F ∧ ∀ q ∈ bs, G q.1 = some q.2
mutual
theorem A3B : ∀ t : Ty, J7 t ≤ 4294967296 → t.small
 | .mk _ ks, h => by
  rw [J7] at h
  have := A1F ks
  simp only [Ty.small]
  exact ⟨by omega, A8m ks (by omega)⟩
theorem A8m : ∀ ts : List Ty, O4 ts ≤ 4294967296 → Ty.smallL ts
 | [], _ => by simp [Ty.smallL]
 | t :: ts, h => by
  rw [O4] at h
  have := A03 t
  have := A1F ts
  simp only [Ty.smallL]
  exact ⟨A3B t (by omega), A8m ts (by omega)⟩
end
mutual
theorem A57 : ∀ t : Tm, A0i t ≤ 4294967296 → t.small
 | .mk _ nm _ ty fr _ ks, h => by
  rw [A0i] at h
  have := A4C ks
  have := A03 ty
  have := A03 fr
  simp only [Tm.small]
  exact ⟨by omega, A3B ty (by omega), A3B fr (by omega), by omega, A8n ks (by omega)⟩
theorem A8n : ∀ ts : List Tm, X8 ts ≤ 4294967296 → Tm.smallL ts
 | [], _ => by simp [Tm.smallL]
 | t :: ts, h => by
  rw [X8] at h
  have := A72 t
  have := A4C ts
  simp only [Tm.smallL]
  exact ⟨A57 t (by omega), A8n ts (by omega)⟩
end
mutual
theorem A3C : ∀ t : Tm, (C6 t : Int) ≤ A0i t + 1
 | .mk _ nm _ ty fr _ ks => by
  have := A8o ks
  have := A03 ty
  have := A03 fr
  rw [A0i, C6]; omega
theorem A8o : ∀ ts : List Tm, (D6 ts : Int) ≤ ts.length + X8 ts
 | [] => by rw [X8, D6]; simp
 | t :: ts => by
  have := A3C t
  have := A8o ts
  rw [X8, D6, List.length_cons]; omega
end
def O9 : Ty := .mk 1 []
def Q6 : Nat → Ty → Prop
 | 0, .mk k ks => ks = [] ∧ k ≠ 4 ∧ k ≠ 5
 | n + 1, .mk k ks => (k = 4 ∨ k = 5 → ks.length = 2) ∧ (k ≠ 4 → k ≠ 5 → ks.length = 0) ∧ ∀ t ∈ ks, Q6 n t
mutual
def E5 : Ty → Prop
 | .mk k ks => (k = 4 ∨ k = 5 → ks.length = 2) ∧ (k ≠ 4 → k ≠ 5 → ks.length = 0) ∧ A0N ks
def A0N : List Ty → Prop
 | [] => True
 | t :: ts => E5 t ∧ A0N ts
end
theorem A3D : ∀ {ts : List Ty}, A0N ts ↔ ∀ t ∈ ts, E5 t
 | [] => by simp [A0N]
 | t :: ts => by simp only [A0N, A3D (ts := ts), List.forall_mem_cons]
theorem Q6.ar : ∀ {n : Nat} {t : Ty}, Q6 n t → E5 t
 | 0, .mk k ks, h => by
  obtain ⟨rfl, h1, h2⟩ := h
  rw [E5]
  exact ⟨fun h => by omega, fun _ _ => rfl, by rw [A0N]; trivial⟩
 | n + 1, .mk k ks, h => by
  obtain ⟨h1, h2, h3⟩ := h
  rw [E5]
  exact ⟨h1, h2, A3D.2 fun t ht => (h3 t ht).ar⟩
theorem Q6.up : ∀ {n : Nat} {t : Ty}, Q6 n t → Q6 (n + 1) t
 | 0, .mk k ks, h => by
  obtain ⟨rfl, h1, h2⟩ := h
  exact ⟨fun h => by omega, fun _ _ => rfl, by simp⟩
 | n + 1, .mk k ks, h => by
  obtain ⟨h1, h2, h3⟩ := h
  exact ⟨h1, h2, fun t ht => (h3 t ht).up⟩
theorem Q6.le {n m : Nat} {t : Ty} (h : Q6 n t) (hm : n ≤ m) : Q6 m t := by
 induction hm with
 | refl => exact h
 | step _ ih => exact ih.up
theorem B2Q {d : Nat} {k : Int} {ts : List Ty} (h0 : d = 0 → k < 4) (hl : (ts.length : Int) = V7 k) (h1 : 1 ≤ k) (h5 : k ≤ 5) (ha : ∀ u ∈ ts, Q6 (d - 1) u) : Q6 d (.mk k ts) := by
 have hk : k = 1 ∨ k = 2 ∨ k = 3 ∨ k = 4 ∨ k = 5 := by omega
 cases d with
 | zero =>
  have hk4 := h0 rfl
  refine ⟨?_, by omega, by omega⟩
  have : V7 k = 0 := by
   rcases hk with rfl | rfl | rfl | rfl | rfl <;> first | rfl | omega
  exact List.length_eq_zero_iff.1 (by omega)
 | succ d =>
  refine ⟨?_, ?_, ha⟩
  ·rintro (rfl | rfl)
   ·have : V7 4 = 2 := rfl
    omega
   ·have : V7 5 = 2 := rfl
    omega
  ·intro h4 h5
   have : V7 k = 0 := by
    rcases hk with rfl | rfl | rfl | rfl | rfl <;> first | rfl | omega
   omega
theorem A8p (n : Nat) : Q6 n O9 := by
 refine Q6.le (n := 0) ⟨rfl, by decide, by decide⟩ (Nat.zero_le n)
theorem A2U (n : Nat) {k : Int} (h4 : k ≠ 4) (h5 : k ≠ 5) : Q6 n (.mk k []) := Q6.le (n := 0) ⟨rfl, h4, h5⟩ (Nat.zero_le n)
theorem A3E : E5 O9 := (A8p 0).ar
mutual
theorem E5.small : ∀ {t : Ty}, E5 t → t.small
 | .mk k ks, h => by
  rw [E5] at h
  rw [Ty.small]
  exact ⟨by have h1 := h.1; have h2 := h.2.1; omega, A0N.small h.2.2⟩
theorem A0N.small : ∀ {ts : List Ty}, A0N ts → Ty.smallL ts
 | [], _ => by rw [Ty.smallL]; trivial
 | t :: ts, h => by
  rw [A0N] at h
  rw [Ty.smallL]
  exact ⟨h.1.small, A0N.small h.2⟩
end
theorem A4I : ∀ {n : Nat} {t : Ty}, Q6 n t → J7 t ≤ ((2 ^ (n + 1) - 2 : Nat) : Int)
 | 0, .mk k ks, h => by
  obtain ⟨rfl, h1, h2⟩ := h
  rw [J7, O4]; simp
 | n + 1, .mk k ks, h => by
  obtain ⟨h1, h2, h3⟩ := h
  have hp : 2 ≤ 2 ^ (n + 1) := by
   have := Nat.pow_le_pow_right (n := 2) (by omega) (show 1 ≤ n + 1 by omega)
   simpa using this
  have e : 2 ^ (n + 1 + 1) = 2 ^ (n + 1) * 2 := Nat.pow_succ ..
  have hl : ks.length = 0 ∨ ks.length = 2 := by omega
  rw [J7]
  match ks, hl, h3 with
  | [], _, _ => rw [O4]; simp
  | [a, b], _, h3 =>
   have := A4I (h3 a (by simp))
   have := A4I (h3 b (by simp))
   simp only [O4, List.length_cons, List.length_nil]; omega
theorem B2R {k : Int} {ks us : List Ty} : ∀ {n : Nat}, Q6 n (.mk k ks) → us.length = ks.length → (∀ u ∈ us, Q6 (n - 1) u) → Q6 n (.mk k us)
 | 0, h, hl, _ => by
  obtain ⟨rfl, h1, h2⟩ := h
  exact ⟨List.length_eq_zero_iff.1 (by simpa using hl), h1, h2⟩
 | n + 1, h, hl, hu => by
  obtain ⟨h1, h2, h3⟩ := h
  exact ⟨fun hk => by rw [hl]; exact h1 hk, fun a b => by rw [hl]; exact h2 a b, hu⟩
theorem A58 {k : Int} {ks : List Ty} {t : Ty} : ∀ {n : Nat}, Q6 n (.mk k ks) → t ∈ ks → Q6 (n - 1) t
 | 0, h, ht => by
  obtain ⟨rfl, h1, h2⟩ := h
  simp at ht
 | n + 1, h, ht => h.2.2 t ht
theorem A8q {k : Int} {ks : List Ty} {d : Int} (h : 4 < d ∨ V7 k ≠ ks.length) : K8 (.mk k ks) d = false := by
 rw [K8]
 rcases h with h | h
 ·rw [decide_eq_false (by omega)]; rfl
 ·rw [decide_eq_false (p := V7 k = ks.length) h, Bool.and_false]; rfl
theorem A8r {k : Int} {ks : List Ty} {d : Int} (h : d ≤ 4) (h2 : V7 k = ks.length) : K8 (.mk k ks) d = T7 ks (d + 1) := by
 rw [K8, decide_eq_true h, decide_eq_true h2]; rfl
theorem B2S {ks : List Ty} {d : Int} {i : Nat} (hi : i < ks.length) (h : K8 ks[i] d = false) : T7 ks d = false := by
 cases hx : T7 ks d with
 | false => rfl
 | true => rw [(A4t ks d).1 hx i hi] at h; cases h
theorem B2T : ∀ (t : Ty) (d : Int) (G : IM) (cells : List Value), 0 ≤ d ∧ d ≤ 4 → B7 G t cells →
  Fn Tryz.prog 224 [.agg ⟨cells⟩, .int .i64 d] [] G (H0 (.bool (K8 t (5 - d))) G) := by
 refine Ty.ind fun k ks ih d G cells hd hr => ?_
 obtain ⟨p, c, es, rfl, hk, hsl, hkl⟩ := hr.open
 simp only [Ty.k, Ty.ks] at hk hsl hkl ⊢
 have hn := hsl.le
 have hk1 := A8k k G
 refine B2 Tryz.func224 rfl Tryz.ntmps224 Tryz.results224 rfl ?_
 intro w0
 refine tS (tR ?_)
 refine sE (B9 rfl rfl) rfl (fun b3 => ?_)
 refine sQ (qA rfl) rfl (sD (nS (tS (tS ?_))))
 refine E1 E2 rfl ?_
 refine J5 (i := 0) (l' := [tt,ff,ff,ff,ff,ff,ff,ff,ff,ff,ff]) rfl D5 (qM rfl) rfl (by kernel_rfl) rfl rfl ?_
 refine A0K (i := 1) (l' := [tt,tt,ff,ff,ff,ff,ff,ff,ff,ff,ff]) rfl D5 (K6 rfl rfl) rfl (by kernel_rfl) rfl rfl (fun h11 => ?_) (fun h11 => ?_)
 refine aP 2 rfl (qM rfl) rfl ?_
 refine B5 3 rfl rfl rfl ?_
 refine B5 4 rfl rfl rfl ?_
 refine B5 6 rfl rfl rfl ?_
 refine B5 7 rfl rfl rfl ?_
 refine B5 8 rfl rfl rfl ?_
 refine B5 5 rfl rfl rfl ?_
 refine B5 9 rfl rfl rfl ?_
 refine aP 10 rfl (L4 rfl rfl) rfl ?_
 refine I6 ?_
 (rw [A8q (by omega)]; exact ⟨rfl, rfl, rfl⟩)
 refine aP 2 rfl (qM rfl) rfl ?_
 refine aP 3 rfl (B1 rfl) rfl ?_
 refine aL 4 rfl (C0 rfl rfl) rfl ?_
 refine aP 6 rfl (B1 rfl) rfl ?_
 refine aL 7 rfl (C0 rfl rfl) rfl ?_
 refine aP 8 rfl (pLn rfl rfl) rfl ?_
 refine A3 5 ?_
 refine P6 rfl rfl (hk1) rfl rfl rfl ?_
 refine A0K (i := 9) (l' := [tt,tt,tt,tt,tt,tt,tt,tt,tt,tt,ff]) rfl D5 (M7 rfl rfl) rfl (by kernel_rfl) rfl rfl (fun h41 => ?_) (fun h41 => ?_)
 refine aP 10 rfl (O3 rfl rfl) rfl ?_
 refine I6 ?_
 (rw [A8q (by omega)]; exact ⟨rfl, rfl, rfl⟩)
 refine aP 10 rfl (O3 rfl rfl) rfl ?_
 refine I6 ?_
 refine B4 ?_
 (refine K9 (fun (i : Nat) => ⟨[(5, .int .i64 i), (2, .pointer (some ⟨b3, 0, none⟩)), (1, .int .i64 d)], [.blk b3 [.int .i64 k, .slice p ks.length c]], G⟩) (fun i => i ≤ ks.length ∧ ∀ j (h : j < ks.length), j < i → K8 ks[j] (5 - d + 1) = true) (fun i => ks.length - i) 0 ?_ ?_ ?_)
 exact D1
 exact ⟨by omega, by omega⟩
 (rintro i ⟨hi, hf⟩)
 refine C2 ?_
 refine sB (K6 rfl rfl) rfl rfl (fun h79 => ?_) (fun h79 => ?_)
 refine sD (nS (qT rfl (tK (nS (tS ?_)))))
 refine B4 ?_
 refine R1 ?_
 (obtain ⟨b, o, p2, c2, rfl, hat, hre, hgb⟩ := hsl.kidTy hkl (i := i) (by omega) (by omega); refine sP (B3 rfl rfl rfl (by omega)) rfl rfl ?_)
 refine sL (A1 rfl rfl (hat _) rfl) rfl rfl ?_
 refine sQ (qM rfl) rfl ?_
 refine sP (P5 rfl rfl (by omega) (by omega)) rfl rfl ?_
 (have hih := ih ks[i] (List.getElem_mem (by omega)) (d - 1) G _ (by omega) hre; rw [show 5 - (d - 1) = 5 - d + 1 by omega] at hih; refine D8 rfl hih rfl rfl (fun h96 => ?_) (fun h96 => ?_))
 refine D4 ?_
 refine sP (K2 rfl rfl (by omega) (by omega)) rfl rfl ?_
 refine sQ (qA rfl) rfl (sD ?_)
 refine K7 (i + 1) ?_ ?_ ?_
 exact D1
 exact ⟨by omega, fun j hj hji => by (by_cases he : j = i; (subst he; assumption); exact hf j hj (by omega))⟩
 omega
 refine K4 ?_
 (rw [A8r (by omega) (by omega), B2S (i := i) (by omega) (by assumption)]; exact ⟨rfl, rfl, rfl⟩)
 refine H9 ?_
 (rw [A8r (by omega) (by omega), (A4t ks _).2 (fun j hj => hf j hj (by omega))]; exact ⟨rfl, rfl, rfl⟩)
theorem A1Z (t : Ty) (G : IM) (cells : List Value) (hr : B7 G t cells) : Fn Tryz.prog 178 [.agg ⟨cells⟩] [] G (H0 (.bool (E7 t)) G) := by
 have hl := hr.len
 have hv := B2T t 4 G cells (by omega) hr
 refine B2 Tryz.func178 rfl Tryz.ntmps178 Tryz.results178 rfl ?_
 intro w0
 refine tS (tR ?_)
 refine sE (B9 rfl rfl) rfl (fun b3 => ?_)
 refine sQ (qA rfl) rfl (sD (nS (tS (tR ?_))))
 refine sL (A1 rfl rfl (A9 (by repeat first | exact mH | apply mT)) (by assumption)) rfl rfl ?_
 refine H3 rfl (hv) rfl rfl ?_
 refine sQ (qA rfl) rfl (sD (nS (tT (D9 (rT rfl) ?_))))
 exact ⟨rfl, rfl, rfl⟩
theorem A3F {k : Int} {ks : List Ty} {d : Int} (h : K8 (.mk k ks) d = true) : V7 k = ks.length ∧ ∀ i, (hi : i < ks.length) → K8 ks[i] (d + 1) = true := by
 rw [K8] at h
 simp only [Bool.and_eq_true, decide_eq_true_eq] at h
 exact ⟨h.1.2, (A4t ks _).1 h.2⟩
theorem A4J {k k' : Int} {ks ks' : List Ty} (h : k = 1 ∨ k' = 1) : K1 (.mk k ks) (.mk k' ks') = true := by
 rw [S5]
 rcases h with h | h
 ·rw [decide_eq_true (p := k = 1) h]; rfl
 ·rw [decide_eq_true (p := k' = 1) h]; simp
theorem A8s {k k' : Int} {ks ks' : List Ty} (h : k ≠ 1) (h' : k' ≠ 1) (hk : k ≠ k') : K1 (.mk k ks) (.mk k' ks') = false := by
 rw [S5, decide_eq_false h, decide_eq_false h', decide_eq_false hk]; rfl
theorem A4K {k k' : Int} {ks ks' : List Ty} (h : k ≠ 1) (h' : k' ≠ 1) (hk : k = k') : K1 (.mk k ks) (.mk k' ks') = N0 ks ks' := by
 rw [S5, decide_eq_false h, decide_eq_false h', decide_eq_true hk]; rfl
theorem A8t {ks ks' : List Ty} {i : Nat} (hi : i < ks.length) (hi' : i < ks'.length) (h : K1 ks[i] ks'[i] = false) : N0 ks ks' = false := by
 cases hx : N0 ks ks' with
 | false => rfl
 | true => rw [((A1X ks ks').1 hx).2 i hi hi'] at h; cases h
theorem B2U : ∀ (t t' : Ty) (G : IM) (cells cells' : List Value) (d d' : Int), K8 t d = true → K8 t' d' = true → B7 G t cells → B7 G t' cells' →
  Fn Tryz.prog 107 [.agg ⟨cells⟩, .agg ⟨cells'⟩] [] G (H0 (.bool (K1 t t')) G) := by
 refine Ty.ind fun k ks ih t' G cells cells' d d' hv hv' hr hr' => ?_
 obtain ⟨k', ks'⟩ := t'
 obtain ⟨p, c, es, rfl, hk, hsl, hkl⟩ := hr.open
 obtain ⟨p', c', es', rfl, hk', hsl', hkl'⟩ := hr'.open
 simp only [Ty.k, Ty.ks] at hk hsl hkl hk' hsl' hkl' ⊢
 have hn := hsl.le
 have hn' := hsl'.le
 obtain ⟨hv1, hv2⟩ := A3F hv
 obtain ⟨hv1', hv2'⟩ := A3F hv'
 have hle : k = k' → ks.length = ks'.length := by rintro rfl; omega
 refine B2 Tryz.func107 rfl Tryz.ntmps107 Tryz.results107 rfl ?_
 intro w0
 refine tS (tR ?_)
 refine sE (B9 rfl rfl) rfl (fun b3 => ?_)
 refine sE (B9 rfl rfl) rfl (fun b4 => ?_)
 refine D3 ?_
 refine sB (qE rfl rfl) rfl rfl (fun h13 => ?_) (fun h13 => ?_)
 refine K4 ?_
 (rw [A4J (by omega)]; exact ⟨rfl, rfl, rfl⟩)
 refine K3 ?_
 refine sB (qE rfl rfl) rfl rfl (fun h34 => ?_) (fun h34 => ?_)
 refine N6 ?_
 (rw [A4J (by omega)]; exact ⟨rfl, rfl, rfl⟩)
 refine J9 ?_
 refine sB (M7 rfl rfl) rfl rfl (fun h61 => ?_) (fun h61 => ?_)
 refine I6 ?_
 (rw [A8s (by omega) (by omega) (by omega)]; exact ⟨rfl, rfl, rfl⟩)
 refine I6 ?_
 refine B4 ?_
 (have hll : ks.length = ks'.length := hle (by omega); refine K9 (fun (i : Nat) => ⟨[(5, .int .i64 i), (3, .pointer (some ⟨b4, 0, none⟩)), (2, .pointer (some ⟨b3, 0, none⟩))], [.blk b3 [.int .i64 k, .slice p ks.length c], .blk b4 [.int .i64 k', .slice p' ks'.length c']], G⟩) (fun i => i ≤ ks.length ∧ ∀ j (h : j < ks.length) (h' : j < ks'.length), j < i → K1 ks[j] ks'[j] = true) (fun i => ks.length - i) 0 ?_ ?_ ?_)
 exact D1
 exact ⟨by omega, by omega⟩
 (rintro i ⟨hi, hf⟩)
 refine C2 ?_
 refine sB (K6 rfl rfl) rfl rfl (fun h97 => ?_) (fun h97 => ?_)
 refine sD (nS (qT rfl (tK (nS (tS ?_)))))
 refine B4 ?_
 refine tS ?_
 (obtain ⟨b, o, p2, c2, rfl, hat, hre, hgb⟩ := hsl.kidTy hkl (i := i) (by omega) (by omega); obtain ⟨b', o', p2', c2', rfl, hat', hre', hgb'⟩ := hsl'.kidTy hkl' (i := i) (by omega) (by omega); refine E1 E2 rfl ?_)
 refine J5 (i := 0) (l' := [tt,ff,ff,ff,ff,ff,ff,ff,ff,ff,ff,ff]) rfl D5 (B1 rfl) rfl (by kernel_rfl) rfl rfl ?_
 refine aL 1 rfl (C0 rfl rfl) rfl ?_
 refine aP 2 rfl (qM rfl) rfl ?_
 refine aP 3 rfl (B3 rfl rfl rfl (by omega)) rfl ?_
 refine aL 4 rfl (A1 rfl rfl (hat _) rfl) rfl ?_
 refine aP 5 rfl (B1 rfl) rfl ?_
 refine aL 6 rfl (C0 rfl rfl) rfl ?_
 refine aP 7 rfl (qM rfl) rfl ?_
 refine aP 8 rfl (B3 rfl rfl rfl (by omega)) rfl ?_
 refine aL 9 rfl (A1 rfl rfl (hat' _) rfl) rfl ?_
 refine A3 10 ?_
 refine U7 rfl rfl (ih ks[i] (List.getElem_mem (by omega)) ks'[i] G _ _ _ _ (hv2 i (by omega)) (hv2' i (by omega)) hre hre') rfl rfl rfl (fun h118 => ?_) (fun h118 => ?_)
 refine aP 11 rfl (Z3 rfl) rfl ?_
 refine D3 ?_
 refine sP (K2 rfl rfl (by omega) (by omega)) rfl rfl ?_
 refine sQ (qA rfl) rfl (sD ?_)
 refine K7 (i + 1) ?_ ?_ ?_
 exact D1
 exact ⟨by omega, fun j hj hj' hji => by (by_cases he : j = i; (subst he; assumption); exact hf j hj hj' (by omega))⟩
 omega
 refine aP 11 rfl (pNf rfl) rfl ?_
 refine H9 ?_
 (rw [A4K (by omega) (by omega) (by omega), A8t (i := i) (by omega) (by omega) (by assumption)]; exact ⟨rfl, rfl, rfl⟩)
 refine H9 ?_
 (rw [A4K (by omega) (by omega) (by omega), (A1X ks _).2 ⟨hll, fun j hj hj' => hf j hj hj' (by omega)⟩]; exact ⟨rfl, rfl, rfl⟩)
section blaws
variable {P : Program} {Γ : M0} {env : M4} {hp : List A4} {G : IM} {ty : TypeId}
theorem A3G {x y : Operand} {t t' : TypeId} {i : L8} [hI : I1 P t i] (hd : i.desc = .bool) {r : Bool} (hx : evo env x = some (.bool r)) (hy : evo env y = some (.bool r)) :
  I3 P Γ ⟨env, hp, G⟩ (.binOp .neq t x y t') ty (.bool false) := by
 have h := A5D (P := P) (Γ := Γ) (hp := hp) (G := G) (t := t) (t' := t') (ty := ty) hd hx hy
 rwa [decide_eq_false (by simp)] at h
theorem A8u {x y : Operand} {t t' : TypeId} {i : L8} [hI : I1 P t i] (hd : i.desc = .bool) (hx : evo env x = some (.bool true)) (hy : evo env y = some (.bool false)) :
  I3 P Γ ⟨env, hp, G⟩ (.binOp .neq t x y t') ty (.bool true) := A5D hd hx hy
theorem A59 {x y : Operand} {t t' : TypeId} {i : L8} [hI : I1 P t i] (hd : i.desc = .bool) (hx : evo env x = some (.bool false)) (hy : evo env y = some (.bool true)) :
  I3 P Γ ⟨env, hp, G⟩ (.binOp .neq t x y t') ty (.bool true) := A5D hd hx hy
end blaws
theorem B2V (n : Int) : ((1 ≤ A0M n ∧ A0M n ≤ 99) ↔ A00 n = true) := by
 unfold A0M A00 P8
 simp only [Bool.or_eq_true, decide_eq_true_eq]
 split
 ·omega
 ·split <;> omega
theorem B2W (k : Int) (nm : ByteArray) (num : Int) (ty fr : Ty) (lb : Int) (ks : List Tm) (G : IM) (cells : List Value) (hr : A8 G (.mk k nm num ty fr lb ks) cells) (R : Bool)
  (hi : R = true ↔ nm = ⟨#[]⟩ ∧ num = 0 ∧ (1 ≤ A0M lb ∧ A0M lb ≤ 99) ∧ E7 ty = true ∧ E7 fr = true ∧ K1 fr ty = true) :
  Fn Tryz.prog 166 [.agg ⟨cells⟩] [] G (H0 (.bool R) G) := by
 obtain ⟨tk, tks⟩ := ty
 obtain ⟨fk, fks⟩ := fr
 obtain ⟨pt, ct, pf, cf, p, c, es, rfl, hk, hnum, hlb, hty, hfr, hsl, hkl⟩ := hr.open9
 clear hr
 have o3 := A1Z _ G _ hty
 have o4 := A1Z _ G _ hfr
 have o6 := B2P lb G
 refine B2 Tryz.func166 rfl Tryz.ntmps166 Tryz.results166 rfl ?_
 intro w0
 refine tS (tR ?_)
 refine sE (B9 rfl rfl) rfl (fun b3 => ?_)
 refine C2 ?_
 refine H3 rfl (o6) rfl rfl ?_
 refine C2 ?_
 refine sB (A1b rfl rfl) rfl rfl (fun h19 => ?_) (fun h19 => ?_)
 refine K3 ?_
 refine sB (qE rfl rfl) rfl rfl (fun h23 => ?_) (fun h23 => ?_)
 refine sQ (L4 rfl rfl) rfl (sQ (qM rfl) rfl (sQ (qM rfl) rfl ?_))
 refine sB (A0L rfl rfl) rfl rfl (fun h27 => ?_) (fun h27 => ?_)
 refine sQ (L4 rfl rfl) rfl (sQ (qM rfl) rfl (sQ (qM rfl) rfl ?_))
 refine sB (A0o rfl rfl) rfl rfl (fun h31 => ?_) (fun h31 => ?_)
 refine F0 ?_
 refine D8 rfl (o3) rfl rfl (fun h36 => ?_) (fun h36 => ?_)
 refine F0 ?_
 refine D8 rfl (o4) rfl rfl (fun h41 => ?_) (fun h41 => ?_)
 refine J8 ?_
 refine D8 rfl (B2U _ _ G _ _ _ _ (by assumption) (by assumption) hfr hty) rfl rfl (fun h48 => ?_) (fun h48 => ?_)
 refine J8 ?_
 exact ⟨rfl, by rw [hi.2 ⟨by (first | assumption | exact Classical.not_not.1 (by assumption)), by omega, by omega, by assumption, by assumption, by assumption⟩], rfl⟩
 refine J8 ?_
 exact ⟨rfl, by (cases R with | false => rfl | true => (exfalso; obtain ⟨i1, i2, i3, i4, i5, i6⟩ := hi.1 rfl; first | omega | (simp_all; done))), rfl⟩
 refine J9 ?_
 exact ⟨rfl, by (cases R with | false => rfl | true => (exfalso; obtain ⟨i1, i2, i3, i4, i5, i6⟩ := hi.1 rfl; first | omega | (simp_all; done))), rfl⟩
 refine V6 ?_
 exact ⟨rfl, by (cases R with | false => rfl | true => (exfalso; obtain ⟨i1, i2, i3, i4, i5, i6⟩ := hi.1 rfl; first | omega | (simp_all; done))), rfl⟩
 refine A1c ?_
 exact ⟨rfl, by (cases R with | false => rfl | true => (exfalso; obtain ⟨i1, i2, i3, i4, i5, i6⟩ := hi.1 rfl; first | omega | (simp_all; done))), rfl⟩
 refine A7E ?_
 exact ⟨rfl, by (cases R with | false => rfl | true => (exfalso; obtain ⟨i1, i2, i3, i4, i5, i6⟩ := hi.1 rfl; first | omega | (simp_all; done))), rfl⟩
 refine A0g ?_
 refine D9 (rT rfl) ?_
 exact ⟨rfl, by (cases R with | false => rfl | true => (exfalso; obtain ⟨i1, i2, i3, i4, i5, i6⟩ := hi.1 rfl; first | omega | (simp_all; done))), rfl⟩
 refine A0g ?_
 refine sQ (qA rfl) rfl (sD (nS (tT (D9 (rT rfl) ?_))))
 exact ⟨rfl, by (cases R with | false => rfl | true => (exfalso; obtain ⟨i1, i2, i3, i4, i5, i6⟩ := hi.1 rfl; first | omega | (simp_all; done))), rfl⟩
theorem A8v (k : Int) (nm : ByteArray) (num : Int) (ty fr : Ty) (lb : Int) (ks : List Tm) (G : IM) (cells : List Value) (hr : A8 G (.mk k nm num ty fr lb ks) cells) (R : Bool)
  (hi : R = true ↔ (k = 1 ∨ k = 5 → Z7 nm = true) ∧ (¬(k = 1 ∨ k = 5) → nm = ⟨#[]⟩) ∧ (k = 5 ∨ k = 13 ∨ k = 14 → E7 ty = true) ∧ (¬(k = 5 ∨ k = 13 ∨ k = 14) → Y5 ty = true) ∧ (k ≠ 14 → Y5 fr = true ∧ lb = 0) ∧ (k = 2 → 0 ≤ num ∧ num ≤ 999) ∧ (k ≠ 2 → num = 0)) :
  Fn Tryz.prog 167 [.agg ⟨cells⟩] [] G (H0 (.bool R) G) := by
 have he : nm = ⟨#[]⟩ → Z7 nm = false := by rintro rfl; rfl
 obtain ⟨tk, tks⟩ := ty
 obtain ⟨fk, fks⟩ := fr
 obtain ⟨pt, ct, pf, cf, p, c, es, rfl, hk, hnum, hlb, hty, hfr, hsl, hkl⟩ := hr.open9
 clear hr
 have o2 := B2O nm G
 have o3 := A1Z _ G _ hty
 have o4 := A8l _ G _ hty
 have o7 := A8l _ G _ hfr
 refine B2 Tryz.func167 rfl Tryz.ntmps167 Tryz.results167 rfl ?_
 intro w0
 refine tS (tR ?_)
 refine sE (B9 rfl rfl) rfl (fun b3 => ?_)
 refine C2 ?_
 refine sB (qE rfl rfl) rfl rfl (fun h11 => ?_) (fun h11 => ?_)
 refine N6 ?_
 refine sP (H4 rfl rfl (by omega)) rfl rfl ?_
 refine K3 ?_
 refine sP (H4 rfl rfl (by omega)) rfl rfl ?_
 refine F0 ?_
 refine sP (H4 rfl rfl (by omega)) rfl rfl ?_
 refine I9 ?_
 refine D8 rfl (o2) rfl rfl (fun h44 => ?_) (fun h44 => ?_)
 refine sQ (A3G rfl rfl rfl) rfl ?_
 refine A2O ?_
 refine D8 rfl (o4) rfl rfl (fun h70 => ?_) (fun h70 => ?_)
 refine J9 ?_
 refine sP (A0f rfl rfl (by omega)) rfl rfl ?_
 refine K3 ?_
 refine D8 rfl (o7) rfl rfl (fun h88 => ?_) (fun h88 => ?_)
 refine F0 ?_
 refine sB (M7 rfl rfl) rfl rfl (fun h93 => ?_) (fun h93 => ?_)
 refine J9 ?_
 exact ⟨rfl, by (cases R with | false => rfl | true => (exfalso; obtain ⟨i1, i2, i3, i4, i5, i6, i7⟩ := hi.1 rfl; first | omega | (have j := i1 (by omega); simp_all; done) | (have j := he (i2 (by omega)); simp_all; done) | (have j := i2 (by omega); simp_all; done) | (have j := i3 (by omega); simp_all; done) | (have j := i4 (by omega); simp_all; done) | (have j := i5 (by omega); simp_all; done))), rfl⟩
 refine N6 ?_
 refine sP (H4 rfl rfl (by omega)) rfl rfl ?_
 refine D4 ?_
 refine sB (qE rfl rfl) rfl rfl (fun h130 => ?_) (fun h130 => ?_)
 refine sQ (qA rfl) rfl (sD (nS (tT (D9 (rT rfl) ?_))))
 exact ⟨rfl, by rw [hi.2 ⟨fun _ => by (first | assumption | (exfalso; omega)), fun _ => by (first | assumption | (exfalso; omega) | exact Classical.not_not.1 (by assumption)), fun _ => by (first | assumption | (exfalso; omega)), fun _ => by (first | assumption | (exfalso; omega)), fun _ => ⟨by (first | assumption | (exfalso; omega)), by (first | assumption | omega)⟩, by omega, by omega⟩], rfl⟩
 refine sQ (qA rfl) rfl (sD (nS (tT (D9 (rT rfl) ?_))))
 exact ⟨rfl, by (cases R with | false => rfl | true => (exfalso; obtain ⟨i1, i2, i3, i4, i5, i6, i7⟩ := hi.1 rfl; first | omega | (have j := i1 (by omega); simp_all; done) | (have j := he (i2 (by omega)); simp_all; done) | (have j := i2 (by omega); simp_all; done) | (have j := i3 (by omega); simp_all; done) | (have j := i4 (by omega); simp_all; done) | (have j := i5 (by omega); simp_all; done))), rfl⟩
 refine V6 ?_
 exact ⟨rfl, by (cases R with | false => rfl | true => (exfalso; obtain ⟨i1, i2, i3, i4, i5, i6, i7⟩ := hi.1 rfl; first | omega | (have j := i1 (by omega); simp_all; done) | (have j := he (i2 (by omega)); simp_all; done) | (have j := i2 (by omega); simp_all; done) | (have j := i3 (by omega); simp_all; done) | (have j := i4 (by omega); simp_all; done) | (have j := i5 (by omega); simp_all; done))), rfl⟩
 refine J2 ?_
 exact ⟨rfl, by (cases R with | false => rfl | true => (exfalso; obtain ⟨i1, i2, i3, i4, i5, i6, i7⟩ := hi.1 rfl; first | omega | (have j := i1 (by omega); simp_all; done) | (have j := he (i2 (by omega)); simp_all; done) | (have j := i2 (by omega); simp_all; done) | (have j := i3 (by omega); simp_all; done) | (have j := i4 (by omega); simp_all; done) | (have j := i5 (by omega); simp_all; done))), rfl⟩
 refine sQ (A8u rfl rfl rfl) rfl ?_
 refine A0g ?_
 refine D4 ?_
 exact ⟨rfl, by (cases R with | false => rfl | true => (exfalso; obtain ⟨i1, i2, i3, i4, i5, i6, i7⟩ := hi.1 rfl; first | omega | (have j := i1 (by omega); simp_all; done) | (have j := he (i2 (by omega)); simp_all; done) | (have j := i2 (by omega); simp_all; done) | (have j := i3 (by omega); simp_all; done) | (have j := i4 (by omega); simp_all; done) | (have j := i5 (by omega); simp_all; done))), rfl⟩
 refine K3 ?_
 refine sB (qE rfl rfl) rfl rfl (fun h221 => ?_) (fun h221 => ?_)
 refine D3 ?_
 refine sP (T5 rfl rfl (by omega)) rfl rfl ?_
 refine A0q ?_
 refine D8 rfl (o2) rfl rfl (fun h250 => ?_) (fun h250 => ?_)
 refine sQ (A3G rfl rfl rfl) rfl ?_
 refine J2 ?_
 refine D8 rfl (o3) rfl rfl (fun h266 => ?_) (fun h266 => ?_)
 refine A1c ?_
 refine sP (A0f rfl rfl (by omega)) rfl rfl ?_
 refine K3 ?_
 refine D8 rfl (o7) rfl rfl (fun h294 => ?_) (fun h294 => ?_)
 refine F0 ?_
 refine sB (M7 rfl rfl) rfl rfl (fun h299 => ?_) (fun h299 => ?_)
 refine J9 ?_
 exact ⟨rfl, by (cases R with | false => rfl | true => (exfalso; obtain ⟨i1, i2, i3, i4, i5, i6, i7⟩ := hi.1 rfl; first | omega | (have j := i1 (by omega); simp_all; done) | (have j := he (i2 (by omega)); simp_all; done) | (have j := i2 (by omega); simp_all; done) | (have j := i3 (by omega); simp_all; done) | (have j := i4 (by omega); simp_all; done) | (have j := i5 (by omega); simp_all; done))), rfl⟩
 refine N6 ?_
 refine sP (H4 rfl rfl (by omega)) rfl rfl ?_
 refine D4 ?_
 refine sB (qE rfl rfl) rfl rfl (fun h336 => ?_) (fun h336 => ?_)
 refine sQ (qA rfl) rfl (sD (nS (tT (D9 (rT rfl) ?_))))
 exact ⟨rfl, by rw [hi.2 ⟨fun _ => by (first | assumption | (exfalso; omega)), fun _ => by (first | assumption | (exfalso; omega) | exact Classical.not_not.1 (by assumption)), fun _ => by (first | assumption | (exfalso; omega)), fun _ => by (first | assumption | (exfalso; omega)), fun _ => ⟨by (first | assumption | (exfalso; omega)), by (first | assumption | omega)⟩, by omega, by omega⟩], rfl⟩
 refine sQ (qA rfl) rfl (sD (nS (tT (D9 (rT rfl) ?_))))
 exact ⟨rfl, by (cases R with | false => rfl | true => (exfalso; obtain ⟨i1, i2, i3, i4, i5, i6, i7⟩ := hi.1 rfl; first | omega | (have j := i1 (by omega); simp_all; done) | (have j := he (i2 (by omega)); simp_all; done) | (have j := i2 (by omega); simp_all; done) | (have j := i3 (by omega); simp_all; done) | (have j := i4 (by omega); simp_all; done) | (have j := i5 (by omega); simp_all; done))), rfl⟩
 refine V6 ?_
 exact ⟨rfl, by (cases R with | false => rfl | true => (exfalso; obtain ⟨i1, i2, i3, i4, i5, i6, i7⟩ := hi.1 rfl; first | omega | (have j := i1 (by omega); simp_all; done) | (have j := he (i2 (by omega)); simp_all; done) | (have j := i2 (by omega); simp_all; done) | (have j := i3 (by omega); simp_all; done) | (have j := i4 (by omega); simp_all; done) | (have j := i5 (by omega); simp_all; done))), rfl⟩
 refine A2O ?_
 exact ⟨rfl, by (cases R with | false => rfl | true => (exfalso; obtain ⟨i1, i2, i3, i4, i5, i6, i7⟩ := hi.1 rfl; first | omega | (have j := i1 (by omega); simp_all; done) | (have j := he (i2 (by omega)); simp_all; done) | (have j := i2 (by omega); simp_all; done) | (have j := i3 (by omega); simp_all; done) | (have j := i4 (by omega); simp_all; done) | (have j := i5 (by omega); simp_all; done))), rfl⟩
 refine sQ (A8u rfl rfl rfl) rfl ?_
 refine A0g ?_
 refine D4 ?_
 exact ⟨rfl, by (cases R with | false => rfl | true => (exfalso; obtain ⟨i1, i2, i3, i4, i5, i6, i7⟩ := hi.1 rfl; first | omega | (have j := i1 (by omega); simp_all; done) | (have j := he (i2 (by omega)); simp_all; done) | (have j := i2 (by omega); simp_all; done) | (have j := i3 (by omega); simp_all; done) | (have j := i4 (by omega); simp_all; done) | (have j := i5 (by omega); simp_all; done))), rfl⟩
 refine D3 ?_
 refine sP (H4 rfl rfl (by omega)) rfl rfl ?_
 refine K3 ?_
 refine sB (qE rfl rfl) rfl rfl (fun h446 => ?_) (fun h446 => ?_)
 refine H9 ?_
 refine D8 rfl (o2) rfl rfl (fun h462 => ?_) (fun h462 => ?_)
 refine sQ (A59 rfl rfl rfl) rfl ?_
 refine A0g ?_
 refine D4 ?_
 exact ⟨rfl, by (cases R with | false => rfl | true => (exfalso; obtain ⟨i1, i2, i3, i4, i5, i6, i7⟩ := hi.1 rfl; first | omega | (have j := i1 (by omega); simp_all; done) | (have j := he (i2 (by omega)); simp_all; done) | (have j := i2 (by omega); simp_all; done) | (have j := i3 (by omega); simp_all; done) | (have j := i4 (by omega); simp_all; done) | (have j := i5 (by omega); simp_all; done))), rfl⟩
 refine sQ (A3G rfl rfl rfl) rfl ?_
 refine J8 ?_
 refine sB (A1V rfl rfl) rfl rfl (fun h511 => ?_) (fun h511 => ?_)
 refine A0g ?_
 refine rS (D9 (rT rfl) ?_)
 exact ⟨rfl, by (cases R with | false => rfl | true => (exfalso; obtain ⟨i1, i2, i3, i4, i5, i6, i7⟩ := hi.1 rfl; first | omega | (have j := i1 (by omega); simp_all; done) | (have j := he (i2 (by omega)); simp_all; done) | (have j := i2 (by omega); simp_all; done) | (have j := i3 (by omega); simp_all; done) | (have j := i4 (by omega); simp_all; done) | (have j := i5 (by omega); simp_all; done))), rfl⟩
 refine C2 ?_
 refine D8 rfl (o3) rfl rfl (fun h552 => ?_) (fun h552 => ?_)
 refine A1c ?_
 refine sP (A0f rfl rfl (by omega)) rfl rfl ?_
 refine K3 ?_
 refine D8 rfl (o7) rfl rfl (fun h580 => ?_) (fun h580 => ?_)
 refine F0 ?_
 refine sB (M7 rfl rfl) rfl rfl (fun h585 => ?_) (fun h585 => ?_)
 refine J9 ?_
 exact ⟨rfl, by (cases R with | false => rfl | true => (exfalso; obtain ⟨i1, i2, i3, i4, i5, i6, i7⟩ := hi.1 rfl; first | omega | (have j := i1 (by omega); simp_all; done) | (have j := he (i2 (by omega)); simp_all; done) | (have j := i2 (by omega); simp_all; done) | (have j := i3 (by omega); simp_all; done) | (have j := i4 (by omega); simp_all; done) | (have j := i5 (by omega); simp_all; done))), rfl⟩
 refine N6 ?_
 refine sP (H4 rfl rfl (by omega)) rfl rfl ?_
 refine D4 ?_
 refine sB (qE rfl rfl) rfl rfl (fun h622 => ?_) (fun h622 => ?_)
 refine sQ (qA rfl) rfl (sD (nS (tT (D9 (rT rfl) ?_))))
 exact ⟨rfl, by rw [hi.2 ⟨fun _ => by (first | assumption | (exfalso; omega)), fun _ => by (first | assumption | (exfalso; omega) | exact Classical.not_not.1 (by assumption)), fun _ => by (first | assumption | (exfalso; omega)), fun _ => by (first | assumption | (exfalso; omega)), fun _ => ⟨by (first | assumption | (exfalso; omega)), by (first | assumption | omega)⟩, by omega, by omega⟩], rfl⟩
 refine sQ (qA rfl) rfl (sD (nS (tT (D9 (rT rfl) ?_))))
 exact ⟨rfl, by (cases R with | false => rfl | true => (exfalso; obtain ⟨i1, i2, i3, i4, i5, i6, i7⟩ := hi.1 rfl; first | omega | (have j := i1 (by omega); simp_all; done) | (have j := he (i2 (by omega)); simp_all; done) | (have j := i2 (by omega); simp_all; done) | (have j := i3 (by omega); simp_all; done) | (have j := i4 (by omega); simp_all; done) | (have j := i5 (by omega); simp_all; done))), rfl⟩
 refine V6 ?_
 exact ⟨rfl, by (cases R with | false => rfl | true => (exfalso; obtain ⟨i1, i2, i3, i4, i5, i6, i7⟩ := hi.1 rfl; first | omega | (have j := i1 (by omega); simp_all; done) | (have j := he (i2 (by omega)); simp_all; done) | (have j := i2 (by omega); simp_all; done) | (have j := i3 (by omega); simp_all; done) | (have j := i4 (by omega); simp_all; done) | (have j := i5 (by omega); simp_all; done))), rfl⟩
 refine A2O ?_
 exact ⟨rfl, by (cases R with | false => rfl | true => (exfalso; obtain ⟨i1, i2, i3, i4, i5, i6, i7⟩ := hi.1 rfl; first | omega | (have j := i1 (by omega); simp_all; done) | (have j := he (i2 (by omega)); simp_all; done) | (have j := i2 (by omega); simp_all; done) | (have j := i3 (by omega); simp_all; done) | (have j := i4 (by omega); simp_all; done) | (have j := i5 (by omega); simp_all; done))), rfl⟩
 refine F0 ?_
 refine sB (qE rfl rfl) rfl rfl (fun h683 => ?_) (fun h683 => ?_)
 refine I9 ?_
 refine D8 rfl (o2) rfl rfl (fun h694 => ?_) (fun h694 => ?_)
 refine sQ (A59 rfl rfl rfl) rfl ?_
 refine A0g ?_
 refine D4 ?_
 exact ⟨rfl, by (cases R with | false => rfl | true => (exfalso; obtain ⟨i1, i2, i3, i4, i5, i6, i7⟩ := hi.1 rfl; first | omega | (have j := i1 (by omega); simp_all; done) | (have j := he (i2 (by omega)); simp_all; done) | (have j := i2 (by omega); simp_all; done) | (have j := i3 (by omega); simp_all; done) | (have j := i4 (by omega); simp_all; done) | (have j := i5 (by omega); simp_all; done))), rfl⟩
 refine sQ (A3G rfl rfl rfl) rfl ?_
 refine J8 ?_
 refine sB (A1V rfl rfl) rfl rfl (fun h743 => ?_) (fun h743 => ?_)
 refine A0g ?_
 refine rS (D9 (rT rfl) ?_)
 exact ⟨rfl, by (cases R with | false => rfl | true => (exfalso; obtain ⟨i1, i2, i3, i4, i5, i6, i7⟩ := hi.1 rfl; first | omega | (have j := i1 (by omega); simp_all; done) | (have j := he (i2 (by omega)); simp_all; done) | (have j := i2 (by omega); simp_all; done) | (have j := i3 (by omega); simp_all; done) | (have j := i4 (by omega); simp_all; done) | (have j := i5 (by omega); simp_all; done))), rfl⟩
 refine C2 ?_
 refine D8 rfl (o3) rfl rfl (fun h784 => ?_) (fun h784 => ?_)
 refine A1c ?_
 refine sP (A0Y rfl rfl (by omega)) rfl rfl ?_
 refine A0D ?_
 refine sP (H4 rfl rfl (by omega)) rfl rfl ?_
 refine D4 ?_
 refine sB (qE rfl rfl) rfl rfl (fun h840 => ?_) (fun h840 => ?_)
 refine sQ (qA rfl) rfl (sD (nS (tT (D9 (rT rfl) ?_))))
 exact ⟨rfl, by rw [hi.2 ⟨fun _ => by (first | assumption | (exfalso; omega)), fun _ => by (first | assumption | (exfalso; omega) | exact Classical.not_not.1 (by assumption)), fun _ => by (first | assumption | (exfalso; omega)), fun _ => by (first | assumption | (exfalso; omega)), fun _ => ⟨by (first | assumption | (exfalso; omega)), by (first | assumption | omega)⟩, by omega, by omega⟩], rfl⟩
 refine sQ (qA rfl) rfl (sD (nS (tT (D9 (rT rfl) ?_))))
 exact ⟨rfl, by (cases R with | false => rfl | true => (exfalso; obtain ⟨i1, i2, i3, i4, i5, i6, i7⟩ := hi.1 rfl; first | omega | (have j := i1 (by omega); simp_all; done) | (have j := he (i2 (by omega)); simp_all; done) | (have j := i2 (by omega); simp_all; done) | (have j := i3 (by omega); simp_all; done) | (have j := i4 (by omega); simp_all; done) | (have j := i5 (by omega); simp_all; done))), rfl⟩
 refine A2O ?_
 exact ⟨rfl, by (cases R with | false => rfl | true => (exfalso; obtain ⟨i1, i2, i3, i4, i5, i6, i7⟩ := hi.1 rfl; first | omega | (have j := i1 (by omega); simp_all; done) | (have j := he (i2 (by omega)); simp_all; done) | (have j := i2 (by omega); simp_all; done) | (have j := i3 (by omega); simp_all; done) | (have j := i4 (by omega); simp_all; done) | (have j := i5 (by omega); simp_all; done))), rfl⟩
 refine I9 ?_
 refine D8 rfl (o2) rfl rfl (fun h888 => ?_) (fun h888 => ?_)
 refine sQ (A59 rfl rfl rfl) rfl ?_
 refine A0g ?_
 refine D4 ?_
 exact ⟨rfl, by (cases R with | false => rfl | true => (exfalso; obtain ⟨i1, i2, i3, i4, i5, i6, i7⟩ := hi.1 rfl; first | omega | (have j := i1 (by omega); simp_all; done) | (have j := he (i2 (by omega)); simp_all; done) | (have j := i2 (by omega); simp_all; done) | (have j := i3 (by omega); simp_all; done) | (have j := i4 (by omega); simp_all; done) | (have j := i5 (by omega); simp_all; done))), rfl⟩
 refine sQ (A3G rfl rfl rfl) rfl ?_
 refine J8 ?_
 refine sB (A1V rfl rfl) rfl rfl (fun h937 => ?_) (fun h937 => ?_)
 refine A0g ?_
 refine rS (D9 (rT rfl) ?_)
 exact ⟨rfl, by (cases R with | false => rfl | true => (exfalso; obtain ⟨i1, i2, i3, i4, i5, i6, i7⟩ := hi.1 rfl; first | omega | (have j := i1 (by omega); simp_all; done) | (have j := he (i2 (by omega)); simp_all; done) | (have j := i2 (by omega); simp_all; done) | (have j := i3 (by omega); simp_all; done) | (have j := i4 (by omega); simp_all; done) | (have j := i5 (by omega); simp_all; done))), rfl⟩
 refine T0 ?_
 refine D8 rfl (o4) rfl rfl (fun h988 => ?_) (fun h988 => ?_)
 refine J9 ?_
 refine sP (A0f rfl rfl (by omega)) rfl rfl ?_
 refine K3 ?_
 refine D8 rfl (o7) rfl rfl (fun h1006 => ?_) (fun h1006 => ?_)
 refine F0 ?_
 refine sB (M7 rfl rfl) rfl rfl (fun h1011 => ?_) (fun h1011 => ?_)
 refine J9 ?_
 exact ⟨rfl, by (cases R with | false => rfl | true => (exfalso; obtain ⟨i1, i2, i3, i4, i5, i6, i7⟩ := hi.1 rfl; first | omega | (have j := i1 (by omega); simp_all; done) | (have j := he (i2 (by omega)); simp_all; done) | (have j := i2 (by omega); simp_all; done) | (have j := i3 (by omega); simp_all; done) | (have j := i4 (by omega); simp_all; done) | (have j := i5 (by omega); simp_all; done))), rfl⟩
 refine N6 ?_
 refine sB (qE rfl rfl) rfl rfl (fun h1038 => ?_) (fun h1038 => ?_)
 refine C2 ?_
 refine sB (A0L rfl rfl) rfl rfl (fun h1046 => ?_) (fun h1046 => ?_)
 refine K3 ?_
 refine sB (A0o rfl rfl) rfl rfl (fun h1050 => ?_) (fun h1050 => ?_)
 refine C2 ?_
 exact ⟨rfl, by rw [hi.2 ⟨fun _ => by (first | assumption | (exfalso; omega)), fun _ => by (first | assumption | (exfalso; omega) | exact Classical.not_not.1 (by assumption)), fun _ => by (first | assumption | (exfalso; omega)), fun _ => by (first | assumption | (exfalso; omega)), fun _ => ⟨by (first | assumption | (exfalso; omega)), by (first | assumption | omega)⟩, by omega, by omega⟩], rfl⟩
 refine C2 ?_
 exact ⟨rfl, by (cases R with | false => rfl | true => (exfalso; obtain ⟨i1, i2, i3, i4, i5, i6, i7⟩ := hi.1 rfl; first | omega | (have j := i1 (by omega); simp_all; done) | (have j := he (i2 (by omega)); simp_all; done) | (have j := i2 (by omega); simp_all; done) | (have j := i3 (by omega); simp_all; done) | (have j := i4 (by omega); simp_all; done) | (have j := i5 (by omega); simp_all; done))), rfl⟩
 refine I6 ?_
 exact ⟨rfl, by (cases R with | false => rfl | true => (exfalso; obtain ⟨i1, i2, i3, i4, i5, i6, i7⟩ := hi.1 rfl; first | omega | (have j := i1 (by omega); simp_all; done) | (have j := he (i2 (by omega)); simp_all; done) | (have j := i2 (by omega); simp_all; done) | (have j := i3 (by omega); simp_all; done) | (have j := i4 (by omega); simp_all; done) | (have j := i5 (by omega); simp_all; done))), rfl⟩
 refine D4 ?_
 refine sB (qE rfl rfl) rfl rfl (fun h1088 => ?_) (fun h1088 => ?_)
 refine sQ (qA rfl) rfl (sD (nS (tT (D9 (rT rfl) ?_))))
 exact ⟨rfl, by rw [hi.2 ⟨fun _ => by (first | assumption | (exfalso; omega)), fun _ => by (first | assumption | (exfalso; omega) | exact Classical.not_not.1 (by assumption)), fun _ => by (first | assumption | (exfalso; omega)), fun _ => by (first | assumption | (exfalso; omega)), fun _ => ⟨by (first | assumption | (exfalso; omega)), by (first | assumption | omega)⟩, by omega, by omega⟩], rfl⟩
 refine sQ (qA rfl) rfl (sD (nS (tT (D9 (rT rfl) ?_))))
 exact ⟨rfl, by (cases R with | false => rfl | true => (exfalso; obtain ⟨i1, i2, i3, i4, i5, i6, i7⟩ := hi.1 rfl; first | omega | (have j := i1 (by omega); simp_all; done) | (have j := he (i2 (by omega)); simp_all; done) | (have j := i2 (by omega); simp_all; done) | (have j := i3 (by omega); simp_all; done) | (have j := i4 (by omega); simp_all; done) | (have j := i5 (by omega); simp_all; done))), rfl⟩
 refine V6 ?_
 exact ⟨rfl, by (cases R with | false => rfl | true => (exfalso; obtain ⟨i1, i2, i3, i4, i5, i6, i7⟩ := hi.1 rfl; first | omega | (have j := i1 (by omega); simp_all; done) | (have j := he (i2 (by omega)); simp_all; done) | (have j := i2 (by omega); simp_all; done) | (have j := i3 (by omega); simp_all; done) | (have j := i4 (by omega); simp_all; done) | (have j := i5 (by omega); simp_all; done))), rfl⟩
 refine J2 ?_
 exact ⟨rfl, by (cases R with | false => rfl | true => (exfalso; obtain ⟨i1, i2, i3, i4, i5, i6, i7⟩ := hi.1 rfl; first | omega | (have j := i1 (by omega); simp_all; done) | (have j := he (i2 (by omega)); simp_all; done) | (have j := i2 (by omega); simp_all; done) | (have j := i3 (by omega); simp_all; done) | (have j := i4 (by omega); simp_all; done) | (have j := i5 (by omega); simp_all; done))), rfl⟩
mutual
def J1 (D N : Int) : Tm → Int → Bool
 | .mk k nm num ty fr lb ks, deep => decide (deep ≤ D) && decide (k ≠ N) && T8 k nm num ty fr lb ks.length && E9 D N ks (deep + 1)
def E9 (D N : Int) : List Tm → Int → Bool
 | [], _ => true
 | t :: ts, deep => J1 D N t deep && E9 D N ts deep
end
theorem A05 (D N : Int) : ∀ (ts : List Tm) (d : Int), E9 D N ts d = true ↔ ∀ i, (h : i < ts.length) → J1 D N ts[i] d = true
 | [], d => by simp [E9]
 | t :: ts, d => by
  simp only [E9, Bool.and_eq_true, A05 D N ts d]
  constructor
  ·rintro ⟨h1, h2⟩ i hi
   cases i with
   | zero => exact h1
   | succ i => exact h2 i (by simpa using hi)
  ·intro h
   exact ⟨h 0 (by simp), fun i hi => h (i + 1) (by simpa using hi)⟩
theorem A1h {D N : Int} {k : Int} {nm : ByteArray} {num : Int} {ty fr : Ty} {lb : Int} {ks : List Tm} {d : Int} (h : D < d ∨ k = N ∨ T8 k nm num ty fr lb ks.length = false) : J1 D N (.mk k nm num ty fr lb ks) d = false := by
 rw [J1]
 rcases h with h | h | h
 ·rw [decide_eq_false (by omega)]; rfl
 ·rw [decide_eq_false (p := k ≠ N) (by omega), Bool.and_false]; rfl
 ·rw [h, Bool.and_false]; rfl
theorem A0O {D N : Int} {k : Int} {nm : ByteArray} {num : Int} {ty fr : Ty} {lb : Int} {ks : List Tm} {d : Int} (h1 : d ≤ D) (h2 : k ≠ N) (h3 : T8 k nm num ty fr lb ks.length = true) : J1 D N (.mk k nm num ty fr lb ks) d = E9 D N ks (d + 1) := by
 rw [J1, decide_eq_true h1, decide_eq_true h2, h3]; rfl
theorem A6a {D N : Int} {ks : List Tm} {d : Int} {i : Nat} (hi : i < ks.length) (h : J1 D N ks[i] d = false) : E9 D N ks d = false := by
 cases hx : E9 D N ks d with
 | false => rfl
 | true => rw [(A05 D N ks d).1 hx i hi] at h; cases h
theorem B2X {k : Int} {nm : ByteArray} {num : Int} {ty fr : Ty} {lb : Int} {n : Nat} (hk : k = 14) (ha : C7 k = n) : T8 k nm num ty fr lb n = true ↔ nm = ⟨#[]⟩ ∧ num = 0 ∧ (1 ≤ A0M lb ∧ A0M lb ≤ 99) ∧ E7 ty = true ∧ E7 fr = true ∧ K1 fr ty = true := by
 rw [U8, B2V]
 simp only [P8, A0Z, decide_eq_true_eq, Bool.and_eq_true]
 constructor
 ·rintro ⟨_, _, h3, _, h5, h6, _, h8, _⟩
  have h8 := h8 hk
  exact ⟨h3 (by omega), by have := h5 (by omega); omega, h8.2, h6 (by omega), h8.1.1.1, h8.1.2⟩
 ·rintro ⟨h1, h2, h3, h4, h5, h6⟩
  exact ⟨ha, fun h => absurd h (by omega), fun _ => h1, fun h => absurd h (by omega), fun _ => by omega, fun _ => h4, fun h => absurd h (by omega), fun _ => ⟨⟨⟨h5, h4⟩, h6⟩, h3⟩, fun h => absurd hk h⟩
theorem A8w {k : Int} {nm : ByteArray} {num : Int} {ty fr : Ty} {lb : Int} {n : Nat} (hk : k ≠ 14) (ha : C7 k = n) : T8 k nm num ty fr lb n = true ↔
  (k = 1 ∨ k = 5 → Z7 nm = true) ∧ (¬(k = 1 ∨ k = 5) → nm = ⟨#[]⟩) ∧ (k = 5 ∨ k = 13 ∨ k = 14 → E7 ty = true) ∧ (¬(k = 5 ∨ k = 13 ∨ k = 14) → Y5 ty = true) ∧ (k ≠ 14 → Y5 fr = true ∧ lb = 0) ∧ (k = 2 → 0 ≤ num ∧ num ≤ 999) ∧ (k ≠ 2 → num = 0) := by
 rw [U8]
 simp only [P8, decide_eq_true_eq]
 constructor
 ·rintro ⟨_, h2, h3, h4, h5, h6, h7, _, h9⟩
  exact ⟨h2, h3, h6, h7, h9, h4, fun h => by have := h5 h; omega⟩
 ·rintro ⟨h2, h3, h6, h7, h9, h4, h5⟩
  exact ⟨ha, h2, h3, h4, fun h => by have := h5 h; omega, h6, h7, fun h => absurd h hk, h9⟩
theorem B2Y : ∀ (t : Tm) (d : Int) (G : IM) (cells : List Value), 0 ≤ d ∧ d ≤ 40 → A8 G t cells →
  Fn Tryz.prog 119 [.agg ⟨cells⟩, .int .i64 d] [] G (H0 (.bool (J1 40 13 t (41 - d))) G) := by
 refine Tm.ind fun k nm num ty fr lb ks ih d G cells hd hr => ?_
 have hr0 := hr
 have h14 := fun h : k = 14 => @B2X k nm num ty fr lb ks.length h
 have hne := fun h : k ≠ 14 => @A8w k nm num ty fr lb ks.length h
 have har := fun h : T8 k nm num ty fr lb ks.length = true => (U8.1 h).1
 obtain ⟨R, hR⟩ : ∃ R, T8 k nm num ty fr lb ks.length = R := ⟨_, rfl⟩
 rw [hR] at h14 hne har
 have hlo := B2W k nm num ty fr lb ks G cells hr0 R
 have hl2 := A8v k nm num ty fr lb ks G cells hr0 R
 have hk1 := A4H k G
 obtain ⟨tk, tks⟩ := ty
 obtain ⟨fk, fks⟩ := fr
 obtain ⟨pt, ct, pf, cf, p, c, es, rfl, hk, hnum, hlb, hty, hfr, hsl, hkl⟩ := hr.open9
 have hn := hsl.le
 clear hr hr0
 refine B2 Tryz.func119 rfl Tryz.ntmps119 Tryz.results119 rfl ?_
 intro w0
 refine tS (tR ?_)
 refine sE (B9 rfl rfl) rfl (fun b3 => ?_)
 refine sQ (qA rfl) rfl (sD (nS (tS (tS ?_))))
 refine E1 E2 rfl ?_
 refine J5 (i := 0) (l' := [tt,ff,ff,ff,ff,ff,ff,ff,ff,ff,ff,ff,ff,ff,ff,ff,ff,ff,ff,ff,ff,ff,ff,ff,ff,ff,ff,ff,ff,ff,ff,ff,ff,ff,ff,ff]) rfl D5 (qM rfl) rfl (by kernel_rfl) rfl rfl ?_
 refine A0K (i := 1) (l' := [tt,tt,ff,ff,ff,ff,ff,ff,ff,ff,ff,ff,ff,ff,ff,ff,ff,ff,ff,ff,ff,ff,ff,ff,ff,ff,ff,ff,ff,ff,ff,ff,ff,ff,ff,ff]) rfl D5 (K6 rfl rfl) rfl (by kernel_rfl) rfl rfl (fun h11 => ?_) (fun h11 => ?_)
 refine aP 2 rfl (qM rfl) rfl ?_
 refine B5 3 rfl rfl rfl ?_
 refine B5 4 rfl rfl rfl ?_
 refine B5 6 rfl rfl rfl ?_
 refine B5 7 rfl rfl rfl ?_
 refine B5 8 rfl rfl rfl ?_
 refine B5 5 rfl rfl rfl ?_
 refine B5 9 rfl rfl rfl ?_
 refine aP 10 rfl (L4 rfl rfl) rfl ?_
 refine aP 11 rfl (qM rfl) rfl ?_
 refine B5 12 rfl rfl rfl ?_
 refine B5 13 rfl rfl rfl ?_
 refine B5 14 rfl rfl rfl ?_
 refine aP 15 rfl (L4 rfl rfl) rfl ?_
 refine aP 16 rfl (qM rfl) rfl ?_
 refine B5 17 rfl rfl rfl ?_
 refine B5 18 rfl rfl rfl ?_
 refine B5 19 rfl rfl rfl ?_
 refine B5 20 rfl rfl rfl ?_
 refine B5 21 rfl rfl rfl ?_
 refine B5 22 rfl rfl rfl ?_
 refine B5 23 rfl rfl rfl ?_
 refine B5 24 rfl rfl rfl ?_
 refine aP 25 rfl (L4 rfl rfl) rfl ?_
 refine aP 26 rfl (qM rfl) rfl ?_
 refine B5 27 rfl rfl rfl ?_
 refine B5 28 rfl rfl rfl ?_
 refine B5 29 rfl rfl rfl ?_
 refine B5 30 rfl rfl rfl ?_
 refine B5 31 rfl rfl rfl ?_
 refine B5 32 rfl rfl rfl ?_
 refine B5 33 rfl rfl rfl ?_
 refine B5 34 rfl rfl rfl ?_
 refine aP 35 rfl (L4 rfl rfl) rfl ?_
 refine I6 ?_
 (rw [A1h (by rw [hR]; first | omega | exact .inr (.inr (by assumption)) | exact .inr (.inr (by cases R with | false => rfl | true => exact absurd (har rfl) (by omega))))]; exact ⟨rfl, rfl, rfl⟩)
 refine aP 2 rfl (qM rfl) rfl ?_
 refine aP 3 rfl (B1 rfl) rfl ?_
 refine aL 4 rfl (C0 rfl rfl) rfl ?_
 refine aP 6 rfl (B1 rfl) rfl ?_
 refine aL 7 rfl (C0 rfl rfl) rfl ?_
 refine aP 8 rfl (pLn rfl rfl) rfl ?_
 refine A3 5 ?_
 refine P6 rfl rfl (hk1) rfl rfl rfl ?_
 refine A0K (i := 9) (l' := [tt,tt,tt,tt,tt,tt,tt,tt,tt,tt,ff,ff,ff,ff,ff,ff,ff,ff,ff,ff,ff,ff,ff,ff,ff,ff,ff,ff,ff,ff,ff,ff,ff,ff,ff,ff]) rfl D5 (M7 rfl rfl) rfl (by kernel_rfl) rfl rfl (fun h66 => ?_) (fun h66 => ?_)
 refine aP 10 rfl (O3 rfl rfl) rfl ?_
 refine aP 11 rfl (qM rfl) rfl ?_
 refine B5 12 rfl rfl rfl ?_
 refine B5 13 rfl rfl rfl ?_
 refine B5 14 rfl rfl rfl ?_
 refine aP 15 rfl (L4 rfl rfl) rfl ?_
 refine aP 16 rfl (qM rfl) rfl ?_
 refine B5 17 rfl rfl rfl ?_
 refine B5 18 rfl rfl rfl ?_
 refine B5 19 rfl rfl rfl ?_
 refine B5 20 rfl rfl rfl ?_
 refine B5 21 rfl rfl rfl ?_
 refine B5 22 rfl rfl rfl ?_
 refine B5 23 rfl rfl rfl ?_
 refine B5 24 rfl rfl rfl ?_
 refine aP 25 rfl (L4 rfl rfl) rfl ?_
 refine aP 26 rfl (qM rfl) rfl ?_
 refine B5 27 rfl rfl rfl ?_
 refine B5 28 rfl rfl rfl ?_
 refine B5 29 rfl rfl rfl ?_
 refine B5 30 rfl rfl rfl ?_
 refine B5 31 rfl rfl rfl ?_
 refine B5 32 rfl rfl rfl ?_
 refine B5 33 rfl rfl rfl ?_
 refine B5 34 rfl rfl rfl ?_
 refine aP 35 rfl (L4 rfl rfl) rfl ?_
 refine I6 ?_
 (rw [A1h (by rw [hR]; first | omega | exact .inr (.inr (by assumption)) | exact .inr (.inr (by cases R with | false => rfl | true => exact absurd (har rfl) (by omega))))]; exact ⟨rfl, rfl, rfl⟩)
 refine aP 10 rfl (O3 rfl rfl) rfl ?_
 refine aP 11 rfl (qM rfl) rfl ?_
 refine aP 12 rfl (B1 rfl) rfl ?_
 refine aL 13 rfl (C0 rfl rfl) rfl ?_
 refine A0K (i := 14) (l' := [tt,tt,tt,tt,tt,tt,tt,tt,tt,tt,tt,tt,tt,tt,tt,ff,ff,ff,ff,ff,ff,ff,ff,ff,ff,ff,ff,ff,ff,ff,ff,ff,ff,ff,ff,ff]) rfl D5 (qE rfl rfl) rfl (by kernel_rfl) rfl rfl (fun h109 => ?_) (fun h109 => ?_)
 refine aP 15 rfl (O3 rfl rfl) rfl ?_
 refine aP 16 rfl (qM rfl) rfl ?_
 refine B5 17 rfl rfl rfl ?_
 refine B5 18 rfl rfl rfl ?_
 refine B5 19 rfl rfl rfl ?_
 refine B5 20 rfl rfl rfl ?_
 refine B5 21 rfl rfl rfl ?_
 refine B5 22 rfl rfl rfl ?_
 refine B5 23 rfl rfl rfl ?_
 refine B5 24 rfl rfl rfl ?_
 refine aP 25 rfl (L4 rfl rfl) rfl ?_
 refine aP 26 rfl (qM rfl) rfl ?_
 refine B5 27 rfl rfl rfl ?_
 refine B5 28 rfl rfl rfl ?_
 refine B5 29 rfl rfl rfl ?_
 refine B5 30 rfl rfl rfl ?_
 refine B5 31 rfl rfl rfl ?_
 refine B5 32 rfl rfl rfl ?_
 refine B5 33 rfl rfl rfl ?_
 refine B5 34 rfl rfl rfl ?_
 refine aP 35 rfl (L4 rfl rfl) rfl ?_
 refine I6 ?_
 (rw [A1h (by rw [hR]; first | omega | exact .inr (.inr (by assumption)) | exact .inr (.inr (by cases R with | false => rfl | true => exact absurd (har rfl) (by omega))))]; exact ⟨rfl, rfl, rfl⟩)
 refine aP 15 rfl (O3 rfl rfl) rfl ?_
 refine aP 16 rfl (qM rfl) rfl ?_
 refine aP 17 rfl (B1 rfl) rfl ?_
 refine aL 18 rfl (C0 rfl rfl) rfl ?_
 refine A0K (i := 19) (l' := [tt,tt,tt,tt,tt,tt,tt,tt,tt,tt,tt,tt,tt,tt,tt,tt,tt,tt,tt,tt,ff,ff,ff,ff,ff,ff,ff,ff,ff,ff,ff,ff,ff,ff,ff,ff]) rfl D5 (qE rfl rfl) rfl (by kernel_rfl) rfl rfl (fun h147 => ?_) (fun h147 => ?_)
 refine aP 20 rfl (qM rfl) rfl ?_
 refine aL 21 rfl (A2 rfl rfl) rfl ?_
 refine A3 22 ?_
 refine U7 rfl rfl (hlo (h14 (by omega) (by omega))) rfl rfl rfl (fun h151 => ?_) (fun h151 => ?_)
 refine aP 23 rfl (Z3 rfl) rfl ?_
 refine aP 24 rfl (L4 rfl rfl) rfl ?_
 refine aP 25 rfl (O3 rfl rfl) rfl ?_
 refine aP 26 rfl (qM rfl) rfl ?_
 refine aP 27 rfl (B1 rfl) rfl ?_
 refine aL 28 rfl (C0 rfl rfl) rfl ?_
 refine aP 29 rfl (A0Y rfl rfl (by omega)) rfl ?_
 refine aP 30 rfl (qM rfl) rfl ?_
 refine B5 31 rfl rfl rfl ?_
 refine B5 32 rfl rfl rfl ?_
 refine B5 33 rfl rfl rfl ?_
 refine aP 34 rfl (O3 rfl rfl) rfl ?_
 refine aP 35 rfl (O3 rfl rfl) rfl ?_
 refine I6 ?_
 refine B4 ?_
 (refine K9 (fun (i : Nat) => ⟨[(5, .int .i64 i), (2, .pointer (some ⟨b3, 0, none⟩)), (1, .int .i64 d)], [.blk b3 [.int .i64 k, .string nm, .int .i64 num, .int .i64 tk, .slice pt tks.length ct, .int .i64 fk, .slice pf fks.length cf, .int .i64 lb, .slice p ks.length c]], G⟩) (fun i => i ≤ ks.length ∧ ∀ j (h : j < ks.length), j < i → J1 40 13 ks[j] (41 - d + 1) = true) (fun i => ks.length - i) 0 ?_ ?_ ?_)
 exact D1
 exact ⟨by omega, by omega⟩
 (rintro i ⟨hi, hf⟩)
 refine C2 ?_
 refine sB (K6 rfl rfl) rfl rfl (fun h188 => ?_) (fun h188 => ?_)
 refine sD (nS (qT rfl (tK (nS (tS ?_)))))
 refine B4 ?_
 refine R1 ?_
 (obtain ⟨b, o, e, rfl, hl, hat, hre, hgb⟩ := hsl.kidTm hkl (i := i) (by omega) (by omega); refine sP (B3 rfl rfl rfl (by omega)) rfl rfl ?_)
 refine sL (A1 rfl rfl (hat _) hl) rfl rfl ?_
 refine sQ (qM rfl) rfl ?_
 refine sP (P5 rfl rfl (by omega) (by omega)) rfl rfl ?_
 (have hih := ih ks[i] (List.getElem_mem (by omega)) (d - 1) G _ (by omega) hre; rw [show 41 - (d - 1) = 41 - d + 1 by omega] at hih; refine D8 rfl hih rfl rfl (fun h205 => ?_) (fun h205 => ?_))
 refine D4 ?_
 refine sP (K2 rfl rfl (by omega) (by omega)) rfl rfl ?_
 refine sQ (qA rfl) rfl (sD ?_)
 refine K7 (i + 1) ?_ ?_ ?_
 exact D1
 exact ⟨by omega, fun j hj hji => by (by_cases he : j = i; (subst he; assumption); exact hf j hj (by omega))⟩
 omega
 refine K4 ?_
 (rw [A0O (by omega) (by omega) (hR.trans (by assumption)), A6a (i := i) (by omega) (by assumption)]; exact ⟨rfl, rfl, rfl⟩)
 refine H9 ?_
 (rw [A0O (by omega) (by omega) (hR.trans (by assumption)), (A05 40 13 ks _).2 (fun j hj => hf j hj (by omega))]; exact ⟨rfl, rfl, rfl⟩)
 refine aP 23 rfl (pNf rfl) rfl ?_
 refine aP 24 rfl (L4 rfl rfl) rfl ?_
 refine aP 25 rfl (O3 rfl rfl) rfl ?_
 refine aP 26 rfl (qM rfl) rfl ?_
 refine B5 27 rfl rfl rfl ?_
 refine B5 28 rfl rfl rfl ?_
 refine B5 29 rfl rfl rfl ?_
 refine B5 30 rfl rfl rfl ?_
 refine B5 31 rfl rfl rfl ?_
 refine B5 32 rfl rfl rfl ?_
 refine B5 33 rfl rfl rfl ?_
 refine B5 34 rfl rfl rfl ?_
 refine aP 35 rfl (L4 rfl rfl) rfl ?_
 refine I6 ?_
 (rw [A1h (by rw [hR]; first | omega | exact .inr (.inr (by assumption)) | exact .inr (.inr (by cases R with | false => rfl | true => exact absurd (har rfl) (by omega))))]; exact ⟨rfl, rfl, rfl⟩)
 refine aP 20 rfl (qM rfl) rfl ?_
 refine B5 21 rfl rfl rfl ?_
 refine B5 22 rfl rfl rfl ?_
 refine B5 23 rfl rfl rfl ?_
 refine aP 24 rfl (O3 rfl rfl) rfl ?_
 refine aP 25 rfl (O3 rfl rfl) rfl ?_
 refine aP 26 rfl (qM rfl) rfl ?_
 refine aP 27 rfl (B1 rfl) rfl ?_
 refine aL 28 rfl (C0 rfl rfl) rfl ?_
 refine aP 29 rfl (A0f rfl rfl (by omega)) rfl ?_
 refine aP 30 rfl (qM rfl) rfl ?_
 refine aL 31 rfl (A2 rfl rfl) rfl ?_
 refine A3 32 ?_
 refine U7 rfl rfl (hl2 (hne (by omega) (by omega))) rfl rfl rfl (fun h293 => ?_) (fun h293 => ?_)
 refine aP 33 rfl (Z3 rfl) rfl ?_
 refine aP 34 rfl (L4 rfl rfl) rfl ?_
 refine aP 35 rfl (O3 rfl rfl) rfl ?_
 refine I6 ?_
 refine B4 ?_
 (refine K9 (fun (i : Nat) => ⟨[(5, .int .i64 i), (2, .pointer (some ⟨b3, 0, none⟩)), (1, .int .i64 d)], [.blk b3 [.int .i64 k, .string nm, .int .i64 num, .int .i64 tk, .slice pt tks.length ct, .int .i64 fk, .slice pf fks.length cf, .int .i64 lb, .slice p ks.length c]], G⟩) (fun i => i ≤ ks.length ∧ ∀ j (h : j < ks.length), j < i → J1 40 13 ks[j] (41 - d + 1) = true) (fun i => ks.length - i) 0 ?_ ?_ ?_)
 exact D1
 exact ⟨by omega, by omega⟩
 (rintro i ⟨hi, hf⟩)
 refine C2 ?_
 refine sB (K6 rfl rfl) rfl rfl (fun h320 => ?_) (fun h320 => ?_)
 refine sD (nS (qT rfl (tK (nS (tS ?_)))))
 refine B4 ?_
 refine R1 ?_
 (obtain ⟨b, o, e, rfl, hl, hat, hre, hgb⟩ := hsl.kidTm hkl (i := i) (by omega) (by omega); refine sP (B3 rfl rfl rfl (by omega)) rfl rfl ?_)
 refine sL (A1 rfl rfl (hat _) hl) rfl rfl ?_
 refine sQ (qM rfl) rfl ?_
 refine sP (P5 rfl rfl (by omega) (by omega)) rfl rfl ?_
 (have hih := ih ks[i] (List.getElem_mem (by omega)) (d - 1) G _ (by omega) hre; rw [show 41 - (d - 1) = 41 - d + 1 by omega] at hih; refine D8 rfl hih rfl rfl (fun h337 => ?_) (fun h337 => ?_))
 refine D4 ?_
 refine sP (K2 rfl rfl (by omega) (by omega)) rfl rfl ?_
 refine sQ (qA rfl) rfl (sD ?_)
 refine K7 (i + 1) ?_ ?_ ?_
 exact D1
 exact ⟨by omega, fun j hj hji => by (by_cases he : j = i; (subst he; assumption); exact hf j hj (by omega))⟩
 omega
 refine K4 ?_
 (rw [A0O (by omega) (by omega) (hR.trans (by assumption)), A6a (i := i) (by omega) (by assumption)]; exact ⟨rfl, rfl, rfl⟩)
 refine H9 ?_
 (rw [A0O (by omega) (by omega) (hR.trans (by assumption)), (A05 40 13 ks _).2 (fun j hj => hf j hj (by omega))]; exact ⟨rfl, rfl, rfl⟩)
 refine aP 33 rfl (pNf rfl) rfl ?_
 refine aP 34 rfl (L4 rfl rfl) rfl ?_
 refine aP 35 rfl (O3 rfl rfl) rfl ?_
 refine I6 ?_
 (rw [A1h (by rw [hR]; first | omega | exact .inr (.inr (by assumption)) | exact .inr (.inr (by cases R with | false => rfl | true => exact absurd (har rfl) (by omega))))]; exact ⟨rfl, rfl, rfl⟩)
def T1 : Ty := .mk 2 []
def Y0 : Ty := .mk 3 []
mutual
def O2 : Ty → Ty → Bool
 | .mk k ks, t => decide (k = t.k) && A0j ks t.ks
def A0j : List Ty → List Ty → Bool
 | [], [] => true
 | a :: xs, b :: ys => O2 a b && A0j xs ys
 | _, _ => false
end
theorem A2t (k k' : Int) (ks ks' : List Ty) : O2 (.mk k ks) (.mk k' ks') = (decide (k = k') && A0j ks ks') := by rw [O2]; rfl
mutual
theorem A1i : ∀ (a b : Ty), O2 a b = true ↔ a = b
 | .mk k ks, .mk k' ks' => by
  rw [A2t, Bool.and_eq_true, decide_eq_true_eq, A8x ks ks', Ty.mk.injEq]
theorem A8x : ∀ (xs ys : List Ty), A0j xs ys = true ↔ xs = ys
 | [], [] => by simp [A0j]
 | [], b :: ys => by simp [A0j]
 | a :: xs, [] => by simp [A0j]
 | a :: xs, b :: ys => by
  rw [A0j, Bool.and_eq_true, A1i a b, A8x xs ys, List.cons.injEq]
end
theorem A6b (a : Ty) : O2 a a = true := (A1i a a).2 rfl
theorem A3H : ∀ (xs ys : List Ty), A0j xs ys = true ↔ xs.length = ys.length ∧ ∀ i, (h : i < xs.length) → (h' : i < ys.length) → O2 xs[i] ys[i] = true
 | [], [] => by simp [A0j]
 | [], b :: ys => by simp [A0j]
 | a :: xs, [] => by simp [A0j]
 | a :: xs, b :: ys => by
  simp only [A0j, Bool.and_eq_true, A3H xs ys, List.length_cons]
  constructor
  ·rintro ⟨h1, h2, h3⟩
   refine ⟨by omega, fun i hi hi' => ?_⟩
   cases i with
   | zero => exact h1
   | succ i => exact h3 i (by simpa using hi) (by simpa using hi')
  ·rintro ⟨h1, h2⟩
   exact ⟨h2 0 (by simp) (by simp), by omega, fun i hi hi' => h2 (i + 1) (by simpa using hi) (by simpa using hi')⟩

abbrev Cx := List (ByteArray × Ty)
def X1 (cx : Cx) (nm : ByteArray) : Nat → Option Ty
 | 0 => none
 | n + 1 => match cx[n]? with
  | some b => if b.1 = nm then some b.2 else X1 cx nm n
  | none => X1 cx nm n
def W3 (cx : Cx) (nm : ByteArray) : Option Ty := X1 cx nm cx.length
theorem A6c {cx : Cx} {nm x : ByteArray} {n : Nat} {t : Ty} (h : cx[n]? = some (x, t)) (he : x = nm) : X1 cx nm (n + 1) = some t := by
 rw [X1, h]; simp only [he, if_true]
theorem A6d {cx : Cx} {nm x : ByteArray} {n : Nat} {t : Ty} (h : cx[n]? = some (x, t)) (he : ¬x = nm) : X1 cx nm (n + 1) = X1 cx nm n := by
 rw [X1, h]; simp only [he, if_false]

mutual
def V0 : Ty → Ty → Ty
 | .mk k ks, b => if k = 1 then b else if b.k = 1 then .mk k ks else .mk k (S7 ks b.ks)
def S7 : List Ty → List Ty → List Ty
 | a :: xs, b :: ys => V0 a b :: S7 xs ys
 | _, _ => []
end
theorem A06 (k k' : Int) (ks ks' : List Ty) : V0 (.mk k ks) (.mk k' ks') = if k = 1 then .mk k' ks' else if k' = 1 then .mk k ks else .mk k (S7 ks ks') := by rw [V0]; rfl
def R3 (kind : Int) (t : Ty) : Option (Ty × Ty) :=
 if t.k = kind then some (t.ks.getD 0 A7, t.ks.getD 1 A7) else if t.k = 1 then some (O9, O9) else none
def N2 (cx : Cx) (k : Int) (nm : ByteArray) (ty : Ty) (h : List Ty) : Option (List Ty × Ty) :=
 if k = 1 then (match W3 cx nm with | some t => some ([], t) | none => none)
 else if k = 2 then some ([], T1)
 else if k = 3 ∨ k = 4 then some ([], Y0)
 else if k = 5 then some ([], .mk 4 [ty, h.getD 0 A7])
 else if k = 6 then (match R3 4 (h.getD 0 A7) with | some (a, b) => if K1 (h.getD 1 A7) a = true then some ([.mk 4 [a, b], a], b) else none | none => none)
 else if k = 7 ∨ k = 8 then (if K1 (h.getD 0 A7) T1 = true ∧ K1 (h.getD 1 A7) T1 = true then some ([T1, T1], if k = 8 then Y0 else T1) else none)
 else if k = 9 then (if K1 (h.getD 0 A7) Y0 = true ∧ K1 (h.getD 1 A7) (h.getD 2 A7) = true then some ([Y0, V0 (h.getD 1 A7) (h.getD 2 A7), V0 (h.getD 1 A7) (h.getD 2 A7)], V0 (h.getD 1 A7) (h.getD 2 A7)) else none)
 else if k = 10 then some ([], .mk 5 [h.getD 0 A7, h.getD 1 A7])
 else if k = 13 then (if K1 (h.getD 0 A7) ty = true then some ([ty], ty) else none)
 else (match R3 5 (h.getD 0 A7) with | some (a, b) => some ([.mk 5 [a, b]], if k = 12 then b else a) | none => none)
def Z9 (cx : Cx) (k : Int) (nm : ByteArray) (ty : Ty) (h : List Ty) : Option (List Ty × Ty) := match N2 cx k nm ty h with
 | some (w, t) => if E7 t = true then some (w, t) else none
 | none => none
def A3I : List Ty → List Ty → Bool
 | [], _ => true
 | a :: xs, b :: ys => O2 a b && A3I xs ys
 | _ :: _, [] => false
def P0 (cx : Cx) (k : Int) (nm : ByteArray) (ty : Ty) : Cx := if k = 5 then cx ++ [(nm, ty)] else cx
mutual
def A0P (cx : Cx) : Tm → Option Ty
 | .mk k nm num ty fr lb ks => match Y6 (P0 cx k nm ty) ks with
  | none => none
  | some h => if k = 14 then (if O2 (h.getD 0 A7) fr = true then some ty else none)
   else match Z9 cx k nm ty h with
    | none => none
    | some (w, t) => if A3I w h = true then some t else none
def Y6 (cx : Cx) : List Tm → Option (List Ty)
 | [] => some []
 | t :: ts => match A0P cx t with
  | none => none
  | some u => match Y6 cx ts with
   | none => none
   | some us => some (u :: us)
end
def B7L (e : Tm) : Option Ty := if J3 e = true then A0P [] e else none
theorem A10 : ∀ (t : Ty) (G : IM) (cells : List Value), t.small → B7 G t cells →
  Fn Tryz.prog 50 [.agg ⟨cells⟩] [] G (L5 fun G' v => ∃ cells' F, v = .agg ⟨cells'⟩ ∧ P1 (C1 G' G) t cells' F ∧ F.Nodup) := by
 refine Ty.ind fun k ks ih G cells hts hr => ?_
 simp only [Ty.small] at hts
 obtain ⟨hsm, hks⟩ := hts
 obtain ⟨p, c, es, rfl, hk, hsl, hkl⟩ := hr.open
 simp only [Ty.k, Ty.ks] at hk hsl hkl ⊢
 have hn := hsl.le
 refine B2 Tryz.func50 rfl Tryz.ntmps50 Tryz.results50 rfl ?_
 intro w0
 refine tS (tR ?_)
 refine sE (B9 rfl rfl) rfl (fun b3 => ?_)
 refine sE (A5 rfl) rfl (fun b4 => ?_)
 refine C2 ?_
 refine sE (A5 rfl) rfl (fun b12 => ?_)
 refine N6 ?_
 refine B4 ?_
 (refine V5 25 2 ?_; refine K9 (fun (x : Nat × Option Addr × Nat × List (List Value) × List Nat × IM) => ⟨[(12, .int .i64 x.1), (11, .int .i64 ks.length), (10, .slice p ks.length c), (3, .pointer (some ⟨b12, 0, none⟩)), (2, .pointer (some ⟨b4, 0, none⟩))], [.blk b12 [.int .i64 k, .slice x.2.1 x.1 x.2.2.1], .slc x.2.1 x.2.2.1 25 2 x.1 x.2.2.2.1.flatten, .blk b4 [.int .i64 0, .slice none 0 0]], x.2.2.2.2.2⟩) (fun x => x.1 ≤ ks.length ∧ B6 G x.2.2.2.2.2 ∧ N8 (C1 x.2.2.2.2.2 G) (ks.take x.1) x.2.2.2.1 x.2.2.2.2.1 ∧ x.2.2.2.2.1.Nodup) (fun x => ks.length - x.1) (0, none, 0, [], [], G) ?_ ?_ ?_)
 (simp only [J6]; exact O1 (by repeat (first | exact E3.nil | refine E3.cons rfl ?_)) (by repeat (first | exact A0.refl | exact A0.nil | refine A0.cons (by repeat (first | exact Pk.here | apply Pk.there)) ?_)))
 exact ⟨by simp, B6.refl _, by simp [N8], by simp⟩
 (rintro ⟨i, pn, cn, es', F, Gi⟩ ⟨hi, hle, hst, hnd⟩; simp only [] at hi hle hst hnd ⊢; replace hsl := hsl.mono hle; replace hkl := hkl.mono hle)
 refine tS (tR ?_)
 refine sB (K6 rfl rfl) rfl rfl (fun h32 => ?_) (fun h32 => ?_)
 refine sD (nS (tS (qT rfl (tK (nS (tS ?_))))))
 refine B4 ?_
 refine tS (tR ?_)
 (obtain ⟨b, o, p2, c2, rfl, hat, hre, hgb⟩ := hsl.kidTy hkl (i := i) (by omega) (by omega); refine sP (B3 rfl rfl rfl (by omega)) rfl rfl ?_)
 refine sL (A1 rfl rfl (hat _) rfl) rfl rfl ?_
 refine sE (A5 rfl) rfl (fun b45 => ?_)
 refine F9 ?_
 refine sD (nS ?_)
 refine E1 E2 rfl ?_
 refine J5 (i := 0) (l' := [tt,ff,ff,ff,ff,ff,ff,ff]) rfl D5 (B1 rfl) rfl (by kernel_rfl) rfl rfl ?_
 refine aL 1 rfl (C0 rfl rfl) rfl ?_
 refine aL 2 rfl (A2 rfl rfl) rfl ?_
 refine A3 3 ?_
 (refine K0 rfl rfl (ih _ (List.getElem_mem (by omega)) _ _ (Ty.smallL_mem hks _ (List.getElem_mem (by omega))) hre) rfl rfl rfl (fun v G1 hle1 hh => ?_); obtain ⟨cells', F', rfl, hs', hnd'⟩ := hh; obtain ⟨p3, c3, es3, rfl, _⟩ := hs'.R.open)
 refine A3 4 ?_
 (refine E4 rfl (C9 rfl rfl rfl (by omega) (by unfold maxLen; omega) rfl) rfl rfl ?_; rintro _ ⟨b56, rfl⟩)
 refine A3 5 ?_
 refine Q5 rfl rfl rfl rfl rfl rfl (fun _ _ => by repeat (first | exact Sw.here | apply Sw.there)) (P3 (by repeat first | exact mH | apply mT)) rfl (by simp [Value.oneCell']) (by unfold maxLen; omega) (by omega) rfl rfl (by repeat (first | exact A6.nil | apply A6.dep (by kernel_rfl) | apply A6.blk (by kernel_rfl) (by repeat (first | exact Pk.here | apply Pk.there)) (by repeat first | exact mH | apply mT))) (fun pn' cn' => ?_)
 refine aP 6 rfl (B1 rfl) rfl ?_
 refine A3 7 ?_
 refine R2 rfl rfl rfl rfl rfl rfl rfl rfl (by kernel_rfl) (by repeat first | exact Sw.here | apply Sw.there) (by rfl) ?_
 refine C5 (M8 (nS (tR ?_)))
 refine sP (K2 rfl rfl (by omega) (by omega)) rfl rfl ?_
 refine sQ (qM rfl) rfl (sD ?_)
 refine K7 (i + 1, pn', cn', es' ++ [[.int .i64 ks[i].k, .slice p3 ks[i].ks.length c3]], F ++ F', G1) ?_ ?_ ?_
 (simp only [J6]; exact O1 (by repeat (first | exact E3.nil | refine E3.cons rfl ?_)) (by repeat (first | exact A0.refl | exact A0.nil | refine A0.cons (by repeat (first | exact Pk.here | apply Pk.there)) ?_)))
 exact ⟨by omega, hle.trans hle1, N8.step hst hnd hle hle1 (by omega) hs' hnd'⟩
 (show ks.length - (i + 1) < ks.length - i; omega)
 refine H9 ?_
 (refine I5 (by repeat (first | exact Pk.here | apply Pk.there)) (fun G2 hle2 hsl2 hno2 => ?_); obtain rfl : i = ks.length := by omega)
 refine tT ?_
 refine D9 (rC rfl (A2 rfl rfl)) ?_
 (rw [List.take_length] at hst; obtain ⟨F2, hf1, hf2⟩ := P1.fin hst hnd hle hle2 hsl2 hno2 hk; exact ⟨rfl, _, F2, rfl, hf1, hf2⟩)
def B2Z (t : Ty) (G : IM) : IM → Value → List A4 → Prop := L5 fun G' v => ∃ cells' F, v = .agg ⟨cells'⟩ ∧ P1 (C1 G' G) t cells' F ∧ F.Nodup
def B7M (ks : List Ty) (G : IM) : IM → Value → List A4 → Prop := L5 fun G' v => ∃ p c F, v = .slice p ks.length c ∧ A7P (C1 G' G) ks p c F ∧ F.Nodup
def A3J (t : Tm) (G : IM) : IM → Value → List A4 → Prop := L5 fun G' v => ∃ cells' F, v = .agg ⟨cells'⟩ ∧ O5 (C1 G' G) t cells' F ∧ F.Nodup
def B7N (ks : List Tm) (G : IM) : IM → Value → List A4 → Prop := L5 fun G' v => ∃ p c F, v = .slice p ks.length c ∧ A01 (C1 G' G) ks p c F ∧ F.Nodup
theorem W5 : ∀ (t : Ty) (G : IM) (cells : List Value), t.small → B7 G t cells → Fn Tryz.prog 152 [.agg ⟨cells⟩] [] G (B2Z t G) := by
 refine Ty.ind fun k ks ih G cells hts hr => ?_
 simp only [Ty.small] at hts
 obtain ⟨hsm, hks⟩ := hts
 obtain ⟨p, c, es, rfl, hk, hsl, hkl⟩ := hr.open
 simp only [Ty.k, Ty.ks] at hk hsl hkl ⊢
 have hn := hsl.le
 refine B2 Tryz.func152 rfl Tryz.ntmps152 Tryz.results152 rfl ?_
 intro w0
 refine tS (tR ?_)
 refine sE (B9 rfl rfl) rfl (fun b3 => ?_)
 refine sE (A5 rfl) rfl (fun b4 => ?_)
 refine C2 ?_
 refine sE (A5 rfl) rfl (fun b12 => ?_)
 refine F9 ?_
 refine sD (nS (tS (tS (tR (sQ (qA rfl) rfl (sD (nS ?_)))))))
 refine B4 ?_
 (refine V5 25 2 ?_; refine K9 (fun (x : Nat × Option Addr × Nat × List (List Value) × List Nat × IM) => ⟨[(4, .int .i64 x.1), (3, .pointer (some ⟨b12, 0, none⟩)), (1, .pointer (some ⟨b3, 0, none⟩)), (2, .pointer (some ⟨b4, 0, none⟩))], [.blk b12 [.int .i64 k, .slice x.2.1 x.1 x.2.2.1], .slc x.2.1 x.2.2.1 25 2 x.1 x.2.2.2.1.flatten, .blk b4 [.int .i64 0, .slice none 0 0], .blk b3 [.int .i64 k, .slice p ks.length c]], x.2.2.2.2.2⟩) (fun x => x.1 ≤ ks.length ∧ B6 G x.2.2.2.2.2 ∧ N8 (C1 x.2.2.2.2.2 G) (ks.take x.1) x.2.2.2.1 x.2.2.2.2.1 ∧ x.2.2.2.2.1.Nodup) (fun x => ks.length - x.1) (0, none, 0, [], [], G) ?_ ?_ ?_)
 (simp only [J6]; exact D1)
 exact ⟨by simp, B6.refl _, by simp [N8], by simp⟩
 (rintro ⟨i, pn, cn, es', F, Gi⟩ ⟨hi, hle, hst, hnd⟩; simp only [] at hi hle hst hnd ⊢; replace hsl := hsl.mono hle; replace hkl := hkl.mono hle)
 refine C2 ?_
 refine sB (K6 rfl rfl) rfl rfl (fun h34 => ?_) (fun h34 => ?_)
 refine sD (nS (qT rfl (tK (nS (tS ?_)))))
 refine B4 ?_
 (obtain ⟨b, o, p2, c2, rfl, hat, hre, hgb⟩ := hsl.kidTy hkl (i := i) (by omega) (by omega); refine E1 E2 rfl ?_)
 refine J5 (i := 0) (l' := [tt,ff,ff,ff,ff,ff,ff,ff,ff,ff,ff,ff]) rfl D5 (B1 rfl) rfl (by kernel_rfl) rfl rfl ?_
 refine aL 1 rfl (C0 rfl rfl) rfl ?_
 refine aP 2 rfl (B1 rfl) rfl ?_
 refine aL 3 rfl (C0 rfl rfl) rfl ?_
 refine aP 4 rfl (qM rfl) rfl ?_
 refine aP 5 rfl (B3 rfl rfl rfl (by omega)) rfl ?_
 refine aL 6 rfl (A1 rfl rfl (hat _) rfl) rfl ?_
 refine A3 7 ?_
 (refine K0 rfl rfl (ih ks[i] (List.getElem_mem (by omega)) _ _ (Ty.smallL_mem hks _ (List.getElem_mem (by omega))) hre) rfl rfl rfl (fun v G1 hle1 hh => ?_); obtain ⟨cells', F', rfl, hs', hnd'⟩ := hh; obtain ⟨p3, c3, es3, rfl, _⟩ := hs'.R.open)
 refine A3 8 ?_
 (refine E4 rfl (C9 rfl rfl rfl (by omega) (by unfold maxLen; omega) rfl) rfl rfl ?_; rintro _ ⟨b53, rfl⟩)
 refine A3 9 ?_
 refine Q5 rfl rfl rfl rfl rfl rfl (fun _ _ => by repeat (first | exact Sw.here | apply Sw.there)) (P3 (by repeat first | exact mH | apply mT)) rfl (by simp [Value.oneCell']) (by unfold maxLen; omega) (by omega) rfl rfl (by repeat (first | exact A6.nil | apply A6.dep (by decide +kernel) | apply A6.blk (by decide +kernel) (by repeat (first | exact Pk.here | apply Pk.there)) (by repeat first | exact mH | apply mT))) (fun pn' cn' => ?_)
 refine aP 10 rfl (B1 rfl) rfl ?_
 refine A3 11 ?_
 refine R2 rfl rfl rfl rfl rfl rfl rfl rfl (by kernel_rfl) (by repeat first | exact Sw.here | apply Sw.there) (by rfl) ?_
 refine C5 (M8 (nS (tR (sQ (qM rfl) rfl ?_))))
 refine sP (K2 rfl rfl (by omega) (by omega)) rfl rfl ?_
 refine sQ (qA rfl) rfl (sD ?_)
 refine K7 (i + 1, pn', cn', es' ++ [[.int .i64 ks[i].k, .slice p3 ks[i].ks.length c3]], F ++ F', G1) ?_ ?_ ?_
 (simp only [J6]; exact D1)
 exact ⟨by omega, hle.trans hle1, N8.step hst hnd hle hle1 (by omega) hs' hnd'⟩
 (show ks.length - (i + 1) < ks.length - i; omega)
 refine J2 ?_
 (refine I5 (by repeat (first | exact Pk.here | apply Pk.there)) (fun G2 hle2 hsl2 hno2 => ?_); obtain rfl : i = ks.length := (by omega))
 refine tT ?_
 refine D9 (rC rfl (A2 rfl rfl)) ?_
 (rw [List.take_length] at hst; obtain ⟨F2, hf1, hf2⟩ := P1.fin hst hnd hle hle2 hsl2 hno2 hk; exact ⟨rfl, _, F2, rfl, hf1, hf2⟩)
theorem A3K : ∀ (t : Tm) (G : IM) (cells : List Value), t.small → A8 G t cells → Fn Tryz.prog 94 [.agg ⟨cells⟩] [] G (A3J t G) := by
 refine Tm.ind fun k nm num ty fr lb ks ih G cells hts hr => ?_
 have hone := hr.one
 simp only [Tm.small] at hts
 obtain ⟨hnm, hty', hfr', hsm, hks⟩ := hts
 obtain ⟨tk, tks⟩ := ty
 obtain ⟨fk, fks⟩ := fr
 obtain ⟨pt, ct, pf, cf, p, c, es, rfl, hk, hnum, hlb, hty, hfr, hsl, hkl⟩ := hr.open9
 have hn := hsl.le
 have hT := W5 (.mk tk tks) G _ hty' hty
 refine B2 Tryz.func94 rfl Tryz.ntmps94 Tryz.results94 rfl ?_
 intro w0
 refine tS (tR ?_)
 refine sE (B9 rfl rfl) rfl (fun b3 => ?_)
 refine sE (A5 rfl) rfl (fun b4 => ?_)
 refine sD (nS (tS (tR (sL (A2 rfl rfl) rfl rfl ?_))))
 refine sE (A5 rfl) rfl (fun b10 => ?_)
 refine C2 ?_
 (refine E0 rfl hT rfl rfl (fun v G1 hle1 hh => ?_); obtain ⟨cs1, F1, rfl, hs1, hn1⟩ := hh; obtain ⟨p1, c1, rfl, _⟩ := hs1.open; have hF := W5 (.mk fk fks) G1 _ hfr' (hfr.mono hle1))
 refine D3 ?_
 (refine E0 rfl hF rfl rfl (fun v G2 hle2 hh => ?_); obtain ⟨cs2, F2, rfl, hs2, hn2⟩ := hh; obtain ⟨p2, c2, rfl, _⟩ := hs2.open; replace hsl := hsl.mono (hle1.trans hle2); replace hkl := hkl.mono (hle1.trans hle2))
 refine K4 ?_
 refine B4 ?_
 (refine V5 28 9 ?_; refine K9 (fun (x : Nat × Option Addr × Nat × List (List Value) × List Nat × IM) => ⟨[(4, .int .i64 x.1), (3, .pointer (some ⟨b10, 0, none⟩)), (1, .pointer (some ⟨b3, 0, none⟩)), (2, .pointer (some ⟨b4, 0, none⟩))], [.blk b10 [.int .i64 k, .string nm, .int .i64 num, .int .i64 tk, .slice p1 tks.length c1, .int .i64 fk, .slice p2 fks.length c2, .int .i64 lb, .slice x.2.1 x.1 x.2.2.1], .slc x.2.1 x.2.2.1 28 9 x.1 x.2.2.2.1.flatten, .blk b4 [.int .i64 0, .string ⟨⟨[]⟩⟩, .int .i64 0, .int .i64 0, .slice none 0 0, .int .i64 0, .slice none 0 0, .int .i64 0, .slice none 0 0], .blk b3 [.int .i64 k, .string nm, .int .i64 num, .int .i64 tk, .slice pt tks.length ct, .int .i64 fk, .slice pf fks.length cf, .int .i64 lb, .slice p ks.length c]], x.2.2.2.2.2⟩) (fun x => x.1 ≤ ks.length ∧ B6 G2 x.2.2.2.2.2 ∧ M3 (C1 x.2.2.2.2.2 G2) (ks.take x.1) x.2.2.2.1 x.2.2.2.2.1 ∧ x.2.2.2.2.1.Nodup) (fun x => ks.length - x.1) (0, none, 0, [], [], G2) ?_ ?_ ?_)
 (simp only [J6]; exact D1)
 exact ⟨by simp, B6.refl _, by simp [M3], by simp⟩
 (rintro ⟨i, pn, cn, es', F, Gi⟩ ⟨hi, hle, hst, hnd⟩; simp only [] at hi hle hst hnd ⊢; replace hsl := hsl.mono hle; replace hkl := hkl.mono hle)
 refine C2 ?_
 refine sB (K6 rfl rfl) rfl rfl (fun h56 => ?_) (fun h56 => ?_)
 refine sD (nS (qT rfl (tK (nS (tS ?_)))))
 refine B4 ?_
 (obtain ⟨b, o, e, rfl, hl, hat, hre, hgb⟩ := hsl.kidTm hkl (i := i) (by omega) (by omega); have hone := hre.one; refine E1 E2 rfl ?_)
 refine J5 (i := 0) (l' := [tt,ff,ff,ff,ff,ff,ff,ff,ff,ff,ff,ff]) rfl D5 (B1 rfl) rfl (by kernel_rfl) rfl rfl ?_
 refine aL 1 rfl (C0 rfl rfl) rfl ?_
 refine aP 2 rfl (B1 rfl) rfl ?_
 refine aL 3 rfl (C0 rfl rfl) rfl ?_
 refine aP 4 rfl (qM rfl) rfl ?_
 refine aP 5 rfl (B3 rfl rfl rfl (by omega)) rfl ?_
 refine aL 6 rfl (A1 rfl rfl (hat _) hl) rfl ?_
 refine A3 7 ?_
 (refine K0 rfl rfl (ih ks[i] (List.getElem_mem (by omega)) _ _ (Tm.smallL_mem hks _ (List.getElem_mem (by omega))) hre) rfl rfl rfl (fun v G3 hle3 hh => ?_); obtain ⟨cells', F', rfl, hs', hnd'⟩ := hh; obtain ⟨qt, dt, et', qf, df, ef', q3, d3, es3, rfl, _⟩ := hs'.R.open)
 refine A3 8 ?_
 (refine E4 rfl (C9 rfl rfl rfl (by omega) (by unfold maxLen; omega) rfl) rfl rfl ?_; rintro _ ⟨b75, rfl⟩)
 refine A3 9 ?_
 refine Q5 rfl rfl rfl rfl rfl rfl (fun _ _ => by repeat (first | exact Sw.here | apply Sw.there)) (P3 (by repeat first | exact mH | apply mT)) rfl (by simp [Value.oneCell']) (by unfold maxLen; omega) (by omega) rfl rfl (by repeat (first | exact A6.nil | apply A6.dep (by decide +kernel) | apply A6.blk (by decide +kernel) (by repeat (first | exact Pk.here | apply Pk.there)) (by repeat first | exact mH | apply mT))) (fun pn' cn' => ?_)
 refine aP 10 rfl (B1 rfl) rfl ?_
 refine A3 11 ?_
 refine R2 rfl rfl rfl rfl rfl rfl rfl rfl (by kernel_rfl) (by repeat first | exact Sw.here | apply Sw.there) (by rfl) ?_
 refine C5 (M8 (nS (tR (sQ (qM rfl) rfl ?_))))
 refine sP (K2 rfl rfl (by omega) (by omega)) rfl rfl ?_
 refine sQ (qA rfl) rfl (sD ?_)
 refine K7 (i + 1, pn', cn', es' ++ [[.int .i64 ks[i].k, .string ks[i].nm, .int .i64 ks[i].num, .int .i64 ks[i].ty.k, .slice qt ks[i].ty.ks.length dt, .int .i64 ks[i].fr.k, .slice qf ks[i].fr.ks.length df, .int .i64 ks[i].lb, .slice q3 ks[i].ks.length d3]], F ++ F', G3) ?_ ?_ ?_
 (simp only [J6]; exact D1)
 exact ⟨by omega, hle.trans hle3, M3.step hst hnd hle hle3 (by omega) hs' hnd'⟩
 (show ks.length - (i + 1) < ks.length - i; omega)
 refine J2 ?_
 (refine I5 (by repeat (first | exact Pk.here | apply Pk.there)) (fun G4 hle4 hsl4 hno4 => ?_); obtain rfl : i = ks.length := (by omega))
 refine tT ?_
 refine D9 (rC rfl (A2 rfl rfl)) ?_
 (rw [List.take_length] at hst; obtain ⟨F3, hf1, hf2⟩ := A01.fin hst hnd hle hle4 hsl4 hno4; obtain ⟨F5, hg1, hg2⟩ := O5.mk3 (nm := nm) hk hnum hlb hle1 hle2 (hle.trans hle4) hs1 hn1 hs2 hn2 hf1 hf2; exact ⟨rfl, _, F5, rfl, hg1, hg2⟩)
mutual
def A1H (g : Tm → Tm) : Tm → Tm
 | .mk k nm num ty fr lb ks => g (.mk k nm num ty fr lb (A0w g ks))
def A0w (g : Tm → Tm) : List Tm → List Tm
 | [] => []
 | t :: ts => A1H g t :: A0w g ts
end
theorem A6e (g : Tm → Tm) : ∀ ks, A0w g ks = ks.map (A1H g)
 | [] => rfl
 | t :: ts => by rw [A0w, A6e g ts, List.map_cons]
mutual
theorem A8y : ∀ t, A1H id t = t
 | .mk k nm num ty fr lb ks => by rw [A1H, A8z ks]; rfl
theorem A8z : ∀ ks, A0w id ks = ks
 | [] => rfl
 | t :: ts => by rw [A0w, A8y t, A8z ts]
end
theorem O5.mk3k {G G1 G2 G3 : IM} {k : Int} {nm : ByteArray} {num : Int} {ty fr : Ty} {lb : Int} {ks : List Tm} {tc fc : List Value} {p : Option Addr} {c : Nat} {F1 F2 F3 : List Nat} (hk : E6 k) (hnum : E6 num) (hlb : E6 lb)
  (hl1 : B6 G G1) (hl2 : B6 G1 G2) (hl3 : B6 G2 G3) (h3 : A01 (C1 G1 G) ks p c F3) (n3 : F3.Nodup) (h1 : P1 (C1 G2 G1) ty tc F1) (n1 : F1.Nodup) (h2 : P1 (C1 G3 G2) fr fc F2) (n2 : F2.Nodup) :
  ∃ F, O5 (C1 G3 G) (.mk k nm num ty fr lb ks) ([.int .i64 k, .string nm, .int .i64 num] ++ tc ++ fc ++ [.int .i64 lb, .slice p ks.length c]) F ∧ F.Nodup := by
 obtain ⟨es, Fs, e1, e2, rfl, e4⟩ := h3
 have i3 : ∀ b ∈ J4 p ++ Fs, C1 G1 G b ≠ none := by
  intro b hb
  rcases List.mem_append.1 hb with hb | hb
  ·exact e4 b hb
  ·exact e2.inG b hb
 have a1 : B6 (C1 G1 G) (C1 G3 G) := C1.mono (hl2.trans hl3)
 have a2 : B6 (C1 G2 G1) (C1 G3 G) := fun b l h => C1.mono hl3 b l (C1.anti hl1 b l h)
 have a3 : B6 (C1 G3 G2) (C1 G3 G) := C1.anti (hl1.trans hl2)
 refine ⟨F1 ++ (F2 ++ (J4 p ++ Fs)), ?_, ?_⟩
 ·simp only [O5]
  exact ⟨tc, fc, p, c, es, F1, F2, Fs, rfl, hk, hnum, hlb, h1.mono a2, h2.mono a3, e1.mono a1, e2.mono a1, rfl, A2R a1 e4⟩
 ·rw [List.nodup_append, List.nodup_append]
  refine ⟨n1, ⟨n2, n3, ?_⟩, ?_⟩
  ·rintro x hx y hy rfl
   exact A2s (A2R (C1.mono hl2) i3) h2.inG x hy x hx rfl
  ·rintro x hx y hy rfl
   rcases List.mem_append.1 hy with hy | hy
   ·exact A2s (A2R (C1.anti hl1) h1.inG) h2.inG x hx x hy rfl
   ·exact A2s i3 h1.inG x hy x hx rfl
mutual
def mOk (Q : Tm → Prop) (g : Tm → Tm) : Tm → Prop
 | .mk k nm num ty fr lb ks => A1j Q g ks ∧ Q (.mk k nm num ty fr lb (A0w g ks))
def A1j (Q : Tm → Prop) (g : Tm → Tm) : List Tm → Prop
 | [] => True
 | t :: ts => mOk Q g t ∧ A1j Q g ts
end
theorem A8A {Q : Tm → Prop} {g : Tm → Tm} : ∀ {ts : List Tm}, A1j Q g ts → ∀ t ∈ ts, mOk Q g t
 | [], _, t, h => by simp at h
 | t' :: ts, h, t, ht => by
  simp only [A1j] at h
  rcases List.mem_cons.1 ht with rfl | ht
  ·exact h.1
  ·exact A8A h.2 t ht
mutual
theorem A8B (g : Tm → Tm) : ∀ t, mOk (fun _ => True) g t
 | .mk k nm num ty fr lb ks => by rw [mOk]; exact ⟨A8C g ks, trivial⟩
theorem A8C (g : Tm → Tm) : ∀ ts, A1j (fun _ => True) g ts
 | [] => by rw [A1j]; trivial
 | t :: ts => by rw [A1j]; exact ⟨A8B g t, A8C g ts⟩
end
def A6f (g : Tm → Tm) (Q : Tm → Prop) (fid : FuncId) (us cs : List Value) : Prop := ∀ (t : Tm) (G0 G1 : IM) (cells : List Value) (F : List Nat), Q t → B6 G0 G1 → O5 (C1 G1 G0) t cells F → F.Nodup →
 Fn Tryz.prog fid (us ++ [.agg ⟨cells⟩] ++ cs) [] G1 (L5 fun G2 v => ∃ cells' F', v = .agg ⟨cells'⟩ ∧ O5 (C1 G2 G0) (g t) cells' F' ∧ F'.Nodup)
theorem A8D (g : Tm → Tm) (Q : Tm → Prop) (fid : FuncId) [B0 Tryz.prog fid] (us cs : List Value) (hg : A6f g Q fid us cs) : ∀ (t : Tm) (G : IM) (cells : List Value), mOk Q g t → t.small → A8 G t cells →
  Fn Tryz.prog 76 [.agg ⟨cells⟩, .func (.func fid) ⟨us⟩ ⟨cs⟩] [] G (A3J (A1H g t) G) := by
 refine Tm.ind fun k nm num ty fr lb ks ih G cells hmo hts hr => ?_
 have hone := hr.one
 simp only [mOk] at hmo
 obtain ⟨hmoL, hQ⟩ := hmo
 simp only [Tm.small] at hts
 obtain ⟨hnm, hty', hfr', hsm, hks⟩ := hts
 obtain ⟨tk, tks⟩ := ty
 obtain ⟨fk, fks⟩ := fr
 obtain ⟨pt, ct, pf, cf, p, c, es, rfl, hk, hnum, hlb, hty, hfr, hsl, hkl⟩ := hr.open9
 have hn := hsl.le
 have hlen : (A0w g ks).length = ks.length := by rw [A6e, List.length_map]
 have hget : ∀ i (h : i < ks.length) (h' : i < (A0w g ks).length), (A0w g ks)[i] = A1H g ks[i] := fun i h h' => by simp [A6e]
 refine B2 Tryz.func76 rfl Tryz.ntmps76 Tryz.results76 rfl ?_
 intro w0
 refine tS (tR ?_)
 refine sE (B9 rfl rfl) rfl (fun b3 => ?_)
 refine sE (A5 rfl) rfl (fun b4 => ?_)
 refine K4 ?_
 refine B4 ?_
 (refine V5 28 9 ?_; refine K9 (fun (x : Nat × Option Addr × Nat × List (List Value) × List Nat × IM) => ⟨[(11, .int .i64 x.1), (10, .int .i64 ks.length), (9, .slice p ks.length c), (5, .slice x.2.1 x.1 x.2.2.1), (2, .pointer (some ⟨b3, 0, none⟩)), (1, .func (.func fid) ⟨us⟩ ⟨cs⟩), (4, .pointer (some ⟨b4, 0, none⟩))], [.slc x.2.1 x.2.2.1 28 9 x.1 x.2.2.2.1.flatten, .blk b4 [.int .i64 0, .string ⟨⟨[]⟩⟩, .int .i64 0, .int .i64 0, .slice none 0 0, .int .i64 0, .slice none 0 0, .int .i64 0, .slice none 0 0], .blk b3 [.int .i64 k, .string nm, .int .i64 num, .int .i64 tk, .slice pt tks.length ct, .int .i64 fk, .slice pf fks.length cf, .int .i64 lb, .slice p ks.length c]], x.2.2.2.2.2⟩) (fun x => x.1 ≤ ks.length ∧ B6 G x.2.2.2.2.2 ∧ M3 (C1 x.2.2.2.2.2 G) ((A0w g ks).take x.1) x.2.2.2.1 x.2.2.2.2.1 ∧ x.2.2.2.2.1.Nodup) (fun x => ks.length - x.1) (0, none, 0, [], [], G) ?_ ?_ ?_)
 (simp only [J6]; exact D1)
 exact ⟨by simp, B6.refl _, by simp [M3], by simp⟩
 (rintro ⟨i, pn, cn, es', F, Gi⟩ ⟨hi, hle, hst, hnd⟩; simp only [] at hi hle hst hnd ⊢; replace hsl := hsl.mono hle; replace hkl := hkl.mono hle)
 refine tS (tR ?_)
 refine sB (K6 rfl rfl) rfl rfl (fun h28 => ?_) (fun h28 => ?_)
 refine sD (nS (tS (qT rfl (tK (nS (tS ?_))))))
 refine B4 ?_
 refine tS (tR ?_)
 (obtain ⟨b, o, e, rfl, hl, hat, hre, hgb⟩ := hsl.kidTm hkl (i := i) (by omega) (by omega); have hone := hre.one; refine sP (B3 rfl rfl rfl (by omega)) rfl rfl ?_)
 refine sL (A1 rfl rfl (hat _) hl) rfl rfl ?_
 refine sE (A5 rfl) rfl (fun b41 => ?_)
 refine sS rfl rfl rfl hl hone rfl ?_ (hu := by exact C3 hl.symm)
 refine sD (nS (tR (sQ (qM rfl) rfl ?_)))
 refine sL (A1 rfl rfl (A9 (by repeat first | exact mH | apply mT)) (by assumption)) rfl rfl ?_
 refine sQ (qM rfl) rfl ?_
 (refine E0 rfl (ih ks[i] (List.getElem_mem (by omega)) _ _ (A8A hmoL _ (List.getElem_mem (by omega))) (Tm.smallL_mem hks _ (List.getElem_mem (by omega))) hre) rfl rfl (fun v G3 hle3 hh => ?_); obtain ⟨cells', F', rfl, hs', hnd'⟩ := hh; rw [← hget i (by omega) (by omega)] at hs'; have hlc := hs'.R.len; have hoc := hs'.R.one)
 (obtain ⟨v1, v2, v3, v4, v5, v6, v7, v8, v9, rfl⟩ : ∃ v1 v2 v3 v4 v5 v6 v7 v8 v9, cells' = [v1, v2, v3, v4, v5, v6, v7, v8, v9] := by obtain ⟨_, _, _, _, _, _, _, _, _, rfl, _⟩ := hs'.R.open; exact ⟨_, _, _, _, _, _, _, _, _, rfl⟩)
 (refine L9 (C9 rfl rfl rfl (by omega) (by unfold maxLen; omega) rfl) rfl ?_; rintro _ ⟨b51, rfl⟩)
 refine A4s rfl rfl rfl rfl rfl (fun _ _ => by repeat (first | exact Sw.here | apply Sw.there)) (P3 (by repeat first | exact mH | apply mT)) rfl (fun u hu => List.all_eq_true.1 hoc u hu) (by unfold maxLen; omega) (by omega) rfl (fun pn' cn' => ?_)
 refine sQ (qA rfl) rfl (sD (M8 (nS (tR ?_))))
 refine sP (K2 rfl rfl (by omega) (by omega)) rfl rfl ?_
 refine sQ (qM rfl) rfl (sD ?_)
 refine K7 (i + 1, pn', cn', es' ++ [[v1, v2, v3, v4, v5, v6, v7, v8, v9]], F ++ F', G3) ?_ ?_ ?_
 (simp only [J6]; exact D1)
 exact ⟨by omega, hle.trans hle3, M3.step hst hnd hle hle3 (by omega) hs' hnd'⟩
 (show ks.length - (i + 1) < ks.length - i; omega)
 refine I9 ?_
 (obtain rfl : i = ks.length := (by omega); refine A1W (by repeat (first | exact Pk.here | apply Pk.there)) (fun G2 hle2 hsl2 hno2 => ?_); rw [← hlen, List.take_length] at hst; rw [← hlen] at hsl2; obtain ⟨F3, hf1, hf2⟩ := A01.fin hst hnd hle hle2 hsl2 hno2; have hleG := hle.trans hle2; have hT := A10 (.mk tk tks) G2 _ hty' (hty.mono hleG); refine E1 E2 rfl ?_)
 refine J5 (i := 0) (l' := [tt,ff,ff,ff,ff,ff,ff,ff,ff,ff,ff,ff,ff]) rfl D5 (B1 rfl) rfl (by kernel_rfl) rfl rfl ?_
 refine aL 1 rfl (A2 rfl rfl) rfl ?_
 refine aP 3 rfl (B1 rfl) rfl ?_
 refine aL 4 rfl (A2 rfl rfl) rfl ?_
 refine aP 6 rfl (qM rfl) rfl ?_
 refine A3 2 ?_
 (refine K0 rfl rfl hT rfl rfl rfl (fun v G4 hle4 hh => ?_); obtain ⟨cs1, F1, rfl, hs1, hn1⟩ := hh; obtain ⟨p1, c1, rfl, _⟩ := hs1.open; have hF := A10 (.mk fk fks) G4 _ hfr' (hfr.mono (hleG.trans hle4)))
 refine aP 7 rfl (B1 rfl) rfl ?_
 refine A3 5 ?_
 (refine K0 rfl rfl hF rfl rfl rfl (fun v G5 hle5 hh => ?_); obtain ⟨cs2, F2, rfl, hs2, hn2⟩ := hh; obtain ⟨p2, c2, rfl, _⟩ := hs2.open; obtain ⟨F6, hg1, hg2⟩ := O5.mk3k (nm := nm) hk hnum hlb hleG hle4 hle5 hf1 hf2 hs1 hn1 hs2 hn2; rw [hlen] at hg1; have hch := hg _ G G5 _ F6 hQ (hleG.trans (hle4.trans hle5)) hg1 hg2)
 refine A3 8 ?_
 refine R2 rfl rfl rfl rfl rfl rfl rfl rfl (by kernel_rfl) (by repeat first | exact Sw.here | apply Sw.there) (by rfl) ?_
 refine aP 9 rfl (B1 rfl) rfl ?_
 refine A3 10 ?_
 refine R2 rfl rfl rfl rfl rfl rfl rfl rfl (by kernel_rfl) (by repeat first | exact Sw.here | apply Sw.there) (by rfl) ?_
 refine aP 11 rfl (B1 rfl) rfl ?_
 refine A3 12 ?_
 refine R2 rfl rfl rfl rfl rfl rfl rfl rfl (by kernel_rfl) (by repeat first | exact Sw.here | apply Sw.there) (by rfl) ?_
 refine J8 ?_
 (refine L9 (A5H rfl rfl hch (List.Perm.refl _) rfl) rfl ?_; rintro _ ⟨v, G7, outs, rfl, hle7, rfl, cells7, F7, rfl, hs7, hn7⟩; have hl7 := hs7.R.len; have ho7 := hs7.R.one)
 refine sS rfl rfl rfl hl7 ho7 rfl ?_ (hu := by exact C3 hl7.symm)
 refine sD (nS (tT ?_))
 refine D9 (rC rfl (A1 rfl rfl (A9 (by repeat first | exact mH | apply mT)) hl7)) ?_
 (rw [A1H]; exact ⟨rfl, cells7, F7, rfl, hs7, hn7⟩)
theorem B20 (G : IM) (cells : List Value) (hl : cells.length = 9) (hone : cells.all (·.oneCell') = true) : Fn Tryz.prog 192 [.agg ⟨cells⟩] [] G (H0 (.agg ⟨cells⟩) G) := by
 refine B2 Tryz.func192 rfl Tryz.ntmps192 Tryz.results192 rfl ?_
 intro w0
 refine tS (tR ?_)
 refine sE (B9 rfl rfl) rfl (fun b3 => ?_)
 refine sE (A5 rfl) rfl (fun b4 => ?_)
 refine sD (nS (tS (tR ?_)))
 refine sL (A1 rfl rfl (A9 (by repeat first | exact mH | apply mT)) (by assumption)) rfl rfl ?_
 refine sS rfl rfl rfl hl hone rfl ?_ (hu := by exact C3 hl.symm)
 refine sD (nS (tT ?_))
 refine D9 (rC rfl (A1 rfl rfl (A9 (by repeat first | exact mH | apply mT)) hl)) ?_
 exact ⟨rfl, rfl, rfl⟩
theorem B21 : A6f id (fun _ => True) 192 [] [] := fun t G0 G1 cells F _ hle hs hn =>
 (B20 G1 cells hs.R.len hs.R.one).mono fun G' v outs _ ⟨h1, h2, h3⟩ => ⟨h3, cells, F, h2, by rw [h1]; exact hs, hn⟩
theorem A3L (t : Tm) (G : IM) (cells : List Value) (hts : t.small) (hr : A8 G t cells) : Fn Tryz.prog 140 [.agg ⟨cells⟩] [] G (A3J t G) := by
 have hl := hr.len
 have hone := hr.one
 have hM := A8D id (fun _ => True) 192 [] [] B21 t G cells (A8B _ t) hts hr
 rw [A8y] at hM
 refine B2 Tryz.func140 rfl Tryz.ntmps140 Tryz.results140 rfl ?_
 intro w0
 refine tS (tR ?_)
 refine sE (B9 rfl rfl) rfl (fun b3 => ?_)
 refine sE (A5 rfl) rfl (fun b4 => ?_)
 refine sD (nS (tS (tR ?_)))
 refine sL (A1 rfl rfl (A9 (by repeat first | exact mH | apply mT)) (by assumption)) rfl rfl ?_
 (refine E0 rfl hM rfl rfl (fun v G3 hle3 hh => ?_); obtain ⟨cells', F', rfl, hs', hnd'⟩ := hh; have hl' := hs'.R.len; have ho' := hs'.R.one)
 refine sS rfl rfl rfl hl' ho' rfl ?_ (hu := by exact C3 hl'.symm)
 refine sD (nS (tT ?_))
 refine D9 (rC rfl (A1 rfl rfl (A9 (by repeat first | exact mH | apply mT)) hl')) ?_
 exact ⟨rfl, cells', F', rfl, hs', hnd'⟩
theorem B22 {D N : Int} {k : Int} {nm : ByteArray} {num : Int} {ty fr : Ty} {lb : Int} {ks : List Tm} {d : Int} (h : J1 D N (.mk k nm num ty fr lb ks) d = true) : d ≤ D ∧ ∀ i, (hi : i < ks.length) → J1 D N ks[i] (d + 1) = true := by
 rw [J1] at h
 simp only [Bool.and_eq_true, decide_eq_true_eq] at h
 exact ⟨h.1.1.1, (A05 D N ks _).1 h.2⟩
mutual
theorem A6g (M D N : Int) : ∀ (t : Tm) (deep c : Int), c ≤ M → ((S6 M D N t deep c).1 = true ↔ J1 D N t deep = true ∧ c + C6 t ≤ M)
 | .mk k nm num ty fr lb ks, deep, c, hc => by
  rw [S6, C6]
  by_cases h : c + 1 > M ∨ deep > D ∨ k = N ∨ T8 k nm num ty fr lb ks.length = false
  ·rw [if_pos h]
   constructor
   ·intro h; cases h
   ·rintro ⟨h1, h2⟩
    rcases h with h | h
    ·omega
    ·rw [A1h h] at h1; cases h1
  ·rw [if_neg h]
   have hn : T8 k nm num ty fr lb ks.length = true := by
    cases hx : T8 k nm num ty fr lb ks.length with
    | true => rfl
    | false => exact absurd (Or.inr (Or.inr (Or.inr hx))) h
   rw [A0O (by omega) (by omega) hn, A8E M D N ks (deep + 1) (c + 1) (by omega)]
   constructor
   ·rintro ⟨a, b⟩; exact ⟨a, by omega⟩
   ·rintro ⟨a, b⟩; exact ⟨a, by omega⟩
theorem A8E (M D N : Int) : ∀ (ts : List Tm) (deep c : Int), c ≤ M → ((U9 M D N ts deep c).1 = true ↔ E9 D N ts deep = true ∧ c + D6 ts ≤ M)
 | [], deep, c, hc => by simp [U9, E9, D6]; omega
 | t :: ts, deep, c, hc => by
  have h0 := A6g M D N t deep c hc
  rw [U9, E9, D6, Bool.and_eq_true]
  by_cases h : (S6 M D N t deep c).1 = true
  ·rw [if_pos h, A7V M D N t deep c h, A8E M D N ts deep _ (h0.1 h).2]
   have := h0.1 h
   constructor
   ·rintro ⟨a, b⟩; exact ⟨⟨this.1, a⟩, by omega⟩
   ·rintro ⟨⟨_, a⟩, b⟩; exact ⟨a, by omega⟩
  ·rw [if_neg h]
   constructor
   ·intro h'; cases h'
   ·rintro ⟨⟨a, _⟩, b⟩
    exact absurd (h0.2 ⟨a, by omega⟩) h
end
theorem A1I (t : Tm) : J3 t = true ↔ J1 40 13 t 1 = true ∧ C6 t ≤ 200 := by
 have := A6g 200 40 13 t 1 0 (by omega)
 rw [J3, this]
 constructor
 ·rintro ⟨a, b⟩; exact ⟨a, by omega⟩
 ·rintro ⟨a, b⟩; exact ⟨a, by omega⟩
theorem A8F (D N : Int) : ∀ (t : Tm) (d : Int) (G : IM) (cells : List Value), d ≤ 40 → J1 D N t (D + 1 - d) = true → C6 t ≤ 4294967296 → A8 G t cells →
  Fn Tryz.prog 120 [.agg ⟨cells⟩, .int .i64 d] [] G (H0 (.int .i64 (C6 t : Int)) G) := by
 refine Tm.ind fun k nm num ty fr lb ks ih d G cells hd hv hcnt hr => ?_
 have hone := hr.one
 obtain ⟨hv1, hv2⟩ := B22 hv
 obtain ⟨tk, tks⟩ := ty
 obtain ⟨fk, fks⟩ := fr
 obtain ⟨pt, ct, pf, cf, p, c, es, rfl, hk, hnum, hlb, hty, hfr, hsl, hkl⟩ := hr.open9
 have hn := hsl.le
 clear hr
 rw [C6] at hcnt ⊢
 refine B2 Tryz.func120 rfl Tryz.ntmps120 Tryz.results120 rfl ?_
 intro w0
 refine tS (tR ?_)
 refine sE (B9 rfl rfl) rfl (fun b3 => ?_)
 refine J2 ?_
 refine B4 ?_
 (refine K9 (fun (i : Nat) => ⟨[(6, .int .i64 i), (5, .int .i64 ((D6 (ks.take i) + 1 : Nat) : Int)), (2, .pointer (some ⟨b3, 0, none⟩)), (1, .int .i64 d)], [.blk b3 [.int .i64 k, .string nm, .int .i64 num, .int .i64 tk, .slice pt tks.length ct, .int .i64 fk, .slice pf fks.length cf, .int .i64 lb, .slice p ks.length c]], G⟩) (fun i => i ≤ ks.length) (fun i => ks.length - i) 0 ?_ ?_ ?_)
 exact D1
 exact Nat.zero_le _
 (rintro i hi)
 refine C2 ?_
 refine sB (K6 rfl rfl) rfl rfl (fun h30 => ?_) (fun h30 => ?_)
 refine sQ (qM rfl) rfl (sQ (qM rfl) rfl ?_)
 refine sP (A3s rfl rfl (by omega)) rfl rfl ?_
 refine sQ (L4 rfl rfl) rfl (sD (nS (qT rfl (tK (nS (tS ?_))))))
 refine B4 ?_
 refine R1 ?_
 (obtain ⟨b, o, e, rfl, hl, hat, hre, hgb⟩ := hsl.kidTm hkl (i := i) (by omega) (by omega); have htk := A4z (ks := ks) (i := i) (by omega); refine sP (B3 rfl rfl rfl (by omega)) rfl rfl ?_)
 refine sL (A1 rfl rfl (hat _) hl) rfl rfl ?_
 refine sQ (qM rfl) rfl ?_
 refine sP (P5 rfl rfl (by omega) (by omega)) rfl rfl ?_
 (have hvk := hv2 i (by omega); rw [show D + 1 - d + 1 = D + 1 - (d - 1) by omega] at hvk; refine H3 rfl (ih ks[i] (List.getElem_mem (by omega)) (d - 1) G _ (by omega) hvk (by omega) hre) rfl rfl ?_)
 refine sP (K2 rfl rfl (by omega) (by omega)) rfl rfl ?_
 refine J8 ?_
 refine sP (K2 rfl rfl (by omega) (by omega)) rfl rfl ?_
 refine sQ (qA rfl) rfl (sD ?_)
 (refine K7 (i + 1) ?_ ?_ ?_; rw [show ((D6 (ks.take (i + 1)) + 1 : Nat) : Int) = ((D6 (ks.take i) + 1 : Nat) : Int) + (C6 ks[i] : Int) from by rw [A4A (by omega)]; omega])
 exact D1
 omega
 omega
 refine A0u ?_
 (obtain rfl : i = ks.length := (by omega); rw [List.take_length]; exact ⟨rfl, rfl, rfl⟩)
theorem A6h (t : Tm) (G : IM) (cells : List Value) (hcnt : C6 t ≤ 4294967296) (hr : A8 G t cells) :
  Fn Tryz.prog 51 [.agg ⟨cells⟩] [] G (H0 (.bool (J3 t)) G) := by
 have hl := hr.len
 have hv := B2Y t 40 G cells (by omega) hr
 have hc := fun h => A8F 40 13 t 40 G cells (by omega) h hcnt hr
 have hi := A1I t
 obtain ⟨R, hR⟩ : ∃ R, J3 t = R := ⟨_, rfl⟩
 rw [hR] at hi ⊢
 refine B2 Tryz.func51 rfl Tryz.ntmps51 Tryz.results51 rfl ?_
 intro w0
 refine tS (tR ?_)
 refine sE (B9 rfl rfl) rfl (fun b3 => ?_)
 refine sQ (qA rfl) rfl (sD (nS (tS (tR ?_))))
 refine sL (A1 rfl rfl (A9 (by repeat first | exact mH | apply mT)) (by assumption)) rfl rfl ?_
 refine D8 rfl (hv) rfl rfl (fun h10 => ?_) (fun h10 => ?_)
 refine sQ (qM rfl) rfl ?_
 refine sL (A1 rfl rfl (A9 (by repeat first | exact mH | apply mT)) (by assumption)) rfl rfl ?_
 refine H3 rfl (hc (by assumption)) rfl rfl ?_
 refine sB (A0o rfl rfl) rfl rfl (fun h14 => ?_) (fun h14 => ?_)
 refine J8 ?_
 exact ⟨rfl, by rw [hi.2 ⟨by assumption, by omega⟩], rfl⟩
 refine J8 ?_
 exact ⟨rfl, by (cases R with | false => rfl | true => (exfalso; have h0 := hi.1 rfl; first | omega | simp_all)), rfl⟩
 refine I9 ?_
 exact ⟨rfl, by (cases R with | false => rfl | true => (exfalso; have h0 := hi.1 rfl; first | omega | simp_all)), rfl⟩
end Gw
end Go.Proofs.YtfpgncjeejickaaGreatDoor
