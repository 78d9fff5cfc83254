/-
  The tests of terms. The scan of a term, CastValid, TermValid. The reference model's tests of types and nodes: they compute the same plain functions. How high and how wide types are. The reference model's scans of types. The reference model's consistency of types. The reference model's tests of nodes. The reference model's scan of terms with casts. Types of terms with casts, in plain words over trees: what a node wants of its operands, and what it is. The reference model's count of nodes, its CastValid. The reference model's TermValid. slices.Clone of numbers, paths, AllPaths. AllPaths. append of a slice in memory that no longer changes, empty or not. The reference model's paths. The reference model's AllPaths. The law that AllPaths gives what the reference model gives: its walk. Nodes at paths, casts by their labels. The node of a term at a path. Where ways meet again. The reference model's drawn types: what they are made of, and how big they are.
-/
import Derived.Test.YtfpgncjeejickaaGreatDoorKa1
import Derived.Test.YtfpgncjeejickaaGreatDoorKa0
set_option linter.unusedVariables false
set_option linter.unusedSimpArgs false
set_option maxHeartbeats 0
set_option maxRecDepth 100000
set_option synthInstance.maxSize 4000
set_option synthInstance.maxHeartbeats 0
namespace Go.Proofs.YtfpgncjeejickaaGreatDoor
open Go Go.RowKit
namespace Gw
theorem B2y (k : Int) (G : IM) (hk : E9 k) : Fn Tryz.prog 170 [.int .i64 k] [] G (J3 (.int .i64 (D3 k)) G) := by
 unfold E9 at hk
 refine B6 Tryz.func170 rfl Tryz.ntmps170 Tryz.results170 rfl ?_
 intro w0
 refine D8 ?_
 refine F4 rfl (A1e _ _ _ _) rfl rfl (fun h10 => ?_) (fun h10 => ?_)
 refine sQ (Q5 rfl) rfl (sD (nS (cF rfl (tK (nS (tS (tR ?_)))))))
 (refine K7 (D0 rfl rfl rfl (by omega) (by unfold maxLen; omega) rfl) rfl ?_; rintro _ ⟨b19, rfl⟩)
 refine sQ (qM rfl) rfl ?_
 (have hkk : 1 ≤ k ∧ k ≤ 14 := A4k (by assumption); refine sP (O8 rfl rfl (by omega) (by omega)) rfl rfl ?_)
 refine sP (A7j rfl rfl rfl (by omega) (by omega)) rfl rfl ?_
 refine sL (V4 rfl rfl (B1v (by repeat first | exact mH | apply mT) (B11 (by rw [Nat.zero_add, Nat.mul_one]; exact B10 hkk)))) rfl rfl ?_
 refine sQ (qA rfl) rfl (sD (nS (tT (D6 (rT rfl) ?_))))
 exact ⟨rfl, rfl, rfl⟩
 refine N2 ?_
 exact ⟨rfl, by rw [A3w (A7H (by assumption))], rfl⟩
theorem B2z (k : Int) (nm : ByteArray) (num : Int) (ty fr : Ty) (lb : Int) (ks : List Tm) (G : IM) (cells : List Value) (hr : A8 G (.mk k nm num ty fr lb ks) cells) :
  Fn Tryz.prog 125 [.agg ⟨cells⟩] [] G (J3 (.bool (U4 k nm num ty fr lb ks.length)) G) := by
 obtain ⟨tk, tks⟩ := ty
 obtain ⟨fk, fks⟩ := fr
 obtain ⟨pt, ct, pf, cf, p, c, es, rfl, hk, hnum, hlb, hty, hfr, hsl, hkl⟩ := hr.open9
 have hi := @X8 k nm num (.mk tk tks) (.mk fk fks) lb ks.length
 obtain ⟨R, hR⟩ : ∃ R, U4 k nm num (.mk tk tks) (.mk fk fks) lb ks.length = R := ⟨_, rfl⟩
 rw [hR] at hi ⊢
 clear hR hr
 have o1 := B2y k G hk
 have o2 := B2v nm G
 have o3 := A4u _ G _ hty
 have o4 := A8h _ G _ hty
 have o5 := B2x _ _ G _ _ hfr hty
 have o6 := A8g lb G
 have o7 := A8h _ G _ hfr
 refine B6 Tryz.func125 rfl Tryz.ntmps125 Tryz.results125 rfl ?_
 intro w0
 refine tS (tR ?_)
 refine sE (C4 rfl rfl) rfl (fun b3 => ?_)
 refine sQ (qA rfl) rfl (sD (nS (tS (tS ?_))))
 refine D1 D2 rfl ?_
 refine I4 (i := 0) (l' := [tt,ff,ff,ff,ff,ff,ff]) rfl C8 (B5 rfl) rfl (by kernel_rfl) rfl rfl ?_
 refine aL 1 rfl (C7 rfl rfl) rfl ?_
 refine aP 3 rfl (B5 rfl) rfl ?_
 refine aL 4 rfl (C7 rfl rfl) rfl ?_
 refine aP 5 rfl (pLn rfl rfl) rfl ?_
 refine A2 2 ?_
 refine J0 rfl rfl (o1) rfl rfl rfl ?_
 refine A01 (i := 6) (l' := [tt,tt,tt,tt,tt,tt,tt]) rfl C8 (Q6 rfl rfl) rfl (by kernel_rfl) rfl rfl (fun h17 => ?_) (fun h17 => ?_)
 refine J6 ?_
 exact ⟨rfl, by (cases R with | false => rfl | true => (exfalso; obtain ⟨i1, i2, i3, i4, i5, i6, i7, i8, i9⟩ := hi.1 rfl; first | omega | (have j := i2 (by omega); simp_all; done) | (have j := i3 (by omega); simp_all; done) | (have j := i4 (by omega); simp_all; done) | (have j := i5 (by omega); simp_all; done) | (have j := i6 (by omega); simp_all; done) | (have j := i7 (by omega); simp_all; done) | (have j := i8 (by omega); simp_all; done) | (have j := i9 (by omega); simp_all; done))), rfl⟩
 refine D8 ?_
 refine sB (qE rfl rfl) rfl rfl (fun h39 => ?_) (fun h39 => ?_)
 refine N2 ?_
 refine sP (E6 rfl rfl (by omega)) rfl rfl ?_
 refine H9 ?_
 refine sP (E6 rfl rfl (by omega)) rfl rfl ?_
 refine J8 ?_
 refine sP (E6 rfl rfl (by omega)) rfl rfl ?_
 refine F8 ?_
 refine sP (E6 rfl rfl (by omega)) rfl rfl ?_
 refine J4 ?_
 refine sP (E6 rfl rfl (by omega)) rfl rfl ?_
 refine sD (nS (cF rfl (tK (nS (tS ?_)))))
 refine C3 ?_
 refine D5 ?_
 refine F4 rfl (o2) rfl rfl (fun h99 => ?_) (fun h99 => ?_)
 refine A0A ?_
 refine F4 rfl (A1e _ _ _ _) rfl rfl (fun h123 => ?_) (fun h123 => ?_)
 refine A5t ?_
 refine F4 rfl (o4) rfl rfl (fun h149 => ?_) (fun h149 => ?_)
 refine Y4 ?_
 refine J8 ?_
 refine F4 rfl (o7) rfl rfl (fun h184 => ?_) (fun h184 => ?_)
 refine J8 ?_
 refine sB (Q6 rfl rfl) rfl rfl (fun h189 => ?_) (fun h189 => ?_)
 refine K0 ?_
 exact ⟨rfl, by (cases R with | false => rfl | true => (exfalso; obtain ⟨i1, i2, i3, i4, i5, i6, i7, i8, i9⟩ := hi.1 rfl; first | omega | (have j := i2 (by omega); simp_all; done) | (have j := i3 (by omega); simp_all; done) | (have j := i4 (by omega); simp_all; done) | (have j := i5 (by omega); simp_all; done) | (have j := i6 (by omega); simp_all; done) | (have j := i7 (by omega); simp_all; done) | (have j := i8 (by omega); simp_all; done) | (have j := i9 (by omega); simp_all; done))), rfl⟩
 refine M9 ?_
 exact ⟨rfl, by rw [hi.2 ⟨by omega, fun _ => by (first | assumption | (exfalso; omega) | exact Classical.not_not.1 (by assumption)), fun _ => by (first | assumption | (exfalso; omega) | exact Classical.not_not.1 (by assumption)), fun _ => by (first | assumption | (exfalso; omega) | exact Classical.not_not.1 (by assumption)), fun _ => by (first | assumption | (exfalso; omega) | exact Classical.not_not.1 (by assumption)), fun _ => by (first | assumption | (exfalso; omega) | exact Classical.not_not.1 (by assumption)), fun _ => by (first | assumption | (exfalso; omega) | exact Classical.not_not.1 (by assumption)), fun _ => ⟨by (first | assumption | (exfalso; omega)), by (first | assumption | (exfalso; omega))⟩, fun _ => ⟨by (first | assumption | (exfalso; omega)), by (first | assumption | omega)⟩⟩], rfl⟩
 refine A0d ?_
 exact ⟨rfl, by (cases R with | false => rfl | true => (exfalso; obtain ⟨i1, i2, i3, i4, i5, i6, i7, i8, i9⟩ := hi.1 rfl; first | omega | (have j := i2 (by omega); simp_all; done) | (have j := i3 (by omega); simp_all; done) | (have j := i4 (by omega); simp_all; done) | (have j := i5 (by omega); simp_all; done) | (have j := i6 (by omega); simp_all; done) | (have j := i7 (by omega); simp_all; done) | (have j := i8 (by omega); simp_all; done) | (have j := i9 (by omega); simp_all; done))), rfl⟩
 refine K0 ?_
 exact ⟨rfl, by (cases R with | false => rfl | true => (exfalso; obtain ⟨i1, i2, i3, i4, i5, i6, i7, i8, i9⟩ := hi.1 rfl; first | omega | (have j := i2 (by omega); simp_all; done) | (have j := i3 (by omega); simp_all; done) | (have j := i4 (by omega); simp_all; done) | (have j := i5 (by omega); simp_all; done) | (have j := i6 (by omega); simp_all; done) | (have j := i7 (by omega); simp_all; done) | (have j := i8 (by omega); simp_all; done) | (have j := i9 (by omega); simp_all; done))), rfl⟩
 refine O0 ?_
 exact ⟨rfl, by (cases R with | false => rfl | true => (exfalso; obtain ⟨i1, i2, i3, i4, i5, i6, i7, i8, i9⟩ := hi.1 rfl; first | omega | (have j := i2 (by omega); simp_all; done) | (have j := i3 (by omega); simp_all; done) | (have j := i4 (by omega); simp_all; done) | (have j := i5 (by omega); simp_all; done) | (have j := i6 (by omega); simp_all; done) | (have j := i7 (by omega); simp_all; done) | (have j := i8 (by omega); simp_all; done) | (have j := i9 (by omega); simp_all; done))), rfl⟩
 refine U9 ?_
 exact ⟨rfl, by (cases R with | false => rfl | true => (exfalso; obtain ⟨i1, i2, i3, i4, i5, i6, i7, i8, i9⟩ := hi.1 rfl; first | omega | (have j := i2 (by omega); simp_all; done) | (have j := i3 (by omega); simp_all; done) | (have j := i4 (by omega); simp_all; done) | (have j := i5 (by omega); simp_all; done) | (have j := i6 (by omega); simp_all; done) | (have j := i7 (by omega); simp_all; done) | (have j := i8 (by omega); simp_all; done) | (have j := i9 (by omega); simp_all; done))), rfl⟩
 refine H9 ?_
 refine sB (qE rfl rfl) rfl rfl (fun h297 => ?_) (fun h297 => ?_)
 refine F8 ?_
 refine sP (Q8 rfl rfl (by omega)) rfl rfl ?_
 refine P7 ?_
 refine sP (E6 rfl rfl (by omega)) rfl rfl ?_
 refine J4 ?_
 refine sP (E6 rfl rfl (by omega)) rfl rfl ?_
 refine sD (nS (cF rfl (tK (nS (tS ?_)))))
 refine C3 ?_
 refine D5 ?_
 refine F4 rfl (o2) rfl rfl (fun h353 => ?_) (fun h353 => ?_)
 refine A0A ?_
 refine F4 rfl (A1e _ _ _ _) rfl rfl (fun h377 => ?_) (fun h377 => ?_)
 refine N2 ?_
 refine F4 rfl (o3) rfl rfl (fun h390 => ?_) (fun h390 => ?_)
 refine Y4 ?_
 refine P7 ?_
 refine F4 rfl (o7) rfl rfl (fun h438 => ?_) (fun h438 => ?_)
 refine J8 ?_
 refine sB (Q6 rfl rfl) rfl rfl (fun h443 => ?_) (fun h443 => ?_)
 refine K0 ?_
 exact ⟨rfl, by (cases R with | false => rfl | true => (exfalso; obtain ⟨i1, i2, i3, i4, i5, i6, i7, i8, i9⟩ := hi.1 rfl; first | omega | (have j := i2 (by omega); simp_all; done) | (have j := i3 (by omega); simp_all; done) | (have j := i4 (by omega); simp_all; done) | (have j := i5 (by omega); simp_all; done) | (have j := i6 (by omega); simp_all; done) | (have j := i7 (by omega); simp_all; done) | (have j := i8 (by omega); simp_all; done) | (have j := i9 (by omega); simp_all; done))), rfl⟩
 refine M9 ?_
 exact ⟨rfl, by rw [hi.2 ⟨by omega, fun _ => by (first | assumption | (exfalso; omega) | exact Classical.not_not.1 (by assumption)), fun _ => by (first | assumption | (exfalso; omega) | exact Classical.not_not.1 (by assumption)), fun _ => by (first | assumption | (exfalso; omega) | exact Classical.not_not.1 (by assumption)), fun _ => by (first | assumption | (exfalso; omega) | exact Classical.not_not.1 (by assumption)), fun _ => by (first | assumption | (exfalso; omega) | exact Classical.not_not.1 (by assumption)), fun _ => by (first | assumption | (exfalso; omega) | exact Classical.not_not.1 (by assumption)), fun _ => ⟨by (first | assumption | (exfalso; omega)), by (first | assumption | (exfalso; omega))⟩, fun _ => ⟨by (first | assumption | (exfalso; omega)), by (first | assumption | omega)⟩⟩], rfl⟩
 refine A0d ?_
 exact ⟨rfl, by (cases R with | false => rfl | true => (exfalso; obtain ⟨i1, i2, i3, i4, i5, i6, i7, i8, i9⟩ := hi.1 rfl; first | omega | (have j := i2 (by omega); simp_all; done) | (have j := i3 (by omega); simp_all; done) | (have j := i4 (by omega); simp_all; done) | (have j := i5 (by omega); simp_all; done) | (have j := i6 (by omega); simp_all; done) | (have j := i7 (by omega); simp_all; done) | (have j := i8 (by omega); simp_all; done) | (have j := i9 (by omega); simp_all; done))), rfl⟩
 refine U9 ?_
 exact ⟨rfl, by (cases R with | false => rfl | true => (exfalso; obtain ⟨i1, i2, i3, i4, i5, i6, i7, i8, i9⟩ := hi.1 rfl; first | omega | (have j := i2 (by omega); simp_all; done) | (have j := i3 (by omega); simp_all; done) | (have j := i4 (by omega); simp_all; done) | (have j := i5 (by omega); simp_all; done) | (have j := i6 (by omega); simp_all; done) | (have j := i7 (by omega); simp_all; done) | (have j := i8 (by omega); simp_all; done) | (have j := i9 (by omega); simp_all; done))), rfl⟩
 refine O0 ?_
 exact ⟨rfl, by (cases R with | false => rfl | true => (exfalso; obtain ⟨i1, i2, i3, i4, i5, i6, i7, i8, i9⟩ := hi.1 rfl; first | omega | (have j := i2 (by omega); simp_all; done) | (have j := i3 (by omega); simp_all; done) | (have j := i4 (by omega); simp_all; done) | (have j := i5 (by omega); simp_all; done) | (have j := i6 (by omega); simp_all; done) | (have j := i7 (by omega); simp_all; done) | (have j := i8 (by omega); simp_all; done) | (have j := i9 (by omega); simp_all; done))), rfl⟩
 refine U9 ?_
 exact ⟨rfl, by (cases R with | false => rfl | true => (exfalso; obtain ⟨i1, i2, i3, i4, i5, i6, i7, i8, i9⟩ := hi.1 rfl; first | omega | (have j := i2 (by omega); simp_all; done) | (have j := i3 (by omega); simp_all; done) | (have j := i4 (by omega); simp_all; done) | (have j := i5 (by omega); simp_all; done) | (have j := i6 (by omega); simp_all; done) | (have j := i7 (by omega); simp_all; done) | (have j := i8 (by omega); simp_all; done) | (have j := i9 (by omega); simp_all; done))), rfl⟩
 refine F8 ?_
 refine sP (E6 rfl rfl (by omega)) rfl rfl ?_
 refine H9 ?_
 refine sB (qE rfl rfl) rfl rfl (fun h563 => ?_) (fun h563 => ?_)
 refine J4 ?_
 refine sP (E6 rfl rfl (by omega)) rfl rfl ?_
 refine J4 ?_
 refine sP (E6 rfl rfl (by omega)) rfl rfl ?_
 refine sD (nS (cF rfl (tK (nS (tS ?_)))))
 refine C3 ?_
 refine Z3 ?_
 refine sB (A2d rfl rfl) rfl rfl (fun h620 => ?_) (fun h620 => ?_)
 refine P7 ?_
 exact ⟨rfl, by (cases R with | false => rfl | true => (exfalso; obtain ⟨i1, i2, i3, i4, i5, i6, i7, i8, i9⟩ := hi.1 rfl; first | omega | (have j := i2 (by omega); simp_all; done) | (have j := i3 (by omega); simp_all; done) | (have j := i4 (by omega); simp_all; done) | (have j := i5 (by omega); simp_all; done) | (have j := i6 (by omega); simp_all; done) | (have j := i7 (by omega); simp_all; done) | (have j := i8 (by omega); simp_all; done) | (have j := i9 (by omega); simp_all; done))), rfl⟩
 refine D8 ?_
 refine F4 rfl (A1e _ _ _ _) rfl rfl (fun h648 => ?_) (fun h648 => ?_)
 refine N2 ?_
 refine F4 rfl (o3) rfl rfl (fun h661 => ?_) (fun h661 => ?_)
 refine Y4 ?_
 refine P7 ?_
 refine F4 rfl (o7) rfl rfl (fun h709 => ?_) (fun h709 => ?_)
 refine J8 ?_
 refine sB (Q6 rfl rfl) rfl rfl (fun h714 => ?_) (fun h714 => ?_)
 refine K0 ?_
 exact ⟨rfl, by (cases R with | false => rfl | true => (exfalso; obtain ⟨i1, i2, i3, i4, i5, i6, i7, i8, i9⟩ := hi.1 rfl; first | omega | (have j := i2 (by omega); simp_all; done) | (have j := i3 (by omega); simp_all; done) | (have j := i4 (by omega); simp_all; done) | (have j := i5 (by omega); simp_all; done) | (have j := i6 (by omega); simp_all; done) | (have j := i7 (by omega); simp_all; done) | (have j := i8 (by omega); simp_all; done) | (have j := i9 (by omega); simp_all; done))), rfl⟩
 refine M9 ?_
 exact ⟨rfl, by rw [hi.2 ⟨by omega, fun _ => by (first | assumption | (exfalso; omega) | exact Classical.not_not.1 (by assumption)), fun _ => by (first | assumption | (exfalso; omega) | exact Classical.not_not.1 (by assumption)), fun _ => by (first | assumption | (exfalso; omega) | exact Classical.not_not.1 (by assumption)), fun _ => by (first | assumption | (exfalso; omega) | exact Classical.not_not.1 (by assumption)), fun _ => by (first | assumption | (exfalso; omega) | exact Classical.not_not.1 (by assumption)), fun _ => by (first | assumption | (exfalso; omega) | exact Classical.not_not.1 (by assumption)), fun _ => ⟨by (first | assumption | (exfalso; omega)), by (first | assumption | (exfalso; omega))⟩, fun _ => ⟨by (first | assumption | (exfalso; omega)), by (first | assumption | omega)⟩⟩], rfl⟩
 refine A0d ?_
 exact ⟨rfl, by (cases R with | false => rfl | true => (exfalso; obtain ⟨i1, i2, i3, i4, i5, i6, i7, i8, i9⟩ := hi.1 rfl; first | omega | (have j := i2 (by omega); simp_all; done) | (have j := i3 (by omega); simp_all; done) | (have j := i4 (by omega); simp_all; done) | (have j := i5 (by omega); simp_all; done) | (have j := i6 (by omega); simp_all; done) | (have j := i7 (by omega); simp_all; done) | (have j := i8 (by omega); simp_all; done) | (have j := i9 (by omega); simp_all; done))), rfl⟩
 refine U9 ?_
 exact ⟨rfl, by (cases R with | false => rfl | true => (exfalso; obtain ⟨i1, i2, i3, i4, i5, i6, i7, i8, i9⟩ := hi.1 rfl; first | omega | (have j := i2 (by omega); simp_all; done) | (have j := i3 (by omega); simp_all; done) | (have j := i4 (by omega); simp_all; done) | (have j := i5 (by omega); simp_all; done) | (have j := i6 (by omega); simp_all; done) | (have j := i7 (by omega); simp_all; done) | (have j := i8 (by omega); simp_all; done) | (have j := i9 (by omega); simp_all; done))), rfl⟩
 refine O0 ?_
 exact ⟨rfl, by (cases R with | false => rfl | true => (exfalso; obtain ⟨i1, i2, i3, i4, i5, i6, i7, i8, i9⟩ := hi.1 rfl; first | omega | (have j := i2 (by omega); simp_all; done) | (have j := i3 (by omega); simp_all; done) | (have j := i4 (by omega); simp_all; done) | (have j := i5 (by omega); simp_all; done) | (have j := i6 (by omega); simp_all; done) | (have j := i7 (by omega); simp_all; done) | (have j := i8 (by omega); simp_all; done) | (have j := i9 (by omega); simp_all; done))), rfl⟩
 refine J8 ?_
 refine sB (qE rfl rfl) rfl rfl (fun h807 => ?_) (fun h807 => ?_)
 refine F8 ?_
 refine sP (Q8 rfl rfl (by omega)) rfl rfl ?_
 refine J4 ?_
 refine sP (E6 rfl rfl (by omega)) rfl rfl ?_
 refine sD (nS (cF rfl (tK (nS (tS ?_)))))
 refine C3 ?_
 refine Z3 ?_
 refine sB (A2d rfl rfl) rfl rfl (fun h859 => ?_) (fun h859 => ?_)
 refine P7 ?_
 exact ⟨rfl, by (cases R with | false => rfl | true => (exfalso; obtain ⟨i1, i2, i3, i4, i5, i6, i7, i8, i9⟩ := hi.1 rfl; first | omega | (have j := i2 (by omega); simp_all; done) | (have j := i3 (by omega); simp_all; done) | (have j := i4 (by omega); simp_all; done) | (have j := i5 (by omega); simp_all; done) | (have j := i6 (by omega); simp_all; done) | (have j := i7 (by omega); simp_all; done) | (have j := i8 (by omega); simp_all; done) | (have j := i9 (by omega); simp_all; done))), rfl⟩
 refine D8 ?_
 refine F4 rfl (A1e _ _ _ _) rfl rfl (fun h887 => ?_) (fun h887 => ?_)
 refine N2 ?_
 refine F4 rfl (o3) rfl rfl (fun h900 => ?_) (fun h900 => ?_)
 refine A7C ?_
 refine F4 rfl (o5) rfl rfl (fun h929 => ?_) (fun h929 => ?_)
 refine J8 ?_
 refine F4 rfl (o6) rfl rfl (fun h934 => ?_) (fun h934 => ?_)
 refine Y4 ?_
 refine sQ (qA rfl) rfl (sD (nS (tT (D6 (rT rfl) ?_))))
 exact ⟨rfl, by rw [hi.2 ⟨by omega, fun _ => by (first | assumption | (exfalso; omega) | exact Classical.not_not.1 (by assumption)), fun _ => by (first | assumption | (exfalso; omega) | exact Classical.not_not.1 (by assumption)), fun _ => by (first | assumption | (exfalso; omega) | exact Classical.not_not.1 (by assumption)), fun _ => by (first | assumption | (exfalso; omega) | exact Classical.not_not.1 (by assumption)), fun _ => by (first | assumption | (exfalso; omega) | exact Classical.not_not.1 (by assumption)), fun _ => by (first | assumption | (exfalso; omega) | exact Classical.not_not.1 (by assumption)), fun _ => ⟨by (first | assumption | (exfalso; omega)), by (first | assumption | (exfalso; omega))⟩, fun _ => ⟨by (first | assumption | (exfalso; omega)), by (first | assumption | omega)⟩⟩], rfl⟩
 refine A0m ?_
 exact ⟨rfl, by (cases R with | false => rfl | true => (exfalso; obtain ⟨i1, i2, i3, i4, i5, i6, i7, i8, i9⟩ := hi.1 rfl; first | omega | (have j := i2 (by omega); simp_all; done) | (have j := i3 (by omega); simp_all; done) | (have j := i4 (by omega); simp_all; done) | (have j := i5 (by omega); simp_all; done) | (have j := i6 (by omega); simp_all; done) | (have j := i7 (by omega); simp_all; done) | (have j := i8 (by omega); simp_all; done) | (have j := i9 (by omega); simp_all; done))), rfl⟩
 refine A1R ?_
 exact ⟨rfl, by (cases R with | false => rfl | true => (exfalso; obtain ⟨i1, i2, i3, i4, i5, i6, i7, i8, i9⟩ := hi.1 rfl; first | omega | (have j := i2 (by omega); simp_all; done) | (have j := i3 (by omega); simp_all; done) | (have j := i4 (by omega); simp_all; done) | (have j := i5 (by omega); simp_all; done) | (have j := i6 (by omega); simp_all; done) | (have j := i7 (by omega); simp_all; done) | (have j := i8 (by omega); simp_all; done) | (have j := i9 (by omega); simp_all; done))), rfl⟩
 refine U9 ?_
 exact ⟨rfl, by (cases R with | false => rfl | true => (exfalso; obtain ⟨i1, i2, i3, i4, i5, i6, i7, i8, i9⟩ := hi.1 rfl; first | omega | (have j := i2 (by omega); simp_all; done) | (have j := i3 (by omega); simp_all; done) | (have j := i4 (by omega); simp_all; done) | (have j := i5 (by omega); simp_all; done) | (have j := i6 (by omega); simp_all; done) | (have j := i7 (by omega); simp_all; done) | (have j := i8 (by omega); simp_all; done) | (have j := i9 (by omega); simp_all; done))), rfl⟩
 refine O0 ?_
 exact ⟨rfl, by (cases R with | false => rfl | true => (exfalso; obtain ⟨i1, i2, i3, i4, i5, i6, i7, i8, i9⟩ := hi.1 rfl; first | omega | (have j := i2 (by omega); simp_all; done) | (have j := i3 (by omega); simp_all; done) | (have j := i4 (by omega); simp_all; done) | (have j := i5 (by omega); simp_all; done) | (have j := i6 (by omega); simp_all; done) | (have j := i7 (by omega); simp_all; done) | (have j := i8 (by omega); simp_all; done) | (have j := i9 (by omega); simp_all; done))), rfl⟩
 refine F8 ?_
 refine sP (E6 rfl rfl (by omega)) rfl rfl ?_
 refine J4 ?_
 refine sB (qE rfl rfl) rfl rfl (fun h1072 => ?_) (fun h1072 => ?_)
 refine sD (nS (qT rfl (tR (sQ (qA rfl) rfl (sD (nS (tS ?_)))))))
 refine C3 ?_
 refine Z3 ?_
 refine sB (A2d rfl rfl) rfl rfl (fun h1103 => ?_) (fun h1103 => ?_)
 refine P7 ?_
 exact ⟨rfl, by (cases R with | false => rfl | true => (exfalso; obtain ⟨i1, i2, i3, i4, i5, i6, i7, i8, i9⟩ := hi.1 rfl; first | omega | (have j := i2 (by omega); simp_all; done) | (have j := i3 (by omega); simp_all; done) | (have j := i4 (by omega); simp_all; done) | (have j := i5 (by omega); simp_all; done) | (have j := i6 (by omega); simp_all; done) | (have j := i7 (by omega); simp_all; done) | (have j := i8 (by omega); simp_all; done) | (have j := i9 (by omega); simp_all; done))), rfl⟩
 refine D8 ?_
 refine F4 rfl (A1e _ _ _ _) rfl rfl (fun h1131 => ?_) (fun h1131 => ?_)
 refine A5t ?_
 refine F4 rfl (o4) rfl rfl (fun h1157 => ?_) (fun h1157 => ?_)
 refine Y4 ?_
 refine J8 ?_
 refine F4 rfl (o7) rfl rfl (fun h1192 => ?_) (fun h1192 => ?_)
 refine J8 ?_
 refine sB (Q6 rfl rfl) rfl rfl (fun h1197 => ?_) (fun h1197 => ?_)
 refine K0 ?_
 exact ⟨rfl, by (cases R with | false => rfl | true => (exfalso; obtain ⟨i1, i2, i3, i4, i5, i6, i7, i8, i9⟩ := hi.1 rfl; first | omega | (have j := i2 (by omega); simp_all; done) | (have j := i3 (by omega); simp_all; done) | (have j := i4 (by omega); simp_all; done) | (have j := i5 (by omega); simp_all; done) | (have j := i6 (by omega); simp_all; done) | (have j := i7 (by omega); simp_all; done) | (have j := i8 (by omega); simp_all; done) | (have j := i9 (by omega); simp_all; done))), rfl⟩
 refine M9 ?_
 exact ⟨rfl, by rw [hi.2 ⟨by omega, fun _ => by (first | assumption | (exfalso; omega) | exact Classical.not_not.1 (by assumption)), fun _ => by (first | assumption | (exfalso; omega) | exact Classical.not_not.1 (by assumption)), fun _ => by (first | assumption | (exfalso; omega) | exact Classical.not_not.1 (by assumption)), fun _ => by (first | assumption | (exfalso; omega) | exact Classical.not_not.1 (by assumption)), fun _ => by (first | assumption | (exfalso; omega) | exact Classical.not_not.1 (by assumption)), fun _ => by (first | assumption | (exfalso; omega) | exact Classical.not_not.1 (by assumption)), fun _ => ⟨by (first | assumption | (exfalso; omega)), by (first | assumption | (exfalso; omega))⟩, fun _ => ⟨by (first | assumption | (exfalso; omega)), by (first | assumption | omega)⟩⟩], rfl⟩
 refine A0d ?_
 exact ⟨rfl, by (cases R with | false => rfl | true => (exfalso; obtain ⟨i1, i2, i3, i4, i5, i6, i7, i8, i9⟩ := hi.1 rfl; first | omega | (have j := i2 (by omega); simp_all; done) | (have j := i3 (by omega); simp_all; done) | (have j := i4 (by omega); simp_all; done) | (have j := i5 (by omega); simp_all; done) | (have j := i6 (by omega); simp_all; done) | (have j := i7 (by omega); simp_all; done) | (have j := i8 (by omega); simp_all; done) | (have j := i9 (by omega); simp_all; done))), rfl⟩
 refine K0 ?_
 exact ⟨rfl, by (cases R with | false => rfl | true => (exfalso; obtain ⟨i1, i2, i3, i4, i5, i6, i7, i8, i9⟩ := hi.1 rfl; first | omega | (have j := i2 (by omega); simp_all; done) | (have j := i3 (by omega); simp_all; done) | (have j := i4 (by omega); simp_all; done) | (have j := i5 (by omega); simp_all; done) | (have j := i6 (by omega); simp_all; done) | (have j := i7 (by omega); simp_all; done) | (have j := i8 (by omega); simp_all; done) | (have j := i9 (by omega); simp_all; done))), rfl⟩
 refine O0 ?_
 exact ⟨rfl, by (cases R with | false => rfl | true => (exfalso; obtain ⟨i1, i2, i3, i4, i5, i6, i7, i8, i9⟩ := hi.1 rfl; first | omega | (have j := i2 (by omega); simp_all; done) | (have j := i3 (by omega); simp_all; done) | (have j := i4 (by omega); simp_all; done) | (have j := i5 (by omega); simp_all; done) | (have j := i6 (by omega); simp_all; done) | (have j := i7 (by omega); simp_all; done) | (have j := i8 (by omega); simp_all; done) | (have j := i9 (by omega); simp_all; done))), rfl⟩
 refine sD (nS (cF rfl (tK (nS (tS ?_)))))
 refine C3 ?_
 refine Z3 ?_
 refine sB (A2d rfl rfl) rfl rfl (fun h1311 => ?_) (fun h1311 => ?_)
 refine P7 ?_
 exact ⟨rfl, by (cases R with | false => rfl | true => (exfalso; obtain ⟨i1, i2, i3, i4, i5, i6, i7, i8, i9⟩ := hi.1 rfl; first | omega | (have j := i2 (by omega); simp_all; done) | (have j := i3 (by omega); simp_all; done) | (have j := i4 (by omega); simp_all; done) | (have j := i5 (by omega); simp_all; done) | (have j := i6 (by omega); simp_all; done) | (have j := i7 (by omega); simp_all; done) | (have j := i8 (by omega); simp_all; done) | (have j := i9 (by omega); simp_all; done))), rfl⟩
 refine D8 ?_
 refine F4 rfl (A1e _ _ _ _) rfl rfl (fun h1339 => ?_) (fun h1339 => ?_)
 refine A5t ?_
 refine F4 rfl (o4) rfl rfl (fun h1365 => ?_) (fun h1365 => ?_)
 refine Y4 ?_
 refine J8 ?_
 refine F4 rfl (o7) rfl rfl (fun h1400 => ?_) (fun h1400 => ?_)
 refine J8 ?_
 refine sB (Q6 rfl rfl) rfl rfl (fun h1405 => ?_) (fun h1405 => ?_)
 refine K0 ?_
 exact ⟨rfl, by (cases R with | false => rfl | true => (exfalso; obtain ⟨i1, i2, i3, i4, i5, i6, i7, i8, i9⟩ := hi.1 rfl; first | omega | (have j := i2 (by omega); simp_all; done) | (have j := i3 (by omega); simp_all; done) | (have j := i4 (by omega); simp_all; done) | (have j := i5 (by omega); simp_all; done) | (have j := i6 (by omega); simp_all; done) | (have j := i7 (by omega); simp_all; done) | (have j := i8 (by omega); simp_all; done) | (have j := i9 (by omega); simp_all; done))), rfl⟩
 refine M9 ?_
 exact ⟨rfl, by rw [hi.2 ⟨by omega, fun _ => by (first | assumption | (exfalso; omega) | exact Classical.not_not.1 (by assumption)), fun _ => by (first | assumption | (exfalso; omega) | exact Classical.not_not.1 (by assumption)), fun _ => by (first | assumption | (exfalso; omega) | exact Classical.not_not.1 (by assumption)), fun _ => by (first | assumption | (exfalso; omega) | exact Classical.not_not.1 (by assumption)), fun _ => by (first | assumption | (exfalso; omega) | exact Classical.not_not.1 (by assumption)), fun _ => by (first | assumption | (exfalso; omega) | exact Classical.not_not.1 (by assumption)), fun _ => ⟨by (first | assumption | (exfalso; omega)), by (first | assumption | (exfalso; omega))⟩, fun _ => ⟨by (first | assumption | (exfalso; omega)), by (first | assumption | omega)⟩⟩], rfl⟩
 refine A0d ?_
 exact ⟨rfl, by (cases R with | false => rfl | true => (exfalso; obtain ⟨i1, i2, i3, i4, i5, i6, i7, i8, i9⟩ := hi.1 rfl; first | omega | (have j := i2 (by omega); simp_all; done) | (have j := i3 (by omega); simp_all; done) | (have j := i4 (by omega); simp_all; done) | (have j := i5 (by omega); simp_all; done) | (have j := i6 (by omega); simp_all; done) | (have j := i7 (by omega); simp_all; done) | (have j := i8 (by omega); simp_all; done) | (have j := i9 (by omega); simp_all; done))), rfl⟩
 refine K0 ?_
 exact ⟨rfl, by (cases R with | false => rfl | true => (exfalso; obtain ⟨i1, i2, i3, i4, i5, i6, i7, i8, i9⟩ := hi.1 rfl; first | omega | (have j := i2 (by omega); simp_all; done) | (have j := i3 (by omega); simp_all; done) | (have j := i4 (by omega); simp_all; done) | (have j := i5 (by omega); simp_all; done) | (have j := i6 (by omega); simp_all; done) | (have j := i7 (by omega); simp_all; done) | (have j := i8 (by omega); simp_all; done) | (have j := i9 (by omega); simp_all; done))), rfl⟩
 refine O0 ?_
 exact ⟨rfl, by (cases R with | false => rfl | true => (exfalso; obtain ⟨i1, i2, i3, i4, i5, i6, i7, i8, i9⟩ := hi.1 rfl; first | omega | (have j := i2 (by omega); simp_all; done) | (have j := i3 (by omega); simp_all; done) | (have j := i4 (by omega); simp_all; done) | (have j := i5 (by omega); simp_all; done) | (have j := i6 (by omega); simp_all; done) | (have j := i7 (by omega); simp_all; done) | (have j := i8 (by omega); simp_all; done) | (have j := i9 (by omega); simp_all; done))), rfl⟩
theorem B2A (M D N : Int) (hM : 0 ≤ M ∧ M ≤ 1000) (hD : 0 ≤ D ∧ D ≤ 1000) (bc : Nat) : ∀ (t : Tm) (deep c : Int) (G : IM) (cells : List Value), 0 ≤ deep ∧ deep ≤ D + 1 → 0 ≤ c ∧ c ≤ M → A8 G t cells →
  Fn Tryz.prog 57 [.agg ⟨cells⟩, .int .i64 deep, .int .i64 M, .int .i64 D, .int .i64 N, .pointer (some ⟨bc, 0, none⟩)] [.blk bc [.int .i64 c]] G
   (U2 (.bool (S0 M D N t deep c).1) [.blk bc [.int .i64 (S0 M D N t deep c).2]] G) := by
 refine Tm.ind fun k nm num ty fr lb ks ih deep c G cells hd hc hr => ?_
 have hno := B2z k nm num ty fr lb ks G cells hr
 obtain ⟨tk, tks⟩ := ty
 obtain ⟨fk, fks⟩ := fr
 obtain ⟨pt, ct, pf, cf, p, cp, es, rfl, hk, hnum, hlb, hty, hfr, hsl, hkl⟩ := hr.open9
 have hn := hsl.le
 obtain ⟨R, hR⟩ : ∃ R, U4 k nm num (.mk tk tks) (.mk fk fks) lb ks.length = R := ⟨_, rfl⟩
 rw [hR] at hno
 refine B6 Tryz.func57 rfl Tryz.ntmps57 Tryz.results57 rfl ?_
 intro w0
 refine tS (tR ?_)
 refine sE (C4 rfl rfl) rfl (fun b3 => ?_)
 refine sQ (qA rfl) rfl (sD (nS (tS (tR (sQ (qM rfl) rfl ?_)))))
 refine sQ (A0j rfl) rfl ?_
 refine sL (C7 rfl rfl) rfl rfl ?_
 refine sP (M8 rfl rfl (by omega) (by omega)) rfl rfl ?_
 refine sQ (A0j rfl) rfl ?_
 refine H6 ?_
 refine sD (nS (tS (tS (tR (sQ (qM rfl) rfl ?_)))))
 refine sQ (A0j rfl) rfl ?_
 refine sL (C7 rfl rfl) rfl rfl (sQ (qM rfl) rfl ?_)
 refine sB (Y2 rfl rfl) rfl rfl (fun h24 => ?_) (fun h24 => ?_)
 refine A2h ?_
 refine I1 (outs := [.blk bc [.int .i64 _]]) (rT rfl) (A1.cons (by repeat (first | exact Pk.here | apply Pk.there)) A1.nil) ?_
 (rw [A4n (by rw [hR]; first | omega | exact Or.inr (Or.inr (Or.inr (by assumption)))) ]; exact ⟨rfl, rfl, rfl⟩)
 refine sQ (qM rfl) rfl (sQ (qM rfl) rfl (sQ (qM rfl) rfl ?_))
 refine sB (Y2 rfl rfl) rfl rfl (fun h56 => ?_) (fun h56 => ?_)
 refine A7A ?_
 refine I1 (outs := [.blk bc [.int .i64 _]]) (rT rfl) (A1.cons (by repeat (first | exact Pk.here | apply Pk.there)) A1.nil) ?_
 (rw [A4n (by rw [hR]; first | omega | exact Or.inr (Or.inr (Or.inr (by assumption)))) ]; exact ⟨rfl, rfl, rfl⟩)
 refine R0 ?_
 refine sB (qE rfl rfl) rfl rfl (fun h86 => ?_) (fun h86 => ?_)
 refine M9 ?_
 refine I1 (outs := [.blk bc [.int .i64 _]]) (rT rfl) (A1.cons (by repeat (first | exact Pk.here | apply Pk.there)) A1.nil) ?_
 (rw [A4n (by rw [hR]; first | omega | exact Or.inr (Or.inr (Or.inr (by assumption)))) ]; exact ⟨rfl, rfl, rfl⟩)
 refine H9 ?_
 refine F4 rfl (hno) rfl rfl (fun h108 => ?_) (fun h108 => ?_)
 refine M9 ?_
 refine C3 ?_
 (have hmk := B12 (M := M) (D := D) (N := N) (deep := deep) (c := c) (by omega) (hR.trans (by assumption)); refine M6 (fun (x : Nat × Int) => ⟨[(44, .int .i64 x.1), (43, .int .i64 ks.length), (42, .slice p ks.length cp), (5, .pointer (some ⟨bc, 0, none⟩)), (4, .int .i64 N), (3, .int .i64 D), (2, .int .i64 M), (1, .int .i64 deep)], [.blk bc [.int .i64 x.2]], G⟩) (fun x => x.1 ≤ ks.length ∧ 0 ≤ x.2 ∧ x.2 ≤ M ∧ T3 M D N ks (deep + 1) (c + 1) = T3 M D N (ks.drop x.1) (deep + 1) x.2) (fun x => ks.length - x.1) (0, c + 1) ?_ ?_ ?_)
 (simp only [K4]; exact E1)
 exact ⟨by simp, by simp; omega, by simp; omega, by simp⟩
 (rintro ⟨i, ci⟩ ⟨hi, hc0, hc1, hst⟩; simp only [] at hi hc0 hc1 hst ⊢)
 refine tS (tR ?_)
 refine sB (M2 rfl rfl) rfl rfl (fun h132 => ?_) (fun h132 => ?_)
 refine sD (nS (tS (qT rfl (tK (nS (tS ?_))))))
 refine C3 ?_
 refine tS (tR ?_)
 (obtain ⟨b, o, e, rfl, hl, hat, hre, hgb⟩ := hsl.kidTm hkl (i := i) (by omega) (by omega); have hone := hre.one; have hle := A7K M D N ks[i] (deep + 1) ci hc0 hc1; refine sP (B4 rfl rfl rfl (by omega)) rfl rfl ?_)
 refine sL (A3 rfl rfl (hat _) hl) rfl rfl ?_
 refine sE (A6 rfl) rfl (fun b145 => ?_)
 refine P5 rfl rfl rfl (by assumption) (by assumption) rfl (by repeat first | exact Sw.here | apply Sw.there) (by exact C1 (by symm; assumption)) ?_
 refine sD (nS (tS (tR ?_)))
 refine sL (A3 rfl rfl (A7 (by repeat first | exact mH | apply mT)) (by assumption)) rfl rfl ?_
 refine sQ (qM rfl) rfl ?_
 refine sP (M8 rfl rfl (by omega) (by omega)) rfl rfl ?_
 refine J8 ?_
 refine B1T rfl (ih ks[i] (List.getElem_mem _) (deep + 1) ci G e (by omega) (by omega) hre) (Pk.perm (by repeat (first | exact Pk.here | apply Pk.there))) rfl rfl (fun h158 => ?_) (fun h158 => ?_)
 refine F8 ?_
 refine sP (M8 rfl rfl (by omega) (by omega)) rfl rfl ?_
 refine sQ (qM rfl) rfl (sD ?_)
 refine L8 (i + 1, (S0 M D N ks[i] (deep + 1) ci).2) ?_ ?_ ?_
 (simp only [K4]; exact E1)
 exact ⟨by omega, by omega, hle.2.2 (by assumption), by rw [hst, B13 (by omega) (by assumption)]⟩
 (show ks.length - (i + 1) < ks.length - i; omega)
 refine K0 ?_
 refine I1 (outs := [.blk bc [.int .i64 _]]) (rT rfl) (A1.cons (by repeat (first | exact Pk.here | apply Pk.there)) A1.nil) ?_
 (rw [hmk, hst, B14 (by omega) (by assumption)]; exact ⟨rfl, rfl, rfl⟩)
 refine K0 ?_
 refine I1 (outs := [.blk bc [.int .i64 _]]) (rT rfl) (A1.cons (by repeat (first | exact Pk.here | apply Pk.there)) A1.nil) ?_
 (rw [hmk, hst, B15 (by omega)]; exact ⟨rfl, rfl, rfl⟩)
 refine N2 ?_
 refine I1 (outs := [.blk bc [.int .i64 _]]) (rT rfl) (A1.cons (by repeat (first | exact Pk.here | apply Pk.there)) A1.nil) ?_
 (rw [A4n (by rw [hR]; first | omega | exact Or.inr (Or.inr (Or.inr (by assumption)))) ]; exact ⟨rfl, rfl, rfl⟩)
theorem A2m (t : Tm) (G : IM) (cells : List Value) (hr : A8 G t cells) : Fn Tryz.prog 17 [.agg ⟨cells⟩] [] G (J3 (.bool (I3 t)) G) := by
 have hl := hr.len
 refine B6 Tryz.func17 rfl Tryz.ntmps17 Tryz.results17 rfl ?_
 intro w0
 refine tS (tR ?_)
 refine sE (C4 rfl rfl) rfl (fun b3 => ?_)
 refine sQ (qA rfl) rfl (sD (nS (tS (tR ?_))))
 refine sE (A6 rfl) rfl (fun b9 => ?_)
 refine H6 ?_
 refine sD (nS (tS (tR ?_)))
 refine sL (A3 rfl rfl (A7 (by repeat first | exact mH | apply mT)) (by assumption)) rfl rfl ?_
 refine A5s rfl (B2A 200 40 13 (by omega) (by omega) _ t 1 0 G cells (by omega) (by omega) hr) A0z rfl rfl ?_
 refine sQ (qA rfl) rfl (sD (nS (tT (D6 (rT rfl) ?_))))
 exact ⟨rfl, rfl, rfl⟩
theorem A8i (k : Int) (G : IM) : Fn Tryz.prog 183 [.int .i64 k] [] G (J3 (.int .i64 (V0 k)) G) := by
 refine B6 Tryz.func183 rfl Tryz.ntmps183 Tryz.results183 rfl ?_
 intro w0
 refine J6 ?_
 refine C3 ?_
 refine tS (tS (tR ?_))
 refine sB (qE rfl rfl) rfl rfl (fun h16 => ?_) (fun h16 => ?_)
 refine M9 ?_
 exact ⟨rfl, by (first | rw [(N4 k).1 (by omega)] | rw [(N4 k).2.1 (by omega)] | rw [(N4 k).2.2 (by omega) (by omega) (by omega) (by omega) (by omega)]), rfl⟩
 refine sQ (qA rfl) rfl (sD (nS (cF rfl (tS (tR ?_)))))
 refine sB (qE rfl rfl) rfl rfl (fun h40 => ?_) (fun h40 => ?_)
 refine M9 ?_
 exact ⟨rfl, by (first | rw [(N4 k).1 (by omega)] | rw [(N4 k).2.1 (by omega)] | rw [(N4 k).2.2 (by omega) (by omega) (by omega) (by omega) (by omega)]), rfl⟩
 refine sQ (qA rfl) rfl (sD (nS (cF rfl (tR ?_))))
 refine sB (qE rfl rfl) rfl rfl (fun h63 => ?_) (fun h63 => ?_)
 refine J4 ?_
 exact ⟨rfl, by (first | rw [(N4 k).1 (by omega)] | rw [(N4 k).2.1 (by omega)] | rw [(N4 k).2.2 (by omega) (by omega) (by omega) (by omega) (by omega)]), rfl⟩
 refine sQ (qA rfl) rfl (sD (nS (cF rfl (tS (tS (tR ?_))))))
 refine sB (qE rfl rfl) rfl rfl (fun h85 => ?_) (fun h85 => ?_)
 refine M9 ?_
 exact ⟨rfl, by (first | rw [(N4 k).1 (by omega)] | rw [(N4 k).2.1 (by omega)] | rw [(N4 k).2.2 (by omega) (by omega) (by omega) (by omega) (by omega)]), rfl⟩
 refine sQ (qA rfl) rfl (sD (nS (cF rfl (tR ?_))))
 refine sB (qE rfl rfl) rfl rfl (fun h108 => ?_) (fun h108 => ?_)
 refine J4 ?_
 exact ⟨rfl, by (first | rw [(N4 k).1 (by omega)] | rw [(N4 k).2.1 (by omega)] | rw [(N4 k).2.2 (by omega) (by omega) (by omega) (by omega) (by omega)]), rfl⟩
 refine O0 ?_
 exact ⟨rfl, by (first | rw [(N4 k).1 (by omega)] | rw [(N4 k).2.1 (by omega)] | rw [(N4 k).2.2 (by omega) (by omega) (by omega) (by omega) (by omega)]), rfl⟩
theorem A4v (k : Int) (G : IM) : Fn Tryz.prog 165 [.int .i64 k] [] G (J3 (.int .i64 (D3 k)) G) := by
 refine B6 Tryz.func165 rfl Tryz.ntmps165 Tryz.results165 rfl ?_
 intro w0
 refine J6 ?_
 refine C3 ?_
 refine tS (tS (tR ?_))
 refine sB (qE rfl rfl) rfl rfl (fun h16 => ?_) (fun h16 => ?_)
 refine M9 ?_
 exact ⟨rfl, by (unfold D3; first | rw [if_pos (by omega)] | rw [if_neg (by omega), if_pos (by omega)] | rw [if_neg (by omega), if_neg (by omega), if_pos (by omega)] | rw [if_neg (by omega), if_neg (by omega), if_neg (by omega), if_pos (by omega)] | rw [if_neg (by omega), if_neg (by omega), if_neg (by omega), if_neg (by omega)]), rfl⟩
 refine sQ (qA rfl) rfl (sD (nS (cF rfl (tS (tR ?_)))))
 refine sB (qE rfl rfl) rfl rfl (fun h40 => ?_) (fun h40 => ?_)
 refine M9 ?_
 exact ⟨rfl, by (unfold D3; first | rw [if_pos (by omega)] | rw [if_neg (by omega), if_pos (by omega)] | rw [if_neg (by omega), if_neg (by omega), if_pos (by omega)] | rw [if_neg (by omega), if_neg (by omega), if_neg (by omega), if_pos (by omega)] | rw [if_neg (by omega), if_neg (by omega), if_neg (by omega), if_neg (by omega)]), rfl⟩
 refine sQ (qA rfl) rfl (sD (nS (cF rfl (tS (tR ?_)))))
 refine sB (qE rfl rfl) rfl rfl (fun h64 => ?_) (fun h64 => ?_)
 refine M9 ?_
 exact ⟨rfl, by (unfold D3; first | rw [if_pos (by omega)] | rw [if_neg (by omega), if_pos (by omega)] | rw [if_neg (by omega), if_neg (by omega), if_pos (by omega)] | rw [if_neg (by omega), if_neg (by omega), if_neg (by omega), if_pos (by omega)] | rw [if_neg (by omega), if_neg (by omega), if_neg (by omega), if_neg (by omega)]), rfl⟩
 refine sQ (qA rfl) rfl (sD (nS (cF rfl (tR ?_))))
 refine sB (qE rfl rfl) rfl rfl (fun h87 => ?_) (fun h87 => ?_)
 refine J4 ?_
 exact ⟨rfl, by (unfold D3; first | rw [if_pos (by omega)] | rw [if_neg (by omega), if_pos (by omega)] | rw [if_neg (by omega), if_neg (by omega), if_pos (by omega)] | rw [if_neg (by omega), if_neg (by omega), if_neg (by omega), if_pos (by omega)] | rw [if_neg (by omega), if_neg (by omega), if_neg (by omega), if_neg (by omega)]), rfl⟩
 refine sQ (qA rfl) rfl (sD (nS (cF rfl (tS (tS (tR ?_))))))
 refine sB (qE rfl rfl) rfl rfl (fun h109 => ?_) (fun h109 => ?_)
 refine M9 ?_
 exact ⟨rfl, by (unfold D3; first | rw [if_pos (by omega)] | rw [if_neg (by omega), if_pos (by omega)] | rw [if_neg (by omega), if_neg (by omega), if_pos (by omega)] | rw [if_neg (by omega), if_neg (by omega), if_neg (by omega), if_pos (by omega)] | rw [if_neg (by omega), if_neg (by omega), if_neg (by omega), if_neg (by omega)]), rfl⟩
 refine sQ (qA rfl) rfl (sD (nS (cF rfl (tS (tR ?_)))))
 refine sB (qE rfl rfl) rfl rfl (fun h133 => ?_) (fun h133 => ?_)
 refine M9 ?_
 exact ⟨rfl, by (unfold D3; first | rw [if_pos (by omega)] | rw [if_neg (by omega), if_pos (by omega)] | rw [if_neg (by omega), if_neg (by omega), if_pos (by omega)] | rw [if_neg (by omega), if_neg (by omega), if_neg (by omega), if_pos (by omega)] | rw [if_neg (by omega), if_neg (by omega), if_neg (by omega), if_neg (by omega)]), rfl⟩
 refine sQ (qA rfl) rfl (sD (nS (cF rfl (tS (tR ?_)))))
 refine sB (qE rfl rfl) rfl rfl (fun h157 => ?_) (fun h157 => ?_)
 refine M9 ?_
 exact ⟨rfl, by (unfold D3; first | rw [if_pos (by omega)] | rw [if_neg (by omega), if_pos (by omega)] | rw [if_neg (by omega), if_neg (by omega), if_pos (by omega)] | rw [if_neg (by omega), if_neg (by omega), if_neg (by omega), if_pos (by omega)] | rw [if_neg (by omega), if_neg (by omega), if_neg (by omega), if_neg (by omega)]), rfl⟩
 refine sQ (qA rfl) rfl (sD (nS (cF rfl (tS (tR ?_)))))
 refine sB (qE rfl rfl) rfl rfl (fun h181 => ?_) (fun h181 => ?_)
 refine M9 ?_
 exact ⟨rfl, by (unfold D3; first | rw [if_pos (by omega)] | rw [if_neg (by omega), if_pos (by omega)] | rw [if_neg (by omega), if_neg (by omega), if_pos (by omega)] | rw [if_neg (by omega), if_neg (by omega), if_neg (by omega), if_pos (by omega)] | rw [if_neg (by omega), if_neg (by omega), if_neg (by omega), if_neg (by omega)]), rfl⟩
 refine sQ (qA rfl) rfl (sD (nS (cF rfl (tR ?_))))
 refine sB (qE rfl rfl) rfl rfl (fun h204 => ?_) (fun h204 => ?_)
 refine J4 ?_
 exact ⟨rfl, by (unfold D3; first | rw [if_pos (by omega)] | rw [if_neg (by omega), if_pos (by omega)] | rw [if_neg (by omega), if_neg (by omega), if_pos (by omega)] | rw [if_neg (by omega), if_neg (by omega), if_neg (by omega), if_pos (by omega)] | rw [if_neg (by omega), if_neg (by omega), if_neg (by omega), if_neg (by omega)]), rfl⟩
 refine sQ (qA rfl) rfl (sD (nS (cF rfl (tS (tS (tR ?_))))))
 refine sB (qE rfl rfl) rfl rfl (fun h226 => ?_) (fun h226 => ?_)
 refine M9 ?_
 exact ⟨rfl, by (unfold D3; first | rw [if_pos (by omega)] | rw [if_neg (by omega), if_pos (by omega)] | rw [if_neg (by omega), if_neg (by omega), if_pos (by omega)] | rw [if_neg (by omega), if_neg (by omega), if_neg (by omega), if_pos (by omega)] | rw [if_neg (by omega), if_neg (by omega), if_neg (by omega), if_neg (by omega)]), rfl⟩
 refine sQ (qA rfl) rfl (sD (nS (cF rfl (tS (tR ?_)))))
 refine sB (qE rfl rfl) rfl rfl (fun h250 => ?_) (fun h250 => ?_)
 refine M9 ?_
 exact ⟨rfl, by (unfold D3; first | rw [if_pos (by omega)] | rw [if_neg (by omega), if_pos (by omega)] | rw [if_neg (by omega), if_neg (by omega), if_pos (by omega)] | rw [if_neg (by omega), if_neg (by omega), if_neg (by omega), if_pos (by omega)] | rw [if_neg (by omega), if_neg (by omega), if_neg (by omega), if_neg (by omega)]), rfl⟩
 refine sQ (qA rfl) rfl (sD (nS (cF rfl (tS (tR ?_)))))
 refine sB (qE rfl rfl) rfl rfl (fun h274 => ?_) (fun h274 => ?_)
 refine M9 ?_
 exact ⟨rfl, by (unfold D3; first | rw [if_pos (by omega)] | rw [if_neg (by omega), if_pos (by omega)] | rw [if_neg (by omega), if_neg (by omega), if_pos (by omega)] | rw [if_neg (by omega), if_neg (by omega), if_neg (by omega), if_pos (by omega)] | rw [if_neg (by omega), if_neg (by omega), if_neg (by omega), if_neg (by omega)]), rfl⟩
 refine sQ (qA rfl) rfl (sD (nS (cF rfl (tR ?_))))
 refine sB (qE rfl rfl) rfl rfl (fun h297 => ?_) (fun h297 => ?_)
 refine J4 ?_
 exact ⟨rfl, by (unfold D3; first | rw [if_pos (by omega)] | rw [if_neg (by omega), if_pos (by omega)] | rw [if_neg (by omega), if_neg (by omega), if_pos (by omega)] | rw [if_neg (by omega), if_neg (by omega), if_neg (by omega), if_pos (by omega)] | rw [if_neg (by omega), if_neg (by omega), if_neg (by omega), if_neg (by omega)]), rfl⟩
 refine sQ (qA rfl) rfl (sD (nS (cF rfl (tS (tR ?_)))))
 refine sB (qE rfl rfl) rfl rfl (fun h318 => ?_) (fun h318 => ?_)
 refine J4 ?_
 exact ⟨rfl, by (unfold D3; first | rw [if_pos (by omega)] | rw [if_neg (by omega), if_pos (by omega)] | rw [if_neg (by omega), if_neg (by omega), if_pos (by omega)] | rw [if_neg (by omega), if_neg (by omega), if_neg (by omega), if_pos (by omega)] | rw [if_neg (by omega), if_neg (by omega), if_neg (by omega), if_neg (by omega)]), rfl⟩
 refine O0 ?_
 exact ⟨rfl, by (unfold D3; first | rw [if_pos (by omega)] | rw [if_neg (by omega), if_pos (by omega)] | rw [if_neg (by omega), if_neg (by omega), if_pos (by omega)] | rw [if_neg (by omega), if_neg (by omega), if_neg (by omega), if_pos (by omega)] | rw [if_neg (by omega), if_neg (by omega), if_neg (by omega), if_neg (by omega)]), rfl⟩
theorem B2B (s : ByteArray) (G : IM) : Fn Tryz.prog 215 [.string s] [] G (J3 (.bool (X7 s)) G) := by
 refine B6 Tryz.func215 rfl Tryz.ntmps215 Tryz.results215 rfl ?_
 intro w0
 refine F8 ?_
 refine sQ (A2c rfl rfl) rfl (sB (qE rfl rfl) rfl rfl (fun h10 => ?_) (fun h10 => ?_))
 refine sQ (qM rfl) rfl (sQ (qM rfl) rfl ?_)
 refine sP (A4b rfl rfl rfl (by omega) (A4m (by omega))) rfl rfl ?_
 refine sB (A0G rfl rfl) rfl rfl (fun h14 => ?_) (fun h14 => ?_)
 refine sQ (K1 rfl rfl) rfl (sQ (qM rfl) rfl (sQ (qM rfl) rfl ?_))
 refine sP (A4b rfl rfl rfl (by omega) (A4m (by omega))) rfl rfl ?_
 refine sB (A0c rfl rfl) rfl rfl (fun h19 => ?_) (fun h19 => ?_)
 refine J9 ?_
 exact ⟨rfl, by simp only [X7]; (try simp only [Int.toNat_zero] at *); (first | rw [decide_eq_true (by omega)] | rw [decide_eq_false (by omega)]), rfl⟩
 refine J9 ?_
 exact ⟨rfl, by simp only [X7]; (try simp only [Int.toNat_zero] at *); (first | rw [decide_eq_true (by omega)] | rw [decide_eq_false (by omega)]), rfl⟩
 refine J6 ?_
 exact ⟨rfl, by simp only [X7]; (try simp only [Int.toNat_zero] at *); (first | rw [decide_eq_true (by omega)] | rw [decide_eq_false (by omega)]), rfl⟩
 refine K0 ?_
 exact ⟨rfl, by simp only [X7]; (try simp only [Int.toNat_zero] at *); (first | rw [decide_eq_true (by omega)] | rw [decide_eq_false (by omega)]), rfl⟩
theorem A8j (t : Ty) (G : IM) (cells : List Value) (hr : B2 G t cells) : Fn Tryz.prog 216 [.agg ⟨cells⟩] [] G (J3 (.bool (X6 t)) G) := by
 obtain ⟨p, c, es, rfl, hk, hsl, hkl⟩ := hr.open
 refine B6 Tryz.func216 rfl Tryz.ntmps216 Tryz.results216 rfl ?_
 intro w0
 refine tS (tR ?_)
 refine sE (C4 rfl rfl) rfl (fun b3 => ?_)
 refine D5 ?_
 refine sB (qE rfl rfl) rfl rfl (fun h11 => ?_) (fun h11 => ?_)
 refine J8 ?_
 refine sB (qE rfl rfl) rfl rfl (fun h16 => ?_) (fun h16 => ?_)
 refine J9 ?_
 exact ⟨rfl, by simp only [X6]; (first | rw [decide_eq_true (by omega)] | rw [decide_eq_false (by omega)]), rfl⟩
 refine J9 ?_
 exact ⟨rfl, by simp only [X6]; (first | rw [decide_eq_true (by omega)] | rw [decide_eq_false (by omega)]), rfl⟩
 refine J6 ?_
 exact ⟨rfl, by simp only [X6]; (first | rw [decide_eq_true (by omega)] | rw [decide_eq_false (by omega)]), rfl⟩
def A0p (n : Int) : Int := if n < -99 ∨ n > 99 then 0 else if n < 0 then -n else n
theorem A8k (n : Int) (G : IM) : Fn Tryz.prog 151 [.int .i64 n] [] G (J3 (.int .i64 (A0p n)) G) := by
 refine B6 Tryz.func151 rfl Tryz.ntmps151 Tryz.results151 rfl ?_
 intro w0
 refine D8 ?_
 refine sB (M2 rfl rfl) rfl rfl (fun h10 => ?_) (fun h10 => ?_)
 refine K0 ?_
 exact ⟨rfl, by (unfold A0p; first | rw [if_pos (by omega)] | rw [if_neg (by omega), if_pos (by omega)] | rw [if_neg (by omega), if_neg (by omega)]), rfl⟩
 refine sQ (qM rfl) rfl (sQ (qM rfl) rfl ?_)
 refine sB (Y2 rfl rfl) rfl rfl (fun h29 => ?_) (fun h29 => ?_)
 refine N2 ?_
 exact ⟨rfl, by (unfold A0p; first | rw [if_pos (by omega)] | rw [if_neg (by omega), if_pos (by omega)] | rw [if_neg (by omega), if_neg (by omega)]), rfl⟩
 refine I8 ?_
 refine sB (M2 rfl rfl) rfl rfl (fun h53 => ?_) (fun h53 => ?_)
 refine sD (nS (qT rfl (tS (tR (sQ (qM rfl) rfl ?_)))))
 refine sP (A3n rfl (by omega) (by omega)) rfl rfl ?_
 refine sQ (qA rfl) rfl (sD (nS (tT (rS (D6 (rT rfl) ?_)))))
 exact ⟨rfl, by (unfold A0p; first | rw [if_pos (by omega)] | rw [if_neg (by omega), if_pos (by omega)] | rw [if_neg (by omega), if_neg (by omega)]), rfl⟩
 refine J4 ?_
 exact ⟨rfl, by (unfold A0p; first | rw [if_pos (by omega)] | rw [if_neg (by omega), if_pos (by omega)] | rw [if_neg (by omega), if_neg (by omega)]), rfl⟩
def L0 : Ty := .mk 1 []
def Q4 : Nat → Ty → Prop
 | 0, .mk k ks => ks = [] ∧ k ≠ 4 ∧ k ≠ 5
 | n + 1, .mk k ks => (k = 4 ∨ k = 5 → ks.length = 2) ∧ (k ≠ 4 → k ≠ 5 → ks.length = 0) ∧ ∀ t ∈ ks, Q4 n t
mutual
def D4 : Ty → Prop
 | .mk k ks => (k = 4 ∨ k = 5 → ks.length = 2) ∧ (k ≠ 4 → k ≠ 5 → ks.length = 0) ∧ A0M ks
def A0M : List Ty → Prop
 | [] => True
 | t :: ts => D4 t ∧ A0M ts
end
theorem A3C : ∀ {ts : List Ty}, A0M ts ↔ ∀ t ∈ ts, D4 t
 | [] => by simp [A0M]
 | t :: ts => by simp only [A0M, A3C (ts := ts), List.forall_mem_cons]
theorem Q4.ar : ∀ {n : Nat} {t : Ty}, Q4 n t → D4 t
 | 0, .mk k ks, h => by
  obtain ⟨rfl, h1, h2⟩ := h
  rw [D4]
  exact ⟨fun h => by omega, fun _ _ => rfl, by rw [A0M]; trivial⟩
 | n + 1, .mk k ks, h => by
  obtain ⟨h1, h2, h3⟩ := h
  rw [D4]
  exact ⟨h1, h2, A3C.2 fun t ht => (h3 t ht).ar⟩
theorem Q4.up : ∀ {n : Nat} {t : Ty}, Q4 n t → Q4 (n + 1) t
 | 0, .mk k ks, h => by
  obtain ⟨rfl, h1, h2⟩ := h
  exact ⟨fun h => by omega, fun _ _ => rfl, by simp⟩
 | n + 1, .mk k ks, h => by
  obtain ⟨h1, h2, h3⟩ := h
  exact ⟨h1, h2, fun t ht => (h3 t ht).up⟩
theorem Q4.le {n m : Nat} {t : Ty} (h : Q4 n t) (hm : n ≤ m) : Q4 m t := by
 induction hm with
 | refl => exact h
 | step _ ih => exact ih.up
theorem B2C {d : Nat} {k : Int} {ts : List Ty} (h0 : d = 0 → k < 4) (hl : (ts.length : Int) = V0 k) (h1 : 1 ≤ k) (h5 : k ≤ 5) (ha : ∀ u ∈ ts, Q4 (d - 1) u) : Q4 d (.mk k ts) := by
 have hk : k = 1 ∨ k = 2 ∨ k = 3 ∨ k = 4 ∨ k = 5 := by omega
 cases d with
 | zero =>
  have hk4 := h0 rfl
  refine ⟨?_, by omega, by omega⟩
  have : V0 k = 0 := by
   rcases hk with rfl | rfl | rfl | rfl | rfl <;> first | rfl | omega
  exact List.length_eq_zero_iff.1 (by omega)
 | succ d =>
  refine ⟨?_, ?_, ha⟩
  ·rintro (rfl | rfl)
   ·have : V0 4 = 2 := rfl
    omega
   ·have : V0 5 = 2 := rfl
    omega
  ·intro h4 h5
   have : V0 k = 0 := by
    rcases hk with rfl | rfl | rfl | rfl | rfl <;> first | rfl | omega
   omega
theorem A8l (n : Nat) : Q4 n L0 := by
 refine Q4.le (n := 0) ⟨rfl, by decide, by decide⟩ (Nat.zero_le n)
theorem A2P (n : Nat) {k : Int} (h4 : k ≠ 4) (h5 : k ≠ 5) : Q4 n (.mk k []) := Q4.le (n := 0) ⟨rfl, h4, h5⟩ (Nat.zero_le n)
theorem A3D : D4 L0 := (A8l 0).ar
mutual
theorem D4.small : ∀ {t : Ty}, D4 t → t.small
 | .mk k ks, h => by
  rw [D4] at h
  rw [Ty.small]
  exact ⟨by have h1 := h.1; have h2 := h.2.1; omega, A0M.small h.2.2⟩
theorem A0M.small : ∀ {ts : List Ty}, A0M ts → Ty.smallL ts
 | [], _ => by rw [Ty.smallL]; trivial
 | t :: ts, h => by
  rw [A0M] at h
  rw [Ty.smallL]
  exact ⟨h.1.small, A0M.small h.2⟩
end
theorem A4w : ∀ {n : Nat} {t : Ty}, Q4 n t → H4 t ≤ ((2 ^ (n + 1) - 2 : Nat) : Int)
 | 0, .mk k ks, h => by
  obtain ⟨rfl, h1, h2⟩ := h
  rw [H4, L7]; simp
 | n + 1, .mk k ks, h => by
  obtain ⟨h1, h2, h3⟩ := h
  have hp : 2 ≤ 2 ^ (n + 1) := by
   have := Nat.pow_le_pow_right (n := 2) (by omega) (show 1 ≤ n + 1 by omega)
   simpa using this
  have e : 2 ^ (n + 1 + 1) = 2 ^ (n + 1) * 2 := Nat.pow_succ ..
  have hl : ks.length = 0 ∨ ks.length = 2 := by omega
  rw [H4]
  match ks, hl, h3 with
  | [], _, _ => rw [L7]; simp
  | [a, b], _, h3 =>
   have := A4w (h3 a (by simp))
   have := A4w (h3 b (by simp))
   simp only [L7, List.length_cons, List.length_nil]; omega
theorem B2D {k : Int} {ks us : List Ty} : ∀ {n : Nat}, Q4 n (.mk k ks) → us.length = ks.length → (∀ u ∈ us, Q4 (n - 1) u) → Q4 n (.mk k us)
 | 0, h, hl, _ => by
  obtain ⟨rfl, h1, h2⟩ := h
  exact ⟨List.length_eq_zero_iff.1 (by simpa using hl), h1, h2⟩
 | n + 1, h, hl, hu => by
  obtain ⟨h1, h2, h3⟩ := h
  exact ⟨fun hk => by rw [hl]; exact h1 hk, fun a b => by rw [hl]; exact h2 a b, hu⟩
theorem A5P {k : Int} {ks : List Ty} {t : Ty} : ∀ {n : Nat}, Q4 n (.mk k ks) → t ∈ ks → Q4 (n - 1) t
 | 0, h, ht => by
  obtain ⟨rfl, h1, h2⟩ := h
  simp at ht
 | n + 1, h, ht => h.2.2 t ht
theorem A8m {k : Int} {ks : List Ty} {d : Int} (h : 4 < d ∨ V0 k ≠ ks.length) : M0 (.mk k ks) d = false := by
 rw [M0]
 rcases h with h | h
 ·rw [decide_eq_false (by omega)]; rfl
 ·rw [decide_eq_false (p := V0 k = ks.length) h, Bool.and_false]; rfl
theorem A8n {k : Int} {ks : List Ty} {d : Int} (h : d ≤ 4) (h2 : V0 k = ks.length) : M0 (.mk k ks) d = Z4 ks (d + 1) := by
 rw [M0, decide_eq_true h, decide_eq_true h2]; rfl
theorem B2E {ks : List Ty} {d : Int} {i : Nat} (hi : i < ks.length) (h : M0 ks[i] d = false) : Z4 ks d = false := by
 cases hx : Z4 ks d with
 | false => rfl
 | true => rw [(A4l ks d).1 hx i hi] at h; cases h
theorem B2F : ∀ (t : Ty) (d : Int) (G : IM) (cells : List Value), 0 ≤ d ∧ d ≤ 4 → B2 G t cells →
  Fn Tryz.prog 224 [.agg ⟨cells⟩, .int .i64 d] [] G (J3 (.bool (M0 t (5 - d))) G) := by
 refine Ty.ind fun k ks ih d G cells hd hr => ?_
 obtain ⟨p, c, es, rfl, hk, hsl, hkl⟩ := hr.open
 simp only [Ty.k, Ty.ks] at hk hsl hkl ⊢
 have hn := hsl.le
 have hk1 := A8i k G
 refine B6 Tryz.func224 rfl Tryz.ntmps224 Tryz.results224 rfl ?_
 intro w0
 refine tS (tR ?_)
 refine sE (C4 rfl rfl) rfl (fun b3 => ?_)
 refine sQ (qA rfl) rfl (sD (nS (tS (tS ?_))))
 refine D1 D2 rfl ?_
 refine I4 (i := 0) (l' := [tt,ff,ff,ff,ff,ff,ff,ff,ff,ff,ff]) rfl C8 (qM rfl) rfl (by kernel_rfl) rfl rfl ?_
 refine A01 (i := 1) (l' := [tt,tt,ff,ff,ff,ff,ff,ff,ff,ff,ff]) rfl C8 (M2 rfl rfl) rfl (by kernel_rfl) rfl rfl (fun h11 => ?_) (fun h11 => ?_)
 refine aP 2 rfl (qM rfl) rfl ?_
 refine B3 3 rfl rfl rfl ?_
 refine B3 4 rfl rfl rfl ?_
 refine B3 6 rfl rfl rfl ?_
 refine B3 7 rfl rfl rfl ?_
 refine B3 8 rfl rfl rfl ?_
 refine B3 5 rfl rfl rfl ?_
 refine B3 9 rfl rfl rfl ?_
 refine aP 10 rfl (K1 rfl rfl) rfl ?_
 refine J6 ?_
 (rw [A8m (by omega)]; exact ⟨rfl, rfl, rfl⟩)
 refine aP 2 rfl (qM rfl) rfl ?_
 refine aP 3 rfl (B5 rfl) rfl ?_
 refine aL 4 rfl (C7 rfl rfl) rfl ?_
 refine aP 6 rfl (B5 rfl) rfl ?_
 refine aL 7 rfl (C7 rfl rfl) rfl ?_
 refine aP 8 rfl (pLn rfl rfl) rfl ?_
 refine A2 5 ?_
 refine J0 rfl rfl (hk1) rfl rfl rfl ?_
 refine A01 (i := 9) (l' := [tt,tt,tt,tt,tt,tt,tt,tt,tt,tt,ff]) rfl C8 (Q6 rfl rfl) rfl (by kernel_rfl) rfl rfl (fun h41 => ?_) (fun h41 => ?_)
 refine aP 10 rfl (L6 rfl rfl) rfl ?_
 refine J6 ?_
 (rw [A8m (by omega)]; exact ⟨rfl, rfl, rfl⟩)
 refine aP 10 rfl (L6 rfl rfl) rfl ?_
 refine J6 ?_
 refine C3 ?_
 (refine M6 (fun (i : Nat) => ⟨[(5, .int .i64 i), (2, .pointer (some ⟨b3, 0, none⟩)), (1, .int .i64 d)], [.blk b3 [.int .i64 k, .slice p ks.length c]], G⟩) (fun i => i ≤ ks.length ∧ ∀ j (h : j < ks.length), j < i → M0 ks[j] (5 - d + 1) = true) (fun i => ks.length - i) 0 ?_ ?_ ?_)
 exact E1
 exact ⟨by omega, by omega⟩
 (rintro i ⟨hi, hf⟩)
 refine D5 ?_
 refine sB (M2 rfl rfl) rfl rfl (fun h79 => ?_) (fun h79 => ?_)
 refine sD (nS (qT rfl (tK (nS (tS ?_)))))
 refine C3 ?_
 refine R0 ?_
 (obtain ⟨b, o, p2, c2, rfl, hat, hre, hgb⟩ := hsl.kidTy hkl (i := i) (by omega) (by omega); refine sP (B4 rfl rfl rfl (by omega)) rfl rfl ?_)
 refine sL (A3 rfl rfl (hat _) rfl) rfl rfl ?_
 refine sQ (qM rfl) rfl ?_
 refine sP (O8 rfl rfl (by omega) (by omega)) rfl rfl ?_
 (have hih := ih ks[i] (List.getElem_mem (by omega)) (d - 1) G _ (by omega) hre; rw [show 5 - (d - 1) = 5 - d + 1 by omega] at hih; refine F4 rfl hih rfl rfl (fun h96 => ?_) (fun h96 => ?_))
 refine D8 ?_
 refine sP (M8 rfl rfl (by omega) (by omega)) rfl rfl ?_
 refine sQ (qA rfl) rfl (sD ?_)
 refine L8 (i + 1) ?_ ?_ ?_
 exact E1
 exact ⟨by omega, fun j hj hji => by (by_cases he : j = i; (subst he; assumption); exact hf j hj (by omega))⟩
 omega
 refine M9 ?_
 (rw [A8n (by omega) (by omega), B2E (i := i) (by omega) (by assumption)]; exact ⟨rfl, rfl, rfl⟩)
 refine K0 ?_
 (rw [A8n (by omega) (by omega), (A4l ks _).2 (fun j hj => hf j hj (by omega))]; exact ⟨rfl, rfl, rfl⟩)
theorem A0N (t : Ty) (G : IM) (cells : List Value) (hr : B2 G t cells) : Fn Tryz.prog 178 [.agg ⟨cells⟩] [] G (J3 (.bool (M5 t)) G) := by
 have hl := hr.len
 have hv := B2F t 4 G cells (by omega) hr
 refine B6 Tryz.func178 rfl Tryz.ntmps178 Tryz.results178 rfl ?_
 intro w0
 refine tS (tR ?_)
 refine sE (C4 rfl rfl) rfl (fun b3 => ?_)
 refine sQ (qA rfl) rfl (sD (nS (tS (tR ?_))))
 refine sL (A3 rfl rfl (A7 (by repeat first | exact mH | apply mT)) (by assumption)) rfl rfl ?_
 refine E8 rfl (hv) rfl rfl ?_
 refine sQ (qA rfl) rfl (sD (nS (tT (D6 (rT rfl) ?_))))
 exact ⟨rfl, rfl, rfl⟩
theorem A3E {k : Int} {ks : List Ty} {d : Int} (h : M0 (.mk k ks) d = true) : V0 k = ks.length ∧ ∀ i, (hi : i < ks.length) → M0 ks[i] (d + 1) = true := by
 rw [M0] at h
 simp only [Bool.and_eq_true, decide_eq_true_eq] at h
 exact ⟨h.1.2, (A4l ks _).1 h.2⟩
theorem A4x {k k' : Int} {ks ks' : List Ty} (h : k = 1 ∨ k' = 1) : P1 (.mk k ks) (.mk k' ks') = true := by
 rw [V9]
 rcases h with h | h
 ·rw [decide_eq_true (p := k = 1) h]; rfl
 ·rw [decide_eq_true (p := k' = 1) h]; simp
theorem A8o {k k' : Int} {ks ks' : List Ty} (h : k ≠ 1) (h' : k' ≠ 1) (hk : k ≠ k') : P1 (.mk k ks) (.mk k' ks') = false := by
 rw [V9, decide_eq_false h, decide_eq_false h', decide_eq_false hk]; rfl
theorem A4y {k k' : Int} {ks ks' : List Ty} (h : k ≠ 1) (h' : k' ≠ 1) (hk : k = k') : P1 (.mk k ks) (.mk k' ks') = U3 ks ks' := by
 rw [V9, decide_eq_false h, decide_eq_false h', decide_eq_true hk]; rfl
theorem A8p {ks ks' : List Ty} {i : Nat} (hi : i < ks.length) (hi' : i < ks'.length) (h : P1 ks[i] ks'[i] = false) : U3 ks ks' = false := by
 cases hx : U3 ks ks' with
 | false => rfl
 | true => rw [((A2i ks ks').1 hx).2 i hi hi'] at h; cases h
theorem B2G : ∀ (t t' : Ty) (G : IM) (cells cells' : List Value) (d d' : Int), M0 t d = true → M0 t' d' = true → B2 G t cells → B2 G t' cells' →
  Fn Tryz.prog 107 [.agg ⟨cells⟩, .agg ⟨cells'⟩] [] G (J3 (.bool (P1 t t')) G) := by
 refine Ty.ind fun k ks ih t' G cells cells' d d' hv hv' hr hr' => ?_
 obtain ⟨k', ks'⟩ := t'
 obtain ⟨p, c, es, rfl, hk, hsl, hkl⟩ := hr.open
 obtain ⟨p', c', es', rfl, hk', hsl', hkl'⟩ := hr'.open
 simp only [Ty.k, Ty.ks] at hk hsl hkl hk' hsl' hkl' ⊢
 have hn := hsl.le
 have hn' := hsl'.le
 obtain ⟨hv1, hv2⟩ := A3E hv
 obtain ⟨hv1', hv2'⟩ := A3E hv'
 have hle : k = k' → ks.length = ks'.length := by rintro rfl; omega
 refine B6 Tryz.func107 rfl Tryz.ntmps107 Tryz.results107 rfl ?_
 intro w0
 refine tS (tR ?_)
 refine sE (C4 rfl rfl) rfl (fun b3 => ?_)
 refine sE (C4 rfl rfl) rfl (fun b4 => ?_)
 refine F8 ?_
 refine sB (qE rfl rfl) rfl rfl (fun h13 => ?_) (fun h13 => ?_)
 refine M9 ?_
 (rw [A4x (by omega)]; exact ⟨rfl, rfl, rfl⟩)
 refine H9 ?_
 refine sB (qE rfl rfl) rfl rfl (fun h34 => ?_) (fun h34 => ?_)
 refine N2 ?_
 (rw [A4x (by omega)]; exact ⟨rfl, rfl, rfl⟩)
 refine J4 ?_
 refine sB (Q6 rfl rfl) rfl rfl (fun h61 => ?_) (fun h61 => ?_)
 refine J6 ?_
 (rw [A8o (by omega) (by omega) (by omega)]; exact ⟨rfl, rfl, rfl⟩)
 refine J6 ?_
 refine C3 ?_
 (have hll : ks.length = ks'.length := hle (by omega); refine M6 (fun (i : Nat) => ⟨[(5, .int .i64 i), (3, .pointer (some ⟨b4, 0, none⟩)), (2, .pointer (some ⟨b3, 0, none⟩))], [.blk b3 [.int .i64 k, .slice p ks.length c], .blk b4 [.int .i64 k', .slice p' ks'.length c']], G⟩) (fun i => i ≤ ks.length ∧ ∀ j (h : j < ks.length) (h' : j < ks'.length), j < i → P1 ks[j] ks'[j] = true) (fun i => ks.length - i) 0 ?_ ?_ ?_)
 exact E1
 exact ⟨by omega, by omega⟩
 (rintro i ⟨hi, hf⟩)
 refine D5 ?_
 refine sB (M2 rfl rfl) rfl rfl (fun h97 => ?_) (fun h97 => ?_)
 refine sD (nS (qT rfl (tK (nS (tS ?_)))))
 refine C3 ?_
 refine tS ?_
 (obtain ⟨b, o, p2, c2, rfl, hat, hre, hgb⟩ := hsl.kidTy hkl (i := i) (by omega) (by omega); obtain ⟨b', o', p2', c2', rfl, hat', hre', hgb'⟩ := hsl'.kidTy hkl' (i := i) (by omega) (by omega); refine D1 D2 rfl ?_)
 refine I4 (i := 0) (l' := [tt,ff,ff,ff,ff,ff,ff,ff,ff,ff,ff,ff]) rfl C8 (B5 rfl) rfl (by kernel_rfl) rfl rfl ?_
 refine aL 1 rfl (C7 rfl rfl) rfl ?_
 refine aP 2 rfl (qM rfl) rfl ?_
 refine aP 3 rfl (B4 rfl rfl rfl (by omega)) rfl ?_
 refine aL 4 rfl (A3 rfl rfl (hat _) rfl) rfl ?_
 refine aP 5 rfl (B5 rfl) rfl ?_
 refine aL 6 rfl (C7 rfl rfl) rfl ?_
 refine aP 7 rfl (qM rfl) rfl ?_
 refine aP 8 rfl (B4 rfl rfl rfl (by omega)) rfl ?_
 refine aL 9 rfl (A3 rfl rfl (hat' _) rfl) rfl ?_
 refine A2 10 ?_
 refine R1 rfl rfl (ih ks[i] (List.getElem_mem (by omega)) ks'[i] G _ _ _ _ (hv2 i (by omega)) (hv2' i (by omega)) hre hre') rfl rfl rfl (fun h118 => ?_) (fun h118 => ?_)
 refine aP 11 rfl (Q5 rfl) rfl ?_
 refine F8 ?_
 refine sP (M8 rfl rfl (by omega) (by omega)) rfl rfl ?_
 refine sQ (qA rfl) rfl (sD ?_)
 refine L8 (i + 1) ?_ ?_ ?_
 exact E1
 exact ⟨by omega, fun j hj hj' hji => by (by_cases he : j = i; (subst he; assumption); exact hf j hj hj' (by omega))⟩
 omega
 refine aP 11 rfl (pNf rfl) rfl ?_
 refine K0 ?_
 (rw [A4y (by omega) (by omega) (by omega), A8p (i := i) (by omega) (by omega) (by assumption)]; exact ⟨rfl, rfl, rfl⟩)
 refine K0 ?_
 (rw [A4y (by omega) (by omega) (by omega), (A2i ks _).2 ⟨hll, fun j hj hj' => hf j hj hj' (by omega)⟩]; exact ⟨rfl, rfl, rfl⟩)
section blaws
variable {P : Program} {Γ : M1} {env : M7} {hp : List A5} {G : IM} {ty : TypeId}
theorem A0h {x y : Operand} {t t' : TypeId} {i : L9} [hI : J2 P t i] (hd : i.desc = .bool) {r : Bool} (hx : evo env x = some (.bool r)) (hy : evo env y = some (.bool r)) :
  J1 P Γ ⟨env, hp, G⟩ (.binOp .neq t x y t') ty (.bool false) := by
 have h := A5j (P := P) (Γ := Γ) (hp := hp) (G := G) (t := t) (t' := t') (ty := ty) hd hx hy
 rwa [decide_eq_false (by simp)] at h
theorem A8q {x y : Operand} {t t' : TypeId} {i : L9} [hI : J2 P t i] (hd : i.desc = .bool) (hx : evo env x = some (.bool true)) (hy : evo env y = some (.bool false)) :
  J1 P Γ ⟨env, hp, G⟩ (.binOp .neq t x y t') ty (.bool true) := A5j hd hx hy
theorem A5Q {x y : Operand} {t t' : TypeId} {i : L9} [hI : J2 P t i] (hd : i.desc = .bool) (hx : evo env x = some (.bool false)) (hy : evo env y = some (.bool true)) :
  J1 P Γ ⟨env, hp, G⟩ (.binOp .neq t x y t') ty (.bool true) := A5j hd hx hy
end blaws
theorem B2H (n : Int) : ((1 ≤ A0p n ∧ A0p n ≤ 99) ↔ W2 n = true) := by
 unfold A0p W2 S4
 simp only [Bool.or_eq_true, decide_eq_true_eq]
 split
 ·omega
 ·split <;> omega
theorem B2I (k : Int) (nm : ByteArray) (num : Int) (ty fr : Ty) (lb : Int) (ks : List Tm) (G : IM) (cells : List Value) (hr : A8 G (.mk k nm num ty fr lb ks) cells) (R : Bool)
  (hi : R = true ↔ nm = ⟨#[]⟩ ∧ num = 0 ∧ (1 ≤ A0p lb ∧ A0p lb ≤ 99) ∧ M5 ty = true ∧ M5 fr = true ∧ P1 fr ty = true) :
  Fn Tryz.prog 166 [.agg ⟨cells⟩] [] G (J3 (.bool R) G) := by
 obtain ⟨tk, tks⟩ := ty
 obtain ⟨fk, fks⟩ := fr
 obtain ⟨pt, ct, pf, cf, p, c, es, rfl, hk, hnum, hlb, hty, hfr, hsl, hkl⟩ := hr.open9
 clear hr
 have o3 := A0N _ G _ hty
 have o4 := A0N _ G _ hfr
 have o6 := A8k lb G
 refine B6 Tryz.func166 rfl Tryz.ntmps166 Tryz.results166 rfl ?_
 intro w0
 refine tS (tR ?_)
 refine sE (C4 rfl rfl) rfl (fun b3 => ?_)
 refine D5 ?_
 refine E8 rfl (o6) rfl rfl ?_
 refine D5 ?_
 refine sB (A1Q rfl rfl) rfl rfl (fun h19 => ?_) (fun h19 => ?_)
 refine H9 ?_
 refine sB (qE rfl rfl) rfl rfl (fun h23 => ?_) (fun h23 => ?_)
 refine sQ (K1 rfl rfl) rfl (sQ (qM rfl) rfl (sQ (qM rfl) rfl ?_))
 refine sB (A0G rfl rfl) rfl rfl (fun h27 => ?_) (fun h27 => ?_)
 refine sQ (K1 rfl rfl) rfl (sQ (qM rfl) rfl (sQ (qM rfl) rfl ?_))
 refine sB (A0c rfl rfl) rfl rfl (fun h31 => ?_) (fun h31 => ?_)
 refine J8 ?_
 refine F4 rfl (o3) rfl rfl (fun h36 => ?_) (fun h36 => ?_)
 refine J8 ?_
 refine F4 rfl (o4) rfl rfl (fun h41 => ?_) (fun h41 => ?_)
 refine J9 ?_
 refine F4 rfl (B2G _ _ G _ _ _ _ (by assumption) (by assumption) hfr hty) rfl rfl (fun h48 => ?_) (fun h48 => ?_)
 refine J9 ?_
 exact ⟨rfl, by rw [hi.2 ⟨by (first | assumption | exact Classical.not_not.1 (by assumption)), by omega, by omega, by assumption, by assumption, by assumption⟩], rfl⟩
 refine J9 ?_
 exact ⟨rfl, by (cases R with | false => rfl | true => (exfalso; obtain ⟨i1, i2, i3, i4, i5, i6⟩ := hi.1 rfl; first | omega | (simp_all; done))), rfl⟩
 refine J4 ?_
 exact ⟨rfl, by (cases R with | false => rfl | true => (exfalso; obtain ⟨i1, i2, i3, i4, i5, i6⟩ := hi.1 rfl; first | omega | (simp_all; done))), rfl⟩
 refine U9 ?_
 exact ⟨rfl, by (cases R with | false => rfl | true => (exfalso; obtain ⟨i1, i2, i3, i4, i5, i6⟩ := hi.1 rfl; first | omega | (simp_all; done))), rfl⟩
 refine A0A ?_
 exact ⟨rfl, by (cases R with | false => rfl | true => (exfalso; obtain ⟨i1, i2, i3, i4, i5, i6⟩ := hi.1 rfl; first | omega | (simp_all; done))), rfl⟩
 refine A7B ?_
 exact ⟨rfl, by (cases R with | false => rfl | true => (exfalso; obtain ⟨i1, i2, i3, i4, i5, i6⟩ := hi.1 rfl; first | omega | (simp_all; done))), rfl⟩
 refine Y4 ?_
 refine D6 (rT rfl) ?_
 exact ⟨rfl, by (cases R with | false => rfl | true => (exfalso; obtain ⟨i1, i2, i3, i4, i5, i6⟩ := hi.1 rfl; first | omega | (simp_all; done))), rfl⟩
 refine Y4 ?_
 refine sQ (qA rfl) rfl (sD (nS (tT (D6 (rT rfl) ?_))))
 exact ⟨rfl, by (cases R with | false => rfl | true => (exfalso; obtain ⟨i1, i2, i3, i4, i5, i6⟩ := hi.1 rfl; first | omega | (simp_all; done))), rfl⟩
theorem A8r (k : Int) (nm : ByteArray) (num : Int) (ty fr : Ty) (lb : Int) (ks : List Tm) (G : IM) (cells : List Value) (hr : A8 G (.mk k nm num ty fr lb ks) cells) (R : Bool)
  (hi : R = true ↔ (k = 1 ∨ k = 5 → X7 nm = true) ∧ (¬(k = 1 ∨ k = 5) → nm = ⟨#[]⟩) ∧ (k = 5 ∨ k = 13 ∨ k = 14 → M5 ty = true) ∧ (¬(k = 5 ∨ k = 13 ∨ k = 14) → X6 ty = true) ∧ (k ≠ 14 → X6 fr = true ∧ lb = 0) ∧ (k = 2 → 0 ≤ num ∧ num ≤ 999) ∧ (k ≠ 2 → num = 0)) :
  Fn Tryz.prog 167 [.agg ⟨cells⟩] [] G (J3 (.bool R) G) := by
 have he : nm = ⟨#[]⟩ → X7 nm = false := by rintro rfl; rfl
 obtain ⟨tk, tks⟩ := ty
 obtain ⟨fk, fks⟩ := fr
 obtain ⟨pt, ct, pf, cf, p, c, es, rfl, hk, hnum, hlb, hty, hfr, hsl, hkl⟩ := hr.open9
 clear hr
 have o2 := B2B nm G
 have o3 := A0N _ G _ hty
 have o4 := A8j _ G _ hty
 have o7 := A8j _ G _ hfr
 refine B6 Tryz.func167 rfl Tryz.ntmps167 Tryz.results167 rfl ?_
 intro w0
 refine tS (tR ?_)
 refine sE (C4 rfl rfl) rfl (fun b3 => ?_)
 refine D5 ?_
 refine sB (qE rfl rfl) rfl rfl (fun h11 => ?_) (fun h11 => ?_)
 refine N2 ?_
 refine sP (E6 rfl rfl (by omega)) rfl rfl ?_
 refine H9 ?_
 refine sP (E6 rfl rfl (by omega)) rfl rfl ?_
 refine J8 ?_
 refine sP (E6 rfl rfl (by omega)) rfl rfl ?_
 refine I8 ?_
 refine F4 rfl (o2) rfl rfl (fun h44 => ?_) (fun h44 => ?_)
 refine sQ (A0h rfl rfl rfl) rfl ?_
 refine A1R ?_
 refine F4 rfl (o4) rfl rfl (fun h70 => ?_) (fun h70 => ?_)
 refine J4 ?_
 refine sP (W7 rfl rfl (by omega)) rfl rfl ?_
 refine H9 ?_
 refine F4 rfl (o7) rfl rfl (fun h88 => ?_) (fun h88 => ?_)
 refine J8 ?_
 refine sB (Q6 rfl rfl) rfl rfl (fun h93 => ?_) (fun h93 => ?_)
 refine J4 ?_
 exact ⟨rfl, by (cases R with | false => rfl | true => (exfalso; obtain ⟨i1, i2, i3, i4, i5, i6, i7⟩ := hi.1 rfl; first | omega | (have j := i1 (by omega); simp_all; done) | (have j := he (i2 (by omega)); simp_all; done) | (have j := i2 (by omega); simp_all; done) | (have j := i3 (by omega); simp_all; done) | (have j := i4 (by omega); simp_all; done) | (have j := i5 (by omega); simp_all; done))), rfl⟩
 refine N2 ?_
 refine sP (E6 rfl rfl (by omega)) rfl rfl ?_
 refine D8 ?_
 refine sB (qE rfl rfl) rfl rfl (fun h130 => ?_) (fun h130 => ?_)
 refine sQ (qA rfl) rfl (sD (nS (tT (D6 (rT rfl) ?_))))
 exact ⟨rfl, by rw [hi.2 ⟨fun _ => by (first | assumption | (exfalso; omega)), fun _ => by (first | assumption | (exfalso; omega) | exact Classical.not_not.1 (by assumption)), fun _ => by (first | assumption | (exfalso; omega)), fun _ => by (first | assumption | (exfalso; omega)), fun _ => ⟨by (first | assumption | (exfalso; omega)), by (first | assumption | omega)⟩, by omega, by omega⟩], rfl⟩
 refine sQ (qA rfl) rfl (sD (nS (tT (D6 (rT rfl) ?_))))
 exact ⟨rfl, by (cases R with | false => rfl | true => (exfalso; obtain ⟨i1, i2, i3, i4, i5, i6, i7⟩ := hi.1 rfl; first | omega | (have j := i1 (by omega); simp_all; done) | (have j := he (i2 (by omega)); simp_all; done) | (have j := i2 (by omega); simp_all; done) | (have j := i3 (by omega); simp_all; done) | (have j := i4 (by omega); simp_all; done) | (have j := i5 (by omega); simp_all; done))), rfl⟩
 refine U9 ?_
 exact ⟨rfl, by (cases R with | false => rfl | true => (exfalso; obtain ⟨i1, i2, i3, i4, i5, i6, i7⟩ := hi.1 rfl; first | omega | (have j := i1 (by omega); simp_all; done) | (have j := he (i2 (by omega)); simp_all; done) | (have j := i2 (by omega); simp_all; done) | (have j := i3 (by omega); simp_all; done) | (have j := i4 (by omega); simp_all; done) | (have j := i5 (by omega); simp_all; done))), rfl⟩
 refine O0 ?_
 exact ⟨rfl, by (cases R with | false => rfl | true => (exfalso; obtain ⟨i1, i2, i3, i4, i5, i6, i7⟩ := hi.1 rfl; first | omega | (have j := i1 (by omega); simp_all; done) | (have j := he (i2 (by omega)); simp_all; done) | (have j := i2 (by omega); simp_all; done) | (have j := i3 (by omega); simp_all; done) | (have j := i4 (by omega); simp_all; done) | (have j := i5 (by omega); simp_all; done))), rfl⟩
 refine sQ (A8q rfl rfl rfl) rfl ?_
 refine Y4 ?_
 refine D8 ?_
 exact ⟨rfl, by (cases R with | false => rfl | true => (exfalso; obtain ⟨i1, i2, i3, i4, i5, i6, i7⟩ := hi.1 rfl; first | omega | (have j := i1 (by omega); simp_all; done) | (have j := he (i2 (by omega)); simp_all; done) | (have j := i2 (by omega); simp_all; done) | (have j := i3 (by omega); simp_all; done) | (have j := i4 (by omega); simp_all; done) | (have j := i5 (by omega); simp_all; done))), rfl⟩
 refine H9 ?_
 refine sB (qE rfl rfl) rfl rfl (fun h221 => ?_) (fun h221 => ?_)
 refine F8 ?_
 refine sP (Q8 rfl rfl (by omega)) rfl rfl ?_
 refine A0m ?_
 refine F4 rfl (o2) rfl rfl (fun h250 => ?_) (fun h250 => ?_)
 refine sQ (A0h rfl rfl rfl) rfl ?_
 refine O0 ?_
 refine F4 rfl (o3) rfl rfl (fun h266 => ?_) (fun h266 => ?_)
 refine A0A ?_
 refine sP (W7 rfl rfl (by omega)) rfl rfl ?_
 refine H9 ?_
 refine F4 rfl (o7) rfl rfl (fun h294 => ?_) (fun h294 => ?_)
 refine J8 ?_
 refine sB (Q6 rfl rfl) rfl rfl (fun h299 => ?_) (fun h299 => ?_)
 refine J4 ?_
 exact ⟨rfl, by (cases R with | false => rfl | true => (exfalso; obtain ⟨i1, i2, i3, i4, i5, i6, i7⟩ := hi.1 rfl; first | omega | (have j := i1 (by omega); simp_all; done) | (have j := he (i2 (by omega)); simp_all; done) | (have j := i2 (by omega); simp_all; done) | (have j := i3 (by omega); simp_all; done) | (have j := i4 (by omega); simp_all; done) | (have j := i5 (by omega); simp_all; done))), rfl⟩
 refine N2 ?_
 refine sP (E6 rfl rfl (by omega)) rfl rfl ?_
 refine D8 ?_
 refine sB (qE rfl rfl) rfl rfl (fun h336 => ?_) (fun h336 => ?_)
 refine sQ (qA rfl) rfl (sD (nS (tT (D6 (rT rfl) ?_))))
 exact ⟨rfl, by rw [hi.2 ⟨fun _ => by (first | assumption | (exfalso; omega)), fun _ => by (first | assumption | (exfalso; omega) | exact Classical.not_not.1 (by assumption)), fun _ => by (first | assumption | (exfalso; omega)), fun _ => by (first | assumption | (exfalso; omega)), fun _ => ⟨by (first | assumption | (exfalso; omega)), by (first | assumption | omega)⟩, by omega, by omega⟩], rfl⟩
 refine sQ (qA rfl) rfl (sD (nS (tT (D6 (rT rfl) ?_))))
 exact ⟨rfl, by (cases R with | false => rfl | true => (exfalso; obtain ⟨i1, i2, i3, i4, i5, i6, i7⟩ := hi.1 rfl; first | omega | (have j := i1 (by omega); simp_all; done) | (have j := he (i2 (by omega)); simp_all; done) | (have j := i2 (by omega); simp_all; done) | (have j := i3 (by omega); simp_all; done) | (have j := i4 (by omega); simp_all; done) | (have j := i5 (by omega); simp_all; done))), rfl⟩
 refine U9 ?_
 exact ⟨rfl, by (cases R with | false => rfl | true => (exfalso; obtain ⟨i1, i2, i3, i4, i5, i6, i7⟩ := hi.1 rfl; first | omega | (have j := i1 (by omega); simp_all; done) | (have j := he (i2 (by omega)); simp_all; done) | (have j := i2 (by omega); simp_all; done) | (have j := i3 (by omega); simp_all; done) | (have j := i4 (by omega); simp_all; done) | (have j := i5 (by omega); simp_all; done))), rfl⟩
 refine A1R ?_
 exact ⟨rfl, by (cases R with | false => rfl | true => (exfalso; obtain ⟨i1, i2, i3, i4, i5, i6, i7⟩ := hi.1 rfl; first | omega | (have j := i1 (by omega); simp_all; done) | (have j := he (i2 (by omega)); simp_all; done) | (have j := i2 (by omega); simp_all; done) | (have j := i3 (by omega); simp_all; done) | (have j := i4 (by omega); simp_all; done) | (have j := i5 (by omega); simp_all; done))), rfl⟩
 refine sQ (A8q rfl rfl rfl) rfl ?_
 refine Y4 ?_
 refine D8 ?_
 exact ⟨rfl, by (cases R with | false => rfl | true => (exfalso; obtain ⟨i1, i2, i3, i4, i5, i6, i7⟩ := hi.1 rfl; first | omega | (have j := i1 (by omega); simp_all; done) | (have j := he (i2 (by omega)); simp_all; done) | (have j := i2 (by omega); simp_all; done) | (have j := i3 (by omega); simp_all; done) | (have j := i4 (by omega); simp_all; done) | (have j := i5 (by omega); simp_all; done))), rfl⟩
 refine F8 ?_
 refine sP (E6 rfl rfl (by omega)) rfl rfl ?_
 refine H9 ?_
 refine sB (qE rfl rfl) rfl rfl (fun h446 => ?_) (fun h446 => ?_)
 refine K0 ?_
 refine F4 rfl (o2) rfl rfl (fun h462 => ?_) (fun h462 => ?_)
 refine sQ (A5Q rfl rfl rfl) rfl ?_
 refine Y4 ?_
 refine D8 ?_
 exact ⟨rfl, by (cases R with | false => rfl | true => (exfalso; obtain ⟨i1, i2, i3, i4, i5, i6, i7⟩ := hi.1 rfl; first | omega | (have j := i1 (by omega); simp_all; done) | (have j := he (i2 (by omega)); simp_all; done) | (have j := i2 (by omega); simp_all; done) | (have j := i3 (by omega); simp_all; done) | (have j := i4 (by omega); simp_all; done) | (have j := i5 (by omega); simp_all; done))), rfl⟩
 refine sQ (A0h rfl rfl rfl) rfl ?_
 refine J9 ?_
 refine sB (A2d rfl rfl) rfl rfl (fun h511 => ?_) (fun h511 => ?_)
 refine Y4 ?_
 refine rS (D6 (rT rfl) ?_)
 exact ⟨rfl, by (cases R with | false => rfl | true => (exfalso; obtain ⟨i1, i2, i3, i4, i5, i6, i7⟩ := hi.1 rfl; first | omega | (have j := i1 (by omega); simp_all; done) | (have j := he (i2 (by omega)); simp_all; done) | (have j := i2 (by omega); simp_all; done) | (have j := i3 (by omega); simp_all; done) | (have j := i4 (by omega); simp_all; done) | (have j := i5 (by omega); simp_all; done))), rfl⟩
 refine D5 ?_
 refine F4 rfl (o3) rfl rfl (fun h552 => ?_) (fun h552 => ?_)
 refine A0A ?_
 refine sP (W7 rfl rfl (by omega)) rfl rfl ?_
 refine H9 ?_
 refine F4 rfl (o7) rfl rfl (fun h580 => ?_) (fun h580 => ?_)
 refine J8 ?_
 refine sB (Q6 rfl rfl) rfl rfl (fun h585 => ?_) (fun h585 => ?_)
 refine J4 ?_
 exact ⟨rfl, by (cases R with | false => rfl | true => (exfalso; obtain ⟨i1, i2, i3, i4, i5, i6, i7⟩ := hi.1 rfl; first | omega | (have j := i1 (by omega); simp_all; done) | (have j := he (i2 (by omega)); simp_all; done) | (have j := i2 (by omega); simp_all; done) | (have j := i3 (by omega); simp_all; done) | (have j := i4 (by omega); simp_all; done) | (have j := i5 (by omega); simp_all; done))), rfl⟩
 refine N2 ?_
 refine sP (E6 rfl rfl (by omega)) rfl rfl ?_
 refine D8 ?_
 refine sB (qE rfl rfl) rfl rfl (fun h622 => ?_) (fun h622 => ?_)
 refine sQ (qA rfl) rfl (sD (nS (tT (D6 (rT rfl) ?_))))
 exact ⟨rfl, by rw [hi.2 ⟨fun _ => by (first | assumption | (exfalso; omega)), fun _ => by (first | assumption | (exfalso; omega) | exact Classical.not_not.1 (by assumption)), fun _ => by (first | assumption | (exfalso; omega)), fun _ => by (first | assumption | (exfalso; omega)), fun _ => ⟨by (first | assumption | (exfalso; omega)), by (first | assumption | omega)⟩, by omega, by omega⟩], rfl⟩
 refine sQ (qA rfl) rfl (sD (nS (tT (D6 (rT rfl) ?_))))
 exact ⟨rfl, by (cases R with | false => rfl | true => (exfalso; obtain ⟨i1, i2, i3, i4, i5, i6, i7⟩ := hi.1 rfl; first | omega | (have j := i1 (by omega); simp_all; done) | (have j := he (i2 (by omega)); simp_all; done) | (have j := i2 (by omega); simp_all; done) | (have j := i3 (by omega); simp_all; done) | (have j := i4 (by omega); simp_all; done) | (have j := i5 (by omega); simp_all; done))), rfl⟩
 refine U9 ?_
 exact ⟨rfl, by (cases R with | false => rfl | true => (exfalso; obtain ⟨i1, i2, i3, i4, i5, i6, i7⟩ := hi.1 rfl; first | omega | (have j := i1 (by omega); simp_all; done) | (have j := he (i2 (by omega)); simp_all; done) | (have j := i2 (by omega); simp_all; done) | (have j := i3 (by omega); simp_all; done) | (have j := i4 (by omega); simp_all; done) | (have j := i5 (by omega); simp_all; done))), rfl⟩
 refine A1R ?_
 exact ⟨rfl, by (cases R with | false => rfl | true => (exfalso; obtain ⟨i1, i2, i3, i4, i5, i6, i7⟩ := hi.1 rfl; first | omega | (have j := i1 (by omega); simp_all; done) | (have j := he (i2 (by omega)); simp_all; done) | (have j := i2 (by omega); simp_all; done) | (have j := i3 (by omega); simp_all; done) | (have j := i4 (by omega); simp_all; done) | (have j := i5 (by omega); simp_all; done))), rfl⟩
 refine J8 ?_
 refine sB (qE rfl rfl) rfl rfl (fun h683 => ?_) (fun h683 => ?_)
 refine I8 ?_
 refine F4 rfl (o2) rfl rfl (fun h694 => ?_) (fun h694 => ?_)
 refine sQ (A5Q rfl rfl rfl) rfl ?_
 refine Y4 ?_
 refine D8 ?_
 exact ⟨rfl, by (cases R with | false => rfl | true => (exfalso; obtain ⟨i1, i2, i3, i4, i5, i6, i7⟩ := hi.1 rfl; first | omega | (have j := i1 (by omega); simp_all; done) | (have j := he (i2 (by omega)); simp_all; done) | (have j := i2 (by omega); simp_all; done) | (have j := i3 (by omega); simp_all; done) | (have j := i4 (by omega); simp_all; done) | (have j := i5 (by omega); simp_all; done))), rfl⟩
 refine sQ (A0h rfl rfl rfl) rfl ?_
 refine J9 ?_
 refine sB (A2d rfl rfl) rfl rfl (fun h743 => ?_) (fun h743 => ?_)
 refine Y4 ?_
 refine rS (D6 (rT rfl) ?_)
 exact ⟨rfl, by (cases R with | false => rfl | true => (exfalso; obtain ⟨i1, i2, i3, i4, i5, i6, i7⟩ := hi.1 rfl; first | omega | (have j := i1 (by omega); simp_all; done) | (have j := he (i2 (by omega)); simp_all; done) | (have j := i2 (by omega); simp_all; done) | (have j := i3 (by omega); simp_all; done) | (have j := i4 (by omega); simp_all; done) | (have j := i5 (by omega); simp_all; done))), rfl⟩
 refine D5 ?_
 refine F4 rfl (o3) rfl rfl (fun h784 => ?_) (fun h784 => ?_)
 refine A0A ?_
 refine sP (A1y rfl rfl (by omega)) rfl rfl ?_
 refine Z3 ?_
 refine sP (E6 rfl rfl (by omega)) rfl rfl ?_
 refine D8 ?_
 refine sB (qE rfl rfl) rfl rfl (fun h840 => ?_) (fun h840 => ?_)
 refine sQ (qA rfl) rfl (sD (nS (tT (D6 (rT rfl) ?_))))
 exact ⟨rfl, by rw [hi.2 ⟨fun _ => by (first | assumption | (exfalso; omega)), fun _ => by (first | assumption | (exfalso; omega) | exact Classical.not_not.1 (by assumption)), fun _ => by (first | assumption | (exfalso; omega)), fun _ => by (first | assumption | (exfalso; omega)), fun _ => ⟨by (first | assumption | (exfalso; omega)), by (first | assumption | omega)⟩, by omega, by omega⟩], rfl⟩
 refine sQ (qA rfl) rfl (sD (nS (tT (D6 (rT rfl) ?_))))
 exact ⟨rfl, by (cases R with | false => rfl | true => (exfalso; obtain ⟨i1, i2, i3, i4, i5, i6, i7⟩ := hi.1 rfl; first | omega | (have j := i1 (by omega); simp_all; done) | (have j := he (i2 (by omega)); simp_all; done) | (have j := i2 (by omega); simp_all; done) | (have j := i3 (by omega); simp_all; done) | (have j := i4 (by omega); simp_all; done) | (have j := i5 (by omega); simp_all; done))), rfl⟩
 refine A1R ?_
 exact ⟨rfl, by (cases R with | false => rfl | true => (exfalso; obtain ⟨i1, i2, i3, i4, i5, i6, i7⟩ := hi.1 rfl; first | omega | (have j := i1 (by omega); simp_all; done) | (have j := he (i2 (by omega)); simp_all; done) | (have j := i2 (by omega); simp_all; done) | (have j := i3 (by omega); simp_all; done) | (have j := i4 (by omega); simp_all; done) | (have j := i5 (by omega); simp_all; done))), rfl⟩
 refine I8 ?_
 refine F4 rfl (o2) rfl rfl (fun h888 => ?_) (fun h888 => ?_)
 refine sQ (A5Q rfl rfl rfl) rfl ?_
 refine Y4 ?_
 refine D8 ?_
 exact ⟨rfl, by (cases R with | false => rfl | true => (exfalso; obtain ⟨i1, i2, i3, i4, i5, i6, i7⟩ := hi.1 rfl; first | omega | (have j := i1 (by omega); simp_all; done) | (have j := he (i2 (by omega)); simp_all; done) | (have j := i2 (by omega); simp_all; done) | (have j := i3 (by omega); simp_all; done) | (have j := i4 (by omega); simp_all; done) | (have j := i5 (by omega); simp_all; done))), rfl⟩
 refine sQ (A0h rfl rfl rfl) rfl ?_
 refine J9 ?_
 refine sB (A2d rfl rfl) rfl rfl (fun h937 => ?_) (fun h937 => ?_)
 refine Y4 ?_
 refine rS (D6 (rT rfl) ?_)
 exact ⟨rfl, by (cases R with | false => rfl | true => (exfalso; obtain ⟨i1, i2, i3, i4, i5, i6, i7⟩ := hi.1 rfl; first | omega | (have j := i1 (by omega); simp_all; done) | (have j := he (i2 (by omega)); simp_all; done) | (have j := i2 (by omega); simp_all; done) | (have j := i3 (by omega); simp_all; done) | (have j := i4 (by omega); simp_all; done) | (have j := i5 (by omega); simp_all; done))), rfl⟩
 refine P7 ?_
 refine F4 rfl (o4) rfl rfl (fun h988 => ?_) (fun h988 => ?_)
 refine J4 ?_
 refine sP (W7 rfl rfl (by omega)) rfl rfl ?_
 refine H9 ?_
 refine F4 rfl (o7) rfl rfl (fun h1006 => ?_) (fun h1006 => ?_)
 refine J8 ?_
 refine sB (Q6 rfl rfl) rfl rfl (fun h1011 => ?_) (fun h1011 => ?_)
 refine J4 ?_
 exact ⟨rfl, by (cases R with | false => rfl | true => (exfalso; obtain ⟨i1, i2, i3, i4, i5, i6, i7⟩ := hi.1 rfl; first | omega | (have j := i1 (by omega); simp_all; done) | (have j := he (i2 (by omega)); simp_all; done) | (have j := i2 (by omega); simp_all; done) | (have j := i3 (by omega); simp_all; done) | (have j := i4 (by omega); simp_all; done) | (have j := i5 (by omega); simp_all; done))), rfl⟩
 refine N2 ?_
 refine sB (qE rfl rfl) rfl rfl (fun h1038 => ?_) (fun h1038 => ?_)
 refine D5 ?_
 refine sB (A0G rfl rfl) rfl rfl (fun h1046 => ?_) (fun h1046 => ?_)
 refine H9 ?_
 refine sB (A0c rfl rfl) rfl rfl (fun h1050 => ?_) (fun h1050 => ?_)
 refine D5 ?_
 exact ⟨rfl, by rw [hi.2 ⟨fun _ => by (first | assumption | (exfalso; omega)), fun _ => by (first | assumption | (exfalso; omega) | exact Classical.not_not.1 (by assumption)), fun _ => by (first | assumption | (exfalso; omega)), fun _ => by (first | assumption | (exfalso; omega)), fun _ => ⟨by (first | assumption | (exfalso; omega)), by (first | assumption | omega)⟩, by omega, by omega⟩], rfl⟩
 refine D5 ?_
 exact ⟨rfl, by (cases R with | false => rfl | true => (exfalso; obtain ⟨i1, i2, i3, i4, i5, i6, i7⟩ := hi.1 rfl; first | omega | (have j := i1 (by omega); simp_all; done) | (have j := he (i2 (by omega)); simp_all; done) | (have j := i2 (by omega); simp_all; done) | (have j := i3 (by omega); simp_all; done) | (have j := i4 (by omega); simp_all; done) | (have j := i5 (by omega); simp_all; done))), rfl⟩
 refine J6 ?_
 exact ⟨rfl, by (cases R with | false => rfl | true => (exfalso; obtain ⟨i1, i2, i3, i4, i5, i6, i7⟩ := hi.1 rfl; first | omega | (have j := i1 (by omega); simp_all; done) | (have j := he (i2 (by omega)); simp_all; done) | (have j := i2 (by omega); simp_all; done) | (have j := i3 (by omega); simp_all; done) | (have j := i4 (by omega); simp_all; done) | (have j := i5 (by omega); simp_all; done))), rfl⟩
 refine D8 ?_
 refine sB (qE rfl rfl) rfl rfl (fun h1088 => ?_) (fun h1088 => ?_)
 refine sQ (qA rfl) rfl (sD (nS (tT (D6 (rT rfl) ?_))))
 exact ⟨rfl, by rw [hi.2 ⟨fun _ => by (first | assumption | (exfalso; omega)), fun _ => by (first | assumption | (exfalso; omega) | exact Classical.not_not.1 (by assumption)), fun _ => by (first | assumption | (exfalso; omega)), fun _ => by (first | assumption | (exfalso; omega)), fun _ => ⟨by (first | assumption | (exfalso; omega)), by (first | assumption | omega)⟩, by omega, by omega⟩], rfl⟩
 refine sQ (qA rfl) rfl (sD (nS (tT (D6 (rT rfl) ?_))))
 exact ⟨rfl, by (cases R with | false => rfl | true => (exfalso; obtain ⟨i1, i2, i3, i4, i5, i6, i7⟩ := hi.1 rfl; first | omega | (have j := i1 (by omega); simp_all; done) | (have j := he (i2 (by omega)); simp_all; done) | (have j := i2 (by omega); simp_all; done) | (have j := i3 (by omega); simp_all; done) | (have j := i4 (by omega); simp_all; done) | (have j := i5 (by omega); simp_all; done))), rfl⟩
 refine U9 ?_
 exact ⟨rfl, by (cases R with | false => rfl | true => (exfalso; obtain ⟨i1, i2, i3, i4, i5, i6, i7⟩ := hi.1 rfl; first | omega | (have j := i1 (by omega); simp_all; done) | (have j := he (i2 (by omega)); simp_all; done) | (have j := i2 (by omega); simp_all; done) | (have j := i3 (by omega); simp_all; done) | (have j := i4 (by omega); simp_all; done) | (have j := i5 (by omega); simp_all; done))), rfl⟩
 refine O0 ?_
 exact ⟨rfl, by (cases R with | false => rfl | true => (exfalso; obtain ⟨i1, i2, i3, i4, i5, i6, i7⟩ := hi.1 rfl; first | omega | (have j := i1 (by omega); simp_all; done) | (have j := he (i2 (by omega)); simp_all; done) | (have j := i2 (by omega); simp_all; done) | (have j := i3 (by omega); simp_all; done) | (have j := i4 (by omega); simp_all; done) | (have j := i5 (by omega); simp_all; done))), rfl⟩
mutual
def L4 (D N : Int) : Tm → Int → Bool
 | .mk k nm num ty fr lb ks, deep => decide (deep ≤ D) && decide (k ≠ N) && U4 k nm num ty fr lb ks.length && O6 D N ks (deep + 1)
def O6 (D N : Int) : List Tm → Int → Bool
 | [], _ => true
 | t :: ts, deep => L4 D N t deep && O6 D N ts deep
end
theorem A06 (D N : Int) : ∀ (ts : List Tm) (d : Int), O6 D N ts d = true ↔ ∀ i, (h : i < ts.length) → L4 D N ts[i] d = true
 | [], d => by simp [O6]
 | t :: ts, d => by
  simp only [O6, Bool.and_eq_true, A06 D N ts d]
  constructor
  ·rintro ⟨h1, h2⟩ i hi
   cases i with
   | zero => exact h1
   | succ i => exact h2 i (by simpa using hi)
  ·intro h
   exact ⟨h 0 (by simp), fun i hi => h (i + 1) (by simpa using hi)⟩
theorem A1f {D N : Int} {k : Int} {nm : ByteArray} {num : Int} {ty fr : Ty} {lb : Int} {ks : List Tm} {d : Int} (h : D < d ∨ k = N ∨ U4 k nm num ty fr lb ks.length = false) : L4 D N (.mk k nm num ty fr lb ks) d = false := by
 rw [L4]
 rcases h with h | h | h
 ·rw [decide_eq_false (by omega)]; rfl
 ·rw [decide_eq_false (p := k ≠ N) (by omega), Bool.and_false]; rfl
 ·rw [h, Bool.and_false]; rfl
theorem A2n {D N : Int} {k : Int} {nm : ByteArray} {num : Int} {ty fr : Ty} {lb : Int} {ks : List Tm} {d : Int} (h1 : d ≤ D) (h2 : k ≠ N) (h3 : U4 k nm num ty fr lb ks.length = true) : L4 D N (.mk k nm num ty fr lb ks) d = O6 D N ks (d + 1) := by
 rw [L4, decide_eq_true h1, decide_eq_true h2, h3]; rfl
theorem A5R {D N : Int} {ks : List Tm} {d : Int} {i : Nat} (hi : i < ks.length) (h : L4 D N ks[i] d = false) : O6 D N ks d = false := by
 cases hx : O6 D N ks d with
 | false => rfl
 | true => rw [(A06 D N ks d).1 hx i hi] at h; cases h
theorem B2J {k : Int} {nm : ByteArray} {num : Int} {ty fr : Ty} {lb : Int} {n : Nat} (hk : k = 14) (ha : D3 k = n) : U4 k nm num ty fr lb n = true ↔ nm = ⟨#[]⟩ ∧ num = 0 ∧ (1 ≤ A0p lb ∧ A0p lb ≤ 99) ∧ M5 ty = true ∧ M5 fr = true ∧ P1 fr ty = true := by
 rw [X8, B2H]
 simp only [S4, A0K, decide_eq_true_eq, Bool.and_eq_true]
 constructor
 ·rintro ⟨_, _, h3, _, h5, h6, _, h8, _⟩
  have h8 := h8 hk
  exact ⟨h3 (by omega), by have := h5 (by omega); omega, h8.2, h6 (by omega), h8.1.1.1, h8.1.2⟩
 ·rintro ⟨h1, h2, h3, h4, h5, h6⟩
  exact ⟨ha, fun h => absurd h (by omega), fun _ => h1, fun h => absurd h (by omega), fun _ => by omega, fun _ => h4, fun h => absurd h (by omega), fun _ => ⟨⟨⟨h5, h4⟩, h6⟩, h3⟩, fun h => absurd hk h⟩
theorem A8s {k : Int} {nm : ByteArray} {num : Int} {ty fr : Ty} {lb : Int} {n : Nat} (hk : k ≠ 14) (ha : D3 k = n) : U4 k nm num ty fr lb n = true ↔
  (k = 1 ∨ k = 5 → X7 nm = true) ∧ (¬(k = 1 ∨ k = 5) → nm = ⟨#[]⟩) ∧ (k = 5 ∨ k = 13 ∨ k = 14 → M5 ty = true) ∧ (¬(k = 5 ∨ k = 13 ∨ k = 14) → X6 ty = true) ∧ (k ≠ 14 → X6 fr = true ∧ lb = 0) ∧ (k = 2 → 0 ≤ num ∧ num ≤ 999) ∧ (k ≠ 2 → num = 0) := by
 rw [X8]
 simp only [S4, decide_eq_true_eq]
 constructor
 ·rintro ⟨_, h2, h3, h4, h5, h6, h7, _, h9⟩
  exact ⟨h2, h3, h6, h7, h9, h4, fun h => by have := h5 h; omega⟩
 ·rintro ⟨h2, h3, h6, h7, h9, h4, h5⟩
  exact ⟨ha, h2, h3, h4, fun h => by have := h5 h; omega, h6, h7, fun h => absurd h hk, h9⟩
theorem B2K : ∀ (t : Tm) (d : Int) (G : IM) (cells : List Value), 0 ≤ d ∧ d ≤ 40 → A8 G t cells →
  Fn Tryz.prog 119 [.agg ⟨cells⟩, .int .i64 d] [] G (J3 (.bool (L4 40 13 t (41 - d))) G) := by
 refine Tm.ind fun k nm num ty fr lb ks ih d G cells hd hr => ?_
 have hr0 := hr
 have h14 := fun h : k = 14 => @B2J k nm num ty fr lb ks.length h
 have hne := fun h : k ≠ 14 => @A8s k nm num ty fr lb ks.length h
 have har := fun h : U4 k nm num ty fr lb ks.length = true => (X8.1 h).1
 obtain ⟨R, hR⟩ : ∃ R, U4 k nm num ty fr lb ks.length = R := ⟨_, rfl⟩
 rw [hR] at h14 hne har
 have hlo := B2I k nm num ty fr lb ks G cells hr0 R
 have hl2 := A8r k nm num ty fr lb ks G cells hr0 R
 have hk1 := A4v k G
 obtain ⟨tk, tks⟩ := ty
 obtain ⟨fk, fks⟩ := fr
 obtain ⟨pt, ct, pf, cf, p, c, es, rfl, hk, hnum, hlb, hty, hfr, hsl, hkl⟩ := hr.open9
 have hn := hsl.le
 clear hr hr0
 refine B6 Tryz.func119 rfl Tryz.ntmps119 Tryz.results119 rfl ?_
 intro w0
 refine tS (tR ?_)
 refine sE (C4 rfl rfl) rfl (fun b3 => ?_)
 refine sQ (qA rfl) rfl (sD (nS (tS (tS ?_))))
 refine D1 D2 rfl ?_
 refine I4 (i := 0) (l' := [tt,ff,ff,ff,ff,ff,ff,ff,ff,ff,ff,ff,ff,ff,ff,ff,ff,ff,ff,ff,ff,ff,ff,ff,ff,ff,ff,ff,ff,ff,ff,ff,ff,ff,ff,ff]) rfl C8 (qM rfl) rfl (by kernel_rfl) rfl rfl ?_
 refine A01 (i := 1) (l' := [tt,tt,ff,ff,ff,ff,ff,ff,ff,ff,ff,ff,ff,ff,ff,ff,ff,ff,ff,ff,ff,ff,ff,ff,ff,ff,ff,ff,ff,ff,ff,ff,ff,ff,ff,ff]) rfl C8 (M2 rfl rfl) rfl (by kernel_rfl) rfl rfl (fun h11 => ?_) (fun h11 => ?_)
 refine aP 2 rfl (qM rfl) rfl ?_
 refine B3 3 rfl rfl rfl ?_
 refine B3 4 rfl rfl rfl ?_
 refine B3 6 rfl rfl rfl ?_
 refine B3 7 rfl rfl rfl ?_
 refine B3 8 rfl rfl rfl ?_
 refine B3 5 rfl rfl rfl ?_
 refine B3 9 rfl rfl rfl ?_
 refine aP 10 rfl (K1 rfl rfl) rfl ?_
 refine aP 11 rfl (qM rfl) rfl ?_
 refine B3 12 rfl rfl rfl ?_
 refine B3 13 rfl rfl rfl ?_
 refine B3 14 rfl rfl rfl ?_
 refine aP 15 rfl (K1 rfl rfl) rfl ?_
 refine aP 16 rfl (qM rfl) rfl ?_
 refine B3 17 rfl rfl rfl ?_
 refine B3 18 rfl rfl rfl ?_
 refine B3 19 rfl rfl rfl ?_
 refine B3 20 rfl rfl rfl ?_
 refine B3 21 rfl rfl rfl ?_
 refine B3 22 rfl rfl rfl ?_
 refine B3 23 rfl rfl rfl ?_
 refine B3 24 rfl rfl rfl ?_
 refine aP 25 rfl (K1 rfl rfl) rfl ?_
 refine aP 26 rfl (qM rfl) rfl ?_
 refine B3 27 rfl rfl rfl ?_
 refine B3 28 rfl rfl rfl ?_
 refine B3 29 rfl rfl rfl ?_
 refine B3 30 rfl rfl rfl ?_
 refine B3 31 rfl rfl rfl ?_
 refine B3 32 rfl rfl rfl ?_
 refine B3 33 rfl rfl rfl ?_
 refine B3 34 rfl rfl rfl ?_
 refine aP 35 rfl (K1 rfl rfl) rfl ?_
 refine J6 ?_
 (rw [A1f (by rw [hR]; first | omega | exact .inr (.inr (by assumption)) | exact .inr (.inr (by cases R with | false => rfl | true => exact absurd (har rfl) (by omega))))]; exact ⟨rfl, rfl, rfl⟩)
 refine aP 2 rfl (qM rfl) rfl ?_
 refine aP 3 rfl (B5 rfl) rfl ?_
 refine aL 4 rfl (C7 rfl rfl) rfl ?_
 refine aP 6 rfl (B5 rfl) rfl ?_
 refine aL 7 rfl (C7 rfl rfl) rfl ?_
 refine aP 8 rfl (pLn rfl rfl) rfl ?_
 refine A2 5 ?_
 refine J0 rfl rfl (hk1) rfl rfl rfl ?_
 refine A01 (i := 9) (l' := [tt,tt,tt,tt,tt,tt,tt,tt,tt,tt,ff,ff,ff,ff,ff,ff,ff,ff,ff,ff,ff,ff,ff,ff,ff,ff,ff,ff,ff,ff,ff,ff,ff,ff,ff,ff]) rfl C8 (Q6 rfl rfl) rfl (by kernel_rfl) rfl rfl (fun h66 => ?_) (fun h66 => ?_)
 refine aP 10 rfl (L6 rfl rfl) rfl ?_
 refine aP 11 rfl (qM rfl) rfl ?_
 refine B3 12 rfl rfl rfl ?_
 refine B3 13 rfl rfl rfl ?_
 refine B3 14 rfl rfl rfl ?_
 refine aP 15 rfl (K1 rfl rfl) rfl ?_
 refine aP 16 rfl (qM rfl) rfl ?_
 refine B3 17 rfl rfl rfl ?_
 refine B3 18 rfl rfl rfl ?_
 refine B3 19 rfl rfl rfl ?_
 refine B3 20 rfl rfl rfl ?_
 refine B3 21 rfl rfl rfl ?_
 refine B3 22 rfl rfl rfl ?_
 refine B3 23 rfl rfl rfl ?_
 refine B3 24 rfl rfl rfl ?_
 refine aP 25 rfl (K1 rfl rfl) rfl ?_
 refine aP 26 rfl (qM rfl) rfl ?_
 refine B3 27 rfl rfl rfl ?_
 refine B3 28 rfl rfl rfl ?_
 refine B3 29 rfl rfl rfl ?_
 refine B3 30 rfl rfl rfl ?_
 refine B3 31 rfl rfl rfl ?_
 refine B3 32 rfl rfl rfl ?_
 refine B3 33 rfl rfl rfl ?_
 refine B3 34 rfl rfl rfl ?_
 refine aP 35 rfl (K1 rfl rfl) rfl ?_
 refine J6 ?_
 (rw [A1f (by rw [hR]; first | omega | exact .inr (.inr (by assumption)) | exact .inr (.inr (by cases R with | false => rfl | true => exact absurd (har rfl) (by omega))))]; exact ⟨rfl, rfl, rfl⟩)
 refine aP 10 rfl (L6 rfl rfl) rfl ?_
 refine aP 11 rfl (qM rfl) rfl ?_
 refine aP 12 rfl (B5 rfl) rfl ?_
 refine aL 13 rfl (C7 rfl rfl) rfl ?_
 refine A01 (i := 14) (l' := [tt,tt,tt,tt,tt,tt,tt,tt,tt,tt,tt,tt,tt,tt,tt,ff,ff,ff,ff,ff,ff,ff,ff,ff,ff,ff,ff,ff,ff,ff,ff,ff,ff,ff,ff,ff]) rfl C8 (qE rfl rfl) rfl (by kernel_rfl) rfl rfl (fun h109 => ?_) (fun h109 => ?_)
 refine aP 15 rfl (L6 rfl rfl) rfl ?_
 refine aP 16 rfl (qM rfl) rfl ?_
 refine B3 17 rfl rfl rfl ?_
 refine B3 18 rfl rfl rfl ?_
 refine B3 19 rfl rfl rfl ?_
 refine B3 20 rfl rfl rfl ?_
 refine B3 21 rfl rfl rfl ?_
 refine B3 22 rfl rfl rfl ?_
 refine B3 23 rfl rfl rfl ?_
 refine B3 24 rfl rfl rfl ?_
 refine aP 25 rfl (K1 rfl rfl) rfl ?_
 refine aP 26 rfl (qM rfl) rfl ?_
 refine B3 27 rfl rfl rfl ?_
 refine B3 28 rfl rfl rfl ?_
 refine B3 29 rfl rfl rfl ?_
 refine B3 30 rfl rfl rfl ?_
 refine B3 31 rfl rfl rfl ?_
 refine B3 32 rfl rfl rfl ?_
 refine B3 33 rfl rfl rfl ?_
 refine B3 34 rfl rfl rfl ?_
 refine aP 35 rfl (K1 rfl rfl) rfl ?_
 refine J6 ?_
 (rw [A1f (by rw [hR]; first | omega | exact .inr (.inr (by assumption)) | exact .inr (.inr (by cases R with | false => rfl | true => exact absurd (har rfl) (by omega))))]; exact ⟨rfl, rfl, rfl⟩)
 refine aP 15 rfl (L6 rfl rfl) rfl ?_
 refine aP 16 rfl (qM rfl) rfl ?_
 refine aP 17 rfl (B5 rfl) rfl ?_
 refine aL 18 rfl (C7 rfl rfl) rfl ?_
 refine A01 (i := 19) (l' := [tt,tt,tt,tt,tt,tt,tt,tt,tt,tt,tt,tt,tt,tt,tt,tt,tt,tt,tt,tt,ff,ff,ff,ff,ff,ff,ff,ff,ff,ff,ff,ff,ff,ff,ff,ff]) rfl C8 (qE rfl rfl) rfl (by kernel_rfl) rfl rfl (fun h147 => ?_) (fun h147 => ?_)
 refine aP 20 rfl (qM rfl) rfl ?_
 refine aL 21 rfl (A4 rfl rfl) rfl ?_
 refine A2 22 ?_
 refine R1 rfl rfl (hlo (h14 (by omega) (by omega))) rfl rfl rfl (fun h151 => ?_) (fun h151 => ?_)
 refine aP 23 rfl (Q5 rfl) rfl ?_
 refine aP 24 rfl (K1 rfl rfl) rfl ?_
 refine aP 25 rfl (L6 rfl rfl) rfl ?_
 refine aP 26 rfl (qM rfl) rfl ?_
 refine aP 27 rfl (B5 rfl) rfl ?_
 refine aL 28 rfl (C7 rfl rfl) rfl ?_
 refine aP 29 rfl (A1y rfl rfl (by omega)) rfl ?_
 refine aP 30 rfl (qM rfl) rfl ?_
 refine B3 31 rfl rfl rfl ?_
 refine B3 32 rfl rfl rfl ?_
 refine B3 33 rfl rfl rfl ?_
 refine aP 34 rfl (L6 rfl rfl) rfl ?_
 refine aP 35 rfl (L6 rfl rfl) rfl ?_
 refine J6 ?_
 refine C3 ?_
 (refine M6 (fun (i : Nat) => ⟨[(5, .int .i64 i), (2, .pointer (some ⟨b3, 0, none⟩)), (1, .int .i64 d)], [.blk b3 [.int .i64 k, .string nm, .int .i64 num, .int .i64 tk, .slice pt tks.length ct, .int .i64 fk, .slice pf fks.length cf, .int .i64 lb, .slice p ks.length c]], G⟩) (fun i => i ≤ ks.length ∧ ∀ j (h : j < ks.length), j < i → L4 40 13 ks[j] (41 - d + 1) = true) (fun i => ks.length - i) 0 ?_ ?_ ?_)
 exact E1
 exact ⟨by omega, by omega⟩
 (rintro i ⟨hi, hf⟩)
 refine D5 ?_
 refine sB (M2 rfl rfl) rfl rfl (fun h188 => ?_) (fun h188 => ?_)
 refine sD (nS (qT rfl (tK (nS (tS ?_)))))
 refine C3 ?_
 refine R0 ?_
 (obtain ⟨b, o, e, rfl, hl, hat, hre, hgb⟩ := hsl.kidTm hkl (i := i) (by omega) (by omega); refine sP (B4 rfl rfl rfl (by omega)) rfl rfl ?_)
 refine sL (A3 rfl rfl (hat _) hl) rfl rfl ?_
 refine sQ (qM rfl) rfl ?_
 refine sP (O8 rfl rfl (by omega) (by omega)) rfl rfl ?_
 (have hih := ih ks[i] (List.getElem_mem (by omega)) (d - 1) G _ (by omega) hre; rw [show 41 - (d - 1) = 41 - d + 1 by omega] at hih; refine F4 rfl hih rfl rfl (fun h205 => ?_) (fun h205 => ?_))
 refine D8 ?_
 refine sP (M8 rfl rfl (by omega) (by omega)) rfl rfl ?_
 refine sQ (qA rfl) rfl (sD ?_)
 refine L8 (i + 1) ?_ ?_ ?_
 exact E1
 exact ⟨by omega, fun j hj hji => by (by_cases he : j = i; (subst he; assumption); exact hf j hj (by omega))⟩
 omega
 refine M9 ?_
 (rw [A2n (by omega) (by omega) (hR.trans (by assumption)), A5R (i := i) (by omega) (by assumption)]; exact ⟨rfl, rfl, rfl⟩)
 refine K0 ?_
 (rw [A2n (by omega) (by omega) (hR.trans (by assumption)), (A06 40 13 ks _).2 (fun j hj => hf j hj (by omega))]; exact ⟨rfl, rfl, rfl⟩)
 refine aP 23 rfl (pNf rfl) rfl ?_
 refine aP 24 rfl (K1 rfl rfl) rfl ?_
 refine aP 25 rfl (L6 rfl rfl) rfl ?_
 refine aP 26 rfl (qM rfl) rfl ?_
 refine B3 27 rfl rfl rfl ?_
 refine B3 28 rfl rfl rfl ?_
 refine B3 29 rfl rfl rfl ?_
 refine B3 30 rfl rfl rfl ?_
 refine B3 31 rfl rfl rfl ?_
 refine B3 32 rfl rfl rfl ?_
 refine B3 33 rfl rfl rfl ?_
 refine B3 34 rfl rfl rfl ?_
 refine aP 35 rfl (K1 rfl rfl) rfl ?_
 refine J6 ?_
 (rw [A1f (by rw [hR]; first | omega | exact .inr (.inr (by assumption)) | exact .inr (.inr (by cases R with | false => rfl | true => exact absurd (har rfl) (by omega))))]; exact ⟨rfl, rfl, rfl⟩)
 refine aP 20 rfl (qM rfl) rfl ?_
 refine B3 21 rfl rfl rfl ?_
 refine B3 22 rfl rfl rfl ?_
 refine B3 23 rfl rfl rfl ?_
 refine aP 24 rfl (L6 rfl rfl) rfl ?_
 refine aP 25 rfl (L6 rfl rfl) rfl ?_
 refine aP 26 rfl (qM rfl) rfl ?_
 refine aP 27 rfl (B5 rfl) rfl ?_
 refine aL 28 rfl (C7 rfl rfl) rfl ?_
 refine aP 29 rfl (W7 rfl rfl (by omega)) rfl ?_
 refine aP 30 rfl (qM rfl) rfl ?_
 refine aL 31 rfl (A4 rfl rfl) rfl ?_
 refine A2 32 ?_
 refine R1 rfl rfl (hl2 (hne (by omega) (by omega))) rfl rfl rfl (fun h293 => ?_) (fun h293 => ?_)
 refine aP 33 rfl (Q5 rfl) rfl ?_
 refine aP 34 rfl (K1 rfl rfl) rfl ?_
 refine aP 35 rfl (L6 rfl rfl) rfl ?_
 refine J6 ?_
 refine C3 ?_
 (refine M6 (fun (i : Nat) => ⟨[(5, .int .i64 i), (2, .pointer (some ⟨b3, 0, none⟩)), (1, .int .i64 d)], [.blk b3 [.int .i64 k, .string nm, .int .i64 num, .int .i64 tk, .slice pt tks.length ct, .int .i64 fk, .slice pf fks.length cf, .int .i64 lb, .slice p ks.length c]], G⟩) (fun i => i ≤ ks.length ∧ ∀ j (h : j < ks.length), j < i → L4 40 13 ks[j] (41 - d + 1) = true) (fun i => ks.length - i) 0 ?_ ?_ ?_)
 exact E1
 exact ⟨by omega, by omega⟩
 (rintro i ⟨hi, hf⟩)
 refine D5 ?_
 refine sB (M2 rfl rfl) rfl rfl (fun h320 => ?_) (fun h320 => ?_)
 refine sD (nS (qT rfl (tK (nS (tS ?_)))))
 refine C3 ?_
 refine R0 ?_
 (obtain ⟨b, o, e, rfl, hl, hat, hre, hgb⟩ := hsl.kidTm hkl (i := i) (by omega) (by omega); refine sP (B4 rfl rfl rfl (by omega)) rfl rfl ?_)
 refine sL (A3 rfl rfl (hat _) hl) rfl rfl ?_
 refine sQ (qM rfl) rfl ?_
 refine sP (O8 rfl rfl (by omega) (by omega)) rfl rfl ?_
 (have hih := ih ks[i] (List.getElem_mem (by omega)) (d - 1) G _ (by omega) hre; rw [show 41 - (d - 1) = 41 - d + 1 by omega] at hih; refine F4 rfl hih rfl rfl (fun h337 => ?_) (fun h337 => ?_))
 refine D8 ?_
 refine sP (M8 rfl rfl (by omega) (by omega)) rfl rfl ?_
 refine sQ (qA rfl) rfl (sD ?_)
 refine L8 (i + 1) ?_ ?_ ?_
 exact E1
 exact ⟨by omega, fun j hj hji => by (by_cases he : j = i; (subst he; assumption); exact hf j hj (by omega))⟩
 omega
 refine M9 ?_
 (rw [A2n (by omega) (by omega) (hR.trans (by assumption)), A5R (i := i) (by omega) (by assumption)]; exact ⟨rfl, rfl, rfl⟩)
 refine K0 ?_
 (rw [A2n (by omega) (by omega) (hR.trans (by assumption)), (A06 40 13 ks _).2 (fun j hj => hf j hj (by omega))]; exact ⟨rfl, rfl, rfl⟩)
 refine aP 33 rfl (pNf rfl) rfl ?_
 refine aP 34 rfl (K1 rfl rfl) rfl ?_
 refine aP 35 rfl (L6 rfl rfl) rfl ?_
 refine J6 ?_
 (rw [A1f (by rw [hR]; first | omega | exact .inr (.inr (by assumption)) | exact .inr (.inr (by cases R with | false => rfl | true => exact absurd (har rfl) (by omega))))]; exact ⟨rfl, rfl, rfl⟩)
def O1 : Ty := .mk 2 []
def S5 : Ty := .mk 3 []
mutual
def H7 : Ty → Ty → Bool
 | .mk k ks, t => decide (k = t.k) && Z7 ks t.ks
def Z7 : List Ty → List Ty → Bool
 | [], [] => true
 | a :: xs, b :: ys => H7 a b && Z7 xs ys
 | _, _ => false
end
theorem A2o (k k' : Int) (ks ks' : List Ty) : H7 (.mk k ks) (.mk k' ks') = (decide (k = k') && Z7 ks ks') := by rw [H7]; rfl
mutual
theorem R2 : ∀ (a b : Ty), H7 a b = true ↔ a = b
 | .mk k ks, .mk k' ks' => by
  rw [A2o, Bool.and_eq_true, decide_eq_true_eq, A8t ks ks', Ty.mk.injEq]
theorem A8t : ∀ (xs ys : List Ty), Z7 xs ys = true ↔ xs = ys
 | [], [] => by simp [Z7]
 | [], b :: ys => by simp [Z7]
 | a :: xs, [] => by simp [Z7]
 | a :: xs, b :: ys => by
  rw [Z7, Bool.and_eq_true, R2 a b, A8t xs ys, List.cons.injEq]
end
theorem A3F (a : Ty) : H7 a a = true := (R2 a a).2 rfl
theorem A3G : ∀ (xs ys : List Ty), Z7 xs ys = true ↔ xs.length = ys.length ∧ ∀ i, (h : i < xs.length) → (h' : i < ys.length) → H7 xs[i] ys[i] = true
 | [], [] => by simp [Z7]
 | [], b :: ys => by simp [Z7]
 | a :: xs, [] => by simp [Z7]
 | a :: xs, b :: ys => by
  simp only [Z7, Bool.and_eq_true, A3G xs ys, List.length_cons]
  constructor
  ·rintro ⟨h1, h2, h3⟩
   refine ⟨by omega, fun i hi hi' => ?_⟩
   cases i with
   | zero => exact h1
   | succ i => exact h3 i (by simpa using hi) (by simpa using hi')
  ·rintro ⟨h1, h2⟩
   exact ⟨h2 0 (by simp) (by simp), by omega, fun i hi hi' => h2 (i + 1) (by simpa using hi) (by simpa using hi')⟩

abbrev Cx := List (ByteArray × Ty)
def V2 (cx : Cx) (nm : ByteArray) : Nat → Option Ty
 | 0 => none
 | n + 1 => match cx[n]? with
  | some b => if b.1 = nm then some b.2 else V2 cx nm n
  | none => V2 cx nm n
def P2 (cx : Cx) (nm : ByteArray) : Option Ty := V2 cx nm cx.length
theorem A2Q {cx : Cx} {nm x : ByteArray} {n : Nat} {t : Ty} (h : cx[n]? = some (x, t)) (he : x = nm) : V2 cx nm (n + 1) = some t := by
 rw [V2, h]; simp only [he, if_true]
theorem A2R {cx : Cx} {nm x : ByteArray} {n : Nat} {t : Ty} (h : cx[n]? = some (x, t)) (he : ¬x = nm) : V2 cx nm (n + 1) = V2 cx nm n := by
 rw [V2, h]; simp only [he, if_false]

mutual
def A0D : Ty → Ty → Ty
 | .mk k ks, b => if k = 1 then b else if b.k = 1 then .mk k ks else .mk k (A1W ks b.ks)
def A1W : List Ty → List Ty → List Ty
 | a :: xs, b :: ys => A0D a b :: A1W xs ys
 | _, _ => []
end
theorem A8u (k k' : Int) (ks ks' : List Ty) : A0D (.mk k ks) (.mk k' ks') = if k = 1 then .mk k' ks' else if k' = 1 then .mk k ks else .mk k (A1W ks ks') := by rw [A0D]; rfl
def Z8 (kind : Int) (t : Ty) : Option (Ty × Ty) :=
 if t.k = kind then some (t.ks.getD 0 B1, t.ks.getD 1 B1) else if t.k = 1 then some (L0, L0) else none
def O7 (cx : Cx) (k : Int) (nm : ByteArray) (ty : Ty) (h : List Ty) : Option (List Ty × Ty) :=
 if k = 1 then (match P2 cx nm with | some t => some ([], t) | none => none)
 else if k = 2 then some ([], O1)
 else if k = 3 ∨ k = 4 then some ([], S5)
 else if k = 5 then some ([], .mk 4 [ty, h.getD 0 B1])
 else if k = 6 then (match Z8 4 (h.getD 0 B1) with | some (a, b) => if P1 (h.getD 1 B1) a = true then some ([.mk 4 [a, b], a], b) else none | none => none)
 else if k = 7 ∨ k = 8 then (if P1 (h.getD 0 B1) O1 = true ∧ P1 (h.getD 1 B1) O1 = true then some ([O1, O1], if k = 8 then S5 else O1) else none)
 else if k = 9 then (if P1 (h.getD 0 B1) S5 = true ∧ P1 (h.getD 1 B1) (h.getD 2 B1) = true then some ([S5, A0D (h.getD 1 B1) (h.getD 2 B1), A0D (h.getD 1 B1) (h.getD 2 B1)], A0D (h.getD 1 B1) (h.getD 2 B1)) else none)
 else if k = 10 then some ([], .mk 5 [h.getD 0 B1, h.getD 1 B1])
 else if k = 13 then (if P1 (h.getD 0 B1) ty = true then some ([ty], ty) else none)
 else (match Z8 5 (h.getD 0 B1) with | some (a, b) => some ([.mk 5 [a, b]], if k = 12 then b else a) | none => none)
def W0 (cx : Cx) (k : Int) (nm : ByteArray) (ty : Ty) (h : List Ty) : Option (List Ty × Ty) := match O7 cx k nm ty h with
 | some (w, t) => if M5 t = true then some (w, t) else none
 | none => none
def R4 : List Ty → List Ty → Bool
 | [], _ => true
 | a :: xs, b :: ys => H7 a b && R4 xs ys
 | _ :: _, [] => false
def N3 (cx : Cx) (k : Int) (nm : ByteArray) (ty : Ty) : Cx := if k = 5 then cx ++ [(nm, ty)] else cx
mutual
def B9 (cx : Cx) : Tm → Option Ty
 | .mk k nm num ty fr lb ks => match K3 (N3 cx k nm ty) ks with
  | none => none
  | some h => if k = 14 then (if H7 (h.getD 0 B1) fr = true then some ty else none)
   else match W0 cx k nm ty h with
    | none => none
    | some (w, t) => if R4 w h = true then some t else none
def K3 (cx : Cx) : List Tm → Option (List Ty)
 | [] => some []
 | t :: ts => match B9 cx t with
  | none => none
  | some u => match K3 cx ts with
   | none => none
   | some us => some (u :: us)
end
def R3 (e : Tm) : Option Ty := if I3 e = true then B9 [] e else none
theorem B2L {D N : Int} {k : Int} {nm : ByteArray} {num : Int} {ty fr : Ty} {lb : Int} {ks : List Tm} {d : Int} (h : L4 D N (.mk k nm num ty fr lb ks) d = true) : d ≤ D ∧ ∀ i, (hi : i < ks.length) → L4 D N ks[i] (d + 1) = true := by
 rw [L4] at h
 simp only [Bool.and_eq_true, decide_eq_true_eq] at h
 exact ⟨h.1.1.1, (A06 D N ks _).1 h.2⟩
mutual
theorem A5S (M D N : Int) : ∀ (t : Tm) (deep c : Int), c ≤ M → ((S0 M D N t deep c).1 = true ↔ L4 D N t deep = true ∧ c + E7 t ≤ M)
 | .mk k nm num ty fr lb ks, deep, c, hc => by
  rw [S0, E7]
  by_cases h : c + 1 > M ∨ deep > D ∨ k = N ∨ U4 k nm num ty fr lb ks.length = false
  ·rw [if_pos h]
   constructor
   ·intro h; cases h
   ·rintro ⟨h1, h2⟩
    rcases h with h | h
    ·omega
    ·rw [A1f h] at h1; cases h1
  ·rw [if_neg h]
   have hn : U4 k nm num ty fr lb ks.length = true := by
    cases hx : U4 k nm num ty fr lb ks.length with
    | true => rfl
    | false => exact absurd (Or.inr (Or.inr (Or.inr hx))) h
   rw [A2n (by omega) (by omega) hn, A8v M D N ks (deep + 1) (c + 1) (by omega)]
   constructor
   ·rintro ⟨a, b⟩; exact ⟨a, by omega⟩
   ·rintro ⟨a, b⟩; exact ⟨a, by omega⟩
theorem A8v (M D N : Int) : ∀ (ts : List Tm) (deep c : Int), c ≤ M → ((T3 M D N ts deep c).1 = true ↔ O6 D N ts deep = true ∧ c + H3 ts ≤ M)
 | [], deep, c, hc => by simp [T3, O6, H3]; omega
 | t :: ts, deep, c, hc => by
  have h0 := A5S M D N t deep c hc
  rw [T3, O6, H3, Bool.and_eq_true]
  by_cases h : (S0 M D N t deep c).1 = true
  ·rw [if_pos h, A7R M D N t deep c h, A8v M D N ts deep _ (h0.1 h).2]
   have := h0.1 h
   constructor
   ·rintro ⟨a, b⟩; exact ⟨⟨this.1, a⟩, by omega⟩
   ·rintro ⟨⟨_, a⟩, b⟩; exact ⟨a, by omega⟩
  ·rw [if_neg h]
   constructor
   ·intro h'; cases h'
   ·rintro ⟨⟨a, _⟩, b⟩
    exact absurd (h0.2 ⟨a, by omega⟩) h
end
theorem A1D (t : Tm) : I3 t = true ↔ L4 40 13 t 1 = true ∧ E7 t ≤ 200 := by
 have := A5S 200 40 13 t 1 0 (by omega)
 rw [I3, this]
 constructor
 ·rintro ⟨a, b⟩; exact ⟨a, by omega⟩
 ·rintro ⟨a, b⟩; exact ⟨a, by omega⟩
theorem A8w (D N : Int) : ∀ (t : Tm) (d : Int) (G : IM) (cells : List Value), d ≤ 40 → L4 D N t (D + 1 - d) = true → E7 t ≤ 4294967296 → A8 G t cells →
  Fn Tryz.prog 120 [.agg ⟨cells⟩, .int .i64 d] [] G (J3 (.int .i64 (E7 t : Int)) G) := by
 refine Tm.ind fun k nm num ty fr lb ks ih d G cells hd hv hcnt hr => ?_
 have hone := hr.one
 obtain ⟨hv1, hv2⟩ := B2L hv
 obtain ⟨tk, tks⟩ := ty
 obtain ⟨fk, fks⟩ := fr
 obtain ⟨pt, ct, pf, cf, p, c, es, rfl, hk, hnum, hlb, hty, hfr, hsl, hkl⟩ := hr.open9
 have hn := hsl.le
 clear hr
 rw [E7] at hcnt ⊢
 refine B6 Tryz.func120 rfl Tryz.ntmps120 Tryz.results120 rfl ?_
 intro w0
 refine tS (tR ?_)
 refine sE (C4 rfl rfl) rfl (fun b3 => ?_)
 refine O0 ?_
 refine C3 ?_
 (refine M6 (fun (i : Nat) => ⟨[(6, .int .i64 i), (5, .int .i64 ((H3 (ks.take i) + 1 : Nat) : Int)), (2, .pointer (some ⟨b3, 0, none⟩)), (1, .int .i64 d)], [.blk b3 [.int .i64 k, .string nm, .int .i64 num, .int .i64 tk, .slice pt tks.length ct, .int .i64 fk, .slice pf fks.length cf, .int .i64 lb, .slice p ks.length c]], G⟩) (fun i => i ≤ ks.length) (fun i => ks.length - i) 0 ?_ ?_ ?_)
 exact E1
 exact Nat.zero_le _
 (rintro i hi)
 refine D5 ?_
 refine sB (M2 rfl rfl) rfl rfl (fun h30 => ?_) (fun h30 => ?_)
 refine sQ (qM rfl) rfl (sQ (qM rfl) rfl ?_)
 refine sP (A3q rfl rfl (by omega)) rfl rfl ?_
 refine sQ (K1 rfl rfl) rfl (sD (nS (qT rfl (tK (nS (tS ?_))))))
 refine C3 ?_
 refine R0 ?_
 (obtain ⟨b, o, e, rfl, hl, hat, hre, hgb⟩ := hsl.kidTm hkl (i := i) (by omega) (by omega); have htk := A5y (ks := ks) (i := i) (by omega); refine sP (B4 rfl rfl rfl (by omega)) rfl rfl ?_)
 refine sL (A3 rfl rfl (hat _) hl) rfl rfl ?_
 refine sQ (qM rfl) rfl ?_
 refine sP (O8 rfl rfl (by omega) (by omega)) rfl rfl ?_
 (have hvk := hv2 i (by omega); rw [show D + 1 - d + 1 = D + 1 - (d - 1) by omega] at hvk; refine E8 rfl (ih ks[i] (List.getElem_mem (by omega)) (d - 1) G _ (by omega) hvk (by omega) hre) rfl rfl ?_)
 refine sP (M8 rfl rfl (by omega) (by omega)) rfl rfl ?_
 refine J9 ?_
 refine sP (M8 rfl rfl (by omega) (by omega)) rfl rfl ?_
 refine sQ (qA rfl) rfl (sD ?_)
 (refine L8 (i + 1) ?_ ?_ ?_; rw [show ((H3 (ks.take (i + 1)) + 1 : Nat) : Int) = ((H3 (ks.take i) + 1 : Nat) : Int) + (E7 ks[i] : Int) from by rw [A4q (by omega)]; omega])
 exact E1
 omega
 omega
 refine A0d ?_
 (obtain rfl : i = ks.length := (by omega); rw [List.take_length]; exact ⟨rfl, rfl, rfl⟩)
theorem A1g (t : Tm) (G : IM) (cells : List Value) (hcnt : E7 t ≤ 4294967296) (hr : A8 G t cells) :
  Fn Tryz.prog 51 [.agg ⟨cells⟩] [] G (J3 (.bool (I3 t)) G) := by
 have hl := hr.len
 have hv := B2K t 40 G cells (by omega) hr
 have hc := fun h => A8w 40 13 t 40 G cells (by omega) h hcnt hr
 have hi := A1D t
 obtain ⟨R, hR⟩ : ∃ R, I3 t = R := ⟨_, rfl⟩
 rw [hR] at hi ⊢
 refine B6 Tryz.func51 rfl Tryz.ntmps51 Tryz.results51 rfl ?_
 intro w0
 refine tS (tR ?_)
 refine sE (C4 rfl rfl) rfl (fun b3 => ?_)
 refine sQ (qA rfl) rfl (sD (nS (tS (tR ?_))))
 refine sL (A3 rfl rfl (A7 (by repeat first | exact mH | apply mT)) (by assumption)) rfl rfl ?_
 refine F4 rfl (hv) rfl rfl (fun h10 => ?_) (fun h10 => ?_)
 refine sQ (qM rfl) rfl ?_
 refine sL (A3 rfl rfl (A7 (by repeat first | exact mH | apply mT)) (by assumption)) rfl rfl ?_
 refine E8 rfl (hc (by assumption)) rfl rfl ?_
 refine sB (A0c rfl rfl) rfl rfl (fun h14 => ?_) (fun h14 => ?_)
 refine J9 ?_
 exact ⟨rfl, by rw [hi.2 ⟨by assumption, by omega⟩], rfl⟩
 refine J9 ?_
 exact ⟨rfl, by (cases R with | false => rfl | true => (exfalso; have h0 := hi.1 rfl; first | omega | simp_all)), rfl⟩
 refine I8 ?_
 exact ⟨rfl, by (cases R with | false => rfl | true => (exfalso; have h0 := hi.1 rfl; first | omega | simp_all)), rfl⟩
theorem A4z (t : Tm) : A0L t = true ↔ L4 12 14 t 1 = true ∧ E7 t ≤ 30 := by
 have := A5S 30 12 14 t 1 0 (by omega)
 rw [A0L, this]
 constructor
 ·rintro ⟨a, b⟩; exact ⟨a, by omega⟩
 ·rintro ⟨a, b⟩; exact ⟨a, by omega⟩
theorem B2M : ∀ (t : Tm) (d : Int) (G : IM) (cells : List Value), 0 ≤ d ∧ d ≤ 12 → A8 G t cells →
  Fn Tryz.prog 187 [.agg ⟨cells⟩, .int .i64 d] [] G (J3 (.bool (L4 12 14 t (13 - d))) G) := by
 refine Tm.ind fun k nm num ty fr lb ks ih d G cells hd hr => ?_
 have hr0 := hr
 have hne := fun h : k ≠ 14 => @A8s k nm num ty fr lb ks.length h
 have har := fun h : U4 k nm num ty fr lb ks.length = true => (X8.1 h).1
 obtain ⟨R, hR⟩ : ∃ R, U4 k nm num ty fr lb ks.length = R := ⟨_, rfl⟩
 rw [hR] at hne har
 have hl2 := A8r k nm num ty fr lb ks G cells hr0 R
 have hk1 := A4v k G
 obtain ⟨tk, tks⟩ := ty
 obtain ⟨fk, fks⟩ := fr
 obtain ⟨pt, ct, pf, cf, p, c, es, rfl, hk, hnum, hlb, hty, hfr, hsl, hkl⟩ := hr.open9
 have hn := hsl.le
 clear hr hr0
 refine B6 Tryz.func187 rfl Tryz.ntmps187 Tryz.results187 rfl ?_
 intro w0
 refine tS (tR ?_)
 refine sE (C4 rfl rfl) rfl (fun b3 => ?_)
 refine sQ (qA rfl) rfl (sD (nS (tS (tS ?_))))
 refine D1 D2 rfl ?_
 refine I4 (i := 0) (l' := [tt,ff,ff,ff,ff,ff,ff,ff,ff,ff,ff,ff,ff,ff,ff,ff,ff,ff,ff,ff,ff]) rfl C8 (qM rfl) rfl (by kernel_rfl) rfl rfl ?_
 refine A01 (i := 1) (l' := [tt,tt,ff,ff,ff,ff,ff,ff,ff,ff,ff,ff,ff,ff,ff,ff,ff,ff,ff,ff,ff]) rfl C8 (M2 rfl rfl) rfl (by kernel_rfl) rfl rfl (fun h11 => ?_) (fun h11 => ?_)
 refine aP 2 rfl (qM rfl) rfl ?_
 refine B3 3 rfl rfl rfl ?_
 refine B3 4 rfl rfl rfl ?_
 refine B3 6 rfl rfl rfl ?_
 refine B3 7 rfl rfl rfl ?_
 refine B3 8 rfl rfl rfl ?_
 refine B3 5 rfl rfl rfl ?_
 refine B3 9 rfl rfl rfl ?_
 refine aP 10 rfl (K1 rfl rfl) rfl ?_
 refine aP 11 rfl (qM rfl) rfl ?_
 refine B3 12 rfl rfl rfl ?_
 refine B3 13 rfl rfl rfl ?_
 refine B3 14 rfl rfl rfl ?_
 refine aP 15 rfl (K1 rfl rfl) rfl ?_
 refine aP 16 rfl (qM rfl) rfl ?_
 refine B3 17 rfl rfl rfl ?_
 refine B3 18 rfl rfl rfl ?_
 refine B3 19 rfl rfl rfl ?_
 refine aP 20 rfl (K1 rfl rfl) rfl ?_
 refine J6 ?_
 (rw [A1f (by rw [hR]; first | omega | exact .inr (.inr (by assumption)) | exact .inr (.inr (by cases R with | false => rfl | true => exact absurd (har rfl) (by omega))))]; exact ⟨rfl, rfl, rfl⟩)
 refine aP 2 rfl (qM rfl) rfl ?_
 refine aP 3 rfl (B5 rfl) rfl ?_
 refine aL 4 rfl (C7 rfl rfl) rfl ?_
 refine aP 6 rfl (B5 rfl) rfl ?_
 refine aL 7 rfl (C7 rfl rfl) rfl ?_
 refine aP 8 rfl (pLn rfl rfl) rfl ?_
 refine A2 5 ?_
 refine J0 rfl rfl (hk1) rfl rfl rfl ?_
 refine A01 (i := 9) (l' := [tt,tt,tt,tt,tt,tt,tt,tt,tt,tt,ff,ff,ff,ff,ff,ff,ff,ff,ff,ff,ff]) rfl C8 (Q6 rfl rfl) rfl (by kernel_rfl) rfl rfl (fun h51 => ?_) (fun h51 => ?_)
 refine aP 10 rfl (L6 rfl rfl) rfl ?_
 refine aP 11 rfl (qM rfl) rfl ?_
 refine B3 12 rfl rfl rfl ?_
 refine B3 13 rfl rfl rfl ?_
 refine B3 14 rfl rfl rfl ?_
 refine aP 15 rfl (K1 rfl rfl) rfl ?_
 refine aP 16 rfl (qM rfl) rfl ?_
 refine B3 17 rfl rfl rfl ?_
 refine B3 18 rfl rfl rfl ?_
 refine B3 19 rfl rfl rfl ?_
 refine aP 20 rfl (K1 rfl rfl) rfl ?_
 refine J6 ?_
 (rw [A1f (by rw [hR]; first | omega | exact .inr (.inr (by assumption)) | exact .inr (.inr (by cases R with | false => rfl | true => exact absurd (har rfl) (by omega))))]; exact ⟨rfl, rfl, rfl⟩)
 refine aP 10 rfl (L6 rfl rfl) rfl ?_
 refine aP 11 rfl (qM rfl) rfl ?_
 refine aP 12 rfl (B5 rfl) rfl ?_
 refine aL 13 rfl (C7 rfl rfl) rfl ?_
 refine A01 (i := 14) (l' := [tt,tt,tt,tt,tt,tt,tt,tt,tt,tt,tt,tt,tt,tt,tt,ff,ff,ff,ff,ff,ff]) rfl C8 (qE rfl rfl) rfl (by kernel_rfl) rfl rfl (fun h79 => ?_) (fun h79 => ?_)
 refine aP 15 rfl (L6 rfl rfl) rfl ?_
 refine aP 16 rfl (qM rfl) rfl ?_
 refine B3 17 rfl rfl rfl ?_
 refine B3 18 rfl rfl rfl ?_
 refine B3 19 rfl rfl rfl ?_
 refine aP 20 rfl (K1 rfl rfl) rfl ?_
 refine J6 ?_
 (rw [A1f (by rw [hR]; first | omega | exact .inr (.inr (by assumption)) | exact .inr (.inr (by cases R with | false => rfl | true => exact absurd (har rfl) (by omega))))]; exact ⟨rfl, rfl, rfl⟩)
 refine aP 15 rfl (L6 rfl rfl) rfl ?_
 refine aP 16 rfl (qM rfl) rfl ?_
 refine aL 17 rfl (A4 rfl rfl) rfl ?_
 refine A2 18 ?_
 refine R1 rfl rfl (hl2 (hne (by omega) (by omega))) rfl rfl rfl (fun h102 => ?_) (fun h102 => ?_)
 refine aP 19 rfl (Q5 rfl) rfl ?_
 refine aP 20 rfl (L6 rfl rfl) rfl ?_
 refine J6 ?_
 refine C3 ?_
 (refine M6 (fun (i : Nat) => ⟨[(5, .int .i64 i), (2, .pointer (some ⟨b3, 0, none⟩)), (1, .int .i64 d)], [.blk b3 [.int .i64 k, .string nm, .int .i64 num, .int .i64 tk, .slice pt tks.length ct, .int .i64 fk, .slice pf fks.length cf, .int .i64 lb, .slice p ks.length c]], G⟩) (fun i => i ≤ ks.length ∧ ∀ j (h : j < ks.length), j < i → L4 12 14 ks[j] (13 - d + 1) = true) (fun i => ks.length - i) 0 ?_ ?_ ?_)
 exact E1
 exact ⟨by omega, by omega⟩
 (rintro i ⟨hi, hf⟩)
 refine D5 ?_
 refine sB (M2 rfl rfl) rfl rfl (fun h128 => ?_) (fun h128 => ?_)
 refine sD (nS (qT rfl (tK (nS (tS ?_)))))
 refine C3 ?_
 refine R0 ?_
 (obtain ⟨b, o, e, rfl, hl, hat, hre, hgb⟩ := hsl.kidTm hkl (i := i) (by omega) (by omega); refine sP (B4 rfl rfl rfl (by omega)) rfl rfl ?_)
 refine sL (A3 rfl rfl (hat _) hl) rfl rfl ?_
 refine sQ (qM rfl) rfl ?_
 refine sP (O8 rfl rfl (by omega) (by omega)) rfl rfl ?_
 (have hih := ih ks[i] (List.getElem_mem (by omega)) (d - 1) G _ (by omega) hre; rw [show 13 - (d - 1) = 13 - d + 1 by omega] at hih; refine F4 rfl hih rfl rfl (fun h145 => ?_) (fun h145 => ?_))
 refine D8 ?_
 refine sP (M8 rfl rfl (by omega) (by omega)) rfl rfl ?_
 refine sQ (qA rfl) rfl (sD ?_)
 refine L8 (i + 1) ?_ ?_ ?_
 exact E1
 exact ⟨by omega, fun j hj hji => by (by_cases he : j = i; (subst he; assumption); exact hf j hj (by omega))⟩
 omega
 refine M9 ?_
 (rw [A2n (by omega) (by omega) (hR.trans (by assumption)), A5R (i := i) (by omega) (by assumption)]; exact ⟨rfl, rfl, rfl⟩)
 refine K0 ?_
 (rw [A2n (by omega) (by omega) (hR.trans (by assumption)), (A06 12 14 ks _).2 (fun j hj => hf j hj (by omega))]; exact ⟨rfl, rfl, rfl⟩)
 refine aP 19 rfl (pNf rfl) rfl ?_
 refine aP 20 rfl (L6 rfl rfl) rfl ?_
 refine J6 ?_
 (rw [A1f (by rw [hR]; first | omega | exact .inr (.inr (by assumption)) | exact .inr (.inr (by cases R with | false => rfl | true => exact absurd (har rfl) (by omega))))]; exact ⟨rfl, rfl, rfl⟩)
theorem A8x (t : Tm) (G : IM) (cells : List Value) (hcnt : E7 t ≤ 4294967296) (hr : A8 G t cells) :
  Fn Tryz.prog 132 [.agg ⟨cells⟩] [] G (J3 (.bool (A0L t)) G) := by
 have hl := hr.len
 have hv := B2M t 12 G cells (by omega) hr
 have hc := fun h => A8w 12 14 t 12 G cells (by omega) h hcnt hr
 have hi := A4z t
 obtain ⟨R, hR⟩ : ∃ R, A0L t = R := ⟨_, rfl⟩
 rw [hR] at hi ⊢
 refine B6 Tryz.func132 rfl Tryz.ntmps132 Tryz.results132 rfl ?_
 intro w0
 refine tS (tR ?_)
 refine sE (C4 rfl rfl) rfl (fun b3 => ?_)
 refine sQ (qA rfl) rfl (sD (nS (tS (tR ?_))))
 refine sL (A3 rfl rfl (A7 (by repeat first | exact mH | apply mT)) (by assumption)) rfl rfl ?_
 refine F4 rfl (hv) rfl rfl (fun h10 => ?_) (fun h10 => ?_)
 refine sQ (qM rfl) rfl ?_
 refine sL (A3 rfl rfl (A7 (by repeat first | exact mH | apply mT)) (by assumption)) rfl rfl ?_
 refine E8 rfl (hc (by assumption)) rfl rfl ?_
 refine sB (A0c rfl rfl) rfl rfl (fun h14 => ?_) (fun h14 => ?_)
 refine J9 ?_
 exact ⟨rfl, by rw [hi.2 ⟨by assumption, by omega⟩], rfl⟩
 refine J9 ?_
 exact ⟨rfl, by (cases R with | false => rfl | true => (exfalso; have h0 := hi.1 rfl; first | omega | simp_all)), rfl⟩
 refine I8 ?_
 exact ⟨rfl, by (cases R with | false => rfl | true => (exfalso; have h0 := hi.1 rfl; first | omega | simp_all)), rfl⟩
theorem Sw.same {hp hp' : List A5} {e : A5} (h : Sw hp e e hp') : hp' = hp := by
 generalize he : e = e' at h
 have : ∀ {hp e e' hp'}, Sw hp e e' hp' → e = e' → hp' = hp := by
  intro hp e e' hp' h
  induction h with
  | here => rintro rfl; rfl
  | there _ ih => intro he; rw [ih he]
 subst he
 exact this h rfl
section
variable {P : Program} {Γ : M1} {env : M7} {hp : List A5} {G : IM} {ty : TypeId}
theorem A8y {d : Nat} {x y : Operand} {t el : TypeId} {i : L9} {sz by' : Nat} {zs : List Value} [hI : J2 P t i] {ie : L9} [hEl : J2 P el ie] (hd' : i.desc = .slice el) [hE : X5 P el sz by' zs] {p q : Option Addr} {c n m c2 : Nat} {cs news : List Value} {hp' : Option Addr → Nat → List A5}
  (hd : Nat.blt d Γ.n = true) (hx : evo env x = some (.slice p n c)) (hy : evo env y = some (.slice q m c2)) (hsz : Nat.blt 0 sz = true)
  (hm : ∀ p' c', Sw hp (.slc p c el sz n cs) (.slc p' c' el sz (n + m) (cs ++ news)) (hp' p' c'))
  (hS : Sl G q m c2 sz news) (h1 : ∀ u ∈ news, u.oneCell' = true) (hc : n ≤ c)
  (h63 : n + m ≤ maxLen) (hb : (n + m) * by' ≤ 140737488355328) :
  W6 P Γ ⟨env, hp, G⟩ (some d) (.call ⟨.builtin .append, ⟨[x, y]⟩, ⟨[t, t]⟩⟩) ty (K2 p) (fun σ' => ∃ p' c', σ' = ⟨(d, .slice p' (n + m) c') :: env, hp' p' c', G⟩) := by
 obtain ⟨hl, _, _, hat⟩ := hS
 rcases Nat.eq_zero_or_pos m with rfl | hm0
 ·obtain rfl : news = [] := List.length_eq_zero_iff.1 (by omega)
  have hpu := B1R (P := P) (Γ := Γ) (hp := hp) (G := G) (ty := ty) (t := t) (el := el) hd' hx hy hc
  refine ⟨fun a w hs pos af gd Q next hn => ?_⟩
  simp only [Oper.wp, hpu.run a w hs, Oper.upon]
  refine hn _ _ _ (hs.put d _ (by simpa using hd) hs.res) (Ext.refl _ _) ⟨p, c, ?_⟩
  have h0 := hm p c
  simp only [Nat.add_zero, List.append_nil] at h0 ⊢
  rw [h0.same]
 ·obtain ⟨b, o, full, rfl, hg, hv⟩ := hat.resolve_left (by omega)
  exact A5r hd' hd hx hy hsz hm (A4a hg hv) hl h1 h63 hb
variable {K : Po} {ops : Array Oper} {rest : List Oper} {pos : String} {af : Array Edge} {gd : Option (Nat × Bool)}
theorem B2N {d : Nat} {x y : Operand} {t el : TypeId} {i : L9} {sz by' : Nat} {zs : List Value} [hI : J2 P t i] {ie : L9} [hEl : J2 P el ie] [hE : X5 P el sz by' zs] {p q : Option Addr} {c n m c2 : Nat} {cs news : List Value} {hp' : Option Addr → Nat → List A5}
  (hd' : i.desc = .slice el) (hd : Nat.blt d Γ.n = true) (hx : evo env x = some (.slice p n c)) (hy : evo env y = some (.slice q m c2)) (hsz : Nat.blt 0 sz = true)
  (hm : ∀ p' c', Sw hp (.slc p c el sz n cs) (.slc p' c' el sz (n + m) (cs ++ news)) (hp' p' c'))
  (hS : Sl G q m c2 sz news) (h1 : ∀ u ∈ news, u.oneCell' = true) (hc : n ≤ c)
  (h63 : n + m ≤ maxLen) (hb : (n + m) * by' ≤ 140737488355328) (hw : M4 ops env gd = some true)
  (k : ∀ p' c', I7 P Γ ops rest K ⟨(d, .slice p' (n + m) c') :: env, hp' p' c', G⟩) : I7 P Γ ops (⟨some d, .call ⟨.builtin .append, ⟨[x, y]⟩, ⟨[t, t]⟩⟩, ty, pos, af, gd⟩ :: rest) K ⟨env, hp, G⟩ :=
 K7 (A8y hd' hd hx hy hsz hm hS h1 hc h63 hb) hw (by rintro _ ⟨p', c', rfl⟩; exact k p' c')
theorem A2S {H : List (Nat × Nat)} {fuel : Nat} {listed l' : List Bool} {j d : Nat} {cs : List Value} {x y : Operand} {t el : TypeId} {i : L9} {sz by' : Nat} {zs : List Value} [hI : J2 P t i] {ie : L9} [hEl : J2 P el ie] [hE : X5 P el sz by' zs] {p q : Option Addr} {c n m c2 : Nat} {news : List Value} {hp' : Option Addr → Nat → List A5} {H' : List (Nat × Nat)}
  (hi : ops[j]? = some ⟨some d, .call ⟨.builtin .append, ⟨[x, y]⟩, ⟨[t, t]⟩⟩, ty, pos, af, gd⟩) (hd' : i.desc = .slice el)
  (hd : Nat.blt d Γ.n = true) (hx : evo env x = some (.slice p n c)) (hy : evo env y = some (.slice q m c2)) (hsz : Nat.blt 0 sz = true)
  (hm : ∀ p' c', Sw hp (.slc p c el sz n cs) (.slc p' c' el sz (n + m) (cs ++ news)) (hp' p' c'))
  (hS : Sl G q m c2 sz news) (h1 : ∀ u ∈ news, u.oneCell' = true) (hc : n ≤ c)
  (h63 : n + m ≤ maxLen) (hb : (n + m) * by' ≤ 140737488355328) (hw : M4 ops env gd = some true) (hl : listed.set j true = l')
  (hok : A9 ops j hp G (.slc p c el sz n cs) H H')
  (k : ∀ p' c', N7 P Γ ops K H' fuel l' ⟨(d, .slice p' (n + m) c') :: env, hp' p' c', G⟩) : U8 P Γ ops K H fuel listed j ⟨env, hp, G⟩ :=
 A3u hi (A8y hd' hd hx hy hsz hm hS h1 hc h63 hb) hw hl (fun _ _ hs => hok.spec hs) hok.filter (by rintro _ ⟨p', c', rfl⟩; exact k p' c')
theorem Y6 {H H' : List (Nat × Nat)} {fuel : Nat} {listed l' : List Bool} {j d : Nat} {f : FuncId} [hF : B7 P f] {xs : List Operand} {ats : Array TypeId} {vs : List Value} {e : A5} {rst : List A5} {post : IM → Value → List A5 → Prop}
  (hi : ops[j]? = some ⟨some d, .call ⟨.value (.func f), ⟨xs⟩, ats⟩, ty, pos, af, gd⟩) (hx : evl env xs = some vs) (h : Fn P f vs [e] G post) (hp' : hp.Perm ([e] ++ rst)) (hw : M4 ops env gd = some true) (hd : Nat.blt d Γ.n = true) (hl : listed.set j true = l')
  (hok : A9 ops j hp G e H H')
  (k : ∀ v G' outs, B8 G G' → post G' v outs → N7 P Γ ops K H' fuel l' ⟨(d, v) :: env, outs ++ rst, G'⟩) : U8 P Γ ops K H fuel listed j ⟨env, hp, G⟩ :=
 A3u hi (A4d hx h hp' hd) hw hl (fun _ _ hs => by simpa [Fp] using hok.spec hs) hok.filter (by rintro _ ⟨v, G', outs, rfl, hle, hq⟩; exact k v G' outs hle hq)
end
section forget
variable {P : Program} {Γ : M1} {env : M7} {hp : List A5} {G : IM} {K : Po} {ops : Array Oper} {rest : List Oper} {ty : TypeId} {pos : String} {af : Array Edge} {gd : Option (Nat × Bool)}
end forget
def tAt : Tm → List Int → Option Tm
 | t, [] => some t
 | .mk _ _ _ _ _ _ ks, i :: is => if h : 0 ≤ i ∧ i < ks.length then tAt (ks[i.toNat]'(by omega)) is else none
def z9 : List Value := [.int .i64 0, .string ⟨⟨[]⟩⟩, .int .i64 0, .int .i64 0, .slice none 0 0, .int .i64 0, .slice none 0 0, .int .i64 0, .slice none 0 0]
def AtP (t : Tm) (path : List Int) (G : IM) : IM → Value → List A5 → Prop := fun G' v outs => G' = G ∧ outs = [] ∧
 ((∃ x cells, tAt t path = some x ∧ A8 G x cells ∧ v = .tuple ⟨[.agg ⟨cells⟩, .bool true]⟩) ∨ (tAt t path = none ∧ v = .tuple ⟨[.agg ⟨z9⟩, .bool false]⟩))
def I9 : Tm := .mk 0 ⟨⟨[]⟩⟩ 0 (.mk 0 []) (.mk 0 []) 0 []
theorem P6.zero (G : IM) : P6 G I9 z9 [] := by
 simp only [I9, P6, P0, N0, O3, z9]
 refine ⟨[.int .i64 0, .slice none 0 0], [.int .i64 0, .slice none 0 0], none, 0, [], [], [], [], rfl, ⟨by omega, by omega⟩, ⟨by omega, by omega⟩, ⟨by omega, by omega⟩, ?_, ?_, C9.nil _ _, ⟨rfl, rfl⟩, rfl, by simp [K2]⟩
 ·exact ⟨none, 0, [], [], rfl, ⟨by omega, by omega⟩, C9.nil _ _, ⟨rfl, rfl⟩, rfl, by simp [K2]⟩
 ·exact ⟨none, 0, [], [], rfl, ⟨by omega, by omega⟩, C9.nil _ _, ⟨rfl, rfl⟩, rfl, by simp [K2]⟩
def B6M (t : Tm) (path : List Int) : Tm × Bool := if I3 t = true then (match tAt t path with | some x => (x, true) | none => (I9, false)) else (I9, false)
def TbP (r : Tm × Bool) (G : IM) : IM → Value → List A5 → Prop := L2 fun G' v => ∃ cells F, v = .tuple ⟨[.agg ⟨cells⟩, .bool r.2]⟩ ∧ P6 (C2 G' G) r.1 cells F ∧ F.Nodup
theorem TbP.mk {r : Tm × Bool} {x : Tm} {b : Bool} {G G' : IM} {cells : List Value} {F : List Nat} (h : r = (x, b)) (hs : P6 (C2 G' G) x cells F) (hn : F.Nodup) : TbP r G G' (.tuple ⟨[.agg ⟨cells⟩, .bool b]⟩) [] := by
 subst h; exact ⟨rfl, cells, F, rfl, hs, hn⟩
theorem B2O {b : Bool} (h : b = false) : ¬ b = true := by rw [h]; simp
structure A4A {ι : Type} (S : ι → Sy) (φ : ι → Prop) (e : Exit) (σ : Sy) : Prop where
 run : match e with
  | .normal => ∃ i, φ i ∧ Sub σ (S i)
  | _ => False
section cut
variable {P : Program} {Γ : M1} {K : Po} {σ : Sy} {ι : Type}
theorem A0q {c y : Code} (S : ι → Sy) (φ : ι → Prop) (h : J5 P Γ c (A4A S φ) σ) (k : ∀ i, φ i → J5 P Γ y K (S i)) : J5 P Γ c (A0Z P Γ y K) σ := by
 refine tri_post h ?_
 rintro e σ ⟨hk⟩
 cases e with
 | normal => obtain ⟨i, hi, hs⟩ := hk; exact ⟨A7f hs (k i hi)⟩
 | _ => exact hk.elim
where
 tri_post {c : Code} {K K' : Po} {σ : Sy} (h : J5 P Γ c K σ) (hk : ∀ e σ, K e σ → K' e σ) : J5 P Γ c K' σ := A5f h hk
theorem Q2 {S : ι → Sy} {φ : ι → Prop} {σ : Sy} (i : ι) (hs : Sub σ (S i)) (h : φ i) : A4A S φ .normal σ := ⟨⟨i, h, hs⟩⟩
theorem B2P {S : ι → Sy} {φ : ι → Prop} : Y1 (A4A S φ) := fun _ _ h => h.run
instance npC5 {S : ι → Sy} {φ : ι → Prop} : NpC (A4A S φ) := ⟨B2P⟩
end cut
section take
variable {P : Program} {Γ : M1} {env : M7} {hp : List A5} {G : IM} {K : Po} {ops : Array Oper} {rest : List Oper} {ty : TypeId} {pos : String} {af : Array Edge} {gd : Option (Nat × Bool)}
theorem H5 {d : Nat} {f : FuncId} [hF : B7 P f] {xs : List Operand} {ats : Array TypeId} {vs : List Value} {ins rst : List A5} {post : IM → Value → List A5 → Prop}
  (hx : evl env xs = some vs) (h : Fn P f vs ins G post) (hp' : hp.Perm (ins ++ rst)) (hw : M4 ops env gd = some true) (hd : Nat.blt d Γ.n = true)
  (k : ∀ v G' outs, B8 G G' → post G' v outs → I7 P Γ ops rest K ⟨(d, v) :: env, outs ++ rst, G'⟩) : I7 P Γ ops (⟨some d, .call ⟨.value (.func f), ⟨xs⟩, ats⟩, ty, pos, af, gd⟩ :: rest) K ⟨env, hp, G⟩ :=
 K7 (A4d hx h hp' hd) hw (by rintro _ ⟨v, G', outs, rfl, hle, hq⟩; exact k v G' outs hle hq)
end take
theorem Y7 (G : IM) (br : Nat) (pb : Option Addr) (nb cb p : Nat) (bs : List UInt8) (q : Option Addr) (n c : Nat) (xs : List Value) (hb : Sl G pb nb cb 1 (N5 bs)) (hnb : nb ≤ 2000) (hp : p < 1099511627776) (hx : Sl G q n c 1 xs) (hn : 0 < n) :
  Fn Tryz.prog 89 [.pointer (some ⟨br, 0, none⟩), .slice q n c] [rd br pb nb cb p] G (fun G' v outs => G' = G ∧ outs = [rd br pb nb cb (p + 1)] ∧ v ∈ xs) := by
 refine B6 Tryz.func89 rfl Tryz.ntmps89 Tryz.results89 rfl ?_
 intro w0
 refine J6 ?_
 (refine H5 rfl (T4 G br pb nb cb p bs (n : Int) hb hnb hp) (List.Perm.refl _) rfl rfl (fun v G1 outs hle1 hh => ?_); obtain ⟨rfl, rfl, k, rfl, hk0, hkn⟩ := hh; obtain ⟨j, rfl⟩ := Int.eq_ofNat_of_zero_le hk0)
 (obtain ⟨b, o, v, rfl, hv, hat, _⟩ := hx.kid (i := j) (by omega); refine sP (B4 rfl rfl rfl (by omega)) rfl rfl ?_)
 refine sL (V4 rfl rfl (hat _)) rfl rfl ?_
 refine sQ (qA rfl) rfl (sD (nS (tT ?_)))
 refine I1 (rT rfl) A1.refl ?_
 exact ⟨rfl, rfl, List.mem_of_getElem? hv⟩
theorem A5T (G : IM) (br : Nat) (pb : Option Addr) (nb cb p : Nat) (bs : List UInt8) (q : Option Addr) (n c : Nat) (xs : List Value) (hb : Sl G pb nb cb 1 (N5 bs)) (hnb : nb ≤ 2000) (hp : p < 1099511627776) (hx : Sl G q n c 1 xs) (hn : 0 < n) :
  Fn Tryz.prog 133 [.pointer (some ⟨br, 0, none⟩), .slice q n c] [rd br pb nb cb p] G (fun G' v outs => G' = G ∧ outs = [rd br pb nb cb (p + 1)] ∧ v ∈ xs) := by
 refine B6 Tryz.func133 rfl Tryz.ntmps133 Tryz.results133 rfl ?_
 intro w0
 refine J6 ?_
 (refine H5 rfl (T4 G br pb nb cb p bs (n : Int) hb hnb hp) (List.Perm.refl _) rfl rfl (fun v G1 outs hle1 hh => ?_); obtain ⟨rfl, rfl, k, rfl, hk0, hkn⟩ := hh; obtain ⟨j, rfl⟩ := Int.eq_ofNat_of_zero_le hk0)
 (obtain ⟨b, o, v, rfl, hv, hat, _⟩ := hx.kid (i := j) (by omega); refine sP (B4 rfl rfl rfl (by omega)) rfl rfl ?_)
 refine sL (V4 rfl rfl (hat _)) rfl rfl ?_
 refine sQ (qA rfl) rfl (sD (nS (tT ?_)))
 refine I1 (rT rfl) A1.refl ?_
 exact ⟨rfl, rfl, List.mem_of_getElem? hv⟩
theorem W1 (G : IM) : Fn Tryz.prog 95 [] [] G (J3 (.agg ⟨[.int .i64 1, .slice none 0 0]⟩) G) := by
 refine B6 Tryz.func95 rfl Tryz.ntmps95 Tryz.results95 rfl ?_
 intro w0
 refine tS (tR ?_)
 refine sE (A6 rfl) rfl (fun b3 => ?_)
 refine D8 ?_
 refine D6 (rC rfl (A4 rfl rfl)) ?_
 exact ⟨rfl, rfl, rfl⟩
def dB : Nat → Nat
 | 0 => 0
 | d + 1 => 2 * dB d + 2
theorem B2Q {d : Nat} (h : d ≤ 3) : dB (d + 1) ≤ 30 := by
 have : d = 0 ∨ d = 1 ∨ d = 2 ∨ d = 3 := by omega
 rcases this with rfl | rfl | rfl | rfl <;> decide
theorem B2R (k : Int) : V0 k ≤ 2 := by
 unfold V0; split <;> try split
 all_goals omega
theorem A2T : ∀ (ts : List Ty) (t : Ty), L7 (ts ++ [t]) = L7 ts + H4 t
 | [], t => by simp [L7]
 | a :: ts, t => by simp only [List.cons_append, L7, A2T ts t]; omega
theorem E0.ty {G : IM} {k : Int} {ts : List Ty} {es : List (List Value)} {p : Option Addr} {n c : Nat} (h : E0 G ts es) (hn : ts.length = n) (hs : Sl G p n c 2 es.flatten) (hk : E9 k) : B2 G (.mk k ts) [.int .i64 k, .slice p n c] := by
 subst hn
 simp only [B2]
 exact ⟨p, c, es, rfl, hk, C9.of hs h.len h.all (fun e he => (h.each e he).2), h⟩
theorem A3H (br : Nat) (pb : Option Addr) (nb cb : Nat) (bs : List UInt8) (hnb : nb ≤ 2000) : ∀ (d p : Nat) (G : IM), d ≤ 1000 → Sl G pb nb cb 1 (N5 bs) → p + dB (d + 1) < 1099511627776 →
  Fn Tryz.prog 128 [.pointer (some ⟨br, 0, none⟩), .int .i64 ((d + 1 : Nat) : Int)] [rd br pb nb cb p] G
   (Z6 br pb nb cb p (dB (d + 1)) (fun G' v => ∃ t cells, v = .agg ⟨cells⟩ ∧ B2 G' t cells ∧ H4 t ≤ ((dB (d + 1) : Nat) : Int) ∧ Q4 d t)) := by
 refine fun d => Nat.strongRecOn d fun d ih p G hd hb hp => ?_
 rw [dB] at hp ⊢
 refine B6 Tryz.func128 rfl Tryz.ntmps128 Tryz.results128 rfl ?_
 intro w0
 refine tS (tR ?_)
 refine sE (A6 rfl) rfl (fun b3 => ?_)
 refine sD (nS (tS (tR (sQ (qM rfl) rfl ?_))))
 (refine K7 (D0 rfl rfl rfl (by omega) (by unfold maxLen; omega) rfl) rfl ?_; rintro _ ⟨b9, rfl⟩)
 (refine U1 (by repeat (first | exact Pk.here | apply Pk.there)) (fun G1 hle1 hsl1 _ => ?_); refine H5 rfl (Y7 G1 br pb nb cb p bs _ _ _ _ (hb.mono hle1) hnb (by omega) hsl1 (by decide)) (Pk.perm (by repeat (first | exact Pk.here | apply Pk.there))) rfl rfl (fun v G2 outs hle2 hh => ?_); obtain ⟨rfl, rfl, hv⟩ := hh; replace hb := hb.mono hle1; obtain ⟨k, rfl, hk1⟩ : ∃ k, v = .int .i64 k ∧ 1 ≤ k ∧ k ≤ 5 := (by simp only [List.mem_cons, List.not_mem_nil, or_false] at hv; rcases hv with rfl | rfl | rfl | rfl | rfl | rfl | rfl <;> exact ⟨_, rfl, by decide, by decide⟩))
 refine sQ (qA rfl) rfl (sD (nS (tS (tS ?_))))
 (have hv' := hv; refine A0q (fun (x : Bool) => ⟨(16, .bool x) :: [(5, .int .i64 k), (4, .pointer (some ⟨b3, 0, none⟩)), (0, .pointer (some ⟨br, 0, none⟩)), (1, .int .i64 ((d + 1 : Nat) : Int))], [rd br pb nb cb (p + 1), .blk b3 [.int .i64 0, .slice none 0 0]], G2⟩) (fun x => x = false → d = 0 → k < 4) ?_ ?_)
 refine tR (sQ (qM rfl) rfl ?_)
 refine sB (M2 rfl rfl) rfl rfl (fun h19 => ?_) (fun h19 => ?_)
 refine sQ (qM rfl) rfl (sQ (qM rfl) rfl ?_)
 refine sB (A0G rfl rfl) rfl rfl (fun h22 => ?_) (fun h22 => ?_)
 refine sQ (K1 rfl rfl) rfl (sD ?_)
 refine Q2 true (O9 (by repeat (first | exact H8.nil | refine H8.cons rfl ?_)) (by repeat (first | exact A1.refl | exact A1.nil | refine A1.cons (by repeat (first | exact Pk.here | apply Pk.there)) ?_ | apply A1.drop))) ?_
 (show _ = false → d = 0 → k < 4; intro hf h0; first | exact absurd hf (by decide) | omega)
 refine sQ (K1 rfl rfl) rfl (sD ?_)
 refine Q2 false (O9 (by repeat (first | exact H8.nil | refine H8.cons rfl ?_)) (by repeat (first | exact A1.refl | exact A1.nil | refine A1.cons (by repeat (first | exact Pk.here | apply Pk.there)) ?_ | apply A1.drop))) ?_
 (show _ = false → d = 0 → k < 4; intro hf h0; first | exact absurd hf (by decide) | omega)
 refine R0 ?_
 refine Q2 false (O9 (by repeat (first | exact H8.nil | refine H8.cons rfl ?_)) (by repeat (first | exact A1.refl | exact A1.nil | refine A1.cons (by repeat (first | exact Pk.here | apply Pk.there)) ?_ | apply A1.drop))) ?_
 (show _ = false → d = 0 → k < 4; intro hf h0; first | exact absurd hf (by decide) | omega)
 (rintro x hx; clear hv)
 (show J5 _ _ (.cond (.tmp 16) _ _) _ _; refine A0q (fun (x : Int) => ⟨[(5, .int .i64 x), (4, .pointer (some ⟨b3, 0, none⟩)), (0, .pointer (some ⟨br, 0, none⟩)), (1, .int .i64 ((d + 1 : Nat) : Int))], [rd br pb nb cb (p + 1), .blk b3 [.int .i64 0, .slice none 0 0]], G2⟩) (fun x => 1 ≤ x ∧ x ≤ 5 ∧ (d = 0 → x < 4)) (A3k rfl (fun hxt => ?_) (fun hxf => ?_)) ?_)
 refine tR (sQ (qA rfl) rfl (sD ?_))
 refine Q2 1 (O9 (by repeat (first | exact H8.nil | refine H8.cons rfl ?_)) (by repeat (first | exact A1.refl | exact A1.nil | refine A1.cons (by repeat (first | exact Pk.here | apply Pk.there)) ?_ | apply A1.drop))) ?_
 (first | exact ⟨by omega, by omega, by omega⟩ | exact ⟨by omega, by omega, fun h0 => by have := hx hxf h0; omega⟩)
 refine tK ?_
 refine Q2 k (O9 (by repeat (first | exact H8.nil | refine H8.cons rfl ?_)) (by repeat (first | exact A1.refl | exact A1.nil | refine A1.cons (by repeat (first | exact Pk.here | apply Pk.there)) ?_ | apply A1.drop))) ?_
 (first | exact ⟨by omega, by omega, by omega⟩ | exact ⟨by omega, by omega, fun h0 => by have := hx hxf h0; omega⟩)
 (rintro kk ⟨hk2, hk3, hk4⟩; have hop := B2R kk; have hk5 := (N4 kk).1; have hk6 := (N4 kk).2.1; have hK := A8i kk)
 refine tS (tR (sQ (qM rfl) rfl (sQ (Q9 rfl rfl) rfl ?_)))
 refine sE (A6 rfl) rfl (fun b53 => ?_)
 refine H6 ?_
 refine sD (nS (tS (tS (tR (sQ (qA rfl) rfl (sD (nS ?_)))))))
 refine C3 ?_
 (refine Y3 25 2 ?_; refine M6 (fun (x : Nat × Option Addr × Nat × List Ty × List (List Value) × Nat × IM) => ⟨[(7, .int .i64 x.1), (5, .int .i64 kk), (6, .pointer (some ⟨b53, 0, none⟩)), (4, .pointer (some ⟨b3, 0, none⟩)), (0, .pointer (some ⟨br, 0, none⟩)), (1, .int .i64 ((d + 1 : Nat) : Int))], [.blk b53 [.int .i64 kk, .slice x.2.1 x.1 x.2.2.1], .slc x.2.1 x.2.2.1 25 2 x.1 x.2.2.2.2.1.flatten, rd br pb nb cb x.2.2.2.2.2.1, .blk b3 [.int .i64 0, .slice none 0 0]], x.2.2.2.2.2.2⟩) (fun x => (∀ u ∈ x.2.2.2.1, Q4 (d - 1) u) ∧ (x.1 : Int) ≤ V0 kk ∧ B8 G2 x.2.2.2.2.2.2 ∧ x.2.2.2.1.length = x.1 ∧ E0 x.2.2.2.2.2.2 x.2.2.2.1 x.2.2.2.2.1 ∧ L7 x.2.2.2.1 ≤ ((x.1 * dB d : Nat) : Int) ∧ p + 1 ≤ x.2.2.2.2.2.1 ∧ x.2.2.2.2.2.1 ≤ p + 1 + x.1 * dB d) (fun x => (V0 kk).toNat - x.1) (0, none, 0, [], [], p + 1, G2) ?_ ?_ ?_)
 (simp only [K4]; exact E1)
 (exact ⟨by simp, by dsimp only; omega, B8.refl _, rfl, by simp [E0], by simp [L7], by dsimp only; omega, by dsimp only; omega⟩)
 (rintro ⟨i, pn, cn, ts, es', p', Gi⟩ ⟨hah, hi, hle, hlt, hst, hsum, hq1, hq2⟩; simp only [] at hah hi hle hlt hst hsum hq1 hq2 ⊢; have hid : i * dB d ≤ 2 * dB d := Nat.mul_le_mul_right _ (by omega))
 refine tS (tS (tR (sQ (qM rfl) rfl (sQ (qM rfl) rfl ?_))))
 refine E8 rfl ((hK _)) rfl rfl ?_
 refine sB (M2 rfl rfl) rfl rfl (fun h74 => ?_) (fun h74 => ?_)
 refine sD (nS (qT rfl (tK (nS (tS ?_)))))
 refine C3 ?_
 (obtain ⟨d', rfl⟩ : ∃ d', d = d' + 1 := ⟨d - 1, by omega⟩; have hih := ih d' (by omega) p' Gi (by omega) (hb.mono hle) (by have := Nat.mul_le_mul_right (dB (d' + 1)) (show i + 1 ≤ 2 by omega); rw [Nat.succ_mul] at this; omega); refine D1 D2 rfl ?_)
 refine I4 (i := 0) (l' := [tt,ff,ff,ff,ff,ff,ff,ff,ff,ff]) rfl C8 (B5 rfl) rfl (by kernel_rfl) rfl rfl ?_
 refine aL 1 rfl (C7 rfl rfl) rfl ?_
 refine aP 2 rfl (qM rfl) rfl ?_
 refine aP 3 rfl (qM rfl) rfl ?_
 refine aP 4 rfl (A1c rfl rfl (by omega)) rfl ?_
 refine A2 5 ?_
 (refine Y6 (l' := [tt,tt,tt,tt,tt,tt,ff,ff,ff,ff]) rfl rfl hih (Pk.perm (by repeat (first | exact Pk.here | apply Pk.there))) rfl rfl rfl (by repeat (first | exact A9.nil | apply A9.dep (by decide +kernel) | apply A9.blk (by decide +kernel) (by repeat (first | exact Pk.here | apply Pk.there)) (by repeat first | exact mH | apply mT))) (fun v G3 outs hle3 hh => ?_); obtain ⟨p3, hp31, hp32, rfl, t3, cells3, rfl, hr3, hs3, ha3⟩ := hh; obtain ⟨q3, c3, es3, rfl, _⟩ := hr3.open)
 refine A2 6 ?_
 (refine D9 rfl (D0 rfl rfl rfl (by omega) (by unfold maxLen; omega) rfl) rfl rfl ?_; rintro _ ⟨b91, rfl⟩)
 refine A2 7 ?_
 refine V8 rfl rfl rfl rfl rfl rfl (fun _ _ => by repeat (first | exact Sw.here | apply Sw.there)) (R9 (by repeat first | exact mH | apply mT)) rfl (by simp [Value.oneCell']) (by unfold maxLen; omega) (by omega) rfl rfl (by repeat (first | exact A9.nil | apply A9.dep (by decide +kernel) | apply A9.blk (by decide +kernel) (by repeat (first | exact Pk.here | apply Pk.there)) (by repeat first | exact mH | apply mT))) (fun pn' cn' => ?_)
 refine aP 8 rfl (B5 rfl) rfl ?_
 refine A2 9 ?_
 refine M3 rfl rfl rfl rfl rfl rfl rfl rfl (by kernel_rfl) (by repeat first | exact Sw.here | apply Sw.there) (by rfl) ?_
 refine C0 (O2 (nS (tR (sQ (qM rfl) rfl ?_))))
 refine sP (M8 rfl rfl (by omega) (by omega)) rfl rfl ?_
 refine sQ (qA rfl) rfl (sD ?_)
 refine L8 (i + 1, pn', cn', ts ++ [t3], es' ++ [[.int .i64 t3.k, .slice q3 t3.ks.length c3]], p3, G3) ?_ ?_ ?_
 (simp only [K4]; exact E1)
 (dsimp only; have e1 : (i + 1) * dB (d' + 1) = i * dB (d' + 1) + dB (d' + 1) := Nat.succ_mul _ _; have e2 := A2T ts t3; exact ⟨by simp only [List.forall_mem_append, List.forall_mem_singleton]; exact ⟨hah, ha3⟩, by omega, hle.trans hle3, by simp [hlt], E0.snoc (hst.mono hle3) hr3, by omega, by omega, by omega⟩)
 (show (V0 kk).toNat - (i + 1) < (V0 kk).toNat - i; omega)
 refine O0 ?_
 (refine I6 (by repeat (first | exact Pk.here | apply Pk.there)) (fun G5 hle5 hsl5 hno5 => ?_))
 refine tT ?_
 refine I1 (outs := [rd br pb nb cb p']) (rC rfl (A4 rfl rfl)) (by repeat (first | exact A1.nil | refine A1.cons Pk.here ?_ | refine A1.cons (Pk.there Pk.here) ?_ | apply A1.drop)) ?_
 (refine ⟨p', by omega, by omega, rfl, .mk kk ts, _, rfl, (hst.mono hle5).ty hlt hsl5 ⟨by omega, by omega⟩, ?_, B2C hk4 (by omega) hk2 hk3 hah⟩; rw [H4]; omega)
theorem A8z (br : Nat) (pb : Option Addr) (nb cb : Nat) (bs : List UInt8) (hnb : nb ≤ 2000) (d p : Nat) (G : IM) (hd : d ≤ 1000) (hb : Sl G pb nb cb 1 (N5 bs)) (hp : p + dB (d + 1) < 1099511627776) :
  Fn Tryz.prog 128 [.pointer (some ⟨br, 0, none⟩), .int .i64 ((d + 1 : Nat) : Int)] [rd br pb nb cb p] G
   (Z6 br pb nb cb p (dB (d + 1)) (fun G' v => ∃ t cells, v = .agg ⟨cells⟩ ∧ B2 G' t cells ∧ H4 t ≤ ((dB (d + 1) : Nat) : Int))) :=
 (A3H br pb nb cb bs hnb d p G hd hb hp).mono fun G' v outs _ ⟨p', h1, h2, h3, t, cells, h4, h5, h6, _⟩ => ⟨p', h1, h2, h3, t, cells, h4, h5, h6⟩
end Gw
end Go.Proofs.YtfpgncjeejickaaGreatDoor
