/-
  The tests of terms. The scan of a term, CastValid, TermValid. The reference model's tests of types and nodes: they compute the same plain functions. Fresh data taken back into the call's own hands, and given up again; sizes. How high and how wide types are. The reference model's scans of types. The reference model's consistency of types. The reference model's tests of nodes. The reference model's scan of terms with casts. Types of terms with casts, in plain words over trees: what a node wants of its operands, and what it is. The laws' copies of types and terms. Copies of types and terms: the reference model's, the program's, the laws' of paths. Terms each node of which is changed, operands first; own copies. The reference model's count of nodes, its CastValid.
-/
import Derived.Test.YthpdjmbpbdbodaaGreatDoorKl1
set_option linter.unusedVariables false
set_option linter.unusedSimpArgs false
set_option maxHeartbeats 0
set_option maxRecDepth 100000
set_option synthInstance.maxSize 4000
set_option synthInstance.maxHeartbeats 0
namespace Go.Proofs.YthpdjmbpbdbodaaGreatDoor
open Go Go.RowKit
namespace Gw
theorem B3E (k : Int) (G : IM) (hk : H1 k) : Fn Tryz.prog 147 [.int .i64 k] [] G (H5 (.int .i64 (D7 k)) G) := by
 unfold H1 at hk
 refine C2 Tryz.func147 rfl Tryz.ntmps147 Tryz.results147 rfl ?_
 intro w0
 refine E1 ?_
 refine E8 rfl (A1l _ _ _ _) rfl rfl (fun h10 => ?_) (fun h10 => ?_)
 refine D0 ?_
 (refine J5 (D2 rfl rfl rfl (by omega) (by unfold maxLen; omega) rfl) rfl ?_; rintro _ ⟨b19, rfl⟩)
 refine F0 ?_
 (have hkk : 1 ≤ k ∧ k ≤ 14 := A3U (by assumption); refine sP (P3 rfl rfl (by omega) (by omega)) rfl rfl ?_)
 refine sP (A7W rfl rfl rfl (by omega) (by omega)) rfl rfl ?_
 refine sL (A0E rfl rfl (A7X (by repeat first | exact mH | apply mT) (B22 (by rw [Nat.zero_add, Nat.mul_one]; exact B21 hkk)))) rfl rfl ?_
 refine B2 ?_
 exact ⟨rfl, rfl, rfl⟩
 refine N5 ?_
 exact ⟨rfl, by rw [A4V (A8j (by assumption))], rfl⟩
theorem R5 {Q : Prop} (h : Q := by exact ⟨rfl, by (cases R with | false => rfl | true => (exfalso; obtain ⟨i1, i2, i3, i4, i5, i6, i7, i8, i9⟩ := hi.1 rfl; first | omega | (have j := i2 (by omega); simp_all; done) | (have j := i3 (by omega); simp_all; done) | (have j := i4 (by omega); simp_all; done) | (have j := i5 (by omega); simp_all; done) | (have j := i6 (by omega); simp_all; done) | (have j := i7 (by omega); simp_all; done) | (have j := i8 (by omega); simp_all; done) | (have j := i9 (by omega); simp_all; done))), rfl⟩) : Q := h
theorem A3b {Q : Prop} (h : Q := by exact ⟨rfl, by rw [hi.2 ⟨by omega, fun _ => by (first | assumption | (exfalso; omega) | exact Classical.not_not.1 (by assumption)), fun _ => by (first | assumption | (exfalso; omega) | exact Classical.not_not.1 (by assumption)), fun _ => by (first | assumption | (exfalso; omega) | exact Classical.not_not.1 (by assumption)), fun _ => by (first | assumption | (exfalso; omega) | exact Classical.not_not.1 (by assumption)), fun _ => by (first | assumption | (exfalso; omega) | exact Classical.not_not.1 (by assumption)), fun _ => by (first | assumption | (exfalso; omega) | exact Classical.not_not.1 (by assumption)), fun _ => ⟨by (first | assumption | (exfalso; omega)), by (first | assumption | (exfalso; omega))⟩, fun _ => ⟨by (first | assumption | (exfalso; omega)), by (first | assumption | omega)⟩⟩], rfl⟩) : Q := h
theorem B3F (k : Int) (nm : ByteArray) (num : Int) (ty fr : Ty) (lb : Int) (ks : List Tm) (G : IM) (cells : List Value) (hr : B3 G (.mk k nm num ty fr lb ks) cells) :
  Fn Tryz.prog 103 [.agg ⟨cells⟩] [] G (H5 (.bool (V7 k nm num ty fr lb ks.length)) G) := by
 obtain ⟨tk, tks⟩ := ty
 obtain ⟨fk, fks⟩ := fr
 obtain ⟨pt, ct, pf, cf, p, c, es, rfl, hk, hnum, hlb, hty, hfr, hsl, hkl⟩ := hr.open9
 have hi := @U3 k nm num (.mk tk tks) (.mk fk fks) lb ks.length
 obtain ⟨R, hR⟩ : ∃ R, V7 k nm num (.mk tk tks) (.mk fk fks) lb ks.length = R := ⟨_, rfl⟩
 rw [hR] at hi ⊢
 clear hR hr
 have o1 := B3E k G hk
 have o2 := B3B nm G
 have o3 := A3Y _ G _ hty
 have o4 := A8T _ G _ hty
 have o5 := B3D _ _ G _ _ hfr hty
 have o6 := B3A lb G
 have o7 := A8T _ G _ hfr
 refine C2 Tryz.func103 rfl Tryz.ntmps103 Tryz.results103 rfl ?_
 intro w0
 refine A5 ?_
 refine sE (C7 rfl rfl) rfl (fun b3 => ?_)
 refine B2 ?_
 refine D8 D9 rfl ?_
 refine I6 (i := 0) (l' := [tt,ff,ff,ff,ff,ff,ff]) rfl D3 (B8 rfl) rfl (by kernel_rfl) rfl rfl ?_
 refine aL 1 rfl (C4 rfl rfl) rfl ?_
 refine aP 3 rfl (B8 rfl) rfl ?_
 refine aL 4 rfl (C4 rfl rfl) rfl ?_
 refine aP 5 rfl (pLn rfl rfl) rfl ?_
 refine A4 2 ?_
 refine N6 rfl rfl (o1) rfl rfl rfl ?_
 refine A0R (i := 6) (l' := [tt,tt,tt,tt,tt,tt,tt]) rfl D3 (M1 rfl rfl) rfl (by kernel_rfl) rfl rfl (fun h17 => ?_) (fun h17 => ?_)
 refine I8 ?_
 exact R5
 refine E1 ?_
 refine sB (qE rfl rfl) rfl rfl (fun h39 => ?_) (fun h39 => ?_)
 refine N5 ?_
 refine sP (I7 rfl rfl (by omega)) rfl rfl ?_
 refine B9 ?_
 refine sP (I7 rfl rfl (by omega)) rfl rfl ?_
 refine B7 ?_
 refine sP (I7 rfl rfl (by omega)) rfl rfl ?_
 refine D0 ?_
 refine sP (I7 rfl rfl (by omega)) rfl rfl ?_
 refine J4 ?_
 refine sP (I7 rfl rfl (by omega)) rfl rfl ?_
 refine B0 ?_
 refine C3 ?_
 refine B5 ?_
 refine E8 rfl (o2) rfl rfl (fun h99 => ?_) (fun h99 => ?_)
 refine A06 ?_
 refine E8 rfl (A1l _ _ _ _) rfl rfl (fun h123 => ?_) (fun h123 => ?_)
 refine A5X ?_
 refine E8 rfl (o4) rfl rfl (fun h149 => ?_) (fun h149 => ?_)
 refine Z0 ?_
 refine B7 ?_
 refine E8 rfl (o7) rfl rfl (fun h184 => ?_) (fun h184 => ?_)
 refine B7 ?_
 refine sB (M1 rfl rfl) rfl rfl (fun h189 => ?_) (fun h189 => ?_)
 refine H6 ?_
 exact R5
 refine K4 ?_
 exact A3b
 refine A0o ?_
 exact R5
 refine H6 ?_
 exact R5
 refine J1 ?_
 exact R5
 refine U1 ?_
 exact R5
 refine B9 ?_
 refine sB (qE rfl rfl) rfl rfl (fun h297 => ?_) (fun h297 => ?_)
 refine D0 ?_
 refine sP (W8 rfl rfl (by omega)) rfl rfl ?_
 refine U5 ?_
 refine sP (I7 rfl rfl (by omega)) rfl rfl ?_
 refine J4 ?_
 refine sP (I7 rfl rfl (by omega)) rfl rfl ?_
 refine B0 ?_
 refine C3 ?_
 refine B5 ?_
 refine E8 rfl (o2) rfl rfl (fun h353 => ?_) (fun h353 => ?_)
 refine A06 ?_
 refine E8 rfl (A1l _ _ _ _) rfl rfl (fun h377 => ?_) (fun h377 => ?_)
 refine N5 ?_
 refine E8 rfl (o3) rfl rfl (fun h390 => ?_) (fun h390 => ?_)
 refine Z0 ?_
 refine U5 ?_
 refine E8 rfl (o7) rfl rfl (fun h438 => ?_) (fun h438 => ?_)
 refine B7 ?_
 refine sB (M1 rfl rfl) rfl rfl (fun h443 => ?_) (fun h443 => ?_)
 refine H6 ?_
 exact R5
 refine K4 ?_
 exact A3b
 refine A0o ?_
 exact R5
 refine U1 ?_
 exact R5
 refine J1 ?_
 exact R5
 refine U1 ?_
 exact R5
 refine D0 ?_
 refine sP (I7 rfl rfl (by omega)) rfl rfl ?_
 refine B9 ?_
 refine sB (qE rfl rfl) rfl rfl (fun h563 => ?_) (fun h563 => ?_)
 refine J4 ?_
 refine sP (I7 rfl rfl (by omega)) rfl rfl ?_
 refine J4 ?_
 refine sP (I7 rfl rfl (by omega)) rfl rfl ?_
 refine B0 ?_
 refine C3 ?_
 refine X6 ?_
 refine sB (A13 rfl rfl) rfl rfl (fun h620 => ?_) (fun h620 => ?_)
 refine U5 ?_
 exact R5
 refine E1 ?_
 refine E8 rfl (A1l _ _ _ _) rfl rfl (fun h648 => ?_) (fun h648 => ?_)
 refine N5 ?_
 refine E8 rfl (o3) rfl rfl (fun h661 => ?_) (fun h661 => ?_)
 refine Z0 ?_
 refine U5 ?_
 refine E8 rfl (o7) rfl rfl (fun h709 => ?_) (fun h709 => ?_)
 refine B7 ?_
 refine sB (M1 rfl rfl) rfl rfl (fun h714 => ?_) (fun h714 => ?_)
 refine H6 ?_
 exact R5
 refine K4 ?_
 exact A3b
 refine A0o ?_
 exact R5
 refine U1 ?_
 exact R5
 refine J1 ?_
 exact R5
 refine B7 ?_
 refine sB (qE rfl rfl) rfl rfl (fun h807 => ?_) (fun h807 => ?_)
 refine D0 ?_
 refine sP (W8 rfl rfl (by omega)) rfl rfl ?_
 refine J4 ?_
 refine sP (I7 rfl rfl (by omega)) rfl rfl ?_
 refine B0 ?_
 refine C3 ?_
 refine X6 ?_
 refine sB (A13 rfl rfl) rfl rfl (fun h859 => ?_) (fun h859 => ?_)
 refine U5 ?_
 exact R5
 refine E1 ?_
 refine E8 rfl (A1l _ _ _ _) rfl rfl (fun h887 => ?_) (fun h887 => ?_)
 refine N5 ?_
 refine E8 rfl (o3) rfl rfl (fun h900 => ?_) (fun h900 => ?_)
 refine A5Y ?_
 refine E8 rfl (o5) rfl rfl (fun h929 => ?_) (fun h929 => ?_)
 refine B7 ?_
 refine E8 rfl (o6) rfl rfl (fun h934 => ?_) (fun h934 => ?_)
 refine Z0 ?_
 refine B2 ?_
 exact A3b
 refine A0b ?_
 exact R5
 refine A1G ?_
 exact R5
 refine U1 ?_
 exact R5
 refine J1 ?_
 exact R5
 refine D0 ?_
 refine sP (I7 rfl rfl (by omega)) rfl rfl ?_
 refine J4 ?_
 refine sB (qE rfl rfl) rfl rfl (fun h1072 => ?_) (fun h1072 => ?_)
 refine D0 ?_
 refine C3 ?_
 refine X6 ?_
 refine sB (A13 rfl rfl) rfl rfl (fun h1103 => ?_) (fun h1103 => ?_)
 refine U5 ?_
 exact R5
 refine E1 ?_
 refine E8 rfl (A1l _ _ _ _) rfl rfl (fun h1131 => ?_) (fun h1131 => ?_)
 refine A5X ?_
 refine E8 rfl (o4) rfl rfl (fun h1157 => ?_) (fun h1157 => ?_)
 refine Z0 ?_
 refine B7 ?_
 refine E8 rfl (o7) rfl rfl (fun h1192 => ?_) (fun h1192 => ?_)
 refine B7 ?_
 refine sB (M1 rfl rfl) rfl rfl (fun h1197 => ?_) (fun h1197 => ?_)
 refine H6 ?_
 exact R5
 refine K4 ?_
 exact A3b
 refine A0o ?_
 exact R5
 refine H6 ?_
 exact R5
 refine J1 ?_
 exact R5
 refine B0 ?_
 refine C3 ?_
 refine X6 ?_
 refine sB (A13 rfl rfl) rfl rfl (fun h1311 => ?_) (fun h1311 => ?_)
 refine U5 ?_
 exact R5
 refine E1 ?_
 refine E8 rfl (A1l _ _ _ _) rfl rfl (fun h1339 => ?_) (fun h1339 => ?_)
 refine A5X ?_
 refine E8 rfl (o4) rfl rfl (fun h1365 => ?_) (fun h1365 => ?_)
 refine Z0 ?_
 refine B7 ?_
 refine E8 rfl (o7) rfl rfl (fun h1400 => ?_) (fun h1400 => ?_)
 refine B7 ?_
 refine sB (M1 rfl rfl) rfl rfl (fun h1405 => ?_) (fun h1405 => ?_)
 refine H6 ?_
 exact R5
 refine K4 ?_
 exact A3b
 refine A0o ?_
 exact R5
 refine H6 ?_
 exact R5
 refine J1 ?_
 exact R5
theorem A41 {Q : Prop} (h : Q := by (rw [B23 (by rw [hR]; first | omega | exact Or.inr (Or.inr (Or.inr (by assumption)))) ]; exact ⟨rfl, rfl, rfl⟩)) : Q := h
theorem X7 {Q : Prop} (h : Q := by (show ks.length - (i + 1) < ks.length - i; omega)) : Q := h
theorem A8U (M D N : Int) (hM : 0 ≤ M ∧ M ≤ 1000) (hD : 0 ≤ D ∧ D ≤ 1000) (bc : Nat) : ∀ (t : Tm) (deep c : Int) (G : IM) (cells : List Value), 0 ≤ deep ∧ deep ≤ D + 1 → 0 ≤ c ∧ c ≤ M → B3 G t cells →
  Fn Tryz.prog 65 [.agg ⟨cells⟩, .int .i64 deep, .int .i64 M, .int .i64 D, .int .i64 N, .pointer (some ⟨bc, 0, none⟩)] [.blk bc [.int .i64 c]] G
   (T9 (.bool (S8 M D N t deep c).1) [.blk bc [.int .i64 (S8 M D N t deep c).2]] G) := by
 refine Tm.ind fun k nm num ty fr lb ks ih deep c G cells hd hc hr => ?_
 have hno := B3F k nm num ty fr lb ks G cells hr
 obtain ⟨tk, tks⟩ := ty
 obtain ⟨fk, fks⟩ := fr
 obtain ⟨pt, ct, pf, cf, p, cp, es, rfl, hk, hnum, hlb, hty, hfr, hsl, hkl⟩ := hr.open9
 have hn := hsl.le
 obtain ⟨R, hR⟩ : ∃ R, V7 k nm num (.mk tk tks) (.mk fk fks) lb ks.length = R := ⟨_, rfl⟩
 rw [hR] at hno
 refine C2 Tryz.func65 rfl Tryz.ntmps65 Tryz.results65 rfl ?_
 intro w0
 refine A5 ?_
 refine sE (C7 rfl rfl) rfl (fun b3 => ?_)
 refine B0 ?_
 refine sQ (Z9 rfl) rfl ?_
 refine F0 ?_
 refine sP (J6 rfl rfl (by omega) (by omega)) rfl rfl ?_
 refine sQ (Z9 rfl) rfl ?_
 refine B5 ?_
 refine sQ (Z9 rfl) rfl ?_
 refine A5 ?_
 refine sB (Y9 rfl rfl) rfl rfl (fun h24 => ?_) (fun h24 => ?_)
 refine A4S ?_
 refine H7 (outs := [.blk bc [.int .i64 _]]) (rT rfl) (A0.cons (by repeat (first | exact Pk.here | apply Pk.there)) A0.nil) ?_
 exact A41
 refine B9 ?_
 refine sB (Y9 rfl rfl) rfl rfl (fun h56 => ?_) (fun h56 => ?_)
 refine A8e ?_
 refine H7 (outs := [.blk bc [.int .i64 _]]) (rT rfl) (A0.cons (by repeat (first | exact Pk.here | apply Pk.there)) A0.nil) ?_
 exact A41
 refine B2 ?_
 refine sB (qE rfl rfl) rfl rfl (fun h86 => ?_) (fun h86 => ?_)
 refine K4 ?_
 refine H7 (outs := [.blk bc [.int .i64 _]]) (rT rfl) (A0.cons (by repeat (first | exact Pk.here | apply Pk.there)) A0.nil) ?_
 exact A41
 refine B9 ?_
 refine E8 rfl (hno) rfl rfl (fun h108 => ?_) (fun h108 => ?_)
 refine K4 ?_
 refine C3 ?_
 (have hmk := B24 (M := M) (D := D) (N := N) (deep := deep) (c := c) (by omega) (hR.trans (by assumption)); refine K2 (fun (x : Nat × Int) => ⟨[(44, .int .i64 x.1), (43, .int .i64 ks.length), (42, .slice p ks.length cp), (5, .pointer (some ⟨bc, 0, none⟩)), (4, .int .i64 N), (3, .int .i64 D), (2, .int .i64 M), (1, .int .i64 deep)], [.blk bc [.int .i64 x.2]], G⟩) (fun x => x.1 ≤ ks.length ∧ 0 ≤ x.2 ∧ x.2 ≤ M ∧ U7 M D N ks (deep + 1) (c + 1) = U7 M D N (ks.drop x.1) (deep + 1) x.2) (fun x => ks.length - x.1) (0, c + 1) ?_ ?_ ?_)
 (simp only [J9]; exact E2)
 exact ⟨by simp, by simp; omega, by simp; omega, by simp⟩
 (rintro ⟨i, ci⟩ ⟨hi, hc0, hc1, hst⟩; simp only [] at hi hc0 hc1 hst ⊢)
 refine A5 ?_
 refine sB (J8 rfl rfl) rfl rfl (fun h132 => ?_) (fun h132 => ?_)
 refine B5 ?_
 refine C3 ?_
 refine A5 ?_
 (obtain ⟨b, o, e, rfl, hl, hat, hre, hgb⟩ := hsl.kidTm hkl (i := i) (by omega) (by omega); have hone := hre.one; have hle := A51 M D N ks[i] (deep + 1) ci hc0 hc1; refine sP (B6 rfl rfl rfl (by omega)) rfl rfl ?_)
 refine sL (A3 rfl rfl (hat _) hl) rfl rfl ?_
 refine sE (A8 rfl) rfl (fun b145 => ?_)
 refine W7 rfl rfl rfl (by assumption) (by assumption) rfl (by repeat first | exact Sw.here | apply Sw.there) (by exact D4 (by symm; assumption)) ?_
 refine B7 ?_
 refine sL (A3 rfl rfl (B1 (by repeat first | exact mH | apply mT)) (by assumption)) rfl rfl ?_
 refine F0 ?_
 refine sP (J6 rfl rfl (by omega) (by omega)) rfl rfl ?_
 refine B7 ?_
 refine B2U rfl (ih ks[i] (List.getElem_mem _) (deep + 1) ci G e (by omega) (by omega) hre) (Pk.perm (by repeat (first | exact Pk.here | apply Pk.there))) rfl rfl (fun h158 => ?_) (fun h158 => ?_)
 refine D0 ?_
 refine sP (J6 rfl rfl (by omega) (by omega)) rfl rfl ?_
 refine A5 ?_
 refine K3 (i + 1, (S8 M D N ks[i] (deep + 1) ci).2) ?_ ?_ ?_
 (simp only [J9]; exact E2)
 exact ⟨by omega, by omega, hle.2.2 (by assumption), by rw [hst, B25 (by omega) (by assumption)]⟩
 exact X7
 refine H6 ?_
 refine H7 (outs := [.blk bc [.int .i64 _]]) (rT rfl) (A0.cons (by repeat (first | exact Pk.here | apply Pk.there)) A0.nil) ?_
 (rw [hmk, hst, B26 (by omega) (by assumption)]; exact ⟨rfl, rfl, rfl⟩)
 refine H6 ?_
 refine H7 (outs := [.blk bc [.int .i64 _]]) (rT rfl) (A0.cons (by repeat (first | exact Pk.here | apply Pk.there)) A0.nil) ?_
 (rw [hmk, hst, B27 (by omega)]; exact ⟨rfl, rfl, rfl⟩)
 refine N5 ?_
 refine H7 (outs := [.blk bc [.int .i64 _]]) (rT rfl) (A0.cons (by repeat (first | exact Pk.here | apply Pk.there)) A0.nil) ?_
 exact A41
theorem A8V (t : Tm) (G : IM) (cells : List Value) (hr : B3 G t cells) : Fn Tryz.prog 32 [.agg ⟨cells⟩] [] G (H5 (.bool (M9 t)) G) := by
 have hl := hr.len
 refine C2 Tryz.func32 rfl Tryz.ntmps32 Tryz.results32 rfl ?_
 intro w0
 refine A5 ?_
 refine sE (C7 rfl rfl) rfl (fun b3 => ?_)
 refine B2 ?_
 refine sE (A8 rfl) rfl (fun b9 => ?_)
 refine B2 ?_
 refine sL (A3 rfl rfl (B1 (by repeat first | exact mH | apply mT)) (by assumption)) rfl rfl ?_
 refine A4R rfl (A8U 200 40 13 (by omega) (by omega) _ t 1 0 G cells (by omega) (by omega) hr) A0f rfl rfl ?_
 refine B2 ?_
 exact ⟨rfl, rfl, rfl⟩
theorem A42 (t : Tm) (G : IM) (cells : List Value) (hr : B3 G t cells) : Fn Tryz.prog 46 [.agg ⟨cells⟩] [] G (H5 (.bool (S9 t)) G) := by
 have hl := hr.len
 refine C2 Tryz.func46 rfl Tryz.ntmps46 Tryz.results46 rfl ?_
 intro w0
 refine A5 ?_
 refine sE (C7 rfl rfl) rfl (fun b3 => ?_)
 refine B2 ?_
 refine sE (A8 rfl) rfl (fun b9 => ?_)
 refine B2 ?_
 refine sL (A3 rfl rfl (B1 (by repeat first | exact mH | apply mT)) (by assumption)) rfl rfl ?_
 refine A4R rfl (A8U 30 12 14 (by omega) (by omega) _ t 1 0 G cells (by omega) (by omega) hr) A0f rfl rfl ?_
 refine B2 ?_
 exact ⟨rfl, rfl, rfl⟩
theorem A3c {Q : Prop} (h : Q := by exact ⟨rfl, by (first | rw [(A1j k).1 (by omega)] | rw [(A1j k).2.1 (by omega)] | rw [(A1j k).2.2 (by omega) (by omega) (by omega) (by omega) (by omega)]), rfl⟩) : Q := h
theorem A8W (k : Int) (G : IM) : Fn Tryz.prog 122 [.int .i64 k] [] G (H5 (.int .i64 (V1 k)) G) := by
 refine C2 Tryz.func122 rfl Tryz.ntmps122 Tryz.results122 rfl ?_
 intro w0
 refine I8 ?_
 refine C3 ?_
 refine B9 ?_
 refine sB (qE rfl rfl) rfl rfl (fun h16 => ?_) (fun h16 => ?_)
 refine K4 ?_
 exact A3c
 refine B0 ?_
 refine sB (qE rfl rfl) rfl rfl (fun h40 => ?_) (fun h40 => ?_)
 refine K4 ?_
 exact A3c
 refine B2 ?_
 refine sB (qE rfl rfl) rfl rfl (fun h63 => ?_) (fun h63 => ?_)
 refine J4 ?_
 exact A3c
 refine B5 ?_
 refine sB (qE rfl rfl) rfl rfl (fun h85 => ?_) (fun h85 => ?_)
 refine K4 ?_
 exact A3c
 refine B2 ?_
 refine sB (qE rfl rfl) rfl rfl (fun h108 => ?_) (fun h108 => ?_)
 refine J4 ?_
 exact A3c
 refine J1 ?_
 exact A3c
theorem A0r {Q : Prop} (h : Q := by exact ⟨rfl, by (unfold D7; first | rw [if_pos (by omega)] | rw [if_neg (by omega), if_pos (by omega)] | rw [if_neg (by omega), if_neg (by omega), if_pos (by omega)] | rw [if_neg (by omega), if_neg (by omega), if_neg (by omega), if_pos (by omega)] | rw [if_neg (by omega), if_neg (by omega), if_neg (by omega), if_neg (by omega)]), rfl⟩) : Q := h
theorem A43 (k : Int) (G : IM) : Fn Tryz.prog 159 [.int .i64 k] [] G (H5 (.int .i64 (D7 k)) G) := by
 refine C2 Tryz.func159 rfl Tryz.ntmps159 Tryz.results159 rfl ?_
 intro w0
 refine I8 ?_
 refine C3 ?_
 refine B9 ?_
 refine sB (qE rfl rfl) rfl rfl (fun h16 => ?_) (fun h16 => ?_)
 refine K4 ?_
 exact A0r
 refine B0 ?_
 refine sB (qE rfl rfl) rfl rfl (fun h40 => ?_) (fun h40 => ?_)
 refine K4 ?_
 exact A0r
 refine B0 ?_
 refine sB (qE rfl rfl) rfl rfl (fun h64 => ?_) (fun h64 => ?_)
 refine K4 ?_
 exact A0r
 refine B2 ?_
 refine sB (qE rfl rfl) rfl rfl (fun h87 => ?_) (fun h87 => ?_)
 refine J4 ?_
 exact A0r
 refine B5 ?_
 refine sB (qE rfl rfl) rfl rfl (fun h109 => ?_) (fun h109 => ?_)
 refine K4 ?_
 exact A0r
 refine B0 ?_
 refine sB (qE rfl rfl) rfl rfl (fun h133 => ?_) (fun h133 => ?_)
 refine K4 ?_
 exact A0r
 refine B0 ?_
 refine sB (qE rfl rfl) rfl rfl (fun h157 => ?_) (fun h157 => ?_)
 refine K4 ?_
 exact A0r
 refine B0 ?_
 refine sB (qE rfl rfl) rfl rfl (fun h181 => ?_) (fun h181 => ?_)
 refine K4 ?_
 exact A0r
 refine B2 ?_
 refine sB (qE rfl rfl) rfl rfl (fun h204 => ?_) (fun h204 => ?_)
 refine J4 ?_
 exact A0r
 refine B5 ?_
 refine sB (qE rfl rfl) rfl rfl (fun h226 => ?_) (fun h226 => ?_)
 refine K4 ?_
 exact A0r
 refine B0 ?_
 refine sB (qE rfl rfl) rfl rfl (fun h250 => ?_) (fun h250 => ?_)
 refine K4 ?_
 exact A0r
 refine B0 ?_
 refine sB (qE rfl rfl) rfl rfl (fun h274 => ?_) (fun h274 => ?_)
 refine K4 ?_
 exact A0r
 refine B2 ?_
 refine sB (qE rfl rfl) rfl rfl (fun h297 => ?_) (fun h297 => ?_)
 refine J4 ?_
 exact A0r
 refine B0 ?_
 refine sB (qE rfl rfl) rfl rfl (fun h318 => ?_) (fun h318 => ?_)
 refine J4 ?_
 exact A0r
 refine J1 ?_
 exact A0r
theorem B3G (s : ByteArray) (G : IM) : Fn Tryz.prog 166 [.string s] [] G (H5 (.bool (A07 s)) G) := by
 refine C2 Tryz.func166 rfl Tryz.ntmps166 Tryz.results166 rfl ?_
 intro w0
 refine D0 ?_
 refine sQ (A2r rfl rfl) rfl (sB (qE rfl rfl) rfl rfl (fun h10 => ?_) (fun h10 => ?_))
 refine A5 ?_
 refine sP (A4K rfl rfl rfl (by omega) (A4U (by omega))) rfl rfl ?_
 refine sB (A0S rfl rfl) rfl rfl (fun h14 => ?_) (fun h14 => ?_)
 refine B9 ?_
 refine sP (A4K rfl rfl rfl (by omega) (A4U (by omega))) rfl rfl ?_
 refine sB (A0n rfl rfl) rfl rfl (fun h19 => ?_) (fun h19 => ?_)
 refine B0 ?_
 exact zq6
 refine B0 ?_
 exact zq6
 refine I8 ?_
 exact zq6
 refine H6 ?_
 exact zq6
theorem A8X (t : Ty) (G : IM) (cells : List Value) (hr : C1 G t cells) : Fn Tryz.prog 180 [.agg ⟨cells⟩] [] G (H5 (.bool (A0I t)) G) := by
 obtain ⟨p, c, es, rfl, hk, hsl, hkl⟩ := hr.open
 refine C2 Tryz.func180 rfl Tryz.ntmps180 Tryz.results180 rfl ?_
 intro w0
 refine A5 ?_
 refine sE (C7 rfl rfl) rfl (fun b3 => ?_)
 refine B5 ?_
 refine sB (qE rfl rfl) rfl rfl (fun h11 => ?_) (fun h11 => ?_)
 refine B7 ?_
 refine sB (qE rfl rfl) rfl rfl (fun h16 => ?_) (fun h16 => ?_)
 refine B0 ?_
 exact zq5
 refine B0 ?_
 exact zq5
 refine I8 ?_
 exact zq5
def A1M (n : Int) : Int := if n < -99 ∨ n > 99 then 0 else if n < 0 then -n else n
theorem A44 {Q : Prop} (h : Q := by exact ⟨rfl, by (unfold A1M; first | rw [if_pos (by omega)] | rw [if_neg (by omega), if_pos (by omega)] | rw [if_neg (by omega), if_neg (by omega)]), rfl⟩) : Q := h
theorem B3H (n : Int) (G : IM) : Fn Tryz.prog 181 [.int .i64 n] [] G (H5 (.int .i64 (A1M n)) G) := by
 refine C2 Tryz.func181 rfl Tryz.ntmps181 Tryz.results181 rfl ?_
 intro w0
 refine E1 ?_
 refine sB (J8 rfl rfl) rfl rfl (fun h10 => ?_) (fun h10 => ?_)
 refine H6 ?_
 exact A44
 refine A5 ?_
 refine sB (Y9 rfl rfl) rfl rfl (fun h29 => ?_) (fun h29 => ?_)
 refine N5 ?_
 exact A44
 refine J0 ?_
 refine sB (J8 rfl rfl) rfl rfl (fun h53 => ?_) (fun h53 => ?_)
 refine B0 ?_
 refine sP (A4I rfl (by omega) (by omega)) rfl rfl ?_
 refine B0 ?_
 exact A44
 refine J4 ?_
 exact A44
theorem Sl.of_blk {G : IM} {b n c sz : Nat} {A C cs : List Value} (hl : cs.length = n * sz) (hc : n ≤ c) (hm : c ≤ maxLen) (hg : G b = some (A ++ (cs ++ C))) : Sl G (some ⟨b, A.length, none⟩) n c sz cs := by
 refine ⟨hl, hc, hm, .inr ⟨b, A.length, _, rfl, hg, fun j v hj => ?_⟩⟩
 have hlt : j < cs.length := (List.getElem?_eq_some_iff.1 hj).1
 rw [List.getElem?_append, if_neg (by omega), List.getElem?_append, if_pos (by omega), show A.length + j - A.length = j by omega]
 exact hj
def InG (G : IM) (bs : A08) (F : List Nat) : Prop := (bs.map Prod.fst).Sublist F ∧ ∀ q ∈ bs, G q.1 = some q.2
mutual
theorem A3Z : ∀ t : Ty, K6 t ≤ 4294967296 → t.small
 | .mk _ ks, h => by
  rw [K6] at h
  have := A17 ks
  simp only [Ty.small]
  exact ⟨by omega, A8Y ks (by omega)⟩
theorem A8Y : ∀ ts : List Ty, O8 ts ≤ 4294967296 → Ty.smallL ts
 | [], _ => by simp [Ty.smallL]
 | t :: ts, h => by
  rw [O8] at h
  have := A09 t
  have := A17 ts
  simp only [Ty.smallL]
  exact ⟨A3Z t (by omega), A8Y ts (by omega)⟩
end
mutual
theorem A8Z : ∀ t : Tm, A0p t ≤ 4294967296 → t.small
 | .mk _ nm _ ty fr _ ks, h => by
  rw [A0p] at h
  have := A4Y ks
  have := A09 ty
  have := A09 fr
  simp only [Tm.small]
  exact ⟨by omega, A3Z ty (by omega), A3Z fr (by omega), by omega, A80 ks (by omega)⟩
theorem A80 : ∀ ts : List Tm, Y1 ts ≤ 4294967296 → Tm.smallL ts
 | [], _ => by simp [Tm.smallL]
 | t :: ts, h => by
  rw [Y1] at h
  have := A8B t
  have := A4Y ts
  simp only [Tm.smallL]
  exact ⟨A8Z t (by omega), A80 ts (by omega)⟩
end
mutual
theorem A6l : ∀ t : Tm, (D6 t : Int) ≤ A0p t + 1
 | .mk _ nm _ ty fr _ ks => by
  have := A81 ks
  have := A09 ty
  have := A09 fr
  rw [A0p, D6]; omega
theorem A81 : ∀ ts : List Tm, (E9 ts : Int) ≤ ts.length + Y1 ts
 | [] => by rw [Y1, E9]; simp
 | t :: ts => by
  have := A6l t
  have := A81 ts
  rw [Y1, E9, List.length_cons]; omega
end
def Q5 : Ty := .mk 1 []
def Q6 : Nat → Ty → Prop
 | 0, .mk k ks => ks = [] ∧ k ≠ 4 ∧ k ≠ 5
 | n + 1, .mk k ks => (k = 4 ∨ k = 5 → ks.length = 2) ∧ (k ≠ 4 → k ≠ 5 → ks.length = 0) ∧ ∀ t ∈ ks, Q6 n t
mutual
def F8 : Ty → Prop
 | .mk k ks => (k = 4 ∨ k = 5 → ks.length = 2) ∧ (k ≠ 4 → k ≠ 5 → ks.length = 0) ∧ A0V ks
def A0V : List Ty → Prop
 | [] => True
 | t :: ts => F8 t ∧ A0V ts
end
theorem A1N : ∀ {ts : List Ty}, A0V ts ↔ ∀ t ∈ ts, F8 t
 | [] => by simp [A0V]
 | t :: ts => by simp only [A0V, A1N (ts := ts), List.forall_mem_cons]
theorem Q6.ar : ∀ {n : Nat} {t : Ty}, Q6 n t → F8 t
 | 0, .mk k ks, h => by
  obtain ⟨rfl, h1, h2⟩ := h
  rw [F8]
  exact ⟨fun h => by omega, fun _ _ => rfl, by rw [A0V]; trivial⟩
 | n + 1, .mk k ks, h => by
  obtain ⟨h1, h2, h3⟩ := h
  rw [F8]
  exact ⟨h1, h2, A1N.2 fun t ht => (h3 t ht).ar⟩
theorem Q6.up : ∀ {n : Nat} {t : Ty}, Q6 n t → Q6 (n + 1) t
 | 0, .mk k ks, h => by
  obtain ⟨rfl, h1, h2⟩ := h
  exact ⟨fun h => by omega, fun _ _ => rfl, by simp⟩
 | n + 1, .mk k ks, h => by
  obtain ⟨h1, h2, h3⟩ := h
  exact ⟨h1, h2, fun t ht => (h3 t ht).up⟩
theorem Q6.le {n m : Nat} {t : Ty} (h : Q6 n t) (hm : n ≤ m) : Q6 m t := by
 induction hm with
 | refl => exact h
 | step _ ih => exact ih.up
theorem B3I {d : Nat} {k : Int} {ts : List Ty} (h0 : d = 0 → k < 4) (hl : (ts.length : Int) = V1 k) (h1 : 1 ≤ k) (h5 : k ≤ 5) (ha : ∀ u ∈ ts, Q6 (d - 1) u) : Q6 d (.mk k ts) := by
 have hk : k = 1 ∨ k = 2 ∨ k = 3 ∨ k = 4 ∨ k = 5 := by omega
 cases d with
 | zero =>
  have hk4 := h0 rfl
  refine ⟨?_, by omega, by omega⟩
  have : V1 k = 0 := by
   rcases hk with rfl | rfl | rfl | rfl | rfl <;> first | rfl | omega
  exact List.length_eq_zero_iff.1 (by omega)
 | succ d =>
  refine ⟨?_, ?_, ha⟩
  ·rintro (rfl | rfl)
   ·have : V1 4 = 2 := rfl
    omega
   ·have : V1 5 = 2 := rfl
    omega
  ·intro h4 h5
   have : V1 k = 0 := by
    rcases hk with rfl | rfl | rfl | rfl | rfl <;> first | rfl | omega
   omega
theorem A82 (n : Nat) : Q6 n Q5 := by
 refine Q6.le (n := 0) ⟨rfl, by decide, by decide⟩ (Nat.zero_le n)
theorem A3d (n : Nat) {k : Int} (h4 : k ≠ 4) (h5 : k ≠ 5) : Q6 n (.mk k []) := Q6.le (n := 0) ⟨rfl, h4, h5⟩ (Nat.zero_le n)
theorem A30 : F8 Q5 := (A82 0).ar
mutual
theorem F8.small : ∀ {t : Ty}, F8 t → t.small
 | .mk k ks, h => by
  rw [F8] at h
  rw [Ty.small]
  exact ⟨by have h1 := h.1; have h2 := h.2.1; omega, A0V.small h.2.2⟩
theorem A0V.small : ∀ {ts : List Ty}, A0V ts → Ty.smallL ts
 | [], _ => by rw [Ty.smallL]; trivial
 | t :: ts, h => by
  rw [A0V] at h
  rw [Ty.smallL]
  exact ⟨h.1.small, A0V.small h.2⟩
end
theorem A45 : ∀ {n : Nat} {t : Ty}, Q6 n t → K6 t ≤ ((2 ^ (n + 1) - 2 : Nat) : Int)
 | 0, .mk k ks, h => by
  obtain ⟨rfl, h1, h2⟩ := h
  rw [K6, O8]; simp
 | n + 1, .mk k ks, h => by
  obtain ⟨h1, h2, h3⟩ := h
  have hp : 2 ≤ 2 ^ (n + 1) := by
   have := Nat.pow_le_pow_right (n := 2) (by omega) (show 1 ≤ n + 1 by omega)
   simpa using this
  have e : 2 ^ (n + 1 + 1) = 2 ^ (n + 1) * 2 := Nat.pow_succ ..
  have hl : ks.length = 0 ∨ ks.length = 2 := by omega
  rw [K6]
  match ks, hl, h3 with
  | [], _, _ => rw [O8]; simp
  | [a, b], _, h3 =>
   have := A45 (h3 a (by simp))
   have := A45 (h3 b (by simp))
   simp only [O8, List.length_cons, List.length_nil]; omega
theorem B3J {k : Int} {ks us : List Ty} : ∀ {n : Nat}, Q6 n (.mk k ks) → us.length = ks.length → (∀ u ∈ us, Q6 (n - 1) u) → Q6 n (.mk k us)
 | 0, h, hl, _ => by
  obtain ⟨rfl, h1, h2⟩ := h
  exact ⟨List.length_eq_zero_iff.1 (by simpa using hl), h1, h2⟩
 | n + 1, h, hl, hu => by
  obtain ⟨h1, h2, h3⟩ := h
  exact ⟨fun hk => by rw [hl]; exact h1 hk, fun a b => by rw [hl]; exact h2 a b, hu⟩
theorem A6m {k : Int} {ks : List Ty} {t : Ty} : ∀ {n : Nat}, Q6 n (.mk k ks) → t ∈ ks → Q6 (n - 1) t
 | 0, h, ht => by
  obtain ⟨rfl, h1, h2⟩ := h
  simp at ht
 | n + 1, h, ht => h.2.2 t ht
theorem A83 {k : Int} {ks : List Ty} {d : Int} (h : 4 < d ∨ V1 k ≠ ks.length) : O7 (.mk k ks) d = false := by
 rw [O7]
 rcases h with h | h
 ·rw [decide_eq_false (by omega)]; rfl
 ·rw [decide_eq_false (p := V1 k = ks.length) h, Bool.and_false]; rfl
theorem A84 {k : Int} {ks : List Ty} {d : Int} (h : d ≤ 4) (h2 : V1 k = ks.length) : O7 (.mk k ks) d = U2 ks (d + 1) := by
 rw [O7, decide_eq_true h, decide_eq_true h2]; rfl
theorem B3K {ks : List Ty} {d : Int} {i : Nat} (hi : i < ks.length) (h : O7 ks[i] d = false) : U2 ks d = false := by
 cases hx : U2 ks d with
 | false => rfl
 | true => rw [(A4T ks d).1 hx i hi] at h; cases h
theorem A46 {Q : Prop} (h : Q := by exact ⟨by omega, fun j hj hji => by (by_cases he : j = i; (subst he; assumption); exact hf j hj (by omega))⟩) : Q := h
theorem B3L : ∀ (t : Ty) (d : Int) (G : IM) (cells : List Value), 0 ≤ d ∧ d ≤ 4 → C1 G t cells →
  Fn Tryz.prog 156 [.agg ⟨cells⟩, .int .i64 d] [] G (H5 (.bool (O7 t (5 - d))) G) := by
 refine Ty.ind fun k ks ih d G cells hd hr => ?_
 obtain ⟨p, c, es, rfl, hk, hsl, hkl⟩ := hr.open
 simp only [Ty.k, Ty.ks] at hk hsl hkl ⊢
 have hn := hsl.le
 have hk1 := A8W k G
 refine C2 Tryz.func156 rfl Tryz.ntmps156 Tryz.results156 rfl ?_
 intro w0
 refine A5 ?_
 refine sE (C7 rfl rfl) rfl (fun b3 => ?_)
 refine B2 ?_
 refine D8 D9 rfl ?_
 refine I6 (i := 0) (l' := [tt,ff,ff,ff,ff,ff,ff,ff,ff,ff,ff]) rfl D3 (qM rfl) rfl (by kernel_rfl) rfl rfl ?_
 refine A0R (i := 1) (l' := [tt,tt,ff,ff,ff,ff,ff,ff,ff,ff,ff]) rfl D3 (J8 rfl rfl) rfl (by kernel_rfl) rfl rfl (fun h11 => ?_) (fun h11 => ?_)
 refine aP 2 rfl (qM rfl) rfl ?_
 refine C5 3 rfl rfl rfl ?_
 refine C5 4 rfl rfl rfl ?_
 refine C5 6 rfl rfl rfl ?_
 refine C5 7 rfl rfl rfl ?_
 refine C5 8 rfl rfl rfl ?_
 refine C5 5 rfl rfl rfl ?_
 refine C5 9 rfl rfl rfl ?_
 refine aP 10 rfl (N3 rfl rfl) rfl ?_
 refine I8 ?_
 (rw [A83 (by omega)]; exact ⟨rfl, rfl, rfl⟩)
 refine aP 2 rfl (qM rfl) rfl ?_
 refine aP 3 rfl (B8 rfl) rfl ?_
 refine aL 4 rfl (C4 rfl rfl) rfl ?_
 refine aP 6 rfl (B8 rfl) rfl ?_
 refine aL 7 rfl (C4 rfl rfl) rfl ?_
 refine aP 8 rfl (pLn rfl rfl) rfl ?_
 refine A4 5 ?_
 refine N6 rfl rfl (hk1) rfl rfl rfl ?_
 refine A0R (i := 9) (l' := [tt,tt,tt,tt,tt,tt,tt,tt,tt,tt,ff]) rfl D3 (M1 rfl rfl) rfl (by kernel_rfl) rfl rfl (fun h41 => ?_) (fun h41 => ?_)
 refine aP 10 rfl (P6 rfl rfl) rfl ?_
 refine I8 ?_
 (rw [A83 (by omega)]; exact ⟨rfl, rfl, rfl⟩)
 refine aP 10 rfl (P6 rfl rfl) rfl ?_
 refine I8 ?_
 refine C3 ?_
 (refine K2 (fun (i : Nat) => ⟨[(5, .int .i64 i), (2, .pointer (some ⟨b3, 0, none⟩)), (1, .int .i64 d)], [.blk b3 [.int .i64 k, .slice p ks.length c]], G⟩) (fun i => i ≤ ks.length ∧ ∀ j (h : j < ks.length), j < i → O7 ks[j] (5 - d + 1) = true) (fun i => ks.length - i) 0 ?_ ?_ ?_)
 exact E2
 exact ⟨by omega, by omega⟩
 (rintro i ⟨hi, hf⟩)
 refine B5 ?_
 refine sB (J8 rfl rfl) rfl rfl (fun h79 => ?_) (fun h79 => ?_)
 refine B0 ?_
 refine C3 ?_
 refine B2 ?_
 (obtain ⟨b, o, p2, c2, rfl, hat, hre, hgb⟩ := hsl.kidTy hkl (i := i) (by omega) (by omega); refine sP (B6 rfl rfl rfl (by omega)) rfl rfl ?_)
 refine sL (A3 rfl rfl (hat _) rfl) rfl rfl ?_
 refine F0 ?_
 refine sP (P3 rfl rfl (by omega) (by omega)) rfl rfl ?_
 (have hih := ih ks[i] (List.getElem_mem (by omega)) (d - 1) G _ (by omega) hre; rw [show 5 - (d - 1) = 5 - d + 1 by omega] at hih; refine E8 rfl hih rfl rfl (fun h96 => ?_) (fun h96 => ?_))
 refine E1 ?_
 refine sP (J6 rfl rfl (by omega) (by omega)) rfl rfl ?_
 refine A5 ?_
 refine K3 (i + 1) ?_ ?_ ?_
 exact E2
 exact A46
 omega
 refine K4 ?_
 (rw [A84 (by omega) (by omega), B3K (i := i) (by omega) (by assumption)]; exact ⟨rfl, rfl, rfl⟩)
 refine H6 ?_
 (rw [A84 (by omega) (by omega), (A4T ks _).2 (fun j hj => hf j hj (by omega))]; exact ⟨rfl, rfl, rfl⟩)
theorem A1O (t : Ty) (G : IM) (cells : List Value) (hr : C1 G t cells) : Fn Tryz.prog 117 [.agg ⟨cells⟩] [] G (H5 (.bool (F4 t)) G) := by
 have hl := hr.len
 have hv := B3L t 4 G cells (by omega) hr
 refine C2 Tryz.func117 rfl Tryz.ntmps117 Tryz.results117 rfl ?_
 intro w0
 refine A5 ?_
 refine sE (C7 rfl rfl) rfl (fun b3 => ?_)
 refine B2 ?_
 refine sL (A3 rfl rfl (B1 (by repeat first | exact mH | apply mT)) (by assumption)) rfl rfl ?_
 refine H9 rfl (hv) rfl rfl ?_
 refine B2 ?_
 exact ⟨rfl, rfl, rfl⟩
theorem A2C {k : Int} {ks : List Ty} {d : Int} (h : O7 (.mk k ks) d = true) : V1 k = ks.length ∧ ∀ i, (hi : i < ks.length) → O7 ks[i] (d + 1) = true := by
 rw [O7] at h
 simp only [Bool.and_eq_true, decide_eq_true_eq] at h
 exact ⟨h.1.2, (A4T ks _).1 h.2⟩
theorem B3M {k k' : Int} {ks ks' : List Ty} (h : k = 1 ∨ k' = 1) : K5 (.mk k ks) (.mk k' ks') = true := by
 rw [U6]
 rcases h with h | h
 ·rw [decide_eq_true (p := k = 1) h]; rfl
 ·rw [decide_eq_true (p := k' = 1) h]; simp
theorem A85 {k k' : Int} {ks ks' : List Ty} (h : k ≠ 1) (h' : k' ≠ 1) (hk : k ≠ k') : K5 (.mk k ks) (.mk k' ks') = false := by
 rw [U6, decide_eq_false h, decide_eq_false h', decide_eq_false hk]; rfl
theorem A86 {k k' : Int} {ks ks' : List Ty} (h : k ≠ 1) (h' : k' ≠ 1) (hk : k = k') : K5 (.mk k ks) (.mk k' ks') = N8 ks ks' := by
 rw [U6, decide_eq_false h, decide_eq_false h', decide_eq_true hk]; rfl
theorem B3N {ks ks' : List Ty} {i : Nat} (hi : i < ks.length) (hi' : i < ks'.length) (h : K5 ks[i] ks'[i] = false) : N8 ks ks' = false := by
 cases hx : N8 ks ks' with
 | false => rfl
 | true => rw [((A2z ks ks').1 hx).2 i hi hi'] at h; cases h
theorem A47 {Q : Prop} (h : Q := by (rw [B3M (by omega)]; exact ⟨rfl, rfl, rfl⟩)) : Q := h
theorem A6n {Q : Prop} (h : Q := by exact ⟨by omega, fun j hj hj' hji => by (by_cases he : j = i; (subst he; assumption); exact hf j hj hj' (by omega))⟩) : Q := h
theorem A87 {Q : Prop} (h : Q := by (rw [A86 (by omega) (by omega) (by omega), B3N (i := i) (by omega) (by omega) (by assumption)]; exact ⟨rfl, rfl, rfl⟩)) : Q := h
theorem A88 {Q : Prop} (h : Q := by (rw [A86 (by omega) (by omega) (by omega), (A2z ks _).2 ⟨hll, fun j hj hj' => hf j hj hj' (by omega)⟩]; exact ⟨rfl, rfl, rfl⟩)) : Q := h
theorem B3O : ∀ (t t' : Ty) (G : IM) (cells cells' : List Value) (d d' : Int), O7 t d = true → O7 t' d' = true → C1 G t cells → C1 G t' cells' →
  Fn Tryz.prog 60 [.agg ⟨cells⟩, .agg ⟨cells'⟩] [] G (H5 (.bool (K5 t t')) G) := by
 refine Ty.ind fun k ks ih t' G cells cells' d d' hv hv' hr hr' => ?_
 obtain ⟨k', ks'⟩ := t'
 obtain ⟨p, c, es, rfl, hk, hsl, hkl⟩ := hr.open
 obtain ⟨p', c', es', rfl, hk', hsl', hkl'⟩ := hr'.open
 simp only [Ty.k, Ty.ks] at hk hsl hkl hk' hsl' hkl' ⊢
 have hn := hsl.le
 have hn' := hsl'.le
 obtain ⟨hv1, hv2⟩ := A2C hv
 obtain ⟨hv1', hv2'⟩ := A2C hv'
 have hle : k = k' → ks.length = ks'.length := by rintro rfl; omega
 refine C2 Tryz.func60 rfl Tryz.ntmps60 Tryz.results60 rfl ?_
 intro w0
 refine A5 ?_
 refine sE (C7 rfl rfl) rfl (fun b3 => ?_)
 refine sE (C7 rfl rfl) rfl (fun b4 => ?_)
 refine D0 ?_
 refine sB (qE rfl rfl) rfl rfl (fun h13 => ?_) (fun h13 => ?_)
 refine K4 ?_
 exact A47
 refine B9 ?_
 refine sB (qE rfl rfl) rfl rfl (fun h34 => ?_) (fun h34 => ?_)
 refine N5 ?_
 exact A47
 refine J4 ?_
 refine sB (M1 rfl rfl) rfl rfl (fun h61 => ?_) (fun h61 => ?_)
 refine I8 ?_
 (rw [A85 (by omega) (by omega) (by omega)]; exact ⟨rfl, rfl, rfl⟩)
 refine I8 ?_
 refine C3 ?_
 (have hll : ks.length = ks'.length := hle (by omega); refine K2 (fun (i : Nat) => ⟨[(5, .int .i64 i), (3, .pointer (some ⟨b4, 0, none⟩)), (2, .pointer (some ⟨b3, 0, none⟩))], [.blk b3 [.int .i64 k, .slice p ks.length c], .blk b4 [.int .i64 k', .slice p' ks'.length c']], G⟩) (fun i => i ≤ ks.length ∧ ∀ j (h : j < ks.length) (h' : j < ks'.length), j < i → K5 ks[j] ks'[j] = true) (fun i => ks.length - i) 0 ?_ ?_ ?_)
 exact E2
 exact ⟨by omega, by omega⟩
 (rintro i ⟨hi, hf⟩)
 refine B5 ?_
 refine sB (J8 rfl rfl) rfl rfl (fun h97 => ?_) (fun h97 => ?_)
 refine B0 ?_
 refine C3 ?_
 refine tS ?_
 (obtain ⟨b, o, p2, c2, rfl, hat, hre, hgb⟩ := hsl.kidTy hkl (i := i) (by omega) (by omega); obtain ⟨b', o', p2', c2', rfl, hat', hre', hgb'⟩ := hsl'.kidTy hkl' (i := i) (by omega) (by omega); refine D8 D9 rfl ?_)
 refine I6 (i := 0) (l' := [tt,ff,ff,ff,ff,ff,ff,ff,ff,ff,ff,ff]) rfl D3 (B8 rfl) rfl (by kernel_rfl) rfl rfl ?_
 refine aL 1 rfl (C4 rfl rfl) rfl ?_
 refine aP 2 rfl (qM rfl) rfl ?_
 refine aP 3 rfl (B6 rfl rfl rfl (by omega)) rfl ?_
 refine aL 4 rfl (A3 rfl rfl (hat _) rfl) rfl ?_
 refine aP 5 rfl (B8 rfl) rfl ?_
 refine aL 6 rfl (C4 rfl rfl) rfl ?_
 refine aP 7 rfl (qM rfl) rfl ?_
 refine aP 8 rfl (B6 rfl rfl rfl (by omega)) rfl ?_
 refine aL 9 rfl (A3 rfl rfl (hat' _) rfl) rfl ?_
 refine A4 10 ?_
 refine S2 rfl rfl (ih ks[i] (List.getElem_mem (by omega)) ks'[i] G _ _ _ _ (hv2 i (by omega)) (hv2' i (by omega)) hre hre') rfl rfl rfl (fun h118 => ?_) (fun h118 => ?_)
 refine aP 11 rfl (pNt rfl) rfl ?_
 refine D0 ?_
 refine sP (J6 rfl rfl (by omega) (by omega)) rfl rfl ?_
 refine A5 ?_
 refine K3 (i + 1) ?_ ?_ ?_
 exact E2
 exact A6n
 omega
 refine aP 11 rfl (pNf rfl) rfl ?_
 refine H6 ?_
 exact A87
 refine H6 ?_
 exact A88
section blaws
variable {P : Program} {Γ : M2} {env : M7} {hp : List A7} {G : IM} {ty : TypeId}
theorem A31 {x y : Operand} {t t' : TypeId} {i : L4} [hI : I4 P t i] (hd : i.desc = .bool) {r : Bool} (hx : evo env x = some (.bool r)) (hy : evo env y = some (.bool r)) :
  J3 P Γ ⟨env, hp, G⟩ (.binOp .neq t x y t') ty (.bool false) := by
 have h := A5N (P := P) (Γ := Γ) (hp := hp) (G := G) (t := t) (t' := t') (ty := ty) hd hx hy
 rwa [decide_eq_false (by simp)] at h
theorem A89 {x y : Operand} {t t' : TypeId} {i : L4} [hI : I4 P t i] (hd : i.desc = .bool) (hx : evo env x = some (.bool true)) (hy : evo env y = some (.bool false)) :
  J3 P Γ ⟨env, hp, G⟩ (.binOp .neq t x y t') ty (.bool true) := A5N hd hx hy
theorem A6o {x y : Operand} {t t' : TypeId} {i : L4} [hI : I4 P t i] (hd : i.desc = .bool) (hx : evo env x = some (.bool false)) (hy : evo env y = some (.bool true)) :
  J3 P Γ ⟨env, hp, G⟩ (.binOp .neq t x y t') ty (.bool true) := A5N hd hx hy
end blaws
theorem B3P (n : Int) : ((1 ≤ A1M n ∧ A1M n ≤ 99) ↔ A0J n = true) := by
 unfold A1M A0J N7
 simp only [Bool.or_eq_true, decide_eq_true_eq]
 split
 ·omega
 ·split <;> omega
theorem A2D {Q : Prop} (h : Q := by exact ⟨rfl, by (cases R with | false => rfl | true => (exfalso; obtain ⟨i1, i2, i3, i4, i5, i6⟩ := hi.1 rfl; first | omega | (simp_all; done))), rfl⟩) : Q := h
theorem B3Q (k : Int) (nm : ByteArray) (num : Int) (ty fr : Ty) (lb : Int) (ks : List Tm) (G : IM) (cells : List Value) (hr : B3 G (.mk k nm num ty fr lb ks) cells) (R : Bool)
  (hi : R = true ↔ nm = ⟨#[]⟩ ∧ num = 0 ∧ (1 ≤ A1M lb ∧ A1M lb ≤ 99) ∧ F4 ty = true ∧ F4 fr = true ∧ K5 fr ty = true) :
  Fn Tryz.prog 172 [.agg ⟨cells⟩] [] G (H5 (.bool R) G) := by
 obtain ⟨tk, tks⟩ := ty
 obtain ⟨fk, fks⟩ := fr
 obtain ⟨pt, ct, pf, cf, p, c, es, rfl, hk, hnum, hlb, hty, hfr, hsl, hkl⟩ := hr.open9
 clear hr
 have o3 := A1O _ G _ hty
 have o4 := A1O _ G _ hfr
 have o6 := B3H lb G
 refine C2 Tryz.func172 rfl Tryz.ntmps172 Tryz.results172 rfl ?_
 intro w0
 refine A5 ?_
 refine sE (C7 rfl rfl) rfl (fun b3 => ?_)
 refine B5 ?_
 refine H9 rfl (o6) rfl rfl ?_
 refine B5 ?_
 refine sB (A0F rfl rfl) rfl rfl (fun h19 => ?_) (fun h19 => ?_)
 refine B9 ?_
 refine sB (qE rfl rfl) rfl rfl (fun h23 => ?_) (fun h23 => ?_)
 refine B9 ?_
 refine sB (A0S rfl rfl) rfl rfl (fun h27 => ?_) (fun h27 => ?_)
 refine B9 ?_
 refine sB (A0n rfl rfl) rfl rfl (fun h31 => ?_) (fun h31 => ?_)
 refine B7 ?_
 refine E8 rfl (o3) rfl rfl (fun h36 => ?_) (fun h36 => ?_)
 refine B7 ?_
 refine E8 rfl (o4) rfl rfl (fun h41 => ?_) (fun h41 => ?_)
 refine B0 ?_
 refine E8 rfl (B3O _ _ G _ _ _ _ (by assumption) (by assumption) hfr hty) rfl rfl (fun h48 => ?_) (fun h48 => ?_)
 refine B0 ?_
 exact ⟨rfl, by rw [hi.2 ⟨by (first | assumption | exact Classical.not_not.1 (by assumption)), by omega, by omega, by assumption, by assumption, by assumption⟩], rfl⟩
 refine B0 ?_
 exact A2D
 refine J4 ?_
 exact A2D
 refine U1 ?_
 exact A2D
 refine A06 ?_
 exact A2D
 refine A3R ?_
 exact A2D
 refine Z0 ?_
 refine F0 ?_
 exact A2D
 refine Z0 ?_
 refine B2 ?_
 exact A2D
theorem T1 {Q : Prop} (h : Q := by exact ⟨rfl, by (cases R with | false => rfl | true => (exfalso; obtain ⟨i1, i2, i3, i4, i5, i6, i7⟩ := hi.1 rfl; first | omega | (have j := i1 (by omega); simp_all; done) | (have j := he (i2 (by omega)); simp_all; done) | (have j := i2 (by omega); simp_all; done) | (have j := i3 (by omega); simp_all; done) | (have j := i4 (by omega); simp_all; done) | (have j := i5 (by omega); simp_all; done))), rfl⟩) : Q := h
theorem A3e {Q : Prop} (h : Q := by exact ⟨rfl, by rw [hi.2 ⟨fun _ => by (first | assumption | (exfalso; omega)), fun _ => by (first | assumption | (exfalso; omega) | exact Classical.not_not.1 (by assumption)), fun _ => by (first | assumption | (exfalso; omega)), fun _ => by (first | assumption | (exfalso; omega)), fun _ => ⟨by (first | assumption | (exfalso; omega)), by (first | assumption | omega)⟩, by omega, by omega⟩], rfl⟩) : Q := h
theorem A9a (k : Int) (nm : ByteArray) (num : Int) (ty fr : Ty) (lb : Int) (ks : List Tm) (G : IM) (cells : List Value) (hr : B3 G (.mk k nm num ty fr lb ks) cells) (R : Bool)
  (hi : R = true ↔ (k = 1 ∨ k = 5 → A07 nm = true) ∧ (¬(k = 1 ∨ k = 5) → nm = ⟨#[]⟩) ∧ (k = 5 ∨ k = 13 ∨ k = 14 → F4 ty = true) ∧ (¬(k = 5 ∨ k = 13 ∨ k = 14) → A0I ty = true) ∧ (k ≠ 14 → A0I fr = true ∧ lb = 0) ∧ (k = 2 → 0 ≤ num ∧ num ≤ 999) ∧ (k ≠ 2 → num = 0)) :
  Fn Tryz.prog 167 [.agg ⟨cells⟩] [] G (H5 (.bool R) G) := by
 have he : nm = ⟨#[]⟩ → A07 nm = false := by rintro rfl; rfl
 obtain ⟨tk, tks⟩ := ty
 obtain ⟨fk, fks⟩ := fr
 obtain ⟨pt, ct, pf, cf, p, c, es, rfl, hk, hnum, hlb, hty, hfr, hsl, hkl⟩ := hr.open9
 clear hr
 have o2 := B3G nm G
 have o3 := A1O _ G _ hty
 have o4 := A8X _ G _ hty
 have o7 := A8X _ G _ hfr
 refine C2 Tryz.func167 rfl Tryz.ntmps167 Tryz.results167 rfl ?_
 intro w0
 refine A5 ?_
 refine sE (C7 rfl rfl) rfl (fun b3 => ?_)
 refine B5 ?_
 refine sB (qE rfl rfl) rfl rfl (fun h11 => ?_) (fun h11 => ?_)
 refine N5 ?_
 refine sP (I7 rfl rfl (by omega)) rfl rfl ?_
 refine B9 ?_
 refine sP (I7 rfl rfl (by omega)) rfl rfl ?_
 refine B7 ?_
 refine sP (I7 rfl rfl (by omega)) rfl rfl ?_
 refine J0 ?_
 refine E8 rfl (o2) rfl rfl (fun h44 => ?_) (fun h44 => ?_)
 refine sQ (A31 rfl rfl rfl) rfl ?_
 refine A1G ?_
 refine E8 rfl (o4) rfl rfl (fun h70 => ?_) (fun h70 => ?_)
 refine J4 ?_
 refine sP (W9 rfl rfl (by omega)) rfl rfl ?_
 refine B9 ?_
 refine E8 rfl (o7) rfl rfl (fun h88 => ?_) (fun h88 => ?_)
 refine B7 ?_
 refine sB (M1 rfl rfl) rfl rfl (fun h93 => ?_) (fun h93 => ?_)
 refine J4 ?_
 exact T1
 refine N5 ?_
 refine sP (I7 rfl rfl (by omega)) rfl rfl ?_
 refine E1 ?_
 refine sB (qE rfl rfl) rfl rfl (fun h130 => ?_) (fun h130 => ?_)
 refine B2 ?_
 exact A3e
 refine B2 ?_
 exact T1
 refine U1 ?_
 exact T1
 refine J1 ?_
 exact T1
 refine sQ (A89 rfl rfl rfl) rfl ?_
 refine Z0 ?_
 refine E1 ?_
 exact T1
 refine B9 ?_
 refine sB (qE rfl rfl) rfl rfl (fun h221 => ?_) (fun h221 => ?_)
 refine D0 ?_
 refine sP (W8 rfl rfl (by omega)) rfl rfl ?_
 refine A0b ?_
 refine E8 rfl (o2) rfl rfl (fun h250 => ?_) (fun h250 => ?_)
 refine sQ (A31 rfl rfl rfl) rfl ?_
 refine J1 ?_
 refine E8 rfl (o3) rfl rfl (fun h266 => ?_) (fun h266 => ?_)
 refine A06 ?_
 refine sP (W9 rfl rfl (by omega)) rfl rfl ?_
 refine B9 ?_
 refine E8 rfl (o7) rfl rfl (fun h294 => ?_) (fun h294 => ?_)
 refine B7 ?_
 refine sB (M1 rfl rfl) rfl rfl (fun h299 => ?_) (fun h299 => ?_)
 refine J4 ?_
 exact T1
 refine N5 ?_
 refine sP (I7 rfl rfl (by omega)) rfl rfl ?_
 refine E1 ?_
 refine sB (qE rfl rfl) rfl rfl (fun h336 => ?_) (fun h336 => ?_)
 refine B2 ?_
 exact A3e
 refine B2 ?_
 exact T1
 refine U1 ?_
 exact T1
 refine A1G ?_
 exact T1
 refine sQ (A89 rfl rfl rfl) rfl ?_
 refine Z0 ?_
 refine E1 ?_
 exact T1
 refine D0 ?_
 refine sP (I7 rfl rfl (by omega)) rfl rfl ?_
 refine B9 ?_
 refine sB (qE rfl rfl) rfl rfl (fun h446 => ?_) (fun h446 => ?_)
 refine H6 ?_
 refine E8 rfl (o2) rfl rfl (fun h462 => ?_) (fun h462 => ?_)
 refine sQ (A6o rfl rfl rfl) rfl ?_
 refine Z0 ?_
 refine E1 ?_
 exact T1
 refine sQ (A31 rfl rfl rfl) rfl ?_
 refine B0 ?_
 refine sB (A13 rfl rfl) rfl rfl (fun h511 => ?_) (fun h511 => ?_)
 refine Z0 ?_
 refine A5 ?_
 exact T1
 refine B5 ?_
 refine E8 rfl (o3) rfl rfl (fun h552 => ?_) (fun h552 => ?_)
 refine A06 ?_
 refine sP (W9 rfl rfl (by omega)) rfl rfl ?_
 refine B9 ?_
 refine E8 rfl (o7) rfl rfl (fun h580 => ?_) (fun h580 => ?_)
 refine B7 ?_
 refine sB (M1 rfl rfl) rfl rfl (fun h585 => ?_) (fun h585 => ?_)
 refine J4 ?_
 exact T1
 refine N5 ?_
 refine sP (I7 rfl rfl (by omega)) rfl rfl ?_
 refine E1 ?_
 refine sB (qE rfl rfl) rfl rfl (fun h622 => ?_) (fun h622 => ?_)
 refine B2 ?_
 exact A3e
 refine B2 ?_
 exact T1
 refine U1 ?_
 exact T1
 refine A1G ?_
 exact T1
 refine B7 ?_
 refine sB (qE rfl rfl) rfl rfl (fun h683 => ?_) (fun h683 => ?_)
 refine J0 ?_
 refine E8 rfl (o2) rfl rfl (fun h694 => ?_) (fun h694 => ?_)
 refine sQ (A6o rfl rfl rfl) rfl ?_
 refine Z0 ?_
 refine E1 ?_
 exact T1
 refine sQ (A31 rfl rfl rfl) rfl ?_
 refine B0 ?_
 refine sB (A13 rfl rfl) rfl rfl (fun h743 => ?_) (fun h743 => ?_)
 refine Z0 ?_
 refine A5 ?_
 exact T1
 refine B5 ?_
 refine E8 rfl (o3) rfl rfl (fun h784 => ?_) (fun h784 => ?_)
 refine A06 ?_
 refine sP (A28 rfl rfl (by omega)) rfl rfl ?_
 refine X6 ?_
 refine sP (I7 rfl rfl (by omega)) rfl rfl ?_
 refine E1 ?_
 refine sB (qE rfl rfl) rfl rfl (fun h840 => ?_) (fun h840 => ?_)
 refine B2 ?_
 exact A3e
 refine B2 ?_
 exact T1
 refine A1G ?_
 exact T1
 refine J0 ?_
 refine E8 rfl (o2) rfl rfl (fun h888 => ?_) (fun h888 => ?_)
 refine sQ (A6o rfl rfl rfl) rfl ?_
 refine Z0 ?_
 refine E1 ?_
 exact T1
 refine sQ (A31 rfl rfl rfl) rfl ?_
 refine B0 ?_
 refine sB (A13 rfl rfl) rfl rfl (fun h937 => ?_) (fun h937 => ?_)
 refine Z0 ?_
 refine A5 ?_
 exact T1
 refine U5 ?_
 refine E8 rfl (o4) rfl rfl (fun h988 => ?_) (fun h988 => ?_)
 refine J4 ?_
 refine sP (W9 rfl rfl (by omega)) rfl rfl ?_
 refine B9 ?_
 refine E8 rfl (o7) rfl rfl (fun h1006 => ?_) (fun h1006 => ?_)
 refine B7 ?_
 refine sB (M1 rfl rfl) rfl rfl (fun h1011 => ?_) (fun h1011 => ?_)
 refine J4 ?_
 exact T1
 refine N5 ?_
 refine sB (qE rfl rfl) rfl rfl (fun h1038 => ?_) (fun h1038 => ?_)
 refine B5 ?_
 refine sB (A0S rfl rfl) rfl rfl (fun h1046 => ?_) (fun h1046 => ?_)
 refine B9 ?_
 refine sB (A0n rfl rfl) rfl rfl (fun h1050 => ?_) (fun h1050 => ?_)
 refine B5 ?_
 exact A3e
 refine B5 ?_
 exact T1
 refine I8 ?_
 exact T1
 refine E1 ?_
 refine sB (qE rfl rfl) rfl rfl (fun h1088 => ?_) (fun h1088 => ?_)
 refine B2 ?_
 exact A3e
 refine B2 ?_
 exact T1
 refine U1 ?_
 exact T1
 refine J1 ?_
 exact T1
mutual
def M8 (D N : Int) : Tm → Int → Bool
 | .mk k nm num ty fr lb ks, deep => decide (deep ≤ D) && decide (k ≠ N) && V7 k nm num ty fr lb ks.length && O0 D N ks (deep + 1)
def O0 (D N : Int) : List Tm → Int → Bool
 | [], _ => true
 | t :: ts, deep => M8 D N t deep && O0 D N ts deep
end
theorem A0W (D N : Int) : ∀ (ts : List Tm) (d : Int), O0 D N ts d = true ↔ ∀ i, (h : i < ts.length) → M8 D N ts[i] d = true
 | [], d => by simp [O0]
 | t :: ts, d => by
  simp only [O0, Bool.and_eq_true, A0W D N ts d]
  constructor
  ·rintro ⟨h1, h2⟩ i hi
   cases i with
   | zero => exact h1
   | succ i => exact h2 i (by simpa using hi)
  ·intro h
   exact ⟨h 0 (by simp), fun i hi => h (i + 1) (by simpa using hi)⟩
theorem A9b {D N : Int} {k : Int} {nm : ByteArray} {num : Int} {ty fr : Ty} {lb : Int} {ks : List Tm} {d : Int} (h : D < d ∨ k = N ∨ V7 k nm num ty fr lb ks.length = false) : M8 D N (.mk k nm num ty fr lb ks) d = false := by
 rw [M8]
 rcases h with h | h | h
 ·rw [decide_eq_false (by omega)]; rfl
 ·rw [decide_eq_false (p := k ≠ N) (by omega), Bool.and_false]; rfl
 ·rw [h, Bool.and_false]; rfl
theorem A2E {D N : Int} {k : Int} {nm : ByteArray} {num : Int} {ty fr : Ty} {lb : Int} {ks : List Tm} {d : Int} (h1 : d ≤ D) (h2 : k ≠ N) (h3 : V7 k nm num ty fr lb ks.length = true) : M8 D N (.mk k nm num ty fr lb ks) d = O0 D N ks (d + 1) := by
 rw [M8, decide_eq_true h1, decide_eq_true h2, h3]; rfl
theorem B3R {D N : Int} {ks : List Tm} {d : Int} {i : Nat} (hi : i < ks.length) (h : M8 D N ks[i] d = false) : O0 D N ks d = false := by
 cases hx : O0 D N ks d with
 | false => rfl
 | true => rw [(A0W D N ks d).1 hx i hi] at h; cases h
theorem B3S {k : Int} {nm : ByteArray} {num : Int} {ty fr : Ty} {lb : Int} {n : Nat} (hk : k = 14) (ha : D7 k = n) : V7 k nm num ty fr lb n = true ↔ nm = ⟨#[]⟩ ∧ num = 0 ∧ (1 ≤ A1M lb ∧ A1M lb ≤ 99) ∧ F4 ty = true ∧ F4 fr = true ∧ K5 fr ty = true := by
 rw [U3, B3P]
 simp only [N7, A15, decide_eq_true_eq, Bool.and_eq_true]
 constructor
 ·rintro ⟨_, _, h3, _, h5, h6, _, h8, _⟩
  have h8 := h8 hk
  exact ⟨h3 (by omega), by have := h5 (by omega); omega, h8.2, h6 (by omega), h8.1.1.1, h8.1.2⟩
 ·rintro ⟨h1, h2, h3, h4, h5, h6⟩
  exact ⟨ha, fun h => absurd h (by omega), fun _ => h1, fun h => absurd h (by omega), fun _ => by omega, fun _ => h4, fun h => absurd h (by omega), fun _ => ⟨⟨⟨h5, h4⟩, h6⟩, h3⟩, fun h => absurd hk h⟩
theorem A9c {k : Int} {nm : ByteArray} {num : Int} {ty fr : Ty} {lb : Int} {n : Nat} (hk : k ≠ 14) (ha : D7 k = n) : V7 k nm num ty fr lb n = true ↔
  (k = 1 ∨ k = 5 → A07 nm = true) ∧ (¬(k = 1 ∨ k = 5) → nm = ⟨#[]⟩) ∧ (k = 5 ∨ k = 13 ∨ k = 14 → F4 ty = true) ∧ (¬(k = 5 ∨ k = 13 ∨ k = 14) → A0I ty = true) ∧ (k ≠ 14 → A0I fr = true ∧ lb = 0) ∧ (k = 2 → 0 ≤ num ∧ num ≤ 999) ∧ (k ≠ 2 → num = 0) := by
 rw [U3]
 simp only [N7, decide_eq_true_eq]
 constructor
 ·rintro ⟨_, h2, h3, h4, h5, h6, h7, _, h9⟩
  exact ⟨h2, h3, h6, h7, h9, h4, fun h => by have := h5 h; omega⟩
 ·rintro ⟨h2, h3, h6, h7, h9, h4, h5⟩
  exact ⟨ha, h2, h3, h4, fun h => by have := h5 h; omega, h6, h7, fun h => absurd h hk, h9⟩
theorem A1P {Q : Prop} (h : Q := by (rw [A9b (by rw [hR]; first | omega | exact .inr (.inr (by assumption)) | exact .inr (.inr (by cases R with | false => rfl | true => exact absurd (har rfl) (by omega))))]; exact ⟨rfl, rfl, rfl⟩)) : Q := h
theorem A6p {Q : Prop} (h : Q := by (rw [A2E (by omega) (by omega) (hR.trans (by assumption)), B3R (i := i) (by omega) (by assumption)]; exact ⟨rfl, rfl, rfl⟩)) : Q := h
theorem A9d {Q : Prop} (h : Q := by (rw [A2E (by omega) (by omega) (hR.trans (by assumption)), (A0W 40 13 ks _).2 (fun j hj => hf j hj (by omega))]; exact ⟨rfl, rfl, rfl⟩)) : Q := h
theorem B3T : ∀ (t : Tm) (d : Int) (G : IM) (cells : List Value), 0 ≤ d ∧ d ≤ 40 → B3 G t cells →
  Fn Tryz.prog 145 [.agg ⟨cells⟩, .int .i64 d] [] G (H5 (.bool (M8 40 13 t (41 - d))) G) := by
 refine Tm.ind fun k nm num ty fr lb ks ih d G cells hd hr => ?_
 have hr0 := hr
 have h14 := fun h : k = 14 => @B3S k nm num ty fr lb ks.length h
 have hne := fun h : k ≠ 14 => @A9c k nm num ty fr lb ks.length h
 have har := fun h : V7 k nm num ty fr lb ks.length = true => (U3.1 h).1
 obtain ⟨R, hR⟩ : ∃ R, V7 k nm num ty fr lb ks.length = R := ⟨_, rfl⟩
 rw [hR] at h14 hne har
 have hlo := B3Q k nm num ty fr lb ks G cells hr0 R
 have hl2 := A9a k nm num ty fr lb ks G cells hr0 R
 have hk1 := A43 k G
 obtain ⟨tk, tks⟩ := ty
 obtain ⟨fk, fks⟩ := fr
 obtain ⟨pt, ct, pf, cf, p, c, es, rfl, hk, hnum, hlb, hty, hfr, hsl, hkl⟩ := hr.open9
 have hn := hsl.le
 clear hr hr0
 refine C2 Tryz.func145 rfl Tryz.ntmps145 Tryz.results145 rfl ?_
 intro w0
 refine A5 ?_
 refine sE (C7 rfl rfl) rfl (fun b3 => ?_)
 refine B2 ?_
 refine D8 D9 rfl ?_
 refine I6 (i := 0) (l' := [tt,ff,ff,ff,ff,ff,ff,ff,ff,ff,ff,ff,ff,ff,ff,ff,ff,ff,ff,ff,ff,ff,ff,ff,ff,ff,ff,ff,ff,ff,ff,ff,ff,ff,ff,ff]) rfl D3 (qM rfl) rfl (by kernel_rfl) rfl rfl ?_
 refine A0R (i := 1) (l' := [tt,tt,ff,ff,ff,ff,ff,ff,ff,ff,ff,ff,ff,ff,ff,ff,ff,ff,ff,ff,ff,ff,ff,ff,ff,ff,ff,ff,ff,ff,ff,ff,ff,ff,ff,ff]) rfl D3 (J8 rfl rfl) rfl (by kernel_rfl) rfl rfl (fun h11 => ?_) (fun h11 => ?_)
 refine aP 2 rfl (qM rfl) rfl ?_
 refine C5 3 rfl rfl rfl ?_
 refine C5 4 rfl rfl rfl ?_
 refine C5 6 rfl rfl rfl ?_
 refine C5 7 rfl rfl rfl ?_
 refine C5 8 rfl rfl rfl ?_
 refine C5 5 rfl rfl rfl ?_
 refine C5 9 rfl rfl rfl ?_
 refine aP 10 rfl (N3 rfl rfl) rfl ?_
 refine aP 11 rfl (qM rfl) rfl ?_
 refine C5 12 rfl rfl rfl ?_
 refine C5 13 rfl rfl rfl ?_
 refine C5 14 rfl rfl rfl ?_
 refine aP 15 rfl (N3 rfl rfl) rfl ?_
 refine aP 16 rfl (qM rfl) rfl ?_
 refine C5 17 rfl rfl rfl ?_
 refine C5 18 rfl rfl rfl ?_
 refine C5 19 rfl rfl rfl ?_
 refine C5 20 rfl rfl rfl ?_
 refine C5 21 rfl rfl rfl ?_
 refine C5 22 rfl rfl rfl ?_
 refine C5 23 rfl rfl rfl ?_
 refine C5 24 rfl rfl rfl ?_
 refine aP 25 rfl (N3 rfl rfl) rfl ?_
 refine aP 26 rfl (qM rfl) rfl ?_
 refine C5 27 rfl rfl rfl ?_
 refine C5 28 rfl rfl rfl ?_
 refine C5 29 rfl rfl rfl ?_
 refine C5 30 rfl rfl rfl ?_
 refine C5 31 rfl rfl rfl ?_
 refine C5 32 rfl rfl rfl ?_
 refine C5 33 rfl rfl rfl ?_
 refine C5 34 rfl rfl rfl ?_
 refine aP 35 rfl (N3 rfl rfl) rfl ?_
 refine I8 ?_
 exact A1P
 refine aP 2 rfl (qM rfl) rfl ?_
 refine aP 3 rfl (B8 rfl) rfl ?_
 refine aL 4 rfl (C4 rfl rfl) rfl ?_
 refine aP 6 rfl (B8 rfl) rfl ?_
 refine aL 7 rfl (C4 rfl rfl) rfl ?_
 refine aP 8 rfl (pLn rfl rfl) rfl ?_
 refine A4 5 ?_
 refine N6 rfl rfl (hk1) rfl rfl rfl ?_
 refine A0R (i := 9) (l' := [tt,tt,tt,tt,tt,tt,tt,tt,tt,tt,ff,ff,ff,ff,ff,ff,ff,ff,ff,ff,ff,ff,ff,ff,ff,ff,ff,ff,ff,ff,ff,ff,ff,ff,ff,ff]) rfl D3 (M1 rfl rfl) rfl (by kernel_rfl) rfl rfl (fun h66 => ?_) (fun h66 => ?_)
 refine aP 10 rfl (P6 rfl rfl) rfl ?_
 refine aP 11 rfl (qM rfl) rfl ?_
 refine C5 12 rfl rfl rfl ?_
 refine C5 13 rfl rfl rfl ?_
 refine C5 14 rfl rfl rfl ?_
 refine aP 15 rfl (N3 rfl rfl) rfl ?_
 refine aP 16 rfl (qM rfl) rfl ?_
 refine C5 17 rfl rfl rfl ?_
 refine C5 18 rfl rfl rfl ?_
 refine C5 19 rfl rfl rfl ?_
 refine C5 20 rfl rfl rfl ?_
 refine C5 21 rfl rfl rfl ?_
 refine C5 22 rfl rfl rfl ?_
 refine C5 23 rfl rfl rfl ?_
 refine C5 24 rfl rfl rfl ?_
 refine aP 25 rfl (N3 rfl rfl) rfl ?_
 refine aP 26 rfl (qM rfl) rfl ?_
 refine C5 27 rfl rfl rfl ?_
 refine C5 28 rfl rfl rfl ?_
 refine C5 29 rfl rfl rfl ?_
 refine C5 30 rfl rfl rfl ?_
 refine C5 31 rfl rfl rfl ?_
 refine C5 32 rfl rfl rfl ?_
 refine C5 33 rfl rfl rfl ?_
 refine C5 34 rfl rfl rfl ?_
 refine aP 35 rfl (N3 rfl rfl) rfl ?_
 refine I8 ?_
 exact A1P
 refine aP 10 rfl (P6 rfl rfl) rfl ?_
 refine aP 11 rfl (qM rfl) rfl ?_
 refine aP 12 rfl (B8 rfl) rfl ?_
 refine aL 13 rfl (C4 rfl rfl) rfl ?_
 refine A0R (i := 14) (l' := [tt,tt,tt,tt,tt,tt,tt,tt,tt,tt,tt,tt,tt,tt,tt,ff,ff,ff,ff,ff,ff,ff,ff,ff,ff,ff,ff,ff,ff,ff,ff,ff,ff,ff,ff,ff]) rfl D3 (qE rfl rfl) rfl (by kernel_rfl) rfl rfl (fun h109 => ?_) (fun h109 => ?_)
 refine aP 15 rfl (P6 rfl rfl) rfl ?_
 refine aP 16 rfl (qM rfl) rfl ?_
 refine C5 17 rfl rfl rfl ?_
 refine C5 18 rfl rfl rfl ?_
 refine C5 19 rfl rfl rfl ?_
 refine C5 20 rfl rfl rfl ?_
 refine C5 21 rfl rfl rfl ?_
 refine C5 22 rfl rfl rfl ?_
 refine C5 23 rfl rfl rfl ?_
 refine C5 24 rfl rfl rfl ?_
 refine aP 25 rfl (N3 rfl rfl) rfl ?_
 refine aP 26 rfl (qM rfl) rfl ?_
 refine C5 27 rfl rfl rfl ?_
 refine C5 28 rfl rfl rfl ?_
 refine C5 29 rfl rfl rfl ?_
 refine C5 30 rfl rfl rfl ?_
 refine C5 31 rfl rfl rfl ?_
 refine C5 32 rfl rfl rfl ?_
 refine C5 33 rfl rfl rfl ?_
 refine C5 34 rfl rfl rfl ?_
 refine aP 35 rfl (N3 rfl rfl) rfl ?_
 refine I8 ?_
 exact A1P
 refine aP 15 rfl (P6 rfl rfl) rfl ?_
 refine aP 16 rfl (qM rfl) rfl ?_
 refine aP 17 rfl (B8 rfl) rfl ?_
 refine aL 18 rfl (C4 rfl rfl) rfl ?_
 refine A0R (i := 19) (l' := [tt,tt,tt,tt,tt,tt,tt,tt,tt,tt,tt,tt,tt,tt,tt,tt,tt,tt,tt,tt,ff,ff,ff,ff,ff,ff,ff,ff,ff,ff,ff,ff,ff,ff,ff,ff]) rfl D3 (qE rfl rfl) rfl (by kernel_rfl) rfl rfl (fun h147 => ?_) (fun h147 => ?_)
 refine aP 20 rfl (qM rfl) rfl ?_
 refine aL 21 rfl (A6 rfl rfl) rfl ?_
 refine A4 22 ?_
 refine S2 rfl rfl (hlo (h14 (by omega) (by omega))) rfl rfl rfl (fun h151 => ?_) (fun h151 => ?_)
 refine aP 23 rfl (pNt rfl) rfl ?_
 refine aP 24 rfl (N3 rfl rfl) rfl ?_
 refine aP 25 rfl (P6 rfl rfl) rfl ?_
 refine aP 26 rfl (qM rfl) rfl ?_
 refine aP 27 rfl (B8 rfl) rfl ?_
 refine aL 28 rfl (C4 rfl rfl) rfl ?_
 refine aP 29 rfl (A28 rfl rfl (by omega)) rfl ?_
 refine aP 30 rfl (qM rfl) rfl ?_
 refine C5 31 rfl rfl rfl ?_
 refine C5 32 rfl rfl rfl ?_
 refine C5 33 rfl rfl rfl ?_
 refine aP 34 rfl (P6 rfl rfl) rfl ?_
 refine aP 35 rfl (P6 rfl rfl) rfl ?_
 refine I8 ?_
 refine C3 ?_
 (refine K2 (fun (i : Nat) => ⟨[(5, .int .i64 i), (2, .pointer (some ⟨b3, 0, none⟩)), (1, .int .i64 d)], [.blk b3 [.int .i64 k, .string nm, .int .i64 num, .int .i64 tk, .slice pt tks.length ct, .int .i64 fk, .slice pf fks.length cf, .int .i64 lb, .slice p ks.length c]], G⟩) (fun i => i ≤ ks.length ∧ ∀ j (h : j < ks.length), j < i → M8 40 13 ks[j] (41 - d + 1) = true) (fun i => ks.length - i) 0 ?_ ?_ ?_)
 exact E2
 exact ⟨by omega, by omega⟩
 (rintro i ⟨hi, hf⟩)
 refine B5 ?_
 refine sB (J8 rfl rfl) rfl rfl (fun h188 => ?_) (fun h188 => ?_)
 refine B0 ?_
 refine C3 ?_
 refine B2 ?_
 (obtain ⟨b, o, e, rfl, hl, hat, hre, hgb⟩ := hsl.kidTm hkl (i := i) (by omega) (by omega); refine sP (B6 rfl rfl rfl (by omega)) rfl rfl ?_)
 refine sL (A3 rfl rfl (hat _) hl) rfl rfl ?_
 refine F0 ?_
 refine sP (P3 rfl rfl (by omega) (by omega)) rfl rfl ?_
 (have hih := ih ks[i] (List.getElem_mem (by omega)) (d - 1) G _ (by omega) hre; rw [show 41 - (d - 1) = 41 - d + 1 by omega] at hih; refine E8 rfl hih rfl rfl (fun h205 => ?_) (fun h205 => ?_))
 refine E1 ?_
 refine sP (J6 rfl rfl (by omega) (by omega)) rfl rfl ?_
 refine A5 ?_
 refine K3 (i + 1) ?_ ?_ ?_
 exact E2
 exact A46
 omega
 refine K4 ?_
 exact A6p
 refine H6 ?_
 exact A9d
 refine aP 23 rfl (pNf rfl) rfl ?_
 refine aP 24 rfl (N3 rfl rfl) rfl ?_
 refine aP 25 rfl (P6 rfl rfl) rfl ?_
 refine aP 26 rfl (qM rfl) rfl ?_
 refine C5 27 rfl rfl rfl ?_
 refine C5 28 rfl rfl rfl ?_
 refine C5 29 rfl rfl rfl ?_
 refine C5 30 rfl rfl rfl ?_
 refine C5 31 rfl rfl rfl ?_
 refine C5 32 rfl rfl rfl ?_
 refine C5 33 rfl rfl rfl ?_
 refine C5 34 rfl rfl rfl ?_
 refine aP 35 rfl (N3 rfl rfl) rfl ?_
 refine I8 ?_
 exact A1P
 refine aP 20 rfl (qM rfl) rfl ?_
 refine C5 21 rfl rfl rfl ?_
 refine C5 22 rfl rfl rfl ?_
 refine C5 23 rfl rfl rfl ?_
 refine aP 24 rfl (P6 rfl rfl) rfl ?_
 refine aP 25 rfl (P6 rfl rfl) rfl ?_
 refine aP 26 rfl (qM rfl) rfl ?_
 refine aP 27 rfl (B8 rfl) rfl ?_
 refine aL 28 rfl (C4 rfl rfl) rfl ?_
 refine aP 29 rfl (W9 rfl rfl (by omega)) rfl ?_
 refine aP 30 rfl (qM rfl) rfl ?_
 refine aL 31 rfl (A6 rfl rfl) rfl ?_
 refine A4 32 ?_
 refine S2 rfl rfl (hl2 (hne (by omega) (by omega))) rfl rfl rfl (fun h293 => ?_) (fun h293 => ?_)
 refine aP 33 rfl (pNt rfl) rfl ?_
 refine aP 34 rfl (N3 rfl rfl) rfl ?_
 refine aP 35 rfl (P6 rfl rfl) rfl ?_
 refine I8 ?_
 refine C3 ?_
 (refine K2 (fun (i : Nat) => ⟨[(5, .int .i64 i), (2, .pointer (some ⟨b3, 0, none⟩)), (1, .int .i64 d)], [.blk b3 [.int .i64 k, .string nm, .int .i64 num, .int .i64 tk, .slice pt tks.length ct, .int .i64 fk, .slice pf fks.length cf, .int .i64 lb, .slice p ks.length c]], G⟩) (fun i => i ≤ ks.length ∧ ∀ j (h : j < ks.length), j < i → M8 40 13 ks[j] (41 - d + 1) = true) (fun i => ks.length - i) 0 ?_ ?_ ?_)
 exact E2
 exact ⟨by omega, by omega⟩
 (rintro i ⟨hi, hf⟩)
 refine B5 ?_
 refine sB (J8 rfl rfl) rfl rfl (fun h320 => ?_) (fun h320 => ?_)
 refine B0 ?_
 refine C3 ?_
 refine B2 ?_
 (obtain ⟨b, o, e, rfl, hl, hat, hre, hgb⟩ := hsl.kidTm hkl (i := i) (by omega) (by omega); refine sP (B6 rfl rfl rfl (by omega)) rfl rfl ?_)
 refine sL (A3 rfl rfl (hat _) hl) rfl rfl ?_
 refine F0 ?_
 refine sP (P3 rfl rfl (by omega) (by omega)) rfl rfl ?_
 (have hih := ih ks[i] (List.getElem_mem (by omega)) (d - 1) G _ (by omega) hre; rw [show 41 - (d - 1) = 41 - d + 1 by omega] at hih; refine E8 rfl hih rfl rfl (fun h337 => ?_) (fun h337 => ?_))
 refine E1 ?_
 refine sP (J6 rfl rfl (by omega) (by omega)) rfl rfl ?_
 refine A5 ?_
 refine K3 (i + 1) ?_ ?_ ?_
 exact E2
 exact A46
 omega
 refine K4 ?_
 exact A6p
 refine H6 ?_
 exact A9d
 refine aP 33 rfl (pNf rfl) rfl ?_
 refine aP 34 rfl (N3 rfl rfl) rfl ?_
 refine aP 35 rfl (P6 rfl rfl) rfl ?_
 refine I8 ?_
 exact A1P
def P9 : Ty := .mk 2 []
def U4 : Ty := .mk 3 []
mutual
def M5 : Ty → Ty → Bool
 | .mk k ks, t => decide (k = t.k) && A0i ks t.ks
def A0i : List Ty → List Ty → Bool
 | [], [] => true
 | a :: xs, b :: ys => M5 a b && A0i xs ys
 | _, _ => false
end
theorem A3f (k k' : Int) (ks ks' : List Ty) : M5 (.mk k ks) (.mk k' ks') = (decide (k = k') && A0i ks ks') := by rw [M5]; rfl
mutual
theorem Z2 : ∀ (a b : Ty), M5 a b = true ↔ a = b
 | .mk k ks, .mk k' ks' => by
  rw [A3f, Bool.and_eq_true, decide_eq_true_eq, A9e ks ks', Ty.mk.injEq]
theorem A9e : ∀ (xs ys : List Ty), A0i xs ys = true ↔ xs = ys
 | [], [] => by simp [A0i]
 | [], b :: ys => by simp [A0i]
 | a :: xs, [] => by simp [A0i]
 | a :: xs, b :: ys => by
  rw [A0i, Bool.and_eq_true, Z2 a b, A9e xs ys, List.cons.injEq]
end
theorem A6q (a : Ty) : M5 a a = true := (Z2 a a).2 rfl
theorem A32 : ∀ (xs ys : List Ty), A0i xs ys = true ↔ xs.length = ys.length ∧ ∀ i, (h : i < xs.length) → (h' : i < ys.length) → M5 xs[i] ys[i] = true
 | [], [] => by simp [A0i]
 | [], b :: ys => by simp [A0i]
 | a :: xs, [] => by simp [A0i]
 | a :: xs, b :: ys => by
  simp only [A0i, Bool.and_eq_true, A32 xs ys, List.length_cons]
  constructor
  ·rintro ⟨h1, h2, h3⟩
   refine ⟨by omega, fun i hi hi' => ?_⟩
   cases i with
   | zero => exact h1
   | succ i => exact h3 i (by simpa using hi) (by simpa using hi')
  ·rintro ⟨h1, h2⟩
   exact ⟨h2 0 (by simp) (by simp), by omega, fun i hi hi' => h2 (i + 1) (by simpa using hi) (by simpa using hi')⟩

abbrev Cx := List (ByteArray × Ty)
def V8 (cx : Cx) (nm : ByteArray) : Nat → Option Ty
 | 0 => none
 | n + 1 => match cx[n]? with
  | some b => if b.1 = nm then some b.2 else V8 cx nm n
  | none => V8 cx nm n
def P4 (cx : Cx) (nm : ByteArray) : Option Ty := V8 cx nm cx.length
theorem A33 {cx : Cx} {nm x : ByteArray} {n : Nat} {t : Ty} (h : cx[n]? = some (x, t)) (he : x = nm) : V8 cx nm (n + 1) = some t := by
 rw [V8, h]; simp only [he, if_true]
theorem A34 {cx : Cx} {nm x : ByteArray} {n : Nat} {t : Ty} (h : cx[n]? = some (x, t)) (he : ¬x = nm) : V8 cx nm (n + 1) = V8 cx nm n := by
 rw [V8, h]; simp only [he, if_false]

mutual
def U8 : Ty → Ty → Ty
 | .mk k ks, b => if k = 1 then b else if b.k = 1 then .mk k ks else .mk k (T2 ks b.ks)
def T2 : List Ty → List Ty → List Ty
 | a :: xs, b :: ys => U8 a b :: T2 xs ys
 | _, _ => []
end
theorem A1a (k k' : Int) (ks ks' : List Ty) : U8 (.mk k ks) (.mk k' ks') = if k = 1 then .mk k' ks' else if k' = 1 then .mk k ks else .mk k (T2 ks ks') := by rw [U8]; rfl
def R6 (kind : Int) (t : Ty) : Option (Ty × Ty) :=
 if t.k = kind then some (t.ks.getD 0 B4, t.ks.getD 1 B4) else if t.k = 1 then some (Q5, Q5) else none
def J7 (cx : Cx) (k : Int) (nm : ByteArray) (ty : Ty) (h : List Ty) : Option (List Ty × Ty) :=
 if k = 1 then (match P4 cx nm with | some t => some ([], t) | none => none)
 else if k = 2 then some ([], P9)
 else if k = 3 ∨ k = 4 then some ([], U4)
 else if k = 5 then some ([], .mk 4 [ty, h.getD 0 B4])
 else if k = 6 then (match R6 4 (h.getD 0 B4) with | some (a, b) => if K5 (h.getD 1 B4) a = true then some ([.mk 4 [a, b], a], b) else none | none => none)
 else if k = 7 ∨ k = 8 then (if K5 (h.getD 0 B4) P9 = true ∧ K5 (h.getD 1 B4) P9 = true then some ([P9, P9], if k = 8 then U4 else P9) else none)
 else if k = 9 then (if K5 (h.getD 0 B4) U4 = true ∧ K5 (h.getD 1 B4) (h.getD 2 B4) = true then some ([U4, U8 (h.getD 1 B4) (h.getD 2 B4), U8 (h.getD 1 B4) (h.getD 2 B4)], U8 (h.getD 1 B4) (h.getD 2 B4)) else none)
 else if k = 10 then some ([], .mk 5 [h.getD 0 B4, h.getD 1 B4])
 else if k = 13 then (if K5 (h.getD 0 B4) ty = true then some ([ty], ty) else none)
 else (match R6 5 (h.getD 0 B4) with | some (a, b) => some ([.mk 5 [a, b]], if k = 12 then b else a) | none => none)
def T6 (cx : Cx) (k : Int) (nm : ByteArray) (ty : Ty) (h : List Ty) : Option (List Ty × Ty) := match J7 cx k nm ty h with
 | some (w, t) => if F4 t = true then some (w, t) else none
 | none => none
def A0X : List Ty → List Ty → Bool
 | [], _ => true
 | a :: xs, b :: ys => M5 a b && A0X xs ys
 | _ :: _, [] => false
def K1 (cx : Cx) (k : Int) (nm : ByteArray) (ty : Ty) : Cx := if k = 5 then cx ++ [(nm, ty)] else cx
mutual
def I2 (cx : Cx) : Tm → Option Ty
 | .mk k nm num ty fr lb ks => match M4 (K1 cx k nm ty) ks with
  | none => none
  | some h => if k = 14 then (if M5 (h.getD 0 B4) fr = true then some ty else none)
   else match T6 cx k nm ty h with
    | none => none
    | some (w, t) => if A0X w h = true then some t else none
def M4 (cx : Cx) : List Tm → Option (List Ty)
 | [] => some []
 | t :: ts => match I2 cx t with
  | none => none
  | some u => match M4 cx ts with
   | none => none
   | some us => some (u :: us)
end
def B8k (e : Tm) : Option Ty := if M9 e = true then I2 [] e else none
theorem A9f {Q : Prop} (h : Q := by exact ⟨by omega, hle.trans hle1, O5.step hst hnd hle hle1 (by omega) hs' hnd'⟩) : Q := h
theorem A9g {Q : Prop} (h : Q := by (rw [List.take_length] at hst; obtain ⟨F2, hf1, hf2⟩ := Q9.fin hst hnd hle hle2 hsl2 hno2 hk; exact ⟨rfl, _, F2, rfl, hf1, hf2⟩)) : Q := h
theorem A2F : ∀ (t : Ty) (G : IM) (cells : List Value), t.small → C1 G t cells →
  Fn Tryz.prog 34 [.agg ⟨cells⟩] [] G (M3 fun G' v => ∃ cells' F, v = .agg ⟨cells'⟩ ∧ Q9 (C9 G' G) t cells' F ∧ F.Nodup) := by
 refine Ty.ind fun k ks ih G cells hts hr => ?_
 simp only [Ty.small] at hts
 obtain ⟨hsm, hks⟩ := hts
 obtain ⟨p, c, es, rfl, hk, hsl, hkl⟩ := hr.open
 simp only [Ty.k, Ty.ks] at hk hsl hkl ⊢
 have hn := hsl.le
 refine C2 Tryz.func34 rfl Tryz.ntmps34 Tryz.results34 rfl ?_
 intro w0
 refine A5 ?_
 refine sE (C7 rfl rfl) rfl (fun b3 => ?_)
 refine sE (A8 rfl) rfl (fun b4 => ?_)
 refine B5 ?_
 refine sE (A8 rfl) rfl (fun b12 => ?_)
 refine N5 ?_
 refine C3 ?_
 (refine U9 25 2 ?_; refine K2 (fun (x : Nat × Option Addr × Nat × List (List Value) × List Nat × IM) => ⟨[(12, .int .i64 x.1), (11, .int .i64 ks.length), (10, .slice p ks.length c), (3, .pointer (some ⟨b12, 0, none⟩)), (2, .pointer (some ⟨b4, 0, none⟩))], [.blk b12 [.int .i64 k, .slice x.2.1 x.1 x.2.2.1], .slc x.2.1 x.2.2.1 25 2 x.1 x.2.2.2.1.flatten, .blk b4 [.int .i64 0, .slice none 0 0]], x.2.2.2.2.2⟩) (fun x => x.1 ≤ ks.length ∧ C6 G x.2.2.2.2.2 ∧ O5 (C9 x.2.2.2.2.2 G) (ks.take x.1) x.2.2.2.1 x.2.2.2.2.1 ∧ x.2.2.2.2.1.Nodup) (fun x => ks.length - x.1) (0, none, 0, [], [], G) ?_ ?_ ?_)
 (simp only [J9]; exact M0 (by repeat (first | exact E7.nil | refine E7.cons rfl ?_)) (by repeat (first | exact A0.refl | exact A0.nil | refine A0.cons (by repeat (first | exact Pk.here | apply Pk.there)) ?_)))
 exact ⟨by simp, C6.refl _, by simp [O5], by simp⟩
 (rintro ⟨i, pn, cn, es', F, Gi⟩ ⟨hi, hle, hst, hnd⟩; simp only [] at hi hle hst hnd ⊢; replace hsl := hsl.mono hle; replace hkl := hkl.mono hle)
 refine A5 ?_
 refine sB (J8 rfl rfl) rfl rfl (fun h32 => ?_) (fun h32 => ?_)
 refine B5 ?_
 refine C3 ?_
 refine A5 ?_
 (obtain ⟨b, o, p2, c2, rfl, hat, hre, hgb⟩ := hsl.kidTy hkl (i := i) (by omega) (by omega); refine sP (B6 rfl rfl rfl (by omega)) rfl rfl ?_)
 refine sL (A3 rfl rfl (hat _) rfl) rfl rfl ?_
 refine sE (A8 rfl) rfl (fun b45 => ?_)
 refine B9 ?_
 refine D8 D9 rfl ?_
 refine I6 (i := 0) (l' := [tt,ff,ff,ff,ff,ff,ff,ff]) rfl D3 (B8 rfl) rfl (by kernel_rfl) rfl rfl ?_
 refine aL 1 rfl (C4 rfl rfl) rfl ?_
 refine aL 2 rfl (A6 rfl rfl) rfl ?_
 refine A4 3 ?_
 (refine H4 rfl rfl (ih _ (List.getElem_mem (by omega)) _ _ (Ty.smallL_mem hks _ (List.getElem_mem (by omega))) hre) rfl rfl rfl (fun v G1 hle1 hh => ?_); obtain ⟨cells', F', rfl, hs', hnd'⟩ := hh; obtain ⟨p3, c3, es3, rfl, _⟩ := hs'.R.open)
 refine A4 4 ?_
 (refine E6 rfl (D2 rfl rfl rfl (by omega) (by unfold maxLen; omega) rfl) rfl rfl ?_; rintro _ ⟨b56, rfl⟩)
 refine A4 5 ?_
 refine R4 rfl rfl rfl rfl rfl rfl (fun _ _ => by repeat (first | exact Sw.here | apply Sw.there)) (O2 (by repeat first | exact mH | apply mT)) rfl (by simp [Value.oneCell']) (by unfold maxLen; omega) (by omega) rfl rfl (by repeat (first | exact A9.nil | apply A9.dep (by kernel_rfl) | apply A9.blk (by kernel_rfl) (by repeat (first | exact Pk.here | apply Pk.there)) (by repeat first | exact mH | apply mT))) (fun pn' cn' => ?_)
 refine aP 6 rfl (B8 rfl) rfl ?_
 refine A4 7 ?_
 refine R9 rfl rfl rfl rfl rfl rfl rfl rfl (by kernel_rfl) (by repeat first | exact Sw.here | apply Sw.there) (by rfl) ?_
 refine B7 ?_
 refine sP (J6 rfl rfl (by omega) (by omega)) rfl rfl ?_
 refine A5 ?_
 refine K3 (i + 1, pn', cn', es' ++ [[.int .i64 ks[i].k, .slice p3 ks[i].ks.length c3]], F ++ F', G1) ?_ ?_ ?_
 (simp only [J9]; exact M0 (by repeat (first | exact E7.nil | refine E7.cons rfl ?_)) (by repeat (first | exact A0.refl | exact A0.nil | refine A0.cons (by repeat (first | exact Pk.here | apply Pk.there)) ?_)))
 exact A9f
 exact X7
 refine H6 ?_
 (refine H3 (by repeat (first | exact Pk.here | apply Pk.there)) (fun G2 hle2 hsl2 hno2 => ?_); obtain rfl : i = ks.length := by omega)
 refine tT ?_
 refine N4 (rC rfl (A6 rfl rfl)) ?_
 exact A9g
def B3U (t : Ty) (G : IM) : IM → Value → List A7 → Prop := M3 fun G' v => ∃ cells' F, v = .agg ⟨cells'⟩ ∧ Q9 (C9 G' G) t cells' F ∧ F.Nodup
def B8l (ks : List Ty) (G : IM) : IM → Value → List A7 → Prop := M3 fun G' v => ∃ p c F, v = .slice p ks.length c ∧ A8o (C9 G' G) ks p c F ∧ F.Nodup
def A6r (t : Tm) (G : IM) : IM → Value → List A7 → Prop := M3 fun G' v => ∃ cells' F, v = .agg ⟨cells'⟩ ∧ Q4 (C9 G' G) t cells' F ∧ F.Nodup
def B8m (ks : List Tm) (G : IM) : IM → Value → List A7 → Prop := M3 fun G' v => ∃ p c F, v = .slice p ks.length c ∧ A2A (C9 G' G) ks p c F ∧ F.Nodup
theorem P7 : ∀ (t : Ty) (G : IM) (cells : List Value), t.small → C1 G t cells → Fn Tryz.prog 97 [.agg ⟨cells⟩] [] G (B3U t G) := by
 refine Ty.ind fun k ks ih G cells hts hr => ?_
 simp only [Ty.small] at hts
 obtain ⟨hsm, hks⟩ := hts
 obtain ⟨p, c, es, rfl, hk, hsl, hkl⟩ := hr.open
 simp only [Ty.k, Ty.ks] at hk hsl hkl ⊢
 have hn := hsl.le
 refine C2 Tryz.func97 rfl Tryz.ntmps97 Tryz.results97 rfl ?_
 intro w0
 refine A5 ?_
 refine sE (C7 rfl rfl) rfl (fun b3 => ?_)
 refine sE (A8 rfl) rfl (fun b4 => ?_)
 refine B5 ?_
 refine sE (A8 rfl) rfl (fun b12 => ?_)
 refine E1 ?_
 refine C3 ?_
 (refine U9 25 2 ?_; refine K2 (fun (x : Nat × Option Addr × Nat × List (List Value) × List Nat × IM) => ⟨[(4, .int .i64 x.1), (3, .pointer (some ⟨b12, 0, none⟩)), (1, .pointer (some ⟨b3, 0, none⟩)), (2, .pointer (some ⟨b4, 0, none⟩))], [.blk b12 [.int .i64 k, .slice x.2.1 x.1 x.2.2.1], .slc x.2.1 x.2.2.1 25 2 x.1 x.2.2.2.1.flatten, .blk b4 [.int .i64 0, .slice none 0 0], .blk b3 [.int .i64 k, .slice p ks.length c]], x.2.2.2.2.2⟩) (fun x => x.1 ≤ ks.length ∧ C6 G x.2.2.2.2.2 ∧ O5 (C9 x.2.2.2.2.2 G) (ks.take x.1) x.2.2.2.1 x.2.2.2.2.1 ∧ x.2.2.2.2.1.Nodup) (fun x => ks.length - x.1) (0, none, 0, [], [], G) ?_ ?_ ?_)
 (simp only [J9]; exact E2)
 exact ⟨by simp, C6.refl _, by simp [O5], by simp⟩
 (rintro ⟨i, pn, cn, es', F, Gi⟩ ⟨hi, hle, hst, hnd⟩; simp only [] at hi hle hst hnd ⊢; replace hsl := hsl.mono hle; replace hkl := hkl.mono hle)
 refine B5 ?_
 refine sB (J8 rfl rfl) rfl rfl (fun h34 => ?_) (fun h34 => ?_)
 refine B0 ?_
 refine C3 ?_
 (obtain ⟨b, o, p2, c2, rfl, hat, hre, hgb⟩ := hsl.kidTy hkl (i := i) (by omega) (by omega); refine D8 D9 rfl ?_)
 refine I6 (i := 0) (l' := [tt,ff,ff,ff,ff,ff,ff,ff,ff,ff,ff,ff]) rfl D3 (B8 rfl) rfl (by kernel_rfl) rfl rfl ?_
 refine aL 1 rfl (C4 rfl rfl) rfl ?_
 refine aP 2 rfl (B8 rfl) rfl ?_
 refine aL 3 rfl (C4 rfl rfl) rfl ?_
 refine aP 4 rfl (qM rfl) rfl ?_
 refine aP 5 rfl (B6 rfl rfl rfl (by omega)) rfl ?_
 refine aL 6 rfl (A3 rfl rfl (hat _) rfl) rfl ?_
 refine A4 7 ?_
 (refine H4 rfl rfl (ih ks[i] (List.getElem_mem (by omega)) _ _ (Ty.smallL_mem hks _ (List.getElem_mem (by omega))) hre) rfl rfl rfl (fun v G1 hle1 hh => ?_); obtain ⟨cells', F', rfl, hs', hnd'⟩ := hh; obtain ⟨p3, c3, es3, rfl, _⟩ := hs'.R.open)
 refine A4 8 ?_
 (refine E6 rfl (D2 rfl rfl rfl (by omega) (by unfold maxLen; omega) rfl) rfl rfl ?_; rintro _ ⟨b53, rfl⟩)
 refine A4 9 ?_
 refine R4 rfl rfl rfl rfl rfl rfl (fun _ _ => by repeat (first | exact Sw.here | apply Sw.there)) (O2 (by repeat first | exact mH | apply mT)) rfl (by simp [Value.oneCell']) (by unfold maxLen; omega) (by omega) rfl rfl (by repeat (first | exact A9.nil | apply A9.dep (by decide +kernel) | apply A9.blk (by decide +kernel) (by repeat (first | exact Pk.here | apply Pk.there)) (by repeat first | exact mH | apply mT))) (fun pn' cn' => ?_)
 refine aP 10 rfl (B8 rfl) rfl ?_
 refine A4 11 ?_
 refine R9 rfl rfl rfl rfl rfl rfl rfl rfl (by kernel_rfl) (by repeat first | exact Sw.here | apply Sw.there) (by rfl) ?_
 refine B2 ?_
 refine sP (J6 rfl rfl (by omega) (by omega)) rfl rfl ?_
 refine A5 ?_
 refine K3 (i + 1, pn', cn', es' ++ [[.int .i64 ks[i].k, .slice p3 ks[i].ks.length c3]], F ++ F', G1) ?_ ?_ ?_
 (simp only [J9]; exact E2)
 exact A9f
 exact X7
 refine J1 ?_
 (refine H3 (by repeat (first | exact Pk.here | apply Pk.there)) (fun G2 hle2 hsl2 hno2 => ?_); obtain rfl : i = ks.length := (by omega))
 refine tT ?_
 refine N4 (rC rfl (A6 rfl rfl)) ?_
 exact A9g
theorem A9h {Q : Prop} (h : Q := by exact ⟨by omega, hle.trans hle3, O6.step hst hnd hle hle3 (by omega) hs' hnd'⟩) : Q := h
theorem A3g : ∀ (t : Tm) (G : IM) (cells : List Value), t.small → B3 G t cells → Fn Tryz.prog 75 [.agg ⟨cells⟩] [] G (A6r t G) := by
 refine Tm.ind fun k nm num ty fr lb ks ih G cells hts hr => ?_
 have hone := hr.one
 simp only [Tm.small] at hts
 obtain ⟨hnm, hty', hfr', hsm, hks⟩ := hts
 obtain ⟨tk, tks⟩ := ty
 obtain ⟨fk, fks⟩ := fr
 obtain ⟨pt, ct, pf, cf, p, c, es, rfl, hk, hnum, hlb, hty, hfr, hsl, hkl⟩ := hr.open9
 have hn := hsl.le
 have hT := P7 (.mk tk tks) G _ hty' hty
 refine C2 Tryz.func75 rfl Tryz.ntmps75 Tryz.results75 rfl ?_
 intro w0
 refine A5 ?_
 refine sE (C7 rfl rfl) rfl (fun b3 => ?_)
 refine sE (A8 rfl) rfl (fun b4 => ?_)
 refine B2 ?_
 refine sE (A8 rfl) rfl (fun b10 => ?_)
 refine B5 ?_
 (refine E5 rfl hT rfl rfl (fun v G1 hle1 hh => ?_); obtain ⟨cs1, F1, rfl, hs1, hn1⟩ := hh; obtain ⟨p1, c1, rfl, _⟩ := hs1.open; have hF := P7 (.mk fk fks) G1 _ hfr' (hfr.mono hle1))
 refine D0 ?_
 (refine E5 rfl hF rfl rfl (fun v G2 hle2 hh => ?_); obtain ⟨cs2, F2, rfl, hs2, hn2⟩ := hh; obtain ⟨p2, c2, rfl, _⟩ := hs2.open; replace hsl := hsl.mono (hle1.trans hle2); replace hkl := hkl.mono (hle1.trans hle2))
 refine K4 ?_
 refine C3 ?_
 (refine U9 28 9 ?_; refine K2 (fun (x : Nat × Option Addr × Nat × List (List Value) × List Nat × IM) => ⟨[(4, .int .i64 x.1), (3, .pointer (some ⟨b10, 0, none⟩)), (1, .pointer (some ⟨b3, 0, none⟩)), (2, .pointer (some ⟨b4, 0, none⟩))], [.blk b10 [.int .i64 k, .string nm, .int .i64 num, .int .i64 tk, .slice p1 tks.length c1, .int .i64 fk, .slice p2 fks.length c2, .int .i64 lb, .slice x.2.1 x.1 x.2.2.1], .slc x.2.1 x.2.2.1 28 9 x.1 x.2.2.2.1.flatten, .blk b4 [.int .i64 0, .string ⟨⟨[]⟩⟩, .int .i64 0, .int .i64 0, .slice none 0 0, .int .i64 0, .slice none 0 0, .int .i64 0, .slice none 0 0], .blk b3 [.int .i64 k, .string nm, .int .i64 num, .int .i64 tk, .slice pt tks.length ct, .int .i64 fk, .slice pf fks.length cf, .int .i64 lb, .slice p ks.length c]], x.2.2.2.2.2⟩) (fun x => x.1 ≤ ks.length ∧ C6 G2 x.2.2.2.2.2 ∧ O6 (C9 x.2.2.2.2.2 G2) (ks.take x.1) x.2.2.2.1 x.2.2.2.2.1 ∧ x.2.2.2.2.1.Nodup) (fun x => ks.length - x.1) (0, none, 0, [], [], G2) ?_ ?_ ?_)
 (simp only [J9]; exact E2)
 exact ⟨by simp, C6.refl _, by simp [O6], by simp⟩
 (rintro ⟨i, pn, cn, es', F, Gi⟩ ⟨hi, hle, hst, hnd⟩; simp only [] at hi hle hst hnd ⊢; replace hsl := hsl.mono hle; replace hkl := hkl.mono hle)
 refine B5 ?_
 refine sB (J8 rfl rfl) rfl rfl (fun h56 => ?_) (fun h56 => ?_)
 refine B0 ?_
 refine C3 ?_
 (obtain ⟨b, o, e, rfl, hl, hat, hre, hgb⟩ := hsl.kidTm hkl (i := i) (by omega) (by omega); have hone := hre.one; refine D8 D9 rfl ?_)
 refine I6 (i := 0) (l' := [tt,ff,ff,ff,ff,ff,ff,ff,ff,ff,ff,ff]) rfl D3 (B8 rfl) rfl (by kernel_rfl) rfl rfl ?_
 refine aL 1 rfl (C4 rfl rfl) rfl ?_
 refine aP 2 rfl (B8 rfl) rfl ?_
 refine aL 3 rfl (C4 rfl rfl) rfl ?_
 refine aP 4 rfl (qM rfl) rfl ?_
 refine aP 5 rfl (B6 rfl rfl rfl (by omega)) rfl ?_
 refine aL 6 rfl (A3 rfl rfl (hat _) hl) rfl ?_
 refine A4 7 ?_
 (refine H4 rfl rfl (ih ks[i] (List.getElem_mem (by omega)) _ _ (Tm.smallL_mem hks _ (List.getElem_mem (by omega))) hre) rfl rfl rfl (fun v G3 hle3 hh => ?_); obtain ⟨cells', F', rfl, hs', hnd'⟩ := hh; obtain ⟨qt, dt, et', qf, df, ef', q3, d3, es3, rfl, _⟩ := hs'.R.open)
 refine A4 8 ?_
 (refine E6 rfl (D2 rfl rfl rfl (by omega) (by unfold maxLen; omega) rfl) rfl rfl ?_; rintro _ ⟨b75, rfl⟩)
 refine A4 9 ?_
 refine R4 rfl rfl rfl rfl rfl rfl (fun _ _ => by repeat (first | exact Sw.here | apply Sw.there)) (O2 (by repeat first | exact mH | apply mT)) rfl (by simp [Value.oneCell']) (by unfold maxLen; omega) (by omega) rfl rfl (by repeat (first | exact A9.nil | apply A9.dep (by decide +kernel) | apply A9.blk (by decide +kernel) (by repeat (first | exact Pk.here | apply Pk.there)) (by repeat first | exact mH | apply mT))) (fun pn' cn' => ?_)
 refine aP 10 rfl (B8 rfl) rfl ?_
 refine A4 11 ?_
 refine R9 rfl rfl rfl rfl rfl rfl rfl rfl (by kernel_rfl) (by repeat first | exact Sw.here | apply Sw.there) (by rfl) ?_
 refine B2 ?_
 refine sP (J6 rfl rfl (by omega) (by omega)) rfl rfl ?_
 refine A5 ?_
 refine K3 (i + 1, pn', cn', es' ++ [[.int .i64 ks[i].k, .string ks[i].nm, .int .i64 ks[i].num, .int .i64 ks[i].ty.k, .slice qt ks[i].ty.ks.length dt, .int .i64 ks[i].fr.k, .slice qf ks[i].fr.ks.length df, .int .i64 ks[i].lb, .slice q3 ks[i].ks.length d3]], F ++ F', G3) ?_ ?_ ?_
 (simp only [J9]; exact E2)
 exact A9h
 exact X7
 refine J1 ?_
 (refine H3 (by repeat (first | exact Pk.here | apply Pk.there)) (fun G4 hle4 hsl4 hno4 => ?_); obtain rfl : i = ks.length := (by omega))
 refine tT ?_
 refine N4 (rC rfl (A6 rfl rfl)) ?_
 (rw [List.take_length] at hst; obtain ⟨F3, hf1, hf2⟩ := A2A.fin hst hnd hle hle4 hsl4 hno4; obtain ⟨F5, hg1, hg2⟩ := Q4.mk3 (nm := nm) hk hnum hlb hle1 hle2 (hle.trans hle4) hs1 hn1 hs2 hn2 hf1 hf2; exact ⟨rfl, _, F5, rfl, hg1, hg2⟩)
mutual
def A2G (g : Tm → Tm) : Tm → Tm
 | .mk k nm num ty fr lb ks => g (.mk k nm num ty fr lb (A1b g ks))
def A1b (g : Tm → Tm) : List Tm → List Tm
 | [] => []
 | t :: ts => A2G g t :: A1b g ts
end
theorem A6s (g : Tm → Tm) : ∀ ks, A1b g ks = ks.map (A2G g)
 | [] => rfl
 | t :: ts => by rw [A1b, A6s g ts, List.map_cons]
mutual
theorem A9i : ∀ t, A2G id t = t
 | .mk k nm num ty fr lb ks => by rw [A2G, A9j ks]; rfl
theorem A9j : ∀ ks, A1b id ks = ks
 | [] => rfl
 | t :: ts => by rw [A1b, A9i t, A9j ts]
end
theorem Q4.mk3k {G G1 G2 G3 : IM} {k : Int} {nm : ByteArray} {num : Int} {ty fr : Ty} {lb : Int} {ks : List Tm} {tc fc : List Value} {p : Option Addr} {c : Nat} {F1 F2 F3 : List Nat} (hk : H1 k) (hnum : H1 num) (hlb : H1 lb)
  (hl1 : C6 G G1) (hl2 : C6 G1 G2) (hl3 : C6 G2 G3) (h3 : A2A (C9 G1 G) ks p c F3) (n3 : F3.Nodup) (h1 : Q9 (C9 G2 G1) ty tc F1) (n1 : F1.Nodup) (h2 : Q9 (C9 G3 G2) fr fc F2) (n2 : F2.Nodup) :
  ∃ F, Q4 (C9 G3 G) (.mk k nm num ty fr lb ks) ([.int .i64 k, .string nm, .int .i64 num] ++ tc ++ fc ++ [.int .i64 lb, .slice p ks.length c]) F ∧ F.Nodup := by
 obtain ⟨es, Fs, e1, e2, rfl, e4⟩ := h3
 have i3 : ∀ b ∈ K0 p ++ Fs, C9 G1 G b ≠ none := by
  intro b hb
  rcases List.mem_append.1 hb with hb | hb
  ·exact e4 b hb
  ·exact e2.inG b hb
 have a1 : C6 (C9 G1 G) (C9 G3 G) := C9.mono (hl2.trans hl3)
 have a2 : C6 (C9 G2 G1) (C9 G3 G) := fun b l h => C9.mono hl3 b l (C9.anti hl1 b l h)
 have a3 : C6 (C9 G3 G2) (C9 G3 G) := C9.anti (hl1.trans hl2)
 refine ⟨F1 ++ (F2 ++ (K0 p ++ Fs)), ?_, ?_⟩
 ·simp only [Q4]
  exact ⟨tc, fc, p, c, es, F1, F2, Fs, rfl, hk, hnum, hlb, h1.mono a2, h2.mono a3, e1.mono a1, e2.mono a1, rfl, A29 a1 e4⟩
 ·rw [List.nodup_append, List.nodup_append]
  refine ⟨n1, ⟨n2, n3, ?_⟩, ?_⟩
  ·rintro x hx y hy rfl
   exact A2B (A29 (C9.mono hl2) i3) h2.inG x hy x hx rfl
  ·rintro x hx y hy rfl
   rcases List.mem_append.1 hy with hy | hy
   ·exact A2B (A29 (C9.anti hl1) h1.inG) h2.inG x hx x hy rfl
   ·exact A2B i3 h1.inG x hy x hx rfl
mutual
def mOk (Q : Tm → Prop) (g : Tm → Tm) : Tm → Prop
 | .mk k nm num ty fr lb ks => A2H Q g ks ∧ Q (.mk k nm num ty fr lb (A1b g ks))
def A2H (Q : Tm → Prop) (g : Tm → Tm) : List Tm → Prop
 | [] => True
 | t :: ts => mOk Q g t ∧ A2H Q g ts
end
theorem A9k {Q : Tm → Prop} {g : Tm → Tm} : ∀ {ts : List Tm}, A2H Q g ts → ∀ t ∈ ts, mOk Q g t
 | [], _, t, h => by simp at h
 | t' :: ts, h, t, ht => by
  simp only [A2H] at h
  rcases List.mem_cons.1 ht with rfl | ht
  ·exact h.1
  ·exact A9k h.2 t ht
mutual
theorem A9l (g : Tm → Tm) : ∀ t, mOk (fun _ => True) g t
 | .mk k nm num ty fr lb ks => by rw [mOk]; exact ⟨A9m g ks, trivial⟩
theorem A9m (g : Tm → Tm) : ∀ ts, A2H (fun _ => True) g ts
 | [] => by rw [A2H]; trivial
 | t :: ts => by rw [A2H]; exact ⟨A9l g t, A9m g ts⟩
end
def A9n (g : Tm → Tm) (Q : Tm → Prop) (fid : FuncId) (us cs : List Value) : Prop := ∀ (t : Tm) (G0 G1 : IM) (cells : List Value) (F : List Nat), Q t → C6 G0 G1 → Q4 (C9 G1 G0) t cells F → F.Nodup →
 Fn Tryz.prog fid (us ++ [.agg ⟨cells⟩] ++ cs) [] G1 (M3 fun G2 v => ∃ cells' F', v = .agg ⟨cells'⟩ ∧ Q4 (C9 G2 G0) (g t) cells' F' ∧ F'.Nodup)
theorem B3V (g : Tm → Tm) (Q : Tm → Prop) (fid : FuncId) [C0 Tryz.prog fid] (us cs : List Value) (hg : A9n g Q fid us cs) : ∀ (t : Tm) (G : IM) (cells : List Value), mOk Q g t → t.small → B3 G t cells →
  Fn Tryz.prog 127 [.agg ⟨cells⟩, .func (.func fid) ⟨us⟩ ⟨cs⟩] [] G (A6r (A2G g t) G) := by
 refine Tm.ind fun k nm num ty fr lb ks ih G cells hmo hts hr => ?_
 have hone := hr.one
 simp only [mOk] at hmo
 obtain ⟨hmoL, hQ⟩ := hmo
 simp only [Tm.small] at hts
 obtain ⟨hnm, hty', hfr', hsm, hks⟩ := hts
 obtain ⟨tk, tks⟩ := ty
 obtain ⟨fk, fks⟩ := fr
 obtain ⟨pt, ct, pf, cf, p, c, es, rfl, hk, hnum, hlb, hty, hfr, hsl, hkl⟩ := hr.open9
 have hn := hsl.le
 have hlen : (A1b g ks).length = ks.length := by rw [A6s, List.length_map]
 have hget : ∀ i (h : i < ks.length) (h' : i < (A1b g ks).length), (A1b g ks)[i] = A2G g ks[i] := fun i h h' => by simp [A6s]
 refine C2 Tryz.func127 rfl Tryz.ntmps127 Tryz.results127 rfl ?_
 intro w0
 refine A5 ?_
 refine sE (C7 rfl rfl) rfl (fun b3 => ?_)
 refine sE (A8 rfl) rfl (fun b4 => ?_)
 refine K4 ?_
 refine C3 ?_
 (refine U9 28 9 ?_; refine K2 (fun (x : Nat × Option Addr × Nat × List (List Value) × List Nat × IM) => ⟨[(11, .int .i64 x.1), (10, .int .i64 ks.length), (9, .slice p ks.length c), (5, .slice x.2.1 x.1 x.2.2.1), (2, .pointer (some ⟨b3, 0, none⟩)), (1, .func (.func fid) ⟨us⟩ ⟨cs⟩), (4, .pointer (some ⟨b4, 0, none⟩))], [.slc x.2.1 x.2.2.1 28 9 x.1 x.2.2.2.1.flatten, .blk b4 [.int .i64 0, .string ⟨⟨[]⟩⟩, .int .i64 0, .int .i64 0, .slice none 0 0, .int .i64 0, .slice none 0 0, .int .i64 0, .slice none 0 0], .blk b3 [.int .i64 k, .string nm, .int .i64 num, .int .i64 tk, .slice pt tks.length ct, .int .i64 fk, .slice pf fks.length cf, .int .i64 lb, .slice p ks.length c]], x.2.2.2.2.2⟩) (fun x => x.1 ≤ ks.length ∧ C6 G x.2.2.2.2.2 ∧ O6 (C9 x.2.2.2.2.2 G) ((A1b g ks).take x.1) x.2.2.2.1 x.2.2.2.2.1 ∧ x.2.2.2.2.1.Nodup) (fun x => ks.length - x.1) (0, none, 0, [], [], G) ?_ ?_ ?_)
 (simp only [J9]; exact E2)
 exact ⟨by simp, C6.refl _, by simp [O6], by simp⟩
 (rintro ⟨i, pn, cn, es', F, Gi⟩ ⟨hi, hle, hst, hnd⟩; simp only [] at hi hle hst hnd ⊢; replace hsl := hsl.mono hle; replace hkl := hkl.mono hle)
 refine A5 ?_
 refine sB (J8 rfl rfl) rfl rfl (fun h28 => ?_) (fun h28 => ?_)
 refine B5 ?_
 refine C3 ?_
 refine A5 ?_
 (obtain ⟨b, o, e, rfl, hl, hat, hre, hgb⟩ := hsl.kidTm hkl (i := i) (by omega) (by omega); have hone := hre.one; refine sP (B6 rfl rfl rfl (by omega)) rfl rfl ?_)
 refine sL (A3 rfl rfl (hat _) hl) rfl rfl ?_
 refine sE (A8 rfl) rfl (fun b41 => ?_)
 refine sS rfl rfl rfl hl hone rfl ?_ (hu := by exact D4 hl.symm)
 refine B7 ?_
 refine sL (A3 rfl rfl (B1 (by repeat first | exact mH | apply mT)) (by assumption)) rfl rfl ?_
 refine F0 ?_
 (refine E5 rfl (ih ks[i] (List.getElem_mem (by omega)) _ _ (A9k hmoL _ (List.getElem_mem (by omega))) (Tm.smallL_mem hks _ (List.getElem_mem (by omega))) hre) rfl rfl (fun v G3 hle3 hh => ?_); obtain ⟨cells', F', rfl, hs', hnd'⟩ := hh; rw [← hget i (by omega) (by omega)] at hs'; have hlc := hs'.R.len; have hoc := hs'.R.one)
 (obtain ⟨v1, v2, v3, v4, v5, v6, v7, v8, v9, rfl⟩ : ∃ v1 v2 v3 v4 v5 v6 v7 v8 v9, cells' = [v1, v2, v3, v4, v5, v6, v7, v8, v9] := by obtain ⟨_, _, _, _, _, _, _, _, _, rfl, _⟩ := hs'.R.open; exact ⟨_, _, _, _, _, _, _, _, _, rfl⟩)
 (refine J5 (D2 rfl rfl rfl (by omega) (by unfold maxLen; omega) rfl) rfl ?_; rintro _ ⟨b51, rfl⟩)
 refine A1h rfl rfl rfl rfl rfl (fun _ _ => by repeat (first | exact Sw.here | apply Sw.there)) (O2 (by repeat first | exact mH | apply mT)) rfl (fun u hu => List.all_eq_true.1 hoc u hu) (by unfold maxLen; omega) (by omega) rfl (fun pn' cn' => ?_)
 refine B2 ?_
 refine sP (J6 rfl rfl (by omega) (by omega)) rfl rfl ?_
 refine A5 ?_
 refine K3 (i + 1, pn', cn', es' ++ [[v1, v2, v3, v4, v5, v6, v7, v8, v9]], F ++ F', G3) ?_ ?_ ?_
 (simp only [J9]; exact E2)
 exact A9h
 exact X7
 refine J0 ?_
 (obtain rfl : i = ks.length := (by omega); refine A14 (by repeat (first | exact Pk.here | apply Pk.there)) (fun G2 hle2 hsl2 hno2 => ?_); rw [← hlen, List.take_length] at hst; rw [← hlen] at hsl2; obtain ⟨F3, hf1, hf2⟩ := A2A.fin hst hnd hle hle2 hsl2 hno2; have hleG := hle.trans hle2; have hT := A2F (.mk tk tks) G2 _ hty' (hty.mono hleG); refine D8 D9 rfl ?_)
 refine I6 (i := 0) (l' := [tt,ff,ff,ff,ff,ff,ff,ff,ff,ff,ff,ff,ff]) rfl D3 (B8 rfl) rfl (by kernel_rfl) rfl rfl ?_
 refine aL 1 rfl (A6 rfl rfl) rfl ?_
 refine aP 3 rfl (B8 rfl) rfl ?_
 refine aL 4 rfl (A6 rfl rfl) rfl ?_
 refine aP 6 rfl (qM rfl) rfl ?_
 refine A4 2 ?_
 (refine H4 rfl rfl hT rfl rfl rfl (fun v G4 hle4 hh => ?_); obtain ⟨cs1, F1, rfl, hs1, hn1⟩ := hh; obtain ⟨p1, c1, rfl, _⟩ := hs1.open; have hF := A2F (.mk fk fks) G4 _ hfr' (hfr.mono (hleG.trans hle4)))
 refine aP 7 rfl (B8 rfl) rfl ?_
 refine A4 5 ?_
 (refine H4 rfl rfl hF rfl rfl rfl (fun v G5 hle5 hh => ?_); obtain ⟨cs2, F2, rfl, hs2, hn2⟩ := hh; obtain ⟨p2, c2, rfl, _⟩ := hs2.open; obtain ⟨F6, hg1, hg2⟩ := Q4.mk3k (nm := nm) hk hnum hlb hleG hle4 hle5 hf1 hf2 hs1 hn1 hs2 hn2; rw [hlen] at hg1; have hch := hg _ G G5 _ F6 hQ (hleG.trans (hle4.trans hle5)) hg1 hg2)
 refine A4 8 ?_
 refine R9 rfl rfl rfl rfl rfl rfl rfl rfl (by kernel_rfl) (by repeat first | exact Sw.here | apply Sw.there) (by rfl) ?_
 refine aP 9 rfl (B8 rfl) rfl ?_
 refine A4 10 ?_
 refine R9 rfl rfl rfl rfl rfl rfl rfl rfl (by kernel_rfl) (by repeat first | exact Sw.here | apply Sw.there) (by rfl) ?_
 refine aP 11 rfl (B8 rfl) rfl ?_
 refine A4 12 ?_
 refine R9 rfl rfl rfl rfl rfl rfl rfl rfl (by kernel_rfl) (by repeat first | exact Sw.here | apply Sw.there) (by rfl) ?_
 refine B0 ?_
 (refine J5 (A5R rfl rfl hch (List.Perm.refl _) rfl) rfl ?_; rintro _ ⟨v, G7, outs, rfl, hle7, rfl, cells7, F7, rfl, hs7, hn7⟩; have hl7 := hs7.R.len; have ho7 := hs7.R.one)
 refine sS rfl rfl rfl hl7 ho7 rfl ?_ (hu := by exact D4 hl7.symm)
 refine B9 ?_
 refine N4 (rC rfl (A3 rfl rfl (B1 (by repeat first | exact mH | apply mT)) hl7)) ?_
 (rw [A2G]; exact ⟨rfl, cells7, F7, rfl, hs7, hn7⟩)
theorem B3W (G : IM) (cells : List Value) (hl : cells.length = 9) (hone : cells.all (·.oneCell') = true) : Fn Tryz.prog 128 [.agg ⟨cells⟩] [] G (H5 (.agg ⟨cells⟩) G) := by
 refine C2 Tryz.func128 rfl Tryz.ntmps128 Tryz.results128 rfl ?_
 intro w0
 refine A5 ?_
 refine sE (C7 rfl rfl) rfl (fun b3 => ?_)
 refine sE (A8 rfl) rfl (fun b4 => ?_)
 refine B7 ?_
 refine sL (A3 rfl rfl (B1 (by repeat first | exact mH | apply mT)) (by assumption)) rfl rfl ?_
 refine sS rfl rfl rfl hl hone rfl ?_ (hu := by exact D4 hl.symm)
 refine B9 ?_
 refine N4 (rC rfl (A3 rfl rfl (B1 (by repeat first | exact mH | apply mT)) hl)) ?_
 exact ⟨rfl, rfl, rfl⟩
theorem B3X : A9n id (fun _ => True) 128 [] [] := fun t G0 G1 cells F _ hle hs hn =>
 (B3W G1 cells hs.R.len hs.R.one).mono fun G' v outs _ ⟨h1, h2, h3⟩ => ⟨h3, cells, F, h2, by rw [h1]; exact hs, hn⟩
theorem A6t (t : Tm) (G : IM) (cells : List Value) (hts : t.small) (hr : B3 G t cells) : Fn Tryz.prog 84 [.agg ⟨cells⟩] [] G (A6r t G) := by
 have hl := hr.len
 have hone := hr.one
 have hM := B3V id (fun _ => True) 128 [] [] B3X t G cells (A9l _ t) hts hr
 rw [A9i] at hM
 refine C2 Tryz.func84 rfl Tryz.ntmps84 Tryz.results84 rfl ?_
 intro w0
 refine A5 ?_
 refine sE (C7 rfl rfl) rfl (fun b3 => ?_)
 refine sE (A8 rfl) rfl (fun b4 => ?_)
 refine B7 ?_
 refine sL (A3 rfl rfl (B1 (by repeat first | exact mH | apply mT)) (by assumption)) rfl rfl ?_
 (refine E5 rfl hM rfl rfl (fun v G3 hle3 hh => ?_); obtain ⟨cells', F', rfl, hs', hnd'⟩ := hh; have hl' := hs'.R.len; have ho' := hs'.R.one)
 refine sS rfl rfl rfl hl' ho' rfl ?_ (hu := by exact D4 hl'.symm)
 refine B9 ?_
 refine N4 (rC rfl (A3 rfl rfl (B1 (by repeat first | exact mH | apply mT)) hl')) ?_
 exact ⟨rfl, cells', F', rfl, hs', hnd'⟩
theorem B3Y {D N : Int} {k : Int} {nm : ByteArray} {num : Int} {ty fr : Ty} {lb : Int} {ks : List Tm} {d : Int} (h : M8 D N (.mk k nm num ty fr lb ks) d = true) : d ≤ D ∧ ∀ i, (hi : i < ks.length) → M8 D N ks[i] (d + 1) = true := by
 rw [M8] at h
 simp only [Bool.and_eq_true, decide_eq_true_eq] at h
 exact ⟨h.1.1.1, (A0W D N ks _).1 h.2⟩
mutual
theorem A6u (M D N : Int) : ∀ (t : Tm) (deep c : Int), c ≤ M → ((S8 M D N t deep c).1 = true ↔ M8 D N t deep = true ∧ c + D6 t ≤ M)
 | .mk k nm num ty fr lb ks, deep, c, hc => by
  rw [S8, D6]
  by_cases h : c + 1 > M ∨ deep > D ∨ k = N ∨ V7 k nm num ty fr lb ks.length = false
  ·rw [if_pos h]
   constructor
   ·intro h; cases h
   ·rintro ⟨h1, h2⟩
    rcases h with h | h
    ·omega
    ·rw [A9b h] at h1; cases h1
  ·rw [if_neg h]
   have hn : V7 k nm num ty fr lb ks.length = true := by
    cases hx : V7 k nm num ty fr lb ks.length with
    | true => rfl
    | false => exact absurd (Or.inr (Or.inr (Or.inr hx))) h
   rw [A2E (by omega) (by omega) hn, A9o M D N ks (deep + 1) (c + 1) (by omega)]
   constructor
   ·rintro ⟨a, b⟩; exact ⟨a, by omega⟩
   ·rintro ⟨a, b⟩; exact ⟨a, by omega⟩
theorem A9o (M D N : Int) : ∀ (ts : List Tm) (deep c : Int), c ≤ M → ((U7 M D N ts deep c).1 = true ↔ O0 D N ts deep = true ∧ c + E9 ts ≤ M)
 | [], deep, c, hc => by simp [U7, O0, E9]; omega
 | t :: ts, deep, c, hc => by
  have h0 := A6u M D N t deep c hc
  rw [U7, O0, E9, Bool.and_eq_true]
  by_cases h : (S8 M D N t deep c).1 = true
  ·rw [if_pos h, A58 M D N t deep c h, A9o M D N ts deep _ (h0.1 h).2]
   have := h0.1 h
   constructor
   ·rintro ⟨a, b⟩; exact ⟨⟨this.1, a⟩, by omega⟩
   ·rintro ⟨⟨_, a⟩, b⟩; exact ⟨a, by omega⟩
  ·rw [if_neg h]
   constructor
   ·intro h'; cases h'
   ·rintro ⟨⟨a, _⟩, b⟩
    exact absurd (h0.2 ⟨a, by omega⟩) h
end
theorem A6v (t : Tm) : M9 t = true ↔ M8 40 13 t 1 = true ∧ D6 t ≤ 200 := by
 have := A6u 200 40 13 t 1 0 (by omega)
 rw [M9, this]
 constructor
 ·rintro ⟨a, b⟩; exact ⟨a, by omega⟩
 ·rintro ⟨a, b⟩; exact ⟨a, by omega⟩
theorem A9p (D N : Int) : ∀ (t : Tm) (d : Int) (G : IM) (cells : List Value), d ≤ 40 → M8 D N t (D + 1 - d) = true → D6 t ≤ 4294967296 → B3 G t cells →
  Fn Tryz.prog 139 [.agg ⟨cells⟩, .int .i64 d] [] G (H5 (.int .i64 (D6 t : Int)) G) := by
 refine Tm.ind fun k nm num ty fr lb ks ih d G cells hd hv hcnt hr => ?_
 have hone := hr.one
 obtain ⟨hv1, hv2⟩ := B3Y hv
 obtain ⟨tk, tks⟩ := ty
 obtain ⟨fk, fks⟩ := fr
 obtain ⟨pt, ct, pf, cf, p, c, es, rfl, hk, hnum, hlb, hty, hfr, hsl, hkl⟩ := hr.open9
 have hn := hsl.le
 clear hr
 rw [D6] at hcnt ⊢
 refine C2 Tryz.func139 rfl Tryz.ntmps139 Tryz.results139 rfl ?_
 intro w0
 refine A5 ?_
 refine sE (C7 rfl rfl) rfl (fun b3 => ?_)
 refine J1 ?_
 refine C3 ?_
 (refine K2 (fun (i : Nat) => ⟨[(6, .int .i64 i), (5, .int .i64 ((E9 (ks.take i) + 1 : Nat) : Int)), (2, .pointer (some ⟨b3, 0, none⟩)), (1, .int .i64 d)], [.blk b3 [.int .i64 k, .string nm, .int .i64 num, .int .i64 tk, .slice pt tks.length ct, .int .i64 fk, .slice pf fks.length cf, .int .i64 lb, .slice p ks.length c]], G⟩) (fun i => i ≤ ks.length) (fun i => ks.length - i) 0 ?_ ?_ ?_)
 exact E2
 exact Nat.zero_le _
 (rintro i hi)
 refine B5 ?_
 refine sB (J8 rfl rfl) rfl rfl (fun h30 => ?_) (fun h30 => ?_)
 refine A5 ?_
 refine sP (A3O rfl rfl (by omega)) rfl rfl ?_
 refine B5 ?_
 refine C3 ?_
 refine B2 ?_
 (obtain ⟨b, o, e, rfl, hl, hat, hre, hgb⟩ := hsl.kidTm hkl (i := i) (by omega) (by omega); have htk := A1I (ks := ks) (i := i) (by omega); refine sP (B6 rfl rfl rfl (by omega)) rfl rfl ?_)
 refine sL (A3 rfl rfl (hat _) hl) rfl rfl ?_
 refine F0 ?_
 refine sP (P3 rfl rfl (by omega) (by omega)) rfl rfl ?_
 (have hvk := hv2 i (by omega); rw [show D + 1 - d + 1 = D + 1 - (d - 1) by omega] at hvk; refine H9 rfl (ih ks[i] (List.getElem_mem (by omega)) (d - 1) G _ (by omega) hvk (by omega) hre) rfl rfl ?_)
 refine sP (J6 rfl rfl (by omega) (by omega)) rfl rfl ?_
 refine B0 ?_
 refine sP (J6 rfl rfl (by omega) (by omega)) rfl rfl ?_
 refine A5 ?_
 (refine K3 (i + 1) ?_ ?_ ?_; rw [show ((E9 (ks.take (i + 1)) + 1 : Nat) : Int) = ((E9 (ks.take i) + 1 : Nat) : Int) + (D6 ks[i] : Int) from by rw [A1J (by omega)]; omega])
 exact E2
 omega
 omega
 refine A0o ?_
 (obtain rfl : i = ks.length := (by omega); rw [List.take_length]; exact ⟨rfl, rfl, rfl⟩)
theorem A48 {Q : Prop} (h : Q := by exact ⟨rfl, by (cases R with | false => rfl | true => (exfalso; have h0 := hi.1 rfl; first | omega | simp_all)), rfl⟩) : Q := h
theorem A9q (t : Tm) (G : IM) (cells : List Value) (hcnt : D6 t ≤ 4294967296) (hr : B3 G t cells) :
  Fn Tryz.prog 100 [.agg ⟨cells⟩] [] G (H5 (.bool (M9 t)) G) := by
 have hl := hr.len
 have hv := B3T t 40 G cells (by omega) hr
 have hc := fun h => A9p 40 13 t 40 G cells (by omega) h hcnt hr
 have hi := A6v t
 obtain ⟨R, hR⟩ : ∃ R, M9 t = R := ⟨_, rfl⟩
 rw [hR] at hi ⊢
 refine C2 Tryz.func100 rfl Tryz.ntmps100 Tryz.results100 rfl ?_
 intro w0
 refine A5 ?_
 refine sE (C7 rfl rfl) rfl (fun b3 => ?_)
 refine B2 ?_
 refine sL (A3 rfl rfl (B1 (by repeat first | exact mH | apply mT)) (by assumption)) rfl rfl ?_
 refine E8 rfl (hv) rfl rfl (fun h10 => ?_) (fun h10 => ?_)
 refine F0 ?_
 refine sL (A3 rfl rfl (B1 (by repeat first | exact mH | apply mT)) (by assumption)) rfl rfl ?_
 refine H9 rfl (hc (by assumption)) rfl rfl ?_
 refine sB (A0n rfl rfl) rfl rfl (fun h14 => ?_) (fun h14 => ?_)
 refine B0 ?_
 exact ⟨rfl, by rw [hi.2 ⟨by assumption, by omega⟩], rfl⟩
 refine B0 ?_
 exact A48
 refine J0 ?_
 exact A48
end Gw
end Go.Proofs.YthpdjmbpbdbodaaGreatDoor
