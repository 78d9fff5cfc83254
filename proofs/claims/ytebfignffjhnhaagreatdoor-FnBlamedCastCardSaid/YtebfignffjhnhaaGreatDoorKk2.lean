/-
  The tests of terms. The scan of a term, CastValid, TermValid. The reference model's tests of types and nodes: they compute the same plain functions. Fresh data taken back into the call's own hands, and given up again; sizes. How high and how wide types are. The reference model's scans of types. The reference model's consistency of types. The reference model's tests of nodes. The reference model's scan of terms with casts. Types of terms with casts, in plain words over trees: what a node wants of its operands, and what it is. The laws' copies of types and terms. Copies of types and terms: the reference model's, the program's, the laws' of paths. Terms each node of which is changed, operands first; own copies. The reference model's count of nodes, its CastValid.
-/
import Derived.Test.YtebfignffjhnhaaGreatDoorKk1
set_option linter.unusedVariables false
set_option linter.unusedSimpArgs false
set_option maxHeartbeats 0
set_option maxRecDepth 100000
set_option synthInstance.maxSize 4000
set_option synthInstance.maxHeartbeats 0
namespace Go.Proofs.YtebfignffjhnhaaGreatDoor
open Go Go.RowKit
namespace Gw
theorem B38 (k : Int) (G : IM) (hk : H0 k) : Fn Tryz.prog 198 [.int .i64 k] [] G (J0 (.int .i64 (D9 k)) G) := by
 unfold H0 at hk
 refine C6 Tryz.func198 rfl Tryz.ntmps198 Tryz.results198 rfl ?_
 intro w0
 refine E1 ?_
 refine H1 rfl (A1m _ _ _ _) rfl rfl (fun h10 => ?_) (fun h10 => ?_)
 refine D4 ?_
 (refine I3 (D0 rfl rfl rfl (by omega) (by unfold maxLen; omega) rfl) rfl ?_; rintro _ ⟨b19, rfl⟩)
 refine F8 ?_
 (have hkk : 1 ≤ k ∧ k ≤ 14 := A3w (by assumption); refine sP (P4 rfl rfl (by omega) (by omega)) rfl rfl ?_)
 refine sP (A8f rfl rfl rfl (by omega) (by omega)) rfl rfl ?_
 refine sL (W4 rfl rfl (A8g (by repeat first | exact mH | apply mT) (B3s (by rw [Nat.zero_add, Nat.mul_one]; exact B3r hkk)))) rfl rfl ?_
 refine B0 ?_
 exact ⟨rfl, rfl, rfl⟩
 refine N4 ?_
 exact ⟨rfl, by rw [A5c (A6p (by assumption))], rfl⟩
theorem S0 {Q : Prop} (h : Q := by exact ⟨rfl, by (cases R with | false => rfl | true => (exfalso; obtain ⟨i1, i2, i3, i4, i5, i6, i7, i8, i9⟩ := hi.1 rfl; first | omega | (have j := i2 (by omega); simp_all; done) | (have j := i3 (by omega); simp_all; done) | (have j := i4 (by omega); simp_all; done) | (have j := i5 (by omega); simp_all; done) | (have j := i6 (by omega); simp_all; done) | (have j := i7 (by omega); simp_all; done) | (have j := i8 (by omega); simp_all; done) | (have j := i9 (by omega); simp_all; done))), rfl⟩) : Q := h
theorem zq8 {Q : Prop} (h : Q := by exact ⟨rfl, by rw [hi.2 ⟨by omega, fun _ => by (first | assumption | (exfalso; omega) | exact Classical.not_not.1 (by assumption)), fun _ => by (first | assumption | (exfalso; omega) | exact Classical.not_not.1 (by assumption)), fun _ => by (first | assumption | (exfalso; omega) | exact Classical.not_not.1 (by assumption)), fun _ => by (first | assumption | (exfalso; omega) | exact Classical.not_not.1 (by assumption)), fun _ => by (first | assumption | (exfalso; omega) | exact Classical.not_not.1 (by assumption)), fun _ => by (first | assumption | (exfalso; omega) | exact Classical.not_not.1 (by assumption)), fun _ => ⟨by (first | assumption | (exfalso; omega)), by (first | assumption | (exfalso; omega))⟩, fun _ => ⟨by (first | assumption | (exfalso; omega)), by (first | assumption | omega)⟩⟩], rfl⟩) : Q := h
theorem B39 (k : Int) (nm : ByteArray) (num : Int) (ty fr : Ty) (lb : Int) (ks : List Tm) (G : IM) (cells : List Value) (hr : B1 G (.mk k nm num ty fr lb ks) cells) :
  Fn Tryz.prog 150 [.agg ⟨cells⟩] [] G (J0 (.bool (W6 k nm num ty fr lb ks.length)) G) := by
 obtain ⟨tk, tks⟩ := ty
 obtain ⟨fk, fks⟩ := fr
 obtain ⟨pt, ct, pf, cf, p, c, es, rfl, hk, hnum, hlb, hty, hfr, hsl, hkl⟩ := hr.open9
 have hi := @V8 k nm num (.mk tk tks) (.mk fk fks) lb ks.length
 obtain ⟨R, hR⟩ : ∃ R, W6 k nm num (.mk tk tks) (.mk fk fks) lb ks.length = R := ⟨_, rfl⟩
 rw [hR] at hi ⊢
 clear hR hr
 have o1 := B38 k G hk
 have o2 := B35 nm G
 have o3 := A11 _ G _ hty
 have o4 := A87 _ G _ hty
 have o5 := B37 _ _ G _ _ hfr hty
 have o6 := B34 lb G
 have o7 := A87 _ G _ hfr
 refine C6 Tryz.func150 rfl Tryz.ntmps150 Tryz.results150 rfl ?_
 intro w0
 refine A4 ?_
 refine sE (C9 rfl rfl) rfl (fun b3 => ?_)
 refine B0 ?_
 refine D7 D8 rfl ?_
 refine I6 (i := 0) (l' := [tt,ff,ff,ff,ff,ff,ff]) rfl D2 (B8 rfl) rfl (by kernel_rfl) rfl rfl ?_
 refine aL 1 rfl (C7 rfl rfl) rfl ?_
 refine aP 3 rfl (B8 rfl) rfl ?_
 refine aL 4 rfl (C7 rfl rfl) rfl ?_
 refine aP 5 rfl (pLn rfl rfl) rfl ?_
 refine A2 2 ?_
 refine N6 rfl rfl (o1) rfl rfl rfl ?_
 refine A0q (i := 6) (l' := [tt,tt,tt,tt,tt,tt,tt]) rfl D2 (N2 rfl rfl) rfl (by kernel_rfl) rfl rfl (fun h17 => ?_) (fun h17 => ?_)
 refine J8 ?_
 exact S0
 refine E1 ?_
 refine sB (qE rfl rfl) rfl rfl (fun h39 => ?_) (fun h39 => ?_)
 refine N4 ?_
 refine sP (I9 rfl rfl (by omega)) rfl rfl ?_
 refine B9 ?_
 refine sP (I9 rfl rfl (by omega)) rfl rfl ?_
 refine B4 ?_
 refine sP (I9 rfl rfl (by omega)) rfl rfl ?_
 refine D4 ?_
 refine sP (I9 rfl rfl (by omega)) rfl rfl ?_
 refine K4 ?_
 refine sP (I9 rfl rfl (by omega)) rfl rfl ?_
 refine A8 ?_
 refine C5 ?_
 refine B7 ?_
 refine H1 rfl (o2) rfl rfl (fun h99 => ?_) (fun h99 => ?_)
 refine A1e ?_
 refine H1 rfl (A1m _ _ _ _) rfl rfl (fun h123 => ?_) (fun h123 => ?_)
 refine A6m ?_
 refine H1 rfl (o4) rfl rfl (fun h149 => ?_) (fun h149 => ?_)
 refine A0h ?_
 refine B4 ?_
 refine H1 rfl (o7) rfl rfl (fun h184 => ?_) (fun h184 => ?_)
 refine B4 ?_
 refine sB (N2 rfl rfl) rfl rfl (fun h189 => ?_) (fun h189 => ?_)
 refine I7 ?_
 exact S0
 refine K0 ?_
 exact zq8
 refine A0D ?_
 exact S0
 refine I7 ?_
 exact S0
 refine J5 ?_
 exact S0
 refine V1 ?_
 exact S0
 refine B9 ?_
 refine sB (qE rfl rfl) rfl rfl (fun h297 => ?_) (fun h297 => ?_)
 refine D4 ?_
 refine sP (Y3 rfl rfl (by omega)) rfl rfl ?_
 refine S4 ?_
 refine sP (I9 rfl rfl (by omega)) rfl rfl ?_
 refine K4 ?_
 refine sP (I9 rfl rfl (by omega)) rfl rfl ?_
 refine A8 ?_
 refine C5 ?_
 refine B7 ?_
 refine H1 rfl (o2) rfl rfl (fun h353 => ?_) (fun h353 => ?_)
 refine A1e ?_
 refine H1 rfl (A1m _ _ _ _) rfl rfl (fun h377 => ?_) (fun h377 => ?_)
 refine N4 ?_
 refine H1 rfl (o3) rfl rfl (fun h390 => ?_) (fun h390 => ?_)
 refine A0h ?_
 refine S4 ?_
 refine H1 rfl (o7) rfl rfl (fun h438 => ?_) (fun h438 => ?_)
 refine B4 ?_
 refine sB (N2 rfl rfl) rfl rfl (fun h443 => ?_) (fun h443 => ?_)
 refine I7 ?_
 exact S0
 refine K0 ?_
 exact zq8
 refine A0D ?_
 exact S0
 refine V1 ?_
 exact S0
 refine J5 ?_
 exact S0
 refine V1 ?_
 exact S0
 refine D4 ?_
 refine sP (I9 rfl rfl (by omega)) rfl rfl ?_
 refine B9 ?_
 refine sB (qE rfl rfl) rfl rfl (fun h563 => ?_) (fun h563 => ?_)
 refine K4 ?_
 refine sP (I9 rfl rfl (by omega)) rfl rfl ?_
 refine K4 ?_
 refine sP (I9 rfl rfl (by omega)) rfl rfl ?_
 refine A8 ?_
 refine C5 ?_
 refine A0E ?_
 refine sB (A2L rfl rfl) rfl rfl (fun h620 => ?_) (fun h620 => ?_)
 refine S4 ?_
 exact S0
 refine E1 ?_
 refine H1 rfl (A1m _ _ _ _) rfl rfl (fun h648 => ?_) (fun h648 => ?_)
 refine N4 ?_
 refine H1 rfl (o3) rfl rfl (fun h661 => ?_) (fun h661 => ?_)
 refine A0h ?_
 refine S4 ?_
 refine H1 rfl (o7) rfl rfl (fun h709 => ?_) (fun h709 => ?_)
 refine B4 ?_
 refine sB (N2 rfl rfl) rfl rfl (fun h714 => ?_) (fun h714 => ?_)
 refine I7 ?_
 exact S0
 refine K0 ?_
 exact zq8
 refine A0D ?_
 exact S0
 refine V1 ?_
 exact S0
 refine J5 ?_
 exact S0
 refine B4 ?_
 refine sB (qE rfl rfl) rfl rfl (fun h807 => ?_) (fun h807 => ?_)
 refine D4 ?_
 refine sP (Y3 rfl rfl (by omega)) rfl rfl ?_
 refine K4 ?_
 refine sP (I9 rfl rfl (by omega)) rfl rfl ?_
 refine A8 ?_
 refine C5 ?_
 refine A0E ?_
 refine sB (A2L rfl rfl) rfl rfl (fun h859 => ?_) (fun h859 => ?_)
 refine S4 ?_
 exact S0
 refine E1 ?_
 refine H1 rfl (A1m _ _ _ _) rfl rfl (fun h887 => ?_) (fun h887 => ?_)
 refine N4 ?_
 refine H1 rfl (o3) rfl rfl (fun h900 => ?_) (fun h900 => ?_)
 refine A8B ?_
 refine H1 rfl (o5) rfl rfl (fun h929 => ?_) (fun h929 => ?_)
 refine B4 ?_
 refine H1 rfl (o6) rfl rfl (fun h934 => ?_) (fun h934 => ?_)
 refine A0h ?_
 refine B0 ?_
 exact zq8
 refine A0C ?_
 exact S0
 refine A3u ?_
 exact S0
 refine V1 ?_
 exact S0
 refine J5 ?_
 exact S0
 refine D4 ?_
 refine sP (I9 rfl rfl (by omega)) rfl rfl ?_
 refine K4 ?_
 refine sB (qE rfl rfl) rfl rfl (fun h1072 => ?_) (fun h1072 => ?_)
 refine D4 ?_
 refine C5 ?_
 refine A0E ?_
 refine sB (A2L rfl rfl) rfl rfl (fun h1103 => ?_) (fun h1103 => ?_)
 refine S4 ?_
 exact S0
 refine E1 ?_
 refine H1 rfl (A1m _ _ _ _) rfl rfl (fun h1131 => ?_) (fun h1131 => ?_)
 refine A6m ?_
 refine H1 rfl (o4) rfl rfl (fun h1157 => ?_) (fun h1157 => ?_)
 refine A0h ?_
 refine B4 ?_
 refine H1 rfl (o7) rfl rfl (fun h1192 => ?_) (fun h1192 => ?_)
 refine B4 ?_
 refine sB (N2 rfl rfl) rfl rfl (fun h1197 => ?_) (fun h1197 => ?_)
 refine I7 ?_
 exact S0
 refine K0 ?_
 exact zq8
 refine A0D ?_
 exact S0
 refine I7 ?_
 exact S0
 refine J5 ?_
 exact S0
 refine A8 ?_
 refine C5 ?_
 refine A0E ?_
 refine sB (A2L rfl rfl) rfl rfl (fun h1311 => ?_) (fun h1311 => ?_)
 refine S4 ?_
 exact S0
 refine E1 ?_
 refine H1 rfl (A1m _ _ _ _) rfl rfl (fun h1339 => ?_) (fun h1339 => ?_)
 refine A6m ?_
 refine H1 rfl (o4) rfl rfl (fun h1365 => ?_) (fun h1365 => ?_)
 refine A0h ?_
 refine B4 ?_
 refine H1 rfl (o7) rfl rfl (fun h1400 => ?_) (fun h1400 => ?_)
 refine B4 ?_
 refine sB (N2 rfl rfl) rfl rfl (fun h1405 => ?_) (fun h1405 => ?_)
 refine I7 ?_
 exact S0
 refine K0 ?_
 exact zq8
 refine A0D ?_
 exact S0
 refine I7 ?_
 exact S0
 refine J5 ?_
 exact S0
theorem zq9 {Q : Prop} (h : Q := by (rw [B3t (by rw [hR]; first | omega | exact Or.inr (Or.inr (Or.inr (by assumption)))) ]; exact ⟨rfl, rfl, rfl⟩)) : Q := h
theorem V5 {Q : Prop} (h : Q := by (show ks.length - (i + 1) < ks.length - i; omega)) : Q := h
theorem A88 (M D N : Int) (hM : 0 ≤ M ∧ M ≤ 1000) (hD : 0 ≤ D ∧ D ≤ 1000) (bc : Nat) : ∀ (t : Tm) (deep c : Int) (G : IM) (cells : List Value), 0 ≤ deep ∧ deep ≤ D + 1 → 0 ≤ c ∧ c ≤ M → B1 G t cells →
  Fn Tryz.prog 108 [.agg ⟨cells⟩, .int .i64 deep, .int .i64 M, .int .i64 D, .int .i64 N, .pointer (some ⟨bc, 0, none⟩)] [.blk bc [.int .i64 c]] G
   (W5 (.bool (T4 M D N t deep c).1) [.blk bc [.int .i64 (T4 M D N t deep c).2]] G) := by
 refine Tm.ind fun k nm num ty fr lb ks ih deep c G cells hd hc hr => ?_
 have hno := B39 k nm num ty fr lb ks G cells hr
 obtain ⟨tk, tks⟩ := ty
 obtain ⟨fk, fks⟩ := fr
 obtain ⟨pt, ct, pf, cf, p, cp, es, rfl, hk, hnum, hlb, hty, hfr, hsl, hkl⟩ := hr.open9
 have hn := hsl.le
 obtain ⟨R, hR⟩ : ∃ R, W6 k nm num (.mk tk tks) (.mk fk fks) lb ks.length = R := ⟨_, rfl⟩
 rw [hR] at hno
 refine C6 Tryz.func108 rfl Tryz.ntmps108 Tryz.results108 rfl ?_
 intro w0
 refine A4 ?_
 refine sE (C9 rfl rfl) rfl (fun b3 => ?_)
 refine A8 ?_
 refine sQ (Z9 rfl) rfl ?_
 refine F8 ?_
 refine sP (H9 rfl rfl (by omega) (by omega)) rfl rfl ?_
 refine sQ (Z9 rfl) rfl ?_
 refine B7 ?_
 refine sQ (Z9 rfl) rfl ?_
 refine A4 ?_
 refine sB (A0g rfl rfl) rfl rfl (fun h24 => ?_) (fun h24 => ?_)
 refine A4d ?_
 refine H7 (outs := [.blk bc [.int .i64 _]]) (rT rfl) (A1.cons (by repeat (first | exact Pk.here | apply Pk.there)) A1.nil) ?_
 exact zq9
 refine B9 ?_
 refine sB (A0g rfl rfl) rfl rfl (fun h56 => ?_) (fun h56 => ?_)
 refine A8z ?_
 refine H7 (outs := [.blk bc [.int .i64 _]]) (rT rfl) (A1.cons (by repeat (first | exact Pk.here | apply Pk.there)) A1.nil) ?_
 exact zq9
 refine B0 ?_
 refine sB (qE rfl rfl) rfl rfl (fun h86 => ?_) (fun h86 => ?_)
 refine K0 ?_
 refine H7 (outs := [.blk bc [.int .i64 _]]) (rT rfl) (A1.cons (by repeat (first | exact Pk.here | apply Pk.there)) A1.nil) ?_
 exact zq9
 refine B9 ?_
 refine H1 rfl (hno) rfl rfl (fun h108 => ?_) (fun h108 => ?_)
 refine K0 ?_
 refine C5 ?_
 (have hmk := B3u (M := M) (D := D) (N := N) (deep := deep) (c := c) (by omega) (hR.trans (by assumption)); refine K2 (fun (x : Nat × Int) => ⟨[(44, .int .i64 x.1), (43, .int .i64 ks.length), (42, .slice p ks.length cp), (5, .pointer (some ⟨bc, 0, none⟩)), (4, .int .i64 N), (3, .int .i64 D), (2, .int .i64 M), (1, .int .i64 deep)], [.blk bc [.int .i64 x.2]], G⟩) (fun x => x.1 ≤ ks.length ∧ 0 ≤ x.2 ∧ x.2 ≤ M ∧ V4 M D N ks (deep + 1) (c + 1) = V4 M D N (ks.drop x.1) (deep + 1) x.2) (fun x => ks.length - x.1) (0, c + 1) ?_ ?_ ?_)
 (simp only [I1]; exact D6)
 exact ⟨by simp, by simp; omega, by simp; omega, by simp⟩
 (rintro ⟨i, ci⟩ ⟨hi, hc0, hc1, hst⟩; simp only [] at hi hc0 hc1 hst ⊢)
 refine A4 ?_
 refine sB (J4 rfl rfl) rfl rfl (fun h132 => ?_) (fun h132 => ?_)
 refine B7 ?_
 refine C5 ?_
 refine A4 ?_
 (obtain ⟨b, o, e, rfl, hl, hat, hre, hgb⟩ := hsl.kidTm hkl (i := i) (by omega) (by omega); have hone := hre.one; have hle := A6q M D N ks[i] (deep + 1) ci hc0 hc1; refine sP (B5 rfl rfl rfl (by omega)) rfl rfl ?_)
 refine sL (A3 rfl rfl (hat _) hl) rfl rfl ?_
 refine sE (A9 rfl) rfl (fun b145 => ?_)
 refine X5 rfl rfl rfl (by assumption) (by assumption) rfl (by repeat first | exact Sw.here | apply Sw.there) (by exact E0 (by symm; assumption)) ?_
 refine B4 ?_
 refine sL (A3 rfl rfl (B6 (by repeat first | exact mH | apply mT)) (by assumption)) rfl rfl ?_
 refine F8 ?_
 refine sP (H9 rfl rfl (by omega) (by omega)) rfl rfl ?_
 refine B4 ?_
 refine B3j rfl (ih ks[i] (List.getElem_mem _) (deep + 1) ci G e (by omega) (by omega) hre) (Pk.perm (by repeat (first | exact Pk.here | apply Pk.there))) rfl rfl (fun h158 => ?_) (fun h158 => ?_)
 refine D4 ?_
 refine sP (H9 rfl rfl (by omega) (by omega)) rfl rfl ?_
 refine A4 ?_
 refine I5 (i + 1, (T4 M D N ks[i] (deep + 1) ci).2) ?_ ?_ ?_
 (simp only [I1]; exact D6)
 exact ⟨by omega, by omega, hle.2.2 (by assumption), by rw [hst, B3v (by omega) (by assumption)]⟩
 exact V5
 refine I7 ?_
 refine H7 (outs := [.blk bc [.int .i64 _]]) (rT rfl) (A1.cons (by repeat (first | exact Pk.here | apply Pk.there)) A1.nil) ?_
 (rw [hmk, hst, B3w (by omega) (by assumption)]; exact ⟨rfl, rfl, rfl⟩)
 refine I7 ?_
 refine H7 (outs := [.blk bc [.int .i64 _]]) (rT rfl) (A1.cons (by repeat (first | exact Pk.here | apply Pk.there)) A1.nil) ?_
 (rw [hmk, hst, B3x (by omega)]; exact ⟨rfl, rfl, rfl⟩)
 refine N4 ?_
 refine H7 (outs := [.blk bc [.int .i64 _]]) (rT rfl) (A1.cons (by repeat (first | exact Pk.here | apply Pk.there)) A1.nil) ?_
 exact zq9
theorem A5k (t : Tm) (G : IM) (cells : List Value) (hr : B1 G t cells) : Fn Tryz.prog 64 [.agg ⟨cells⟩] [] G (J0 (.bool (M5 t)) G) := by
 have hl := hr.len
 refine C6 Tryz.func64 rfl Tryz.ntmps64 Tryz.results64 rfl ?_
 intro w0
 refine A4 ?_
 refine sE (C9 rfl rfl) rfl (fun b3 => ?_)
 refine B0 ?_
 refine sE (A9 rfl) rfl (fun b9 => ?_)
 refine B0 ?_
 refine sL (A3 rfl rfl (B6 (by repeat first | exact mH | apply mT)) (by assumption)) rfl rfl ?_
 refine A49 rfl (A88 200 40 13 (by omega) (by omega) _ t 1 0 G cells (by omega) (by omega) hr) A0B rfl rfl ?_
 refine B0 ?_
 exact ⟨rfl, rfl, rfl⟩
theorem B4a (t : Tm) (G : IM) (cells : List Value) (hr : B1 G t cells) : Fn Tryz.prog 60 [.agg ⟨cells⟩] [] G (J0 (.bool (T5 t)) G) := by
 have hl := hr.len
 refine C6 Tryz.func60 rfl Tryz.ntmps60 Tryz.results60 rfl ?_
 intro w0
 refine A4 ?_
 refine sE (C9 rfl rfl) rfl (fun b3 => ?_)
 refine B0 ?_
 refine sE (A9 rfl) rfl (fun b9 => ?_)
 refine B0 ?_
 refine sL (A3 rfl rfl (B6 (by repeat first | exact mH | apply mT)) (by assumption)) rfl rfl ?_
 refine A49 rfl (A88 30 12 14 (by omega) (by omega) _ t 1 0 G cells (by omega) (by omega) hr) A0B rfl rfl ?_
 refine B0 ?_
 exact ⟨rfl, rfl, rfl⟩
theorem A3y {Q : Prop} (h : Q := by exact ⟨rfl, by (first | rw [(A1y k).1 (by omega)] | rw [(A1y k).2.1 (by omega)] | rw [(A1y k).2.2 (by omega) (by omega) (by omega) (by omega) (by omega)]), rfl⟩) : Q := h
theorem A89 (k : Int) (G : IM) : Fn Tryz.prog 168 [.int .i64 k] [] G (J0 (.int .i64 (V7 k)) G) := by
 refine C6 Tryz.func168 rfl Tryz.ntmps168 Tryz.results168 rfl ?_
 intro w0
 refine J8 ?_
 refine C5 ?_
 refine B9 ?_
 refine sB (qE rfl rfl) rfl rfl (fun h16 => ?_) (fun h16 => ?_)
 refine K0 ?_
 exact A3y
 refine A8 ?_
 refine sB (qE rfl rfl) rfl rfl (fun h40 => ?_) (fun h40 => ?_)
 refine K0 ?_
 exact A3y
 refine B0 ?_
 refine sB (qE rfl rfl) rfl rfl (fun h63 => ?_) (fun h63 => ?_)
 refine K4 ?_
 exact A3y
 refine B7 ?_
 refine sB (qE rfl rfl) rfl rfl (fun h85 => ?_) (fun h85 => ?_)
 refine K0 ?_
 exact A3y
 refine B0 ?_
 refine sB (qE rfl rfl) rfl rfl (fun h108 => ?_) (fun h108 => ?_)
 refine K4 ?_
 exact A3y
 refine J5 ?_
 exact A3y
theorem A0u {Q : Prop} (h : Q := by exact ⟨rfl, by (unfold D9; first | rw [if_pos (by omega)] | rw [if_neg (by omega), if_pos (by omega)] | rw [if_neg (by omega), if_neg (by omega), if_pos (by omega)] | rw [if_neg (by omega), if_neg (by omega), if_neg (by omega), if_pos (by omega)] | rw [if_neg (by omega), if_neg (by omega), if_neg (by omega), if_neg (by omega)]), rfl⟩) : Q := h
theorem A5l (k : Int) (G : IM) : Fn Tryz.prog 209 [.int .i64 k] [] G (J0 (.int .i64 (D9 k)) G) := by
 refine C6 Tryz.func209 rfl Tryz.ntmps209 Tryz.results209 rfl ?_
 intro w0
 refine J8 ?_
 refine C5 ?_
 refine B9 ?_
 refine sB (qE rfl rfl) rfl rfl (fun h16 => ?_) (fun h16 => ?_)
 refine K0 ?_
 exact A0u
 refine A8 ?_
 refine sB (qE rfl rfl) rfl rfl (fun h40 => ?_) (fun h40 => ?_)
 refine K0 ?_
 exact A0u
 refine A8 ?_
 refine sB (qE rfl rfl) rfl rfl (fun h64 => ?_) (fun h64 => ?_)
 refine K0 ?_
 exact A0u
 refine B0 ?_
 refine sB (qE rfl rfl) rfl rfl (fun h87 => ?_) (fun h87 => ?_)
 refine K4 ?_
 exact A0u
 refine B7 ?_
 refine sB (qE rfl rfl) rfl rfl (fun h109 => ?_) (fun h109 => ?_)
 refine K0 ?_
 exact A0u
 refine A8 ?_
 refine sB (qE rfl rfl) rfl rfl (fun h133 => ?_) (fun h133 => ?_)
 refine K0 ?_
 exact A0u
 refine A8 ?_
 refine sB (qE rfl rfl) rfl rfl (fun h157 => ?_) (fun h157 => ?_)
 refine K0 ?_
 exact A0u
 refine A8 ?_
 refine sB (qE rfl rfl) rfl rfl (fun h181 => ?_) (fun h181 => ?_)
 refine K0 ?_
 exact A0u
 refine B0 ?_
 refine sB (qE rfl rfl) rfl rfl (fun h204 => ?_) (fun h204 => ?_)
 refine K4 ?_
 exact A0u
 refine B7 ?_
 refine sB (qE rfl rfl) rfl rfl (fun h226 => ?_) (fun h226 => ?_)
 refine K0 ?_
 exact A0u
 refine A8 ?_
 refine sB (qE rfl rfl) rfl rfl (fun h250 => ?_) (fun h250 => ?_)
 refine K0 ?_
 exact A0u
 refine A8 ?_
 refine sB (qE rfl rfl) rfl rfl (fun h274 => ?_) (fun h274 => ?_)
 refine K0 ?_
 exact A0u
 refine B0 ?_
 refine sB (qE rfl rfl) rfl rfl (fun h297 => ?_) (fun h297 => ?_)
 refine K4 ?_
 exact A0u
 refine A8 ?_
 refine sB (qE rfl rfl) rfl rfl (fun h318 => ?_) (fun h318 => ?_)
 refine K4 ?_
 exact A0u
 refine J5 ?_
 exact A0u
theorem B4b (s : ByteArray) (G : IM) : Fn Tryz.prog 219 [.string s] [] G (J0 (.bool (A1f s)) G) := by
 refine C6 Tryz.func219 rfl Tryz.ntmps219 Tryz.results219 rfl ?_
 intro w0
 refine D4 ?_
 refine sQ (A2J rfl rfl) rfl (sB (qE rfl rfl) rfl rfl (fun h10 => ?_) (fun h10 => ?_))
 refine A4 ?_
 refine sP (A45 rfl rfl rfl (by omega) (A5b (by omega))) rfl rfl ?_
 refine sB (A0X rfl rfl) rfl rfl (fun h14 => ?_) (fun h14 => ?_)
 refine B9 ?_
 refine sP (A45 rfl rfl rfl (by omega) (A5b (by omega))) rfl rfl ?_
 refine sB (A0r rfl rfl) rfl rfl (fun h19 => ?_) (fun h19 => ?_)
 refine A8 ?_
 exact zq3
 refine A8 ?_
 exact zq3
 refine J8 ?_
 exact zq3
 refine I7 ?_
 exact zq3
theorem A9a (t : Ty) (G : IM) (cells : List Value) (hr : C3 G t cells) : Fn Tryz.prog 236 [.agg ⟨cells⟩] [] G (J0 (.bool (A0P t)) G) := by
 obtain ⟨p, c, es, rfl, hk, hsl, hkl⟩ := hr.open
 refine C6 Tryz.func236 rfl Tryz.ntmps236 Tryz.results236 rfl ?_
 intro w0
 refine A4 ?_
 refine sE (C9 rfl rfl) rfl (fun b3 => ?_)
 refine B7 ?_
 refine sB (qE rfl rfl) rfl rfl (fun h11 => ?_) (fun h11 => ?_)
 refine B4 ?_
 refine sB (qE rfl rfl) rfl rfl (fun h16 => ?_) (fun h16 => ?_)
 refine A8 ?_
 exact zq2
 refine A8 ?_
 exact zq2
 refine J8 ?_
 exact zq2
def U8 (n : Int) : Int := if n < -99 ∨ n > 99 then 0 else if n < 0 then -n else n
theorem A5m {Q : Prop} (h : Q := by exact ⟨rfl, by (unfold U8; first | rw [if_pos (by omega)] | rw [if_neg (by omega), if_pos (by omega)] | rw [if_neg (by omega), if_neg (by omega)]), rfl⟩) : Q := h
theorem A9b (n : Int) (G : IM) : Fn Tryz.prog 57 [.int .i64 n] [] G (J0 (.int .i64 (U8 n)) G) := by
 refine C6 Tryz.func57 rfl Tryz.ntmps57 Tryz.results57 rfl ?_
 intro w0
 refine E1 ?_
 refine sB (J4 rfl rfl) rfl rfl (fun h10 => ?_) (fun h10 => ?_)
 refine I7 ?_
 exact A5m
 refine A4 ?_
 refine sB (A0g rfl rfl) rfl rfl (fun h29 => ?_) (fun h29 => ?_)
 refine N4 ?_
 exact A5m
 refine J2 ?_
 refine sB (J4 rfl rfl) rfl rfl (fun h53 => ?_) (fun h53 => ?_)
 refine A8 ?_
 refine sP (A3m rfl (by omega) (by omega)) rfl rfl ?_
 refine A8 ?_
 exact A5m
 refine K4 ?_
 exact A5m
theorem Sl.of_blk {G : IM} {b n c sz : Nat} {A C cs : List Value} (hl : cs.length = n * sz) (hc : n ≤ c) (hm : c ≤ maxLen) (hg : G b = some (A ++ (cs ++ C))) : Sl G (some ⟨b, A.length, none⟩) n c sz cs := by
 refine ⟨hl, hc, hm, .inr ⟨b, A.length, _, rfl, hg, fun j v hj => ?_⟩⟩
 have hlt : j < cs.length := (List.getElem?_eq_some_iff.1 hj).1
 rw [List.getElem?_append, if_neg (by omega), List.getElem?_append, if_pos (by omega), show A.length + j - A.length = j by omega]
 exact hj
def InG (G : IM) (bs : A1i) (F : List Nat) : Prop := (bs.map Prod.fst).Sublist F ∧ ∀ q ∈ bs, G q.1 = some q.2
mutual
theorem A4n : ∀ t : Ty, K7 t ≤ 4294967296 → t.small
 | .mk _ ks, h => by
  rw [K7] at h
  have := A2l ks
  simp only [Ty.small]
  exact ⟨by omega, A9c ks (by omega)⟩
theorem A9c : ∀ ts : List Ty, P2 ts ≤ 4294967296 → Ty.smallL ts
 | [], _ => by simp [Ty.smallL]
 | t :: ts, h => by
  rw [P2] at h
  have := A1j t
  have := A2l ts
  simp only [Ty.smallL]
  exact ⟨A4n t (by omega), A9c ts (by omega)⟩
end
mutual
theorem A9d : ∀ t : Tm, A0s t ≤ 4294967296 → t.small
 | .mk _ nm _ ty fr _ ks, h => by
  rw [A0s] at h
  have := A5g ks
  have := A1j ty
  have := A1j fr
  simp only [Tm.small]
  exact ⟨by omega, A4n ty (by omega), A4n fr (by omega), by omega, A9e ks (by omega)⟩
theorem A9e : ∀ ts : List Tm, Y4 ts ≤ 4294967296 → Tm.smallL ts
 | [], _ => by simp [Tm.smallL]
 | t :: ts, h => by
  rw [Y4] at h
  have := A8U t
  have := A5g ts
  simp only [Tm.smallL]
  exact ⟨A9d t (by omega), A9e ts (by omega)⟩
end
mutual
theorem A6I : ∀ t : Tm, (D1 t : Int) ≤ A0s t + 1
 | .mk _ nm _ ty fr _ ks => by
  have := A9f ks
  have := A1j ty
  have := A1j fr
  rw [A0s, D1]; omega
theorem A9f : ∀ ts : List Tm, (E8 ts : Int) ≤ ts.length + Y4 ts
 | [] => by rw [Y4, E8]; simp
 | t :: ts => by
  have := A6I t
  have := A9f ts
  rw [Y4, E8, List.length_cons]; omega
end
def R4 : Ty := .mk 1 []
def R5 : Nat → Ty → Prop
 | 0, .mk k ks => ks = [] ∧ k ≠ 4 ∧ k ≠ 5
 | n + 1, .mk k ks => (k = 4 ∨ k = 5 → ks.length = 2) ∧ (k ≠ 4 → k ≠ 5 → ks.length = 0) ∧ ∀ t ∈ ks, R5 n t
mutual
def F9 : Ty → Prop
 | .mk k ks => (k = 4 ∨ k = 5 → ks.length = 2) ∧ (k ≠ 4 → k ≠ 5 → ks.length = 0) ∧ A01 ks
def A01 : List Ty → Prop
 | [] => True
 | t :: ts => F9 t ∧ A01 ts
end
theorem A12 : ∀ {ts : List Ty}, A01 ts ↔ ∀ t ∈ ts, F9 t
 | [] => by simp [A01]
 | t :: ts => by simp only [A01, A12 (ts := ts), List.forall_mem_cons]
theorem R5.ar : ∀ {n : Nat} {t : Ty}, R5 n t → F9 t
 | 0, .mk k ks, h => by
  obtain ⟨rfl, h1, h2⟩ := h
  rw [F9]
  exact ⟨fun h => by omega, fun _ _ => rfl, by rw [A01]; trivial⟩
 | n + 1, .mk k ks, h => by
  obtain ⟨h1, h2, h3⟩ := h
  rw [F9]
  exact ⟨h1, h2, A12.2 fun t ht => (h3 t ht).ar⟩
theorem R5.up : ∀ {n : Nat} {t : Ty}, R5 n t → R5 (n + 1) t
 | 0, .mk k ks, h => by
  obtain ⟨rfl, h1, h2⟩ := h
  exact ⟨fun h => by omega, fun _ _ => rfl, by simp⟩
 | n + 1, .mk k ks, h => by
  obtain ⟨h1, h2, h3⟩ := h
  exact ⟨h1, h2, fun t ht => (h3 t ht).up⟩
theorem R5.le {n m : Nat} {t : Ty} (h : R5 n t) (hm : n ≤ m) : R5 m t := by
 induction hm with
 | refl => exact h
 | step _ ih => exact ih.up
theorem B4c {d : Nat} {k : Int} {ts : List Ty} (h0 : d = 0 → k < 4) (hl : (ts.length : Int) = V7 k) (h1 : 1 ≤ k) (h5 : k ≤ 5) (ha : ∀ u ∈ ts, R5 (d - 1) u) : R5 d (.mk k ts) := by
 have hk : k = 1 ∨ k = 2 ∨ k = 3 ∨ k = 4 ∨ k = 5 := by omega
 cases d with
 | zero =>
  have hk4 := h0 rfl
  refine ⟨?_, by omega, by omega⟩
  have : V7 k = 0 := by
   rcases hk with rfl | rfl | rfl | rfl | rfl <;> first | rfl | omega
  exact List.length_eq_zero_iff.1 (by omega)
 | succ d =>
  refine ⟨?_, ?_, ha⟩
  ·rintro (rfl | rfl)
   ·have : V7 4 = 2 := rfl
    omega
   ·have : V7 5 = 2 := rfl
    omega
  ·intro h4 h5
   have : V7 k = 0 := by
    rcases hk with rfl | rfl | rfl | rfl | rfl <;> first | rfl | omega
   omega
theorem A9g (n : Nat) : R5 n R4 := by
 refine R5.le (n := 0) ⟨rfl, by decide, by decide⟩ (Nat.zero_le n)
theorem A3z (n : Nat) {k : Int} (h4 : k ≠ 4) (h5 : k ≠ 5) : R5 n (.mk k []) := R5.le (n := 0) ⟨rfl, h4, h5⟩ (Nat.zero_le n)
theorem A4o : F9 R4 := (A9g 0).ar
mutual
theorem F9.small : ∀ {t : Ty}, F9 t → t.small
 | .mk k ks, h => by
  rw [F9] at h
  rw [Ty.small]
  exact ⟨by have h1 := h.1; have h2 := h.2.1; omega, A01.small h.2.2⟩
theorem A01.small : ∀ {ts : List Ty}, A01 ts → Ty.smallL ts
 | [], _ => by rw [Ty.smallL]; trivial
 | t :: ts, h => by
  rw [A01] at h
  rw [Ty.smallL]
  exact ⟨h.1.small, A01.small h.2⟩
end
theorem A5n : ∀ {n : Nat} {t : Ty}, R5 n t → K7 t ≤ ((2 ^ (n + 1) - 2 : Nat) : Int)
 | 0, .mk k ks, h => by
  obtain ⟨rfl, h1, h2⟩ := h
  rw [K7, P2]; simp
 | n + 1, .mk k ks, h => by
  obtain ⟨h1, h2, h3⟩ := h
  have hp : 2 ≤ 2 ^ (n + 1) := by
   have := Nat.pow_le_pow_right (n := 2) (by omega) (show 1 ≤ n + 1 by omega)
   simpa using this
  have e : 2 ^ (n + 1 + 1) = 2 ^ (n + 1) * 2 := Nat.pow_succ ..
  have hl : ks.length = 0 ∨ ks.length = 2 := by omega
  rw [K7]
  match ks, hl, h3 with
  | [], _, _ => rw [P2]; simp
  | [a, b], _, h3 =>
   have := A5n (h3 a (by simp))
   have := A5n (h3 b (by simp))
   simp only [P2, List.length_cons, List.length_nil]; omega
theorem B4d {k : Int} {ks us : List Ty} : ∀ {n : Nat}, R5 n (.mk k ks) → us.length = ks.length → (∀ u ∈ us, R5 (n - 1) u) → R5 n (.mk k us)
 | 0, h, hl, _ => by
  obtain ⟨rfl, h1, h2⟩ := h
  exact ⟨List.length_eq_zero_iff.1 (by simpa using hl), h1, h2⟩
 | n + 1, h, hl, hu => by
  obtain ⟨h1, h2, h3⟩ := h
  exact ⟨fun hk => by rw [hl]; exact h1 hk, fun a b => by rw [hl]; exact h2 a b, hu⟩
theorem A6J {k : Int} {ks : List Ty} {t : Ty} : ∀ {n : Nat}, R5 n (.mk k ks) → t ∈ ks → R5 (n - 1) t
 | 0, h, ht => by
  obtain ⟨rfl, h1, h2⟩ := h
  simp at ht
 | n + 1, h, ht => h.2.2 t ht
theorem A9h {k : Int} {ks : List Ty} {d : Int} (h : 4 < d ∨ V7 k ≠ ks.length) : P9 (.mk k ks) d = false := by
 rw [P9]
 rcases h with h | h
 ·rw [decide_eq_false (by omega)]; rfl
 ·rw [decide_eq_false (p := V7 k = ks.length) h, Bool.and_false]; rfl
theorem A9i {k : Int} {ks : List Ty} {d : Int} (h : d ≤ 4) (h2 : V7 k = ks.length) : P9 (.mk k ks) d = U7 ks (d + 1) := by
 rw [P9, decide_eq_true h, decide_eq_true h2]; rfl
theorem B4e {ks : List Ty} {d : Int} {i : Nat} (hi : i < ks.length) (h : P9 ks[i] d = false) : U7 ks d = false := by
 cases hx : U7 ks d with
 | false => rfl
 | true => rw [(A5a ks d).1 hx i hi] at h; cases h
theorem A5o {Q : Prop} (h : Q := by exact ⟨by omega, fun j hj hji => by (by_cases he : j = i; (subst he; assumption); exact hf j hj (by omega))⟩) : Q := h
theorem B4f : ∀ (t : Ty) (d : Int) (G : IM) (cells : List Value), 0 ≤ d ∧ d ≤ 4 → C3 G t cells →
  Fn Tryz.prog 187 [.agg ⟨cells⟩, .int .i64 d] [] G (J0 (.bool (P9 t (5 - d))) G) := by
 refine Ty.ind fun k ks ih d G cells hd hr => ?_
 obtain ⟨p, c, es, rfl, hk, hsl, hkl⟩ := hr.open
 simp only [Ty.k, Ty.ks] at hk hsl hkl ⊢
 have hn := hsl.le
 have hk1 := A89 k G
 refine C6 Tryz.func187 rfl Tryz.ntmps187 Tryz.results187 rfl ?_
 intro w0
 refine A4 ?_
 refine sE (C9 rfl rfl) rfl (fun b3 => ?_)
 refine B0 ?_
 refine D7 D8 rfl ?_
 refine I6 (i := 0) (l' := [tt,ff,ff,ff,ff,ff,ff,ff,ff,ff,ff]) rfl D2 (qM rfl) rfl (by kernel_rfl) rfl rfl ?_
 refine A0q (i := 1) (l' := [tt,tt,ff,ff,ff,ff,ff,ff,ff,ff,ff]) rfl D2 (J4 rfl rfl) rfl (by kernel_rfl) rfl rfl (fun h11 => ?_) (fun h11 => ?_)
 refine aP 2 rfl (qM rfl) rfl ?_
 refine C1 3 rfl rfl rfl ?_
 refine C1 4 rfl rfl rfl ?_
 refine C1 6 rfl rfl rfl ?_
 refine C1 7 rfl rfl rfl ?_
 refine C1 8 rfl rfl rfl ?_
 refine C1 5 rfl rfl rfl ?_
 refine C1 9 rfl rfl rfl ?_
 refine aP 10 rfl (N1 rfl rfl) rfl ?_
 refine J8 ?_
 (rw [A9h (by omega)]; exact ⟨rfl, rfl, rfl⟩)
 refine aP 2 rfl (qM rfl) rfl ?_
 refine aP 3 rfl (B8 rfl) rfl ?_
 refine aL 4 rfl (C7 rfl rfl) rfl ?_
 refine aP 6 rfl (B8 rfl) rfl ?_
 refine aL 7 rfl (C7 rfl rfl) rfl ?_
 refine aP 8 rfl (pLn rfl rfl) rfl ?_
 refine A2 5 ?_
 refine N6 rfl rfl (hk1) rfl rfl rfl ?_
 refine A0q (i := 9) (l' := [tt,tt,tt,tt,tt,tt,tt,tt,tt,tt,ff]) rfl D2 (N2 rfl rfl) rfl (by kernel_rfl) rfl rfl (fun h41 => ?_) (fun h41 => ?_)
 refine aP 10 rfl (P0 rfl rfl) rfl ?_
 refine J8 ?_
 (rw [A9h (by omega)]; exact ⟨rfl, rfl, rfl⟩)
 refine aP 10 rfl (P0 rfl rfl) rfl ?_
 refine J8 ?_
 refine C5 ?_
 (refine K2 (fun (i : Nat) => ⟨[(5, .int .i64 i), (2, .pointer (some ⟨b3, 0, none⟩)), (1, .int .i64 d)], [.blk b3 [.int .i64 k, .slice p ks.length c]], G⟩) (fun i => i ≤ ks.length ∧ ∀ j (h : j < ks.length), j < i → P9 ks[j] (5 - d + 1) = true) (fun i => ks.length - i) 0 ?_ ?_ ?_)
 exact D6
 exact ⟨by omega, by omega⟩
 (rintro i ⟨hi, hf⟩)
 refine B7 ?_
 refine sB (J4 rfl rfl) rfl rfl (fun h79 => ?_) (fun h79 => ?_)
 refine A8 ?_
 refine C5 ?_
 refine B0 ?_
 (obtain ⟨b, o, p2, c2, rfl, hat, hre, hgb⟩ := hsl.kidTy hkl (i := i) (by omega) (by omega); refine sP (B5 rfl rfl rfl (by omega)) rfl rfl ?_)
 refine sL (A3 rfl rfl (hat _) rfl) rfl rfl ?_
 refine F8 ?_
 refine sP (P4 rfl rfl (by omega) (by omega)) rfl rfl ?_
 (have hih := ih ks[i] (List.getElem_mem (by omega)) (d - 1) G _ (by omega) hre; rw [show 5 - (d - 1) = 5 - d + 1 by omega] at hih; refine H1 rfl hih rfl rfl (fun h96 => ?_) (fun h96 => ?_))
 refine E1 ?_
 refine sP (H9 rfl rfl (by omega) (by omega)) rfl rfl ?_
 refine A4 ?_
 refine I5 (i + 1) ?_ ?_ ?_
 exact D6
 exact A5o
 omega
 refine K0 ?_
 (rw [A9i (by omega) (by omega), B4e (i := i) (by omega) (by assumption)]; exact ⟨rfl, rfl, rfl⟩)
 refine I7 ?_
 (rw [A9i (by omega) (by omega), (A5a ks _).2 (fun j hj => hf j hj (by omega))]; exact ⟨rfl, rfl, rfl⟩)
theorem A13 (t : Ty) (G : IM) (cells : List Value) (hr : C3 G t cells) : Fn Tryz.prog 137 [.agg ⟨cells⟩] [] G (J0 (.bool (F4 t)) G) := by
 have hl := hr.len
 have hv := B4f t 4 G cells (by omega) hr
 refine C6 Tryz.func137 rfl Tryz.ntmps137 Tryz.results137 rfl ?_
 intro w0
 refine A4 ?_
 refine sE (C9 rfl rfl) rfl (fun b3 => ?_)
 refine B0 ?_
 refine sL (A3 rfl rfl (B6 (by repeat first | exact mH | apply mT)) (by assumption)) rfl rfl ?_
 refine H6 rfl (hv) rfl rfl ?_
 refine B0 ?_
 exact ⟨rfl, rfl, rfl⟩
theorem A4p {k : Int} {ks : List Ty} {d : Int} (h : P9 (.mk k ks) d = true) : V7 k = ks.length ∧ ∀ i, (hi : i < ks.length) → P9 ks[i] (d + 1) = true := by
 rw [P9] at h
 simp only [Bool.and_eq_true, decide_eq_true_eq] at h
 exact ⟨h.1.2, (A5a ks _).1 h.2⟩
theorem B4g {k k' : Int} {ks ks' : List Ty} (h : k = 1 ∨ k' = 1) : K6 (.mk k ks) (.mk k' ks') = true := by
 rw [V3]
 rcases h with h | h
 ·rw [decide_eq_true (p := k = 1) h]; rfl
 ·rw [decide_eq_true (p := k' = 1) h]; simp
theorem A9j {k k' : Int} {ks ks' : List Ty} (h : k ≠ 1) (h' : k' ≠ 1) (hk : k ≠ k') : K6 (.mk k ks) (.mk k' ks') = false := by
 rw [V3, decide_eq_false h, decide_eq_false h', decide_eq_false hk]; rfl
theorem A9k {k k' : Int} {ks ks' : List Ty} (h : k ≠ 1) (h' : k' ≠ 1) (hk : k = k') : K6 (.mk k ks) (.mk k' ks') = O0 ks ks' := by
 rw [V3, decide_eq_false h, decide_eq_false h', decide_eq_true hk]; rfl
theorem B4h {ks ks' : List Ty} {i : Nat} (hi : i < ks.length) (hi' : i < ks'.length) (h : K6 ks[i] ks'[i] = false) : O0 ks ks' = false := by
 cases hx : O0 ks ks' with
 | false => rfl
 | true => rw [((A2S ks ks').1 hx).2 i hi hi'] at h; cases h
theorem A5p {Q : Prop} (h : Q := by (rw [B4g (by omega)]; exact ⟨rfl, rfl, rfl⟩)) : Q := h
theorem A9l {Q : Prop} (h : Q := by exact ⟨by omega, fun j hj hj' hji => by (by_cases he : j = i; (subst he; assumption); exact hf j hj hj' (by omega))⟩) : Q := h
theorem A9m {Q : Prop} (h : Q := by (rw [A9k (by omega) (by omega) (by omega), B4h (i := i) (by omega) (by omega) (by assumption)]; exact ⟨rfl, rfl, rfl⟩)) : Q := h
theorem A9n {Q : Prop} (h : Q := by (rw [A9k (by omega) (by omega) (by omega), (A2S ks _).2 ⟨hll, fun j hj hj' => hf j hj hj' (by omega)⟩]; exact ⟨rfl, rfl, rfl⟩)) : Q := h
theorem B4i : ∀ (t t' : Ty) (G : IM) (cells cells' : List Value) (d d' : Int), P9 t d = true → P9 t' d' = true → C3 G t cells → C3 G t' cells' →
  Fn Tryz.prog 163 [.agg ⟨cells⟩, .agg ⟨cells'⟩] [] G (J0 (.bool (K6 t t')) G) := by
 refine Ty.ind fun k ks ih t' G cells cells' d d' hv hv' hr hr' => ?_
 obtain ⟨k', ks'⟩ := t'
 obtain ⟨p, c, es, rfl, hk, hsl, hkl⟩ := hr.open
 obtain ⟨p', c', es', rfl, hk', hsl', hkl'⟩ := hr'.open
 simp only [Ty.k, Ty.ks] at hk hsl hkl hk' hsl' hkl' ⊢
 have hn := hsl.le
 have hn' := hsl'.le
 obtain ⟨hv1, hv2⟩ := A4p hv
 obtain ⟨hv1', hv2'⟩ := A4p hv'
 have hle : k = k' → ks.length = ks'.length := by rintro rfl; omega
 refine C6 Tryz.func163 rfl Tryz.ntmps163 Tryz.results163 rfl ?_
 intro w0
 refine A4 ?_
 refine sE (C9 rfl rfl) rfl (fun b3 => ?_)
 refine sE (C9 rfl rfl) rfl (fun b4 => ?_)
 refine D4 ?_
 refine sB (qE rfl rfl) rfl rfl (fun h13 => ?_) (fun h13 => ?_)
 refine K0 ?_
 exact A5p
 refine B9 ?_
 refine sB (qE rfl rfl) rfl rfl (fun h34 => ?_) (fun h34 => ?_)
 refine N4 ?_
 exact A5p
 refine K4 ?_
 refine sB (N2 rfl rfl) rfl rfl (fun h61 => ?_) (fun h61 => ?_)
 refine J8 ?_
 (rw [A9j (by omega) (by omega) (by omega)]; exact ⟨rfl, rfl, rfl⟩)
 refine J8 ?_
 refine C5 ?_
 (have hll : ks.length = ks'.length := hle (by omega); refine K2 (fun (i : Nat) => ⟨[(5, .int .i64 i), (3, .pointer (some ⟨b4, 0, none⟩)), (2, .pointer (some ⟨b3, 0, none⟩))], [.blk b3 [.int .i64 k, .slice p ks.length c], .blk b4 [.int .i64 k', .slice p' ks'.length c']], G⟩) (fun i => i ≤ ks.length ∧ ∀ j (h : j < ks.length) (h' : j < ks'.length), j < i → K6 ks[j] ks'[j] = true) (fun i => ks.length - i) 0 ?_ ?_ ?_)
 exact D6
 exact ⟨by omega, by omega⟩
 (rintro i ⟨hi, hf⟩)
 refine B7 ?_
 refine sB (J4 rfl rfl) rfl rfl (fun h97 => ?_) (fun h97 => ?_)
 refine A8 ?_
 refine C5 ?_
 refine tS ?_
 (obtain ⟨b, o, p2, c2, rfl, hat, hre, hgb⟩ := hsl.kidTy hkl (i := i) (by omega) (by omega); obtain ⟨b', o', p2', c2', rfl, hat', hre', hgb'⟩ := hsl'.kidTy hkl' (i := i) (by omega) (by omega); refine D7 D8 rfl ?_)
 refine I6 (i := 0) (l' := [tt,ff,ff,ff,ff,ff,ff,ff,ff,ff,ff,ff]) rfl D2 (B8 rfl) rfl (by kernel_rfl) rfl rfl ?_
 refine aL 1 rfl (C7 rfl rfl) rfl ?_
 refine aP 2 rfl (qM rfl) rfl ?_
 refine aP 3 rfl (B5 rfl rfl rfl (by omega)) rfl ?_
 refine aL 4 rfl (A3 rfl rfl (hat _) rfl) rfl ?_
 refine aP 5 rfl (B8 rfl) rfl ?_
 refine aL 6 rfl (C7 rfl rfl) rfl ?_
 refine aP 7 rfl (qM rfl) rfl ?_
 refine aP 8 rfl (B5 rfl rfl rfl (by omega)) rfl ?_
 refine aL 9 rfl (A3 rfl rfl (hat' _) rfl) rfl ?_
 refine A2 10 ?_
 refine V2 rfl rfl (ih ks[i] (List.getElem_mem (by omega)) ks'[i] G _ _ _ _ (hv2 i (by omega)) (hv2' i (by omega)) hre hre') rfl rfl rfl (fun h118 => ?_) (fun h118 => ?_)
 refine aP 11 rfl (pNt rfl) rfl ?_
 refine D4 ?_
 refine sP (H9 rfl rfl (by omega) (by omega)) rfl rfl ?_
 refine A4 ?_
 refine I5 (i + 1) ?_ ?_ ?_
 exact D6
 exact A9l
 omega
 refine aP 11 rfl (pNf rfl) rfl ?_
 refine I7 ?_
 exact A9m
 refine I7 ?_
 exact A9n
section blaws
variable {P : Program} {Γ : M0} {env : M6} {hp : List A6} {G : IM} {ty : TypeId}
theorem A14 {x y : Operand} {t t' : TypeId} {i : L4} [hI : I0 P t i] (hd : i.desc = .bool) {r : Bool} (hx : evo env x = some (.bool r)) (hy : evo env y = some (.bool r)) :
  J1 P Γ ⟨env, hp, G⟩ (.binOp .neq t x y t') ty (.bool false) := by
 have h := A6c (P := P) (Γ := Γ) (hp := hp) (G := G) (t := t) (t' := t') (ty := ty) hd hx hy
 rwa [decide_eq_false (by simp)] at h
theorem A9o {x y : Operand} {t t' : TypeId} {i : L4} [hI : I0 P t i] (hd : i.desc = .bool) (hx : evo env x = some (.bool true)) (hy : evo env y = some (.bool false)) :
  J1 P Γ ⟨env, hp, G⟩ (.binOp .neq t x y t') ty (.bool true) := A6c hd hx hy
theorem A6K {x y : Operand} {t t' : TypeId} {i : L4} [hI : I0 P t i] (hd : i.desc = .bool) (hx : evo env x = some (.bool false)) (hy : evo env y = some (.bool true)) :
  J1 P Γ ⟨env, hp, G⟩ (.binOp .neq t x y t') ty (.bool true) := A6c hd hx hy
end blaws
theorem B4j (n : Int) : ((1 ≤ U8 n ∧ U8 n ≤ 99) ↔ A1g n = true) := by
 unfold U8 A1g R7
 simp only [Bool.or_eq_true, decide_eq_true_eq]
 split
 ·omega
 ·split <;> omega
theorem A2X {Q : Prop} (h : Q := by exact ⟨rfl, by (cases R with | false => rfl | true => (exfalso; obtain ⟨i1, i2, i3, i4, i5, i6⟩ := hi.1 rfl; first | omega | (simp_all; done))), rfl⟩) : Q := h
theorem B4k (k : Int) (nm : ByteArray) (num : Int) (ty fr : Ty) (lb : Int) (ks : List Tm) (G : IM) (cells : List Value) (hr : B1 G (.mk k nm num ty fr lb ks) cells) (R : Bool)
  (hi : R = true ↔ nm = ⟨#[]⟩ ∧ num = 0 ∧ (1 ≤ U8 lb ∧ U8 lb ≤ 99) ∧ F4 ty = true ∧ F4 fr = true ∧ K6 fr ty = true) :
  Fn Tryz.prog 222 [.agg ⟨cells⟩] [] G (J0 (.bool R) G) := by
 obtain ⟨tk, tks⟩ := ty
 obtain ⟨fk, fks⟩ := fr
 obtain ⟨pt, ct, pf, cf, p, c, es, rfl, hk, hnum, hlb, hty, hfr, hsl, hkl⟩ := hr.open9
 clear hr
 have o3 := A13 _ G _ hty
 have o4 := A13 _ G _ hfr
 have o6 := A9b lb G
 refine C6 Tryz.func222 rfl Tryz.ntmps222 Tryz.results222 rfl ?_
 intro w0
 refine A4 ?_
 refine sE (C9 rfl rfl) rfl (fun b3 => ?_)
 refine B7 ?_
 refine H6 rfl (o6) rfl rfl ?_
 refine B7 ?_
 refine sB (A1T rfl rfl) rfl rfl (fun h19 => ?_) (fun h19 => ?_)
 refine B9 ?_
 refine sB (qE rfl rfl) rfl rfl (fun h23 => ?_) (fun h23 => ?_)
 refine B9 ?_
 refine sB (A0X rfl rfl) rfl rfl (fun h27 => ?_) (fun h27 => ?_)
 refine B9 ?_
 refine sB (A0r rfl rfl) rfl rfl (fun h31 => ?_) (fun h31 => ?_)
 refine B4 ?_
 refine H1 rfl (o3) rfl rfl (fun h36 => ?_) (fun h36 => ?_)
 refine B4 ?_
 refine H1 rfl (o4) rfl rfl (fun h41 => ?_) (fun h41 => ?_)
 refine A8 ?_
 refine H1 rfl (B4i _ _ G _ _ _ _ (by assumption) (by assumption) hfr hty) rfl rfl (fun h48 => ?_) (fun h48 => ?_)
 refine A8 ?_
 exact ⟨rfl, by rw [hi.2 ⟨by (first | assumption | exact Classical.not_not.1 (by assumption)), by omega, by omega, by assumption, by assumption, by assumption⟩], rfl⟩
 refine A8 ?_
 exact A2X
 refine K4 ?_
 exact A2X
 refine V1 ?_
 exact A2X
 refine A1e ?_
 exact A2X
 refine A8A ?_
 exact A2X
 refine A0h ?_
 refine F8 ?_
 exact A2X
 refine A0h ?_
 refine B0 ?_
 exact A2X
theorem T6 {Q : Prop} (h : Q := by exact ⟨rfl, by (cases R with | false => rfl | true => (exfalso; obtain ⟨i1, i2, i3, i4, i5, i6, i7⟩ := hi.1 rfl; first | omega | (have j := i1 (by omega); simp_all; done) | (have j := he (i2 (by omega)); simp_all; done) | (have j := i2 (by omega); simp_all; done) | (have j := i3 (by omega); simp_all; done) | (have j := i4 (by omega); simp_all; done) | (have j := i5 (by omega); simp_all; done))), rfl⟩) : Q := h
theorem A3A {Q : Prop} (h : Q := by exact ⟨rfl, by rw [hi.2 ⟨fun _ => by (first | assumption | (exfalso; omega)), fun _ => by (first | assumption | (exfalso; omega) | exact Classical.not_not.1 (by assumption)), fun _ => by (first | assumption | (exfalso; omega)), fun _ => by (first | assumption | (exfalso; omega)), fun _ => ⟨by (first | assumption | (exfalso; omega)), by (first | assumption | omega)⟩, by omega, by omega⟩], rfl⟩) : Q := h
theorem A9p (k : Int) (nm : ByteArray) (num : Int) (ty fr : Ty) (lb : Int) (ks : List Tm) (G : IM) (cells : List Value) (hr : B1 G (.mk k nm num ty fr lb ks) cells) (R : Bool)
  (hi : R = true ↔ (k = 1 ∨ k = 5 → A1f nm = true) ∧ (¬(k = 1 ∨ k = 5) → nm = ⟨#[]⟩) ∧ (k = 5 ∨ k = 13 ∨ k = 14 → F4 ty = true) ∧ (¬(k = 5 ∨ k = 13 ∨ k = 14) → A0P ty = true) ∧ (k ≠ 14 → A0P fr = true ∧ lb = 0) ∧ (k = 2 → 0 ≤ num ∧ num ≤ 999) ∧ (k ≠ 2 → num = 0)) :
  Fn Tryz.prog 220 [.agg ⟨cells⟩] [] G (J0 (.bool R) G) := by
 have he : nm = ⟨#[]⟩ → A1f nm = false := by rintro rfl; rfl
 obtain ⟨tk, tks⟩ := ty
 obtain ⟨fk, fks⟩ := fr
 obtain ⟨pt, ct, pf, cf, p, c, es, rfl, hk, hnum, hlb, hty, hfr, hsl, hkl⟩ := hr.open9
 clear hr
 have o2 := B4b nm G
 have o3 := A13 _ G _ hty
 have o4 := A9a _ G _ hty
 have o7 := A9a _ G _ hfr
 refine C6 Tryz.func220 rfl Tryz.ntmps220 Tryz.results220 rfl ?_
 intro w0
 refine A4 ?_
 refine sE (C9 rfl rfl) rfl (fun b3 => ?_)
 refine B7 ?_
 refine sB (qE rfl rfl) rfl rfl (fun h11 => ?_) (fun h11 => ?_)
 refine N4 ?_
 refine sP (I9 rfl rfl (by omega)) rfl rfl ?_
 refine B9 ?_
 refine sP (I9 rfl rfl (by omega)) rfl rfl ?_
 refine B4 ?_
 refine sP (I9 rfl rfl (by omega)) rfl rfl ?_
 refine J2 ?_
 refine H1 rfl (o2) rfl rfl (fun h44 => ?_) (fun h44 => ?_)
 refine sQ (A14 rfl rfl rfl) rfl ?_
 refine A3u ?_
 refine H1 rfl (o4) rfl rfl (fun h70 => ?_) (fun h70 => ?_)
 refine K4 ?_
 refine sP (A0A rfl rfl (by omega)) rfl rfl ?_
 refine B9 ?_
 refine H1 rfl (o7) rfl rfl (fun h88 => ?_) (fun h88 => ?_)
 refine B4 ?_
 refine sB (N2 rfl rfl) rfl rfl (fun h93 => ?_) (fun h93 => ?_)
 refine K4 ?_
 exact T6
 refine N4 ?_
 refine sP (I9 rfl rfl (by omega)) rfl rfl ?_
 refine E1 ?_
 refine sB (qE rfl rfl) rfl rfl (fun h130 => ?_) (fun h130 => ?_)
 refine B0 ?_
 exact A3A
 refine B0 ?_
 exact T6
 refine V1 ?_
 exact T6
 refine J5 ?_
 exact T6
 refine sQ (A9o rfl rfl rfl) rfl ?_
 refine A0h ?_
 refine E1 ?_
 exact T6
 refine B9 ?_
 refine sB (qE rfl rfl) rfl rfl (fun h221 => ?_) (fun h221 => ?_)
 refine D4 ?_
 refine sP (Y3 rfl rfl (by omega)) rfl rfl ?_
 refine A0C ?_
 refine H1 rfl (o2) rfl rfl (fun h250 => ?_) (fun h250 => ?_)
 refine sQ (A14 rfl rfl rfl) rfl ?_
 refine J5 ?_
 refine H1 rfl (o3) rfl rfl (fun h266 => ?_) (fun h266 => ?_)
 refine A1e ?_
 refine sP (A0A rfl rfl (by omega)) rfl rfl ?_
 refine B9 ?_
 refine H1 rfl (o7) rfl rfl (fun h294 => ?_) (fun h294 => ?_)
 refine B4 ?_
 refine sB (N2 rfl rfl) rfl rfl (fun h299 => ?_) (fun h299 => ?_)
 refine K4 ?_
 exact T6
 refine N4 ?_
 refine sP (I9 rfl rfl (by omega)) rfl rfl ?_
 refine E1 ?_
 refine sB (qE rfl rfl) rfl rfl (fun h336 => ?_) (fun h336 => ?_)
 refine B0 ?_
 exact A3A
 refine B0 ?_
 exact T6
 refine V1 ?_
 exact T6
 refine A3u ?_
 exact T6
 refine sQ (A9o rfl rfl rfl) rfl ?_
 refine A0h ?_
 refine E1 ?_
 exact T6
 refine D4 ?_
 refine sP (I9 rfl rfl (by omega)) rfl rfl ?_
 refine B9 ?_
 refine sB (qE rfl rfl) rfl rfl (fun h446 => ?_) (fun h446 => ?_)
 refine I7 ?_
 refine H1 rfl (o2) rfl rfl (fun h462 => ?_) (fun h462 => ?_)
 refine sQ (A6K rfl rfl rfl) rfl ?_
 refine A0h ?_
 refine E1 ?_
 exact T6
 refine sQ (A14 rfl rfl rfl) rfl ?_
 refine A8 ?_
 refine sB (A2L rfl rfl) rfl rfl (fun h511 => ?_) (fun h511 => ?_)
 refine A0h ?_
 refine A4 ?_
 exact T6
 refine B7 ?_
 refine H1 rfl (o3) rfl rfl (fun h552 => ?_) (fun h552 => ?_)
 refine A1e ?_
 refine sP (A0A rfl rfl (by omega)) rfl rfl ?_
 refine B9 ?_
 refine H1 rfl (o7) rfl rfl (fun h580 => ?_) (fun h580 => ?_)
 refine B4 ?_
 refine sB (N2 rfl rfl) rfl rfl (fun h585 => ?_) (fun h585 => ?_)
 refine K4 ?_
 exact T6
 refine N4 ?_
 refine sP (I9 rfl rfl (by omega)) rfl rfl ?_
 refine E1 ?_
 refine sB (qE rfl rfl) rfl rfl (fun h622 => ?_) (fun h622 => ?_)
 refine B0 ?_
 exact A3A
 refine B0 ?_
 exact T6
 refine V1 ?_
 exact T6
 refine A3u ?_
 exact T6
 refine B4 ?_
 refine sB (qE rfl rfl) rfl rfl (fun h683 => ?_) (fun h683 => ?_)
 refine J2 ?_
 refine H1 rfl (o2) rfl rfl (fun h694 => ?_) (fun h694 => ?_)
 refine sQ (A6K rfl rfl rfl) rfl ?_
 refine A0h ?_
 refine E1 ?_
 exact T6
 refine sQ (A14 rfl rfl rfl) rfl ?_
 refine A8 ?_
 refine sB (A2L rfl rfl) rfl rfl (fun h743 => ?_) (fun h743 => ?_)
 refine A0h ?_
 refine A4 ?_
 exact T6
 refine B7 ?_
 refine H1 rfl (o3) rfl rfl (fun h784 => ?_) (fun h784 => ?_)
 refine A1e ?_
 refine sP (A1V rfl rfl (by omega)) rfl rfl ?_
 refine A0E ?_
 refine sP (I9 rfl rfl (by omega)) rfl rfl ?_
 refine E1 ?_
 refine sB (qE rfl rfl) rfl rfl (fun h840 => ?_) (fun h840 => ?_)
 refine B0 ?_
 exact A3A
 refine B0 ?_
 exact T6
 refine A3u ?_
 exact T6
 refine J2 ?_
 refine H1 rfl (o2) rfl rfl (fun h888 => ?_) (fun h888 => ?_)
 refine sQ (A6K rfl rfl rfl) rfl ?_
 refine A0h ?_
 refine E1 ?_
 exact T6
 refine sQ (A14 rfl rfl rfl) rfl ?_
 refine A8 ?_
 refine sB (A2L rfl rfl) rfl rfl (fun h937 => ?_) (fun h937 => ?_)
 refine A0h ?_
 refine A4 ?_
 exact T6
 refine S4 ?_
 refine H1 rfl (o4) rfl rfl (fun h988 => ?_) (fun h988 => ?_)
 refine K4 ?_
 refine sP (A0A rfl rfl (by omega)) rfl rfl ?_
 refine B9 ?_
 refine H1 rfl (o7) rfl rfl (fun h1006 => ?_) (fun h1006 => ?_)
 refine B4 ?_
 refine sB (N2 rfl rfl) rfl rfl (fun h1011 => ?_) (fun h1011 => ?_)
 refine K4 ?_
 exact T6
 refine N4 ?_
 refine sB (qE rfl rfl) rfl rfl (fun h1038 => ?_) (fun h1038 => ?_)
 refine B7 ?_
 refine sB (A0X rfl rfl) rfl rfl (fun h1046 => ?_) (fun h1046 => ?_)
 refine B9 ?_
 refine sB (A0r rfl rfl) rfl rfl (fun h1050 => ?_) (fun h1050 => ?_)
 refine B7 ?_
 exact A3A
 refine B7 ?_
 exact T6
 refine J8 ?_
 exact T6
 refine E1 ?_
 refine sB (qE rfl rfl) rfl rfl (fun h1088 => ?_) (fun h1088 => ?_)
 refine B0 ?_
 exact A3A
 refine B0 ?_
 exact T6
 refine V1 ?_
 exact T6
 refine J5 ?_
 exact T6
mutual
def N5 (D N : Int) : Tm → Int → Bool
 | .mk k nm num ty fr lb ks, deep => decide (deep ≤ D) && decide (k ≠ N) && W6 k nm num ty fr lb ks.length && N7 D N ks (deep + 1)
def N7 (D N : Int) : List Tm → Int → Bool
 | [], _ => true
 | t :: ts, deep => N5 D N t deep && N7 D N ts deep
end
theorem A1A (D N : Int) : ∀ (ts : List Tm) (d : Int), N7 D N ts d = true ↔ ∀ i, (h : i < ts.length) → N5 D N ts[i] d = true
 | [], d => by simp [N7]
 | t :: ts, d => by
  simp only [N7, Bool.and_eq_true, A1A D N ts d]
  constructor
  ·rintro ⟨h1, h2⟩ i hi
   cases i with
   | zero => exact h1
   | succ i => exact h2 i (by simpa using hi)
  ·intro h
   exact ⟨h 0 (by simp), fun i hi => h (i + 1) (by simpa using hi)⟩
theorem A9q {D N : Int} {k : Int} {nm : ByteArray} {num : Int} {ty fr : Ty} {lb : Int} {ks : List Tm} {d : Int} (h : D < d ∨ k = N ∨ W6 k nm num ty fr lb ks.length = false) : N5 D N (.mk k nm num ty fr lb ks) d = false := by
 rw [N5]
 rcases h with h | h | h
 ·rw [decide_eq_false (by omega)]; rfl
 ·rw [decide_eq_false (p := k ≠ N) (by omega), Bool.and_false]; rfl
 ·rw [h, Bool.and_false]; rfl
theorem A2Y {D N : Int} {k : Int} {nm : ByteArray} {num : Int} {ty fr : Ty} {lb : Int} {ks : List Tm} {d : Int} (h1 : d ≤ D) (h2 : k ≠ N) (h3 : W6 k nm num ty fr lb ks.length = true) : N5 D N (.mk k nm num ty fr lb ks) d = N7 D N ks (d + 1) := by
 rw [N5, decide_eq_true h1, decide_eq_true h2, h3]; rfl
theorem B4l {D N : Int} {ks : List Tm} {d : Int} {i : Nat} (hi : i < ks.length) (h : N5 D N ks[i] d = false) : N7 D N ks d = false := by
 cases hx : N7 D N ks d with
 | false => rfl
 | true => rw [(A1A D N ks d).1 hx i hi] at h; cases h
theorem B4m {k : Int} {nm : ByteArray} {num : Int} {ty fr : Ty} {lb : Int} {n : Nat} (hk : k = 14) (ha : D9 k = n) : W6 k nm num ty fr lb n = true ↔ nm = ⟨#[]⟩ ∧ num = 0 ∧ (1 ≤ U8 lb ∧ U8 lb ≤ 99) ∧ F4 ty = true ∧ F4 fr = true ∧ K6 fr ty = true := by
 rw [V8, B4j]
 simp only [R7, A2j, decide_eq_true_eq, Bool.and_eq_true]
 constructor
 ·rintro ⟨_, _, h3, _, h5, h6, _, h8, _⟩
  have h8 := h8 hk
  exact ⟨h3 (by omega), by have := h5 (by omega); omega, h8.2, h6 (by omega), h8.1.1.1, h8.1.2⟩
 ·rintro ⟨h1, h2, h3, h4, h5, h6⟩
  exact ⟨ha, fun h => absurd h (by omega), fun _ => h1, fun h => absurd h (by omega), fun _ => by omega, fun _ => h4, fun h => absurd h (by omega), fun _ => ⟨⟨⟨h5, h4⟩, h6⟩, h3⟩, fun h => absurd hk h⟩
theorem A9r {k : Int} {nm : ByteArray} {num : Int} {ty fr : Ty} {lb : Int} {n : Nat} (hk : k ≠ 14) (ha : D9 k = n) : W6 k nm num ty fr lb n = true ↔
  (k = 1 ∨ k = 5 → A1f nm = true) ∧ (¬(k = 1 ∨ k = 5) → nm = ⟨#[]⟩) ∧ (k = 5 ∨ k = 13 ∨ k = 14 → F4 ty = true) ∧ (¬(k = 5 ∨ k = 13 ∨ k = 14) → A0P ty = true) ∧ (k ≠ 14 → A0P fr = true ∧ lb = 0) ∧ (k = 2 → 0 ≤ num ∧ num ≤ 999) ∧ (k ≠ 2 → num = 0) := by
 rw [V8]
 simp only [R7, decide_eq_true_eq]
 constructor
 ·rintro ⟨_, h2, h3, h4, h5, h6, h7, _, h9⟩
  exact ⟨h2, h3, h6, h7, h9, h4, fun h => by have := h5 h; omega⟩
 ·rintro ⟨h2, h3, h6, h7, h9, h4, h5⟩
  exact ⟨ha, h2, h3, h4, fun h => by have := h5 h; omega, h6, h7, fun h => absurd h hk, h9⟩
theorem A15 {Q : Prop} (h : Q := by (rw [A9q (by rw [hR]; first | omega | exact .inr (.inr (by assumption)) | exact .inr (.inr (by cases R with | false => rfl | true => exact absurd (har rfl) (by omega))))]; exact ⟨rfl, rfl, rfl⟩)) : Q := h
theorem A6L {Q : Prop} (h : Q := by (rw [A2Y (by omega) (by omega) (hR.trans (by assumption)), B4l (i := i) (by omega) (by assumption)]; exact ⟨rfl, rfl, rfl⟩)) : Q := h
theorem A9s {Q : Prop} (h : Q := by (rw [A2Y (by omega) (by omega) (hR.trans (by assumption)), (A1A 40 13 ks _).2 (fun j hj => hf j hj (by omega))]; exact ⟨rfl, rfl, rfl⟩)) : Q := h
theorem B4n : ∀ (t : Tm) (d : Int) (G : IM) (cells : List Value), 0 ≤ d ∧ d ≤ 40 → B1 G t cells →
  Fn Tryz.prog 193 [.agg ⟨cells⟩, .int .i64 d] [] G (J0 (.bool (N5 40 13 t (41 - d))) G) := by
 refine Tm.ind fun k nm num ty fr lb ks ih d G cells hd hr => ?_
 have hr0 := hr
 have h14 := fun h : k = 14 => @B4m k nm num ty fr lb ks.length h
 have hne := fun h : k ≠ 14 => @A9r k nm num ty fr lb ks.length h
 have har := fun h : W6 k nm num ty fr lb ks.length = true => (V8.1 h).1
 obtain ⟨R, hR⟩ : ∃ R, W6 k nm num ty fr lb ks.length = R := ⟨_, rfl⟩
 rw [hR] at h14 hne har
 have hlo := B4k k nm num ty fr lb ks G cells hr0 R
 have hl2 := A9p k nm num ty fr lb ks G cells hr0 R
 have hk1 := A5l k G
 obtain ⟨tk, tks⟩ := ty
 obtain ⟨fk, fks⟩ := fr
 obtain ⟨pt, ct, pf, cf, p, c, es, rfl, hk, hnum, hlb, hty, hfr, hsl, hkl⟩ := hr.open9
 have hn := hsl.le
 clear hr hr0
 refine C6 Tryz.func193 rfl Tryz.ntmps193 Tryz.results193 rfl ?_
 intro w0
 refine A4 ?_
 refine sE (C9 rfl rfl) rfl (fun b3 => ?_)
 refine B0 ?_
 refine D7 D8 rfl ?_
 refine I6 (i := 0) (l' := [tt,ff,ff,ff,ff,ff,ff,ff,ff,ff,ff,ff,ff,ff,ff,ff,ff,ff,ff,ff,ff,ff,ff,ff,ff,ff,ff,ff,ff,ff,ff,ff,ff,ff,ff,ff]) rfl D2 (qM rfl) rfl (by kernel_rfl) rfl rfl ?_
 refine A0q (i := 1) (l' := [tt,tt,ff,ff,ff,ff,ff,ff,ff,ff,ff,ff,ff,ff,ff,ff,ff,ff,ff,ff,ff,ff,ff,ff,ff,ff,ff,ff,ff,ff,ff,ff,ff,ff,ff,ff]) rfl D2 (J4 rfl rfl) rfl (by kernel_rfl) rfl rfl (fun h11 => ?_) (fun h11 => ?_)
 refine aP 2 rfl (qM rfl) rfl ?_
 refine C1 3 rfl rfl rfl ?_
 refine C1 4 rfl rfl rfl ?_
 refine C1 6 rfl rfl rfl ?_
 refine C1 7 rfl rfl rfl ?_
 refine C1 8 rfl rfl rfl ?_
 refine C1 5 rfl rfl rfl ?_
 refine C1 9 rfl rfl rfl ?_
 refine aP 10 rfl (N1 rfl rfl) rfl ?_
 refine aP 11 rfl (qM rfl) rfl ?_
 refine C1 12 rfl rfl rfl ?_
 refine C1 13 rfl rfl rfl ?_
 refine C1 14 rfl rfl rfl ?_
 refine aP 15 rfl (N1 rfl rfl) rfl ?_
 refine aP 16 rfl (qM rfl) rfl ?_
 refine C1 17 rfl rfl rfl ?_
 refine C1 18 rfl rfl rfl ?_
 refine C1 19 rfl rfl rfl ?_
 refine C1 20 rfl rfl rfl ?_
 refine C1 21 rfl rfl rfl ?_
 refine C1 22 rfl rfl rfl ?_
 refine C1 23 rfl rfl rfl ?_
 refine C1 24 rfl rfl rfl ?_
 refine aP 25 rfl (N1 rfl rfl) rfl ?_
 refine aP 26 rfl (qM rfl) rfl ?_
 refine C1 27 rfl rfl rfl ?_
 refine C1 28 rfl rfl rfl ?_
 refine C1 29 rfl rfl rfl ?_
 refine C1 30 rfl rfl rfl ?_
 refine C1 31 rfl rfl rfl ?_
 refine C1 32 rfl rfl rfl ?_
 refine C1 33 rfl rfl rfl ?_
 refine C1 34 rfl rfl rfl ?_
 refine aP 35 rfl (N1 rfl rfl) rfl ?_
 refine J8 ?_
 exact A15
 refine aP 2 rfl (qM rfl) rfl ?_
 refine aP 3 rfl (B8 rfl) rfl ?_
 refine aL 4 rfl (C7 rfl rfl) rfl ?_
 refine aP 6 rfl (B8 rfl) rfl ?_
 refine aL 7 rfl (C7 rfl rfl) rfl ?_
 refine aP 8 rfl (pLn rfl rfl) rfl ?_
 refine A2 5 ?_
 refine N6 rfl rfl (hk1) rfl rfl rfl ?_
 refine A0q (i := 9) (l' := [tt,tt,tt,tt,tt,tt,tt,tt,tt,tt,ff,ff,ff,ff,ff,ff,ff,ff,ff,ff,ff,ff,ff,ff,ff,ff,ff,ff,ff,ff,ff,ff,ff,ff,ff,ff]) rfl D2 (N2 rfl rfl) rfl (by kernel_rfl) rfl rfl (fun h66 => ?_) (fun h66 => ?_)
 refine aP 10 rfl (P0 rfl rfl) rfl ?_
 refine aP 11 rfl (qM rfl) rfl ?_
 refine C1 12 rfl rfl rfl ?_
 refine C1 13 rfl rfl rfl ?_
 refine C1 14 rfl rfl rfl ?_
 refine aP 15 rfl (N1 rfl rfl) rfl ?_
 refine aP 16 rfl (qM rfl) rfl ?_
 refine C1 17 rfl rfl rfl ?_
 refine C1 18 rfl rfl rfl ?_
 refine C1 19 rfl rfl rfl ?_
 refine C1 20 rfl rfl rfl ?_
 refine C1 21 rfl rfl rfl ?_
 refine C1 22 rfl rfl rfl ?_
 refine C1 23 rfl rfl rfl ?_
 refine C1 24 rfl rfl rfl ?_
 refine aP 25 rfl (N1 rfl rfl) rfl ?_
 refine aP 26 rfl (qM rfl) rfl ?_
 refine C1 27 rfl rfl rfl ?_
 refine C1 28 rfl rfl rfl ?_
 refine C1 29 rfl rfl rfl ?_
 refine C1 30 rfl rfl rfl ?_
 refine C1 31 rfl rfl rfl ?_
 refine C1 32 rfl rfl rfl ?_
 refine C1 33 rfl rfl rfl ?_
 refine C1 34 rfl rfl rfl ?_
 refine aP 35 rfl (N1 rfl rfl) rfl ?_
 refine J8 ?_
 exact A15
 refine aP 10 rfl (P0 rfl rfl) rfl ?_
 refine aP 11 rfl (qM rfl) rfl ?_
 refine aP 12 rfl (B8 rfl) rfl ?_
 refine aL 13 rfl (C7 rfl rfl) rfl ?_
 refine A0q (i := 14) (l' := [tt,tt,tt,tt,tt,tt,tt,tt,tt,tt,tt,tt,tt,tt,tt,ff,ff,ff,ff,ff,ff,ff,ff,ff,ff,ff,ff,ff,ff,ff,ff,ff,ff,ff,ff,ff]) rfl D2 (qE rfl rfl) rfl (by kernel_rfl) rfl rfl (fun h109 => ?_) (fun h109 => ?_)
 refine aP 15 rfl (P0 rfl rfl) rfl ?_
 refine aP 16 rfl (qM rfl) rfl ?_
 refine C1 17 rfl rfl rfl ?_
 refine C1 18 rfl rfl rfl ?_
 refine C1 19 rfl rfl rfl ?_
 refine C1 20 rfl rfl rfl ?_
 refine C1 21 rfl rfl rfl ?_
 refine C1 22 rfl rfl rfl ?_
 refine C1 23 rfl rfl rfl ?_
 refine C1 24 rfl rfl rfl ?_
 refine aP 25 rfl (N1 rfl rfl) rfl ?_
 refine aP 26 rfl (qM rfl) rfl ?_
 refine C1 27 rfl rfl rfl ?_
 refine C1 28 rfl rfl rfl ?_
 refine C1 29 rfl rfl rfl ?_
 refine C1 30 rfl rfl rfl ?_
 refine C1 31 rfl rfl rfl ?_
 refine C1 32 rfl rfl rfl ?_
 refine C1 33 rfl rfl rfl ?_
 refine C1 34 rfl rfl rfl ?_
 refine aP 35 rfl (N1 rfl rfl) rfl ?_
 refine J8 ?_
 exact A15
 refine aP 15 rfl (P0 rfl rfl) rfl ?_
 refine aP 16 rfl (qM rfl) rfl ?_
 refine aP 17 rfl (B8 rfl) rfl ?_
 refine aL 18 rfl (C7 rfl rfl) rfl ?_
 refine A0q (i := 19) (l' := [tt,tt,tt,tt,tt,tt,tt,tt,tt,tt,tt,tt,tt,tt,tt,tt,tt,tt,tt,tt,ff,ff,ff,ff,ff,ff,ff,ff,ff,ff,ff,ff,ff,ff,ff,ff]) rfl D2 (qE rfl rfl) rfl (by kernel_rfl) rfl rfl (fun h147 => ?_) (fun h147 => ?_)
 refine aP 20 rfl (qM rfl) rfl ?_
 refine aL 21 rfl (A5 rfl rfl) rfl ?_
 refine A2 22 ?_
 refine V2 rfl rfl (hlo (h14 (by omega) (by omega))) rfl rfl rfl (fun h151 => ?_) (fun h151 => ?_)
 refine aP 23 rfl (pNt rfl) rfl ?_
 refine aP 24 rfl (N1 rfl rfl) rfl ?_
 refine aP 25 rfl (P0 rfl rfl) rfl ?_
 refine aP 26 rfl (qM rfl) rfl ?_
 refine aP 27 rfl (B8 rfl) rfl ?_
 refine aL 28 rfl (C7 rfl rfl) rfl ?_
 refine aP 29 rfl (A1V rfl rfl (by omega)) rfl ?_
 refine aP 30 rfl (qM rfl) rfl ?_
 refine C1 31 rfl rfl rfl ?_
 refine C1 32 rfl rfl rfl ?_
 refine C1 33 rfl rfl rfl ?_
 refine aP 34 rfl (P0 rfl rfl) rfl ?_
 refine aP 35 rfl (P0 rfl rfl) rfl ?_
 refine J8 ?_
 refine C5 ?_
 (refine K2 (fun (i : Nat) => ⟨[(5, .int .i64 i), (2, .pointer (some ⟨b3, 0, none⟩)), (1, .int .i64 d)], [.blk b3 [.int .i64 k, .string nm, .int .i64 num, .int .i64 tk, .slice pt tks.length ct, .int .i64 fk, .slice pf fks.length cf, .int .i64 lb, .slice p ks.length c]], G⟩) (fun i => i ≤ ks.length ∧ ∀ j (h : j < ks.length), j < i → N5 40 13 ks[j] (41 - d + 1) = true) (fun i => ks.length - i) 0 ?_ ?_ ?_)
 exact D6
 exact ⟨by omega, by omega⟩
 (rintro i ⟨hi, hf⟩)
 refine B7 ?_
 refine sB (J4 rfl rfl) rfl rfl (fun h188 => ?_) (fun h188 => ?_)
 refine A8 ?_
 refine C5 ?_
 refine B0 ?_
 (obtain ⟨b, o, e, rfl, hl, hat, hre, hgb⟩ := hsl.kidTm hkl (i := i) (by omega) (by omega); refine sP (B5 rfl rfl rfl (by omega)) rfl rfl ?_)
 refine sL (A3 rfl rfl (hat _) hl) rfl rfl ?_
 refine F8 ?_
 refine sP (P4 rfl rfl (by omega) (by omega)) rfl rfl ?_
 (have hih := ih ks[i] (List.getElem_mem (by omega)) (d - 1) G _ (by omega) hre; rw [show 41 - (d - 1) = 41 - d + 1 by omega] at hih; refine H1 rfl hih rfl rfl (fun h205 => ?_) (fun h205 => ?_))
 refine E1 ?_
 refine sP (H9 rfl rfl (by omega) (by omega)) rfl rfl ?_
 refine A4 ?_
 refine I5 (i + 1) ?_ ?_ ?_
 exact D6
 exact A5o
 omega
 refine K0 ?_
 exact A6L
 refine I7 ?_
 exact A9s
 refine aP 23 rfl (pNf rfl) rfl ?_
 refine aP 24 rfl (N1 rfl rfl) rfl ?_
 refine aP 25 rfl (P0 rfl rfl) rfl ?_
 refine aP 26 rfl (qM rfl) rfl ?_
 refine C1 27 rfl rfl rfl ?_
 refine C1 28 rfl rfl rfl ?_
 refine C1 29 rfl rfl rfl ?_
 refine C1 30 rfl rfl rfl ?_
 refine C1 31 rfl rfl rfl ?_
 refine C1 32 rfl rfl rfl ?_
 refine C1 33 rfl rfl rfl ?_
 refine C1 34 rfl rfl rfl ?_
 refine aP 35 rfl (N1 rfl rfl) rfl ?_
 refine J8 ?_
 exact A15
 refine aP 20 rfl (qM rfl) rfl ?_
 refine C1 21 rfl rfl rfl ?_
 refine C1 22 rfl rfl rfl ?_
 refine C1 23 rfl rfl rfl ?_
 refine aP 24 rfl (P0 rfl rfl) rfl ?_
 refine aP 25 rfl (P0 rfl rfl) rfl ?_
 refine aP 26 rfl (qM rfl) rfl ?_
 refine aP 27 rfl (B8 rfl) rfl ?_
 refine aL 28 rfl (C7 rfl rfl) rfl ?_
 refine aP 29 rfl (A0A rfl rfl (by omega)) rfl ?_
 refine aP 30 rfl (qM rfl) rfl ?_
 refine aL 31 rfl (A5 rfl rfl) rfl ?_
 refine A2 32 ?_
 refine V2 rfl rfl (hl2 (hne (by omega) (by omega))) rfl rfl rfl (fun h293 => ?_) (fun h293 => ?_)
 refine aP 33 rfl (pNt rfl) rfl ?_
 refine aP 34 rfl (N1 rfl rfl) rfl ?_
 refine aP 35 rfl (P0 rfl rfl) rfl ?_
 refine J8 ?_
 refine C5 ?_
 (refine K2 (fun (i : Nat) => ⟨[(5, .int .i64 i), (2, .pointer (some ⟨b3, 0, none⟩)), (1, .int .i64 d)], [.blk b3 [.int .i64 k, .string nm, .int .i64 num, .int .i64 tk, .slice pt tks.length ct, .int .i64 fk, .slice pf fks.length cf, .int .i64 lb, .slice p ks.length c]], G⟩) (fun i => i ≤ ks.length ∧ ∀ j (h : j < ks.length), j < i → N5 40 13 ks[j] (41 - d + 1) = true) (fun i => ks.length - i) 0 ?_ ?_ ?_)
 exact D6
 exact ⟨by omega, by omega⟩
 (rintro i ⟨hi, hf⟩)
 refine B7 ?_
 refine sB (J4 rfl rfl) rfl rfl (fun h320 => ?_) (fun h320 => ?_)
 refine A8 ?_
 refine C5 ?_
 refine B0 ?_
 (obtain ⟨b, o, e, rfl, hl, hat, hre, hgb⟩ := hsl.kidTm hkl (i := i) (by omega) (by omega); refine sP (B5 rfl rfl rfl (by omega)) rfl rfl ?_)
 refine sL (A3 rfl rfl (hat _) hl) rfl rfl ?_
 refine F8 ?_
 refine sP (P4 rfl rfl (by omega) (by omega)) rfl rfl ?_
 (have hih := ih ks[i] (List.getElem_mem (by omega)) (d - 1) G _ (by omega) hre; rw [show 41 - (d - 1) = 41 - d + 1 by omega] at hih; refine H1 rfl hih rfl rfl (fun h337 => ?_) (fun h337 => ?_))
 refine E1 ?_
 refine sP (H9 rfl rfl (by omega) (by omega)) rfl rfl ?_
 refine A4 ?_
 refine I5 (i + 1) ?_ ?_ ?_
 exact D6
 exact A5o
 omega
 refine K0 ?_
 exact A6L
 refine I7 ?_
 exact A9s
 refine aP 33 rfl (pNf rfl) rfl ?_
 refine aP 34 rfl (N1 rfl rfl) rfl ?_
 refine aP 35 rfl (P0 rfl rfl) rfl ?_
 refine J8 ?_
 exact A15
def Q9 : Ty := .mk 2 []
def U9 : Ty := .mk 3 []
mutual
def N3 : Ty → Ty → Bool
 | .mk k ks, t => decide (k = t.k) && A0k ks t.ks
def A0k : List Ty → List Ty → Bool
 | [], [] => true
 | a :: xs, b :: ys => N3 a b && A0k xs ys
 | _, _ => false
end
theorem A3B (k k' : Int) (ks ks' : List Ty) : N3 (.mk k ks) (.mk k' ks') = (decide (k = k') && A0k ks ks') := by rw [N3]; rfl
mutual
theorem Z2 : ∀ (a b : Ty), N3 a b = true ↔ a = b
 | .mk k ks, .mk k' ks' => by
  rw [A3B, Bool.and_eq_true, decide_eq_true_eq, A9t ks ks', Ty.mk.injEq]
theorem A9t : ∀ (xs ys : List Ty), A0k xs ys = true ↔ xs = ys
 | [], [] => by simp [A0k]
 | [], b :: ys => by simp [A0k]
 | a :: xs, [] => by simp [A0k]
 | a :: xs, b :: ys => by
  rw [A0k, Bool.and_eq_true, Z2 a b, A9t xs ys, List.cons.injEq]
end
theorem A6M (a : Ty) : N3 a a = true := (Z2 a a).2 rfl
theorem A4q : ∀ (xs ys : List Ty), A0k xs ys = true ↔ xs.length = ys.length ∧ ∀ i, (h : i < xs.length) → (h' : i < ys.length) → N3 xs[i] ys[i] = true
 | [], [] => by simp [A0k]
 | [], b :: ys => by simp [A0k]
 | a :: xs, [] => by simp [A0k]
 | a :: xs, b :: ys => by
  simp only [A0k, Bool.and_eq_true, A4q xs ys, List.length_cons]
  constructor
  ·rintro ⟨h1, h2, h3⟩
   refine ⟨by omega, fun i hi hi' => ?_⟩
   cases i with
   | zero => exact h1
   | succ i => exact h3 i (by simpa using hi) (by simpa using hi')
  ·rintro ⟨h1, h2⟩
   exact ⟨h2 0 (by simp) (by simp), by omega, fun i hi hi' => h2 (i + 1) (by simpa using hi) (by simpa using hi')⟩

abbrev Cx := List (ByteArray × Ty)
def W7 (cx : Cx) (nm : ByteArray) : Nat → Option Ty
 | 0 => none
 | n + 1 => match cx[n]? with
  | some b => if b.1 = nm then some b.2 else W7 cx nm n
  | none => W7 cx nm n
def Q1 (cx : Cx) (nm : ByteArray) : Option Ty := W7 cx nm cx.length
theorem A4r {cx : Cx} {nm x : ByteArray} {n : Nat} {t : Ty} (h : cx[n]? = some (x, t)) (he : x = nm) : W7 cx nm (n + 1) = some t := by
 rw [W7, h]; simp only [he, if_true]
theorem A4s {cx : Cx} {nm x : ByteArray} {n : Nat} {t : Ty} (h : cx[n]? = some (x, t)) (he : ¬x = nm) : W7 cx nm (n + 1) = W7 cx nm n := by
 rw [W7, h]; simp only [he, if_false]

mutual
def V6 : Ty → Ty → Ty
 | .mk k ks, b => if k = 1 then b else if b.k = 1 then .mk k ks else .mk k (T7 ks b.ks)
def T7 : List Ty → List Ty → List Ty
 | a :: xs, b :: ys => V6 a b :: T7 xs ys
 | _, _ => []
end
theorem A1n (k k' : Int) (ks ks' : List Ty) : V6 (.mk k ks) (.mk k' ks') = if k = 1 then .mk k' ks' else if k' = 1 then .mk k ks else .mk k (T7 ks ks') := by rw [V6]; rfl
def S1 (kind : Int) (t : Ty) : Option (Ty × Ty) :=
 if t.k = kind then some (t.ks.getD 0 B3, t.ks.getD 1 B3) else if t.k = 1 then some (R4, R4) else none
def J6 (cx : Cx) (k : Int) (nm : ByteArray) (ty : Ty) (h : List Ty) : Option (List Ty × Ty) :=
 if k = 1 then (match Q1 cx nm with | some t => some ([], t) | none => none)
 else if k = 2 then some ([], Q9)
 else if k = 3 ∨ k = 4 then some ([], U9)
 else if k = 5 then some ([], .mk 4 [ty, h.getD 0 B3])
 else if k = 6 then (match S1 4 (h.getD 0 B3) with | some (a, b) => if K6 (h.getD 1 B3) a = true then some ([.mk 4 [a, b], a], b) else none | none => none)
 else if k = 7 ∨ k = 8 then (if K6 (h.getD 0 B3) Q9 = true ∧ K6 (h.getD 1 B3) Q9 = true then some ([Q9, Q9], if k = 8 then U9 else Q9) else none)
 else if k = 9 then (if K6 (h.getD 0 B3) U9 = true ∧ K6 (h.getD 1 B3) (h.getD 2 B3) = true then some ([U9, V6 (h.getD 1 B3) (h.getD 2 B3), V6 (h.getD 1 B3) (h.getD 2 B3)], V6 (h.getD 1 B3) (h.getD 2 B3)) else none)
 else if k = 10 then some ([], .mk 5 [h.getD 0 B3, h.getD 1 B3])
 else if k = 13 then (if K6 (h.getD 0 B3) ty = true then some ([ty], ty) else none)
 else (match S1 5 (h.getD 0 B3) with | some (a, b) => some ([.mk 5 [a, b]], if k = 12 then b else a) | none => none)
def U3 (cx : Cx) (k : Int) (nm : ByteArray) (ty : Ty) (h : List Ty) : Option (List Ty × Ty) := match J6 cx k nm ty h with
 | some (w, t) => if F4 t = true then some (w, t) else none
 | none => none
def A02 : List Ty → List Ty → Bool
 | [], _ => true
 | a :: xs, b :: ys => N3 a b && A02 xs ys
 | _ :: _, [] => false
def K1 (cx : Cx) (k : Int) (nm : ByteArray) (ty : Ty) : Cx := if k = 5 then cx ++ [(nm, ty)] else cx
mutual
def I4 (cx : Cx) : Tm → Option Ty
 | .mk k nm num ty fr lb ks => match N0 (K1 cx k nm ty) ks with
  | none => none
  | some h => if k = 14 then (if N3 (h.getD 0 B3) fr = true then some ty else none)
   else match U3 cx k nm ty h with
    | none => none
    | some (w, t) => if A02 w h = true then some t else none
def N0 (cx : Cx) : List Tm → Option (List Ty)
 | [] => some []
 | t :: ts => match I4 cx t with
  | none => none
  | some u => match N0 cx ts with
   | none => none
   | some us => some (u :: us)
end
def B9i (e : Tm) : Option Ty := if M5 e = true then I4 [] e else none
theorem A9u {Q : Prop} (h : Q := by exact ⟨by omega, hle.trans hle1, O6.step hst hnd hle hle1 (by omega) hs' hnd'⟩) : Q := h
theorem A9v {Q : Prop} (h : Q := by (rw [List.take_length] at hst; obtain ⟨F2, hf1, hf2⟩ := R6.fin hst hnd hle hle2 hsl2 hno2 hk; exact ⟨rfl, _, F2, rfl, hf1, hf2⟩)) : Q := h
theorem A3C : ∀ (t : Ty) (G : IM) (cells : List Value), t.small → C3 G t cells →
  Fn Tryz.prog 63 [.agg ⟨cells⟩] [] G (K8 fun G' v => ∃ cells' F, v = .agg ⟨cells'⟩ ∧ R6 (C2 G' G) t cells' F ∧ F.Nodup) := by
 refine Ty.ind fun k ks ih G cells hts hr => ?_
 simp only [Ty.small] at hts
 obtain ⟨hsm, hks⟩ := hts
 obtain ⟨p, c, es, rfl, hk, hsl, hkl⟩ := hr.open
 simp only [Ty.k, Ty.ks] at hk hsl hkl ⊢
 have hn := hsl.le
 refine C6 Tryz.func63 rfl Tryz.ntmps63 Tryz.results63 rfl ?_
 intro w0
 refine A4 ?_
 refine sE (C9 rfl rfl) rfl (fun b3 => ?_)
 refine sE (A9 rfl) rfl (fun b4 => ?_)
 refine B7 ?_
 refine sE (A9 rfl) rfl (fun b12 => ?_)
 refine N4 ?_
 refine C5 ?_
 (refine V0 34 2 ?_; refine K2 (fun (x : Nat × Option Addr × Nat × List (List Value) × List Nat × IM) => ⟨[(12, .int .i64 x.1), (11, .int .i64 ks.length), (10, .slice p ks.length c), (3, .pointer (some ⟨b12, 0, none⟩)), (2, .pointer (some ⟨b4, 0, none⟩))], [.blk b12 [.int .i64 k, .slice x.2.1 x.1 x.2.2.1], .slc x.2.1 x.2.2.1 34 2 x.1 x.2.2.2.1.flatten, .blk b4 [.int .i64 0, .slice none 0 0]], x.2.2.2.2.2⟩) (fun x => x.1 ≤ ks.length ∧ C4 G x.2.2.2.2.2 ∧ O6 (C2 x.2.2.2.2.2 G) (ks.take x.1) x.2.2.2.1 x.2.2.2.2.1 ∧ x.2.2.2.2.1.Nodup) (fun x => ks.length - x.1) (0, none, 0, [], [], G) ?_ ?_ ?_)
 (simp only [I1]; exact M4 (by repeat (first | exact E7.nil | refine E7.cons rfl ?_)) (by repeat (first | exact A1.refl | exact A1.nil | refine A1.cons (by repeat (first | exact Pk.here | apply Pk.there)) ?_)))
 exact ⟨by simp, C4.refl _, by simp [O6], by simp⟩
 (rintro ⟨i, pn, cn, es', F, Gi⟩ ⟨hi, hle, hst, hnd⟩; simp only [] at hi hle hst hnd ⊢; replace hsl := hsl.mono hle; replace hkl := hkl.mono hle)
 refine A4 ?_
 refine sB (J4 rfl rfl) rfl rfl (fun h32 => ?_) (fun h32 => ?_)
 refine B7 ?_
 refine C5 ?_
 refine A4 ?_
 (obtain ⟨b, o, p2, c2, rfl, hat, hre, hgb⟩ := hsl.kidTy hkl (i := i) (by omega) (by omega); refine sP (B5 rfl rfl rfl (by omega)) rfl rfl ?_)
 refine sL (A3 rfl rfl (hat _) rfl) rfl rfl ?_
 refine sE (A9 rfl) rfl (fun b45 => ?_)
 refine B9 ?_
 refine D7 D8 rfl ?_
 refine I6 (i := 0) (l' := [tt,ff,ff,ff,ff,ff,ff,ff]) rfl D2 (B8 rfl) rfl (by kernel_rfl) rfl rfl ?_
 refine aL 1 rfl (C7 rfl rfl) rfl ?_
 refine aL 2 rfl (A5 rfl rfl) rfl ?_
 refine A2 3 ?_
 (refine H3 rfl rfl (ih _ (List.getElem_mem (by omega)) _ _ (Ty.smallL_mem hks _ (List.getElem_mem (by omega))) hre) rfl rfl rfl (fun v G1 hle1 hh => ?_); obtain ⟨cells', F', rfl, hs', hnd'⟩ := hh; obtain ⟨p3, c3, es3, rfl, _⟩ := hs'.R.open)
 refine A2 4 ?_
 (refine E2 rfl (D0 rfl rfl rfl (by omega) (by unfold maxLen; omega) rfl) rfl rfl ?_; rintro _ ⟨b56, rfl⟩)
 refine A2 5 ?_
 refine P5 rfl rfl rfl rfl rfl rfl (fun _ _ => by repeat (first | exact Sw.here | apply Sw.there)) (M9 (by repeat first | exact mH | apply mT)) rfl (by simp [Value.oneCell']) (by unfold maxLen; omega) (by omega) rfl rfl (by repeat (first | exact A7.nil | apply A7.dep (by kernel_rfl) | apply A7.blk (by kernel_rfl) (by repeat (first | exact Pk.here | apply Pk.there)) (by repeat first | exact mH | apply mT))) (fun pn' cn' => ?_)
 refine aP 6 rfl (B8 rfl) rfl ?_
 refine A2 7 ?_
 refine Q8 rfl rfl rfl rfl rfl rfl rfl rfl (by kernel_rfl) (by repeat first | exact Sw.here | apply Sw.there) (by rfl) ?_
 refine B4 ?_
 refine sP (H9 rfl rfl (by omega) (by omega)) rfl rfl ?_
 refine A4 ?_
 refine I5 (i + 1, pn', cn', es' ++ [[.int .i64 ks[i].k, .slice p3 ks[i].ks.length c3]], F ++ F', G1) ?_ ?_ ?_
 (simp only [I1]; exact M4 (by repeat (first | exact E7.nil | refine E7.cons rfl ?_)) (by repeat (first | exact A1.refl | exact A1.nil | refine A1.cons (by repeat (first | exact Pk.here | apply Pk.there)) ?_)))
 exact A9u
 exact V5
 refine I7 ?_
 (refine H2 (by repeat (first | exact Pk.here | apply Pk.there)) (fun G2 hle2 hsl2 hno2 => ?_); obtain rfl : i = ks.length := by omega)
 refine tT ?_
 refine N9 (rC rfl (A5 rfl rfl)) ?_
 exact A9v
def B4o (t : Ty) (G : IM) : IM → Value → List A6 → Prop := K8 fun G' v => ∃ cells' F, v = .agg ⟨cells'⟩ ∧ R6 (C2 G' G) t cells' F ∧ F.Nodup
def B9j (ks : List Ty) (G : IM) : IM → Value → List A6 → Prop := K8 fun G' v => ∃ p c F, v = .slice p ks.length c ∧ A8J (C2 G' G) ks p c F ∧ F.Nodup
def A6N (t : Tm) (G : IM) : IM → Value → List A6 → Prop := K8 fun G' v => ∃ cells' F, v = .agg ⟨cells'⟩ ∧ Q4 (C2 G' G) t cells' F ∧ F.Nodup
def B9k (ks : List Tm) (G : IM) : IM → Value → List A6 → Prop := K8 fun G' v => ∃ p c F, v = .slice p ks.length c ∧ A2T (C2 G' G) ks p c F ∧ F.Nodup
theorem Q5 : ∀ (t : Ty) (G : IM) (cells : List Value), t.small → C3 G t cells → Fn Tryz.prog 161 [.agg ⟨cells⟩] [] G (B4o t G) := by
 refine Ty.ind fun k ks ih G cells hts hr => ?_
 simp only [Ty.small] at hts
 obtain ⟨hsm, hks⟩ := hts
 obtain ⟨p, c, es, rfl, hk, hsl, hkl⟩ := hr.open
 simp only [Ty.k, Ty.ks] at hk hsl hkl ⊢
 have hn := hsl.le
 refine C6 Tryz.func161 rfl Tryz.ntmps161 Tryz.results161 rfl ?_
 intro w0
 refine A4 ?_
 refine sE (C9 rfl rfl) rfl (fun b3 => ?_)
 refine sE (A9 rfl) rfl (fun b4 => ?_)
 refine B7 ?_
 refine sE (A9 rfl) rfl (fun b12 => ?_)
 refine E1 ?_
 refine C5 ?_
 (refine V0 34 2 ?_; refine K2 (fun (x : Nat × Option Addr × Nat × List (List Value) × List Nat × IM) => ⟨[(4, .int .i64 x.1), (3, .pointer (some ⟨b12, 0, none⟩)), (1, .pointer (some ⟨b3, 0, none⟩)), (2, .pointer (some ⟨b4, 0, none⟩))], [.blk b12 [.int .i64 k, .slice x.2.1 x.1 x.2.2.1], .slc x.2.1 x.2.2.1 34 2 x.1 x.2.2.2.1.flatten, .blk b4 [.int .i64 0, .slice none 0 0], .blk b3 [.int .i64 k, .slice p ks.length c]], x.2.2.2.2.2⟩) (fun x => x.1 ≤ ks.length ∧ C4 G x.2.2.2.2.2 ∧ O6 (C2 x.2.2.2.2.2 G) (ks.take x.1) x.2.2.2.1 x.2.2.2.2.1 ∧ x.2.2.2.2.1.Nodup) (fun x => ks.length - x.1) (0, none, 0, [], [], G) ?_ ?_ ?_)
 (simp only [I1]; exact D6)
 exact ⟨by simp, C4.refl _, by simp [O6], by simp⟩
 (rintro ⟨i, pn, cn, es', F, Gi⟩ ⟨hi, hle, hst, hnd⟩; simp only [] at hi hle hst hnd ⊢; replace hsl := hsl.mono hle; replace hkl := hkl.mono hle)
 refine B7 ?_
 refine sB (J4 rfl rfl) rfl rfl (fun h34 => ?_) (fun h34 => ?_)
 refine A8 ?_
 refine C5 ?_
 (obtain ⟨b, o, p2, c2, rfl, hat, hre, hgb⟩ := hsl.kidTy hkl (i := i) (by omega) (by omega); refine D7 D8 rfl ?_)
 refine I6 (i := 0) (l' := [tt,ff,ff,ff,ff,ff,ff,ff,ff,ff,ff,ff]) rfl D2 (B8 rfl) rfl (by kernel_rfl) rfl rfl ?_
 refine aL 1 rfl (C7 rfl rfl) rfl ?_
 refine aP 2 rfl (B8 rfl) rfl ?_
 refine aL 3 rfl (C7 rfl rfl) rfl ?_
 refine aP 4 rfl (qM rfl) rfl ?_
 refine aP 5 rfl (B5 rfl rfl rfl (by omega)) rfl ?_
 refine aL 6 rfl (A3 rfl rfl (hat _) rfl) rfl ?_
 refine A2 7 ?_
 (refine H3 rfl rfl (ih ks[i] (List.getElem_mem (by omega)) _ _ (Ty.smallL_mem hks _ (List.getElem_mem (by omega))) hre) rfl rfl rfl (fun v G1 hle1 hh => ?_); obtain ⟨cells', F', rfl, hs', hnd'⟩ := hh; obtain ⟨p3, c3, es3, rfl, _⟩ := hs'.R.open)
 refine A2 8 ?_
 (refine E2 rfl (D0 rfl rfl rfl (by omega) (by unfold maxLen; omega) rfl) rfl rfl ?_; rintro _ ⟨b53, rfl⟩)
 refine A2 9 ?_
 refine P5 rfl rfl rfl rfl rfl rfl (fun _ _ => by repeat (first | exact Sw.here | apply Sw.there)) (M9 (by repeat first | exact mH | apply mT)) rfl (by simp [Value.oneCell']) (by unfold maxLen; omega) (by omega) rfl rfl (by repeat (first | exact A7.nil | apply A7.dep (by decide +kernel) | apply A7.blk (by decide +kernel) (by repeat (first | exact Pk.here | apply Pk.there)) (by repeat first | exact mH | apply mT))) (fun pn' cn' => ?_)
 refine aP 10 rfl (B8 rfl) rfl ?_
 refine A2 11 ?_
 refine Q8 rfl rfl rfl rfl rfl rfl rfl rfl (by kernel_rfl) (by repeat first | exact Sw.here | apply Sw.there) (by rfl) ?_
 refine B0 ?_
 refine sP (H9 rfl rfl (by omega) (by omega)) rfl rfl ?_
 refine A4 ?_
 refine I5 (i + 1, pn', cn', es' ++ [[.int .i64 ks[i].k, .slice p3 ks[i].ks.length c3]], F ++ F', G1) ?_ ?_ ?_
 (simp only [I1]; exact D6)
 exact A9u
 exact V5
 refine J5 ?_
 (refine H2 (by repeat (first | exact Pk.here | apply Pk.there)) (fun G2 hle2 hsl2 hno2 => ?_); obtain rfl : i = ks.length := (by omega))
 refine tT ?_
 refine N9 (rC rfl (A5 rfl rfl)) ?_
 exact A9v
theorem A9w {Q : Prop} (h : Q := by exact ⟨by omega, hle.trans hle3, O7.step hst hnd hle hle3 (by omega) hs' hnd'⟩) : Q := h
theorem A3D : ∀ (t : Tm) (G : IM) (cells : List Value), t.small → B1 G t cells → Fn Tryz.prog 120 [.agg ⟨cells⟩] [] G (A6N t G) := by
 refine Tm.ind fun k nm num ty fr lb ks ih G cells hts hr => ?_
 have hone := hr.one
 simp only [Tm.small] at hts
 obtain ⟨hnm, hty', hfr', hsm, hks⟩ := hts
 obtain ⟨tk, tks⟩ := ty
 obtain ⟨fk, fks⟩ := fr
 obtain ⟨pt, ct, pf, cf, p, c, es, rfl, hk, hnum, hlb, hty, hfr, hsl, hkl⟩ := hr.open9
 have hn := hsl.le
 have hT := Q5 (.mk tk tks) G _ hty' hty
 refine C6 Tryz.func120 rfl Tryz.ntmps120 Tryz.results120 rfl ?_
 intro w0
 refine A4 ?_
 refine sE (C9 rfl rfl) rfl (fun b3 => ?_)
 refine sE (A9 rfl) rfl (fun b4 => ?_)
 refine B0 ?_
 refine sE (A9 rfl) rfl (fun b10 => ?_)
 refine B7 ?_
 (refine E6 rfl hT rfl rfl (fun v G1 hle1 hh => ?_); obtain ⟨cs1, F1, rfl, hs1, hn1⟩ := hh; obtain ⟨p1, c1, rfl, _⟩ := hs1.open; have hF := Q5 (.mk fk fks) G1 _ hfr' (hfr.mono hle1))
 refine D4 ?_
 (refine E6 rfl hF rfl rfl (fun v G2 hle2 hh => ?_); obtain ⟨cs2, F2, rfl, hs2, hn2⟩ := hh; obtain ⟨p2, c2, rfl, _⟩ := hs2.open; replace hsl := hsl.mono (hle1.trans hle2); replace hkl := hkl.mono (hle1.trans hle2))
 refine K0 ?_
 refine C5 ?_
 (refine V0 37 9 ?_; refine K2 (fun (x : Nat × Option Addr × Nat × List (List Value) × List Nat × IM) => ⟨[(4, .int .i64 x.1), (3, .pointer (some ⟨b10, 0, none⟩)), (1, .pointer (some ⟨b3, 0, none⟩)), (2, .pointer (some ⟨b4, 0, none⟩))], [.blk b10 [.int .i64 k, .string nm, .int .i64 num, .int .i64 tk, .slice p1 tks.length c1, .int .i64 fk, .slice p2 fks.length c2, .int .i64 lb, .slice x.2.1 x.1 x.2.2.1], .slc x.2.1 x.2.2.1 37 9 x.1 x.2.2.2.1.flatten, .blk b4 [.int .i64 0, .string ⟨⟨[]⟩⟩, .int .i64 0, .int .i64 0, .slice none 0 0, .int .i64 0, .slice none 0 0, .int .i64 0, .slice none 0 0], .blk b3 [.int .i64 k, .string nm, .int .i64 num, .int .i64 tk, .slice pt tks.length ct, .int .i64 fk, .slice pf fks.length cf, .int .i64 lb, .slice p ks.length c]], x.2.2.2.2.2⟩) (fun x => x.1 ≤ ks.length ∧ C4 G2 x.2.2.2.2.2 ∧ O7 (C2 x.2.2.2.2.2 G2) (ks.take x.1) x.2.2.2.1 x.2.2.2.2.1 ∧ x.2.2.2.2.1.Nodup) (fun x => ks.length - x.1) (0, none, 0, [], [], G2) ?_ ?_ ?_)
 (simp only [I1]; exact D6)
 exact ⟨by simp, C4.refl _, by simp [O7], by simp⟩
 (rintro ⟨i, pn, cn, es', F, Gi⟩ ⟨hi, hle, hst, hnd⟩; simp only [] at hi hle hst hnd ⊢; replace hsl := hsl.mono hle; replace hkl := hkl.mono hle)
 refine B7 ?_
 refine sB (J4 rfl rfl) rfl rfl (fun h56 => ?_) (fun h56 => ?_)
 refine A8 ?_
 refine C5 ?_
 (obtain ⟨b, o, e, rfl, hl, hat, hre, hgb⟩ := hsl.kidTm hkl (i := i) (by omega) (by omega); have hone := hre.one; refine D7 D8 rfl ?_)
 refine I6 (i := 0) (l' := [tt,ff,ff,ff,ff,ff,ff,ff,ff,ff,ff,ff]) rfl D2 (B8 rfl) rfl (by kernel_rfl) rfl rfl ?_
 refine aL 1 rfl (C7 rfl rfl) rfl ?_
 refine aP 2 rfl (B8 rfl) rfl ?_
 refine aL 3 rfl (C7 rfl rfl) rfl ?_
 refine aP 4 rfl (qM rfl) rfl ?_
 refine aP 5 rfl (B5 rfl rfl rfl (by omega)) rfl ?_
 refine aL 6 rfl (A3 rfl rfl (hat _) hl) rfl ?_
 refine A2 7 ?_
 (refine H3 rfl rfl (ih ks[i] (List.getElem_mem (by omega)) _ _ (Tm.smallL_mem hks _ (List.getElem_mem (by omega))) hre) rfl rfl rfl (fun v G3 hle3 hh => ?_); obtain ⟨cells', F', rfl, hs', hnd'⟩ := hh; obtain ⟨qt, dt, et', qf, df, ef', q3, d3, es3, rfl, _⟩ := hs'.R.open)
 refine A2 8 ?_
 (refine E2 rfl (D0 rfl rfl rfl (by omega) (by unfold maxLen; omega) rfl) rfl rfl ?_; rintro _ ⟨b75, rfl⟩)
 refine A2 9 ?_
 refine P5 rfl rfl rfl rfl rfl rfl (fun _ _ => by repeat (first | exact Sw.here | apply Sw.there)) (M9 (by repeat first | exact mH | apply mT)) rfl (by simp [Value.oneCell']) (by unfold maxLen; omega) (by omega) rfl rfl (by repeat (first | exact A7.nil | apply A7.dep (by decide +kernel) | apply A7.blk (by decide +kernel) (by repeat (first | exact Pk.here | apply Pk.there)) (by repeat first | exact mH | apply mT))) (fun pn' cn' => ?_)
 refine aP 10 rfl (B8 rfl) rfl ?_
 refine A2 11 ?_
 refine Q8 rfl rfl rfl rfl rfl rfl rfl rfl (by kernel_rfl) (by repeat first | exact Sw.here | apply Sw.there) (by rfl) ?_
 refine B0 ?_
 refine sP (H9 rfl rfl (by omega) (by omega)) rfl rfl ?_
 refine A4 ?_
 refine I5 (i + 1, pn', cn', es' ++ [[.int .i64 ks[i].k, .string ks[i].nm, .int .i64 ks[i].num, .int .i64 ks[i].ty.k, .slice qt ks[i].ty.ks.length dt, .int .i64 ks[i].fr.k, .slice qf ks[i].fr.ks.length df, .int .i64 ks[i].lb, .slice q3 ks[i].ks.length d3]], F ++ F', G3) ?_ ?_ ?_
 (simp only [I1]; exact D6)
 exact A9w
 exact V5
 refine J5 ?_
 (refine H2 (by repeat (first | exact Pk.here | apply Pk.there)) (fun G4 hle4 hsl4 hno4 => ?_); obtain rfl : i = ks.length := (by omega))
 refine tT ?_
 refine N9 (rC rfl (A5 rfl rfl)) ?_
 (rw [List.take_length] at hst; obtain ⟨F3, hf1, hf2⟩ := A2T.fin hst hnd hle hle4 hsl4 hno4; obtain ⟨F5, hg1, hg2⟩ := Q4.mk3 (nm := nm) hk hnum hlb hle1 hle2 (hle.trans hle4) hs1 hn1 hs2 hn2 hf1 hf2; exact ⟨rfl, _, F5, rfl, hg1, hg2⟩)
mutual
def A2Z (g : Tm → Tm) : Tm → Tm
 | .mk k nm num ty fr lb ks => g (.mk k nm num ty fr lb (A1o g ks))
def A1o (g : Tm → Tm) : List Tm → List Tm
 | [] => []
 | t :: ts => A2Z g t :: A1o g ts
end
theorem A6O (g : Tm → Tm) : ∀ ks, A1o g ks = ks.map (A2Z g)
 | [] => rfl
 | t :: ts => by rw [A1o, A6O g ts, List.map_cons]
mutual
theorem A9x : ∀ t, A2Z id t = t
 | .mk k nm num ty fr lb ks => by rw [A2Z, A9y ks]; rfl
theorem A9y : ∀ ks, A1o id ks = ks
 | [] => rfl
 | t :: ts => by rw [A1o, A9x t, A9y ts]
end
theorem Q4.mk3k {G G1 G2 G3 : IM} {k : Int} {nm : ByteArray} {num : Int} {ty fr : Ty} {lb : Int} {ks : List Tm} {tc fc : List Value} {p : Option Addr} {c : Nat} {F1 F2 F3 : List Nat} (hk : H0 k) (hnum : H0 num) (hlb : H0 lb)
  (hl1 : C4 G G1) (hl2 : C4 G1 G2) (hl3 : C4 G2 G3) (h3 : A2T (C2 G1 G) ks p c F3) (n3 : F3.Nodup) (h1 : R6 (C2 G2 G1) ty tc F1) (n1 : F1.Nodup) (h2 : R6 (C2 G3 G2) fr fc F2) (n2 : F2.Nodup) :
  ∃ F, Q4 (C2 G3 G) (.mk k nm num ty fr lb ks) ([.int .i64 k, .string nm, .int .i64 num] ++ tc ++ fc ++ [.int .i64 lb, .slice p ks.length c]) F ∧ F.Nodup := by
 obtain ⟨es, Fs, e1, e2, rfl, e4⟩ := h3
 have i3 : ∀ b ∈ I2 p ++ Fs, C2 G1 G b ≠ none := by
  intro b hb
  rcases List.mem_append.1 hb with hb | hb
  ·exact e4 b hb
  ·exact e2.inG b hb
 have a1 : C4 (C2 G1 G) (C2 G3 G) := C2.mono (hl2.trans hl3)
 have a2 : C4 (C2 G2 G1) (C2 G3 G) := fun b l h => C2.mono hl3 b l (C2.anti hl1 b l h)
 have a3 : C4 (C2 G3 G2) (C2 G3 G) := C2.anti (hl1.trans hl2)
 refine ⟨F1 ++ (F2 ++ (I2 p ++ Fs)), ?_, ?_⟩
 ·simp only [Q4]
  exact ⟨tc, fc, p, c, es, F1, F2, Fs, rfl, hk, hnum, hlb, h1.mono a2, h2.mono a3, e1.mono a1, e2.mono a1, rfl, A2U a1 e4⟩
 ·rw [List.nodup_append, List.nodup_append]
  refine ⟨n1, ⟨n2, n3, ?_⟩, ?_⟩
  ·rintro x hx y hy rfl
   exact A2V (A2U (C2.mono hl2) i3) h2.inG x hy x hx rfl
  ·rintro x hx y hy rfl
   rcases List.mem_append.1 hy with hy | hy
   ·exact A2V (A2U (C2.anti hl1) h1.inG) h2.inG x hx x hy rfl
   ·exact A2V i3 h1.inG x hy x hx rfl
mutual
def mOk (Q : Tm → Prop) (g : Tm → Tm) : Tm → Prop
 | .mk k nm num ty fr lb ks => A20 Q g ks ∧ Q (.mk k nm num ty fr lb (A1o g ks))
def A20 (Q : Tm → Prop) (g : Tm → Tm) : List Tm → Prop
 | [] => True
 | t :: ts => mOk Q g t ∧ A20 Q g ts
end
theorem A9z {Q : Tm → Prop} {g : Tm → Tm} : ∀ {ts : List Tm}, A20 Q g ts → ∀ t ∈ ts, mOk Q g t
 | [], _, t, h => by simp at h
 | t' :: ts, h, t, ht => by
  simp only [A20] at h
  rcases List.mem_cons.1 ht with rfl | ht
  ·exact h.1
  ·exact A9z h.2 t ht
mutual
theorem A9A (g : Tm → Tm) : ∀ t, mOk (fun _ => True) g t
 | .mk k nm num ty fr lb ks => by rw [mOk]; exact ⟨A9B g ks, trivial⟩
theorem A9B (g : Tm → Tm) : ∀ ts, A20 (fun _ => True) g ts
 | [] => by rw [A20]; trivial
 | t :: ts => by rw [A20]; exact ⟨A9A g t, A9B g ts⟩
end
def A9C (g : Tm → Tm) (Q : Tm → Prop) (fid : FuncId) (us cs : List Value) : Prop := ∀ (t : Tm) (G0 G1 : IM) (cells : List Value) (F : List Nat), Q t → C4 G0 G1 → Q4 (C2 G1 G0) t cells F → F.Nodup →
 Fn Tryz.prog fid (us ++ [.agg ⟨cells⟩] ++ cs) [] G1 (K8 fun G2 v => ∃ cells' F', v = .agg ⟨cells'⟩ ∧ Q4 (C2 G2 G0) (g t) cells' F' ∧ F'.Nodup)
theorem B4p (g : Tm → Tm) (Q : Tm → Prop) (fid : FuncId) [C0 Tryz.prog fid] (us cs : List Value) (hg : A9C g Q fid us cs) : ∀ (t : Tm) (G : IM) (cells : List Value), mOk Q g t → t.small → B1 G t cells →
  Fn Tryz.prog 75 [.agg ⟨cells⟩, .func (.func fid) ⟨us⟩ ⟨cs⟩] [] G (A6N (A2Z g t) G) := by
 refine Tm.ind fun k nm num ty fr lb ks ih G cells hmo hts hr => ?_
 have hone := hr.one
 simp only [mOk] at hmo
 obtain ⟨hmoL, hQ⟩ := hmo
 simp only [Tm.small] at hts
 obtain ⟨hnm, hty', hfr', hsm, hks⟩ := hts
 obtain ⟨tk, tks⟩ := ty
 obtain ⟨fk, fks⟩ := fr
 obtain ⟨pt, ct, pf, cf, p, c, es, rfl, hk, hnum, hlb, hty, hfr, hsl, hkl⟩ := hr.open9
 have hn := hsl.le
 have hlen : (A1o g ks).length = ks.length := by rw [A6O, List.length_map]
 have hget : ∀ i (h : i < ks.length) (h' : i < (A1o g ks).length), (A1o g ks)[i] = A2Z g ks[i] := fun i h h' => by simp [A6O]
 refine C6 Tryz.func75 rfl Tryz.ntmps75 Tryz.results75 rfl ?_
 intro w0
 refine A4 ?_
 refine sE (C9 rfl rfl) rfl (fun b3 => ?_)
 refine sE (A9 rfl) rfl (fun b4 => ?_)
 refine K0 ?_
 refine C5 ?_
 (refine V0 37 9 ?_; refine K2 (fun (x : Nat × Option Addr × Nat × List (List Value) × List Nat × IM) => ⟨[(11, .int .i64 x.1), (10, .int .i64 ks.length), (9, .slice p ks.length c), (5, .slice x.2.1 x.1 x.2.2.1), (2, .pointer (some ⟨b3, 0, none⟩)), (1, .func (.func fid) ⟨us⟩ ⟨cs⟩), (4, .pointer (some ⟨b4, 0, none⟩))], [.slc x.2.1 x.2.2.1 37 9 x.1 x.2.2.2.1.flatten, .blk b4 [.int .i64 0, .string ⟨⟨[]⟩⟩, .int .i64 0, .int .i64 0, .slice none 0 0, .int .i64 0, .slice none 0 0, .int .i64 0, .slice none 0 0], .blk b3 [.int .i64 k, .string nm, .int .i64 num, .int .i64 tk, .slice pt tks.length ct, .int .i64 fk, .slice pf fks.length cf, .int .i64 lb, .slice p ks.length c]], x.2.2.2.2.2⟩) (fun x => x.1 ≤ ks.length ∧ C4 G x.2.2.2.2.2 ∧ O7 (C2 x.2.2.2.2.2 G) ((A1o g ks).take x.1) x.2.2.2.1 x.2.2.2.2.1 ∧ x.2.2.2.2.1.Nodup) (fun x => ks.length - x.1) (0, none, 0, [], [], G) ?_ ?_ ?_)
 (simp only [I1]; exact D6)
 exact ⟨by simp, C4.refl _, by simp [O7], by simp⟩
 (rintro ⟨i, pn, cn, es', F, Gi⟩ ⟨hi, hle, hst, hnd⟩; simp only [] at hi hle hst hnd ⊢; replace hsl := hsl.mono hle; replace hkl := hkl.mono hle)
 refine A4 ?_
 refine sB (J4 rfl rfl) rfl rfl (fun h28 => ?_) (fun h28 => ?_)
 refine B7 ?_
 refine C5 ?_
 refine A4 ?_
 (obtain ⟨b, o, e, rfl, hl, hat, hre, hgb⟩ := hsl.kidTm hkl (i := i) (by omega) (by omega); have hone := hre.one; refine sP (B5 rfl rfl rfl (by omega)) rfl rfl ?_)
 refine sL (A3 rfl rfl (hat _) hl) rfl rfl ?_
 refine sE (A9 rfl) rfl (fun b41 => ?_)
 refine sS rfl rfl rfl hl hone rfl ?_ (hu := by exact E0 hl.symm)
 refine B4 ?_
 refine sL (A3 rfl rfl (B6 (by repeat first | exact mH | apply mT)) (by assumption)) rfl rfl ?_
 refine F8 ?_
 (refine E6 rfl (ih ks[i] (List.getElem_mem (by omega)) _ _ (A9z hmoL _ (List.getElem_mem (by omega))) (Tm.smallL_mem hks _ (List.getElem_mem (by omega))) hre) rfl rfl (fun v G3 hle3 hh => ?_); obtain ⟨cells', F', rfl, hs', hnd'⟩ := hh; rw [← hget i (by omega) (by omega)] at hs'; have hlc := hs'.R.len; have hoc := hs'.R.one)
 (obtain ⟨v1, v2, v3, v4, v5, v6, v7, v8, v9, rfl⟩ : ∃ v1 v2 v3 v4 v5 v6 v7 v8 v9, cells' = [v1, v2, v3, v4, v5, v6, v7, v8, v9] := by obtain ⟨_, _, _, _, _, _, _, _, _, rfl, _⟩ := hs'.R.open; exact ⟨_, _, _, _, _, _, _, _, _, rfl⟩)
 (refine I3 (D0 rfl rfl rfl (by omega) (by unfold maxLen; omega) rfl) rfl ?_; rintro _ ⟨b51, rfl⟩)
 refine A0Z rfl rfl rfl rfl rfl (fun _ _ => by repeat (first | exact Sw.here | apply Sw.there)) (M9 (by repeat first | exact mH | apply mT)) rfl (fun u hu => List.all_eq_true.1 hoc u hu) (by unfold maxLen; omega) (by omega) rfl (fun pn' cn' => ?_)
 refine B0 ?_
 refine sP (H9 rfl rfl (by omega) (by omega)) rfl rfl ?_
 refine A4 ?_
 refine I5 (i + 1, pn', cn', es' ++ [[v1, v2, v3, v4, v5, v6, v7, v8, v9]], F ++ F', G3) ?_ ?_ ?_
 (simp only [I1]; exact D6)
 exact A9w
 exact V5
 refine J2 ?_
 (obtain rfl : i = ks.length := (by omega); refine A2i (by repeat (first | exact Pk.here | apply Pk.there)) (fun G2 hle2 hsl2 hno2 => ?_); rw [← hlen, List.take_length] at hst; rw [← hlen] at hsl2; obtain ⟨F3, hf1, hf2⟩ := A2T.fin hst hnd hle hle2 hsl2 hno2; have hleG := hle.trans hle2; have hT := A3C (.mk tk tks) G2 _ hty' (hty.mono hleG); refine D7 D8 rfl ?_)
 refine I6 (i := 0) (l' := [tt,ff,ff,ff,ff,ff,ff,ff,ff,ff,ff,ff,ff]) rfl D2 (B8 rfl) rfl (by kernel_rfl) rfl rfl ?_
 refine aL 1 rfl (A5 rfl rfl) rfl ?_
 refine aP 3 rfl (B8 rfl) rfl ?_
 refine aL 4 rfl (A5 rfl rfl) rfl ?_
 refine aP 6 rfl (qM rfl) rfl ?_
 refine A2 2 ?_
 (refine H3 rfl rfl hT rfl rfl rfl (fun v G4 hle4 hh => ?_); obtain ⟨cs1, F1, rfl, hs1, hn1⟩ := hh; obtain ⟨p1, c1, rfl, _⟩ := hs1.open; have hF := A3C (.mk fk fks) G4 _ hfr' (hfr.mono (hleG.trans hle4)))
 refine aP 7 rfl (B8 rfl) rfl ?_
 refine A2 5 ?_
 (refine H3 rfl rfl hF rfl rfl rfl (fun v G5 hle5 hh => ?_); obtain ⟨cs2, F2, rfl, hs2, hn2⟩ := hh; obtain ⟨p2, c2, rfl, _⟩ := hs2.open; obtain ⟨F6, hg1, hg2⟩ := Q4.mk3k (nm := nm) hk hnum hlb hleG hle4 hle5 hf1 hf2 hs1 hn1 hs2 hn2; rw [hlen] at hg1; have hch := hg _ G G5 _ F6 hQ (hleG.trans (hle4.trans hle5)) hg1 hg2)
 refine A2 8 ?_
 refine Q8 rfl rfl rfl rfl rfl rfl rfl rfl (by kernel_rfl) (by repeat first | exact Sw.here | apply Sw.there) (by rfl) ?_
 refine aP 9 rfl (B8 rfl) rfl ?_
 refine A2 10 ?_
 refine Q8 rfl rfl rfl rfl rfl rfl rfl rfl (by kernel_rfl) (by repeat first | exact Sw.here | apply Sw.there) (by rfl) ?_
 refine aP 11 rfl (B8 rfl) rfl ?_
 refine A2 12 ?_
 refine Q8 rfl rfl rfl rfl rfl rfl rfl rfl (by kernel_rfl) (by repeat first | exact Sw.here | apply Sw.there) (by rfl) ?_
 refine A8 ?_
 (refine I3 (A2M rfl rfl hch (List.Perm.refl _) rfl) rfl ?_; rintro _ ⟨v, G7, outs, rfl, hle7, rfl, cells7, F7, rfl, hs7, hn7⟩; have hl7 := hs7.R.len; have ho7 := hs7.R.one)
 refine sS rfl rfl rfl hl7 ho7 rfl ?_ (hu := by exact E0 hl7.symm)
 refine B9 ?_
 refine N9 (rC rfl (A3 rfl rfl (B6 (by repeat first | exact mH | apply mT)) hl7)) ?_
 (rw [A2Z]; exact ⟨rfl, cells7, F7, rfl, hs7, hn7⟩)
theorem B4q (G : IM) (cells : List Value) (hl : cells.length = 9) (hone : cells.all (·.oneCell') = true) : Fn Tryz.prog 112 [.agg ⟨cells⟩] [] G (J0 (.agg ⟨cells⟩) G) := by
 refine C6 Tryz.func112 rfl Tryz.ntmps112 Tryz.results112 rfl ?_
 intro w0
 refine A4 ?_
 refine sE (C9 rfl rfl) rfl (fun b3 => ?_)
 refine sE (A9 rfl) rfl (fun b4 => ?_)
 refine B4 ?_
 refine sL (A3 rfl rfl (B6 (by repeat first | exact mH | apply mT)) (by assumption)) rfl rfl ?_
 refine sS rfl rfl rfl hl hone rfl ?_ (hu := by exact E0 hl.symm)
 refine B9 ?_
 refine N9 (rC rfl (A3 rfl rfl (B6 (by repeat first | exact mH | apply mT)) hl)) ?_
 exact ⟨rfl, rfl, rfl⟩
theorem B4r : A9C id (fun _ => True) 112 [] [] := fun t G0 G1 cells F _ hle hs hn =>
 (B4q G1 cells hs.R.len hs.R.one).mono fun G' v outs _ ⟨h1, h2, h3⟩ => ⟨h3, cells, F, h2, by rw [h1]; exact hs, hn⟩
theorem A5q (t : Tm) (G : IM) (cells : List Value) (hts : t.small) (hr : B1 G t cells) : Fn Tryz.prog 62 [.agg ⟨cells⟩] [] G (A6N t G) := by
 have hl := hr.len
 have hone := hr.one
 have hM := B4p id (fun _ => True) 112 [] [] B4r t G cells (A9A _ t) hts hr
 rw [A9x] at hM
 refine C6 Tryz.func62 rfl Tryz.ntmps62 Tryz.results62 rfl ?_
 intro w0
 refine A4 ?_
 refine sE (C9 rfl rfl) rfl (fun b3 => ?_)
 refine sE (A9 rfl) rfl (fun b4 => ?_)
 refine B4 ?_
 refine sL (A3 rfl rfl (B6 (by repeat first | exact mH | apply mT)) (by assumption)) rfl rfl ?_
 (refine E6 rfl hM rfl rfl (fun v G3 hle3 hh => ?_); obtain ⟨cells', F', rfl, hs', hnd'⟩ := hh; have hl' := hs'.R.len; have ho' := hs'.R.one)
 refine sS rfl rfl rfl hl' ho' rfl ?_ (hu := by exact E0 hl'.symm)
 refine B9 ?_
 refine N9 (rC rfl (A3 rfl rfl (B6 (by repeat first | exact mH | apply mT)) hl')) ?_
 exact ⟨rfl, cells', F', rfl, hs', hnd'⟩
theorem B4s {D N : Int} {k : Int} {nm : ByteArray} {num : Int} {ty fr : Ty} {lb : Int} {ks : List Tm} {d : Int} (h : N5 D N (.mk k nm num ty fr lb ks) d = true) : d ≤ D ∧ ∀ i, (hi : i < ks.length) → N5 D N ks[i] (d + 1) = true := by
 rw [N5] at h
 simp only [Bool.and_eq_true, decide_eq_true_eq] at h
 exact ⟨h.1.1.1, (A1A D N ks _).1 h.2⟩
mutual
theorem A6P (M D N : Int) : ∀ (t : Tm) (deep c : Int), c ≤ M → ((T4 M D N t deep c).1 = true ↔ N5 D N t deep = true ∧ c + D1 t ≤ M)
 | .mk k nm num ty fr lb ks, deep, c, hc => by
  rw [T4, D1]
  by_cases h : c + 1 > M ∨ deep > D ∨ k = N ∨ W6 k nm num ty fr lb ks.length = false
  ·rw [if_pos h]
   constructor
   ·intro h; cases h
   ·rintro ⟨h1, h2⟩
    rcases h with h | h
    ·omega
    ·rw [A9q h] at h1; cases h1
  ·rw [if_neg h]
   have hn : W6 k nm num ty fr lb ks.length = true := by
    cases hx : W6 k nm num ty fr lb ks.length with
    | true => rfl
    | false => exact absurd (Or.inr (Or.inr (Or.inr hx))) h
   rw [A2Y (by omega) (by omega) hn, A9D M D N ks (deep + 1) (c + 1) (by omega)]
   constructor
   ·rintro ⟨a, b⟩; exact ⟨a, by omega⟩
   ·rintro ⟨a, b⟩; exact ⟨a, by omega⟩
theorem A9D (M D N : Int) : ∀ (ts : List Tm) (deep c : Int), c ≤ M → ((V4 M D N ts deep c).1 = true ↔ N7 D N ts deep = true ∧ c + E8 ts ≤ M)
 | [], deep, c, hc => by simp [V4, N7, E8]; omega
 | t :: ts, deep, c, hc => by
  have h0 := A6P M D N t deep c hc
  rw [V4, N7, E8, Bool.and_eq_true]
  by_cases h : (T4 M D N t deep c).1 = true
  ·rw [if_pos h, A6x M D N t deep c h, A9D M D N ts deep _ (h0.1 h).2]
   have := h0.1 h
   constructor
   ·rintro ⟨a, b⟩; exact ⟨⟨this.1, a⟩, by omega⟩
   ·rintro ⟨⟨_, a⟩, b⟩; exact ⟨a, by omega⟩
  ·rw [if_neg h]
   constructor
   ·intro h'; cases h'
   ·rintro ⟨⟨a, _⟩, b⟩
    exact absurd (h0.2 ⟨a, by omega⟩) h
end
theorem A6Q (t : Tm) : M5 t = true ↔ N5 40 13 t 1 = true ∧ D1 t ≤ 200 := by
 have := A6P 200 40 13 t 1 0 (by omega)
 rw [M5, this]
 constructor
 ·rintro ⟨a, b⟩; exact ⟨a, by omega⟩
 ·rintro ⟨a, b⟩; exact ⟨a, by omega⟩
theorem A9E (D N : Int) : ∀ (t : Tm) (d : Int) (G : IM) (cells : List Value), d ≤ 40 → N5 D N t (D + 1 - d) = true → D1 t ≤ 4294967296 → B1 G t cells →
  Fn Tryz.prog 186 [.agg ⟨cells⟩, .int .i64 d] [] G (J0 (.int .i64 (D1 t : Int)) G) := by
 refine Tm.ind fun k nm num ty fr lb ks ih d G cells hd hv hcnt hr => ?_
 have hone := hr.one
 obtain ⟨hv1, hv2⟩ := B4s hv
 obtain ⟨tk, tks⟩ := ty
 obtain ⟨fk, fks⟩ := fr
 obtain ⟨pt, ct, pf, cf, p, c, es, rfl, hk, hnum, hlb, hty, hfr, hsl, hkl⟩ := hr.open9
 have hn := hsl.le
 clear hr
 rw [D1] at hcnt ⊢
 refine C6 Tryz.func186 rfl Tryz.ntmps186 Tryz.results186 rfl ?_
 intro w0
 refine A4 ?_
 refine sE (C9 rfl rfl) rfl (fun b3 => ?_)
 refine J5 ?_
 refine C5 ?_
 (refine K2 (fun (i : Nat) => ⟨[(6, .int .i64 i), (5, .int .i64 ((E8 (ks.take i) + 1 : Nat) : Int)), (2, .pointer (some ⟨b3, 0, none⟩)), (1, .int .i64 d)], [.blk b3 [.int .i64 k, .string nm, .int .i64 num, .int .i64 tk, .slice pt tks.length ct, .int .i64 fk, .slice pf fks.length cf, .int .i64 lb, .slice p ks.length c]], G⟩) (fun i => i ≤ ks.length) (fun i => ks.length - i) 0 ?_ ?_ ?_)
 exact D6
 exact Nat.zero_le _
 (rintro i hi)
 refine B7 ?_
 refine sB (J4 rfl rfl) rfl rfl (fun h30 => ?_) (fun h30 => ?_)
 refine A4 ?_
 refine sP (A3t rfl rfl (by omega)) rfl rfl ?_
 refine B7 ?_
 refine C5 ?_
 refine B0 ?_
 (obtain ⟨b, o, e, rfl, hl, hat, hre, hgb⟩ := hsl.kidTm hkl (i := i) (by omega) (by omega); have htk := A1h (ks := ks) (i := i) (by omega); refine sP (B5 rfl rfl rfl (by omega)) rfl rfl ?_)
 refine sL (A3 rfl rfl (hat _) hl) rfl rfl ?_
 refine F8 ?_
 refine sP (P4 rfl rfl (by omega) (by omega)) rfl rfl ?_
 (have hvk := hv2 i (by omega); rw [show D + 1 - d + 1 = D + 1 - (d - 1) by omega] at hvk; refine H6 rfl (ih ks[i] (List.getElem_mem (by omega)) (d - 1) G _ (by omega) hvk (by omega) hre) rfl rfl ?_)
 refine sP (H9 rfl rfl (by omega) (by omega)) rfl rfl ?_
 refine A8 ?_
 refine sP (H9 rfl rfl (by omega) (by omega)) rfl rfl ?_
 refine A4 ?_
 (refine I5 (i + 1) ?_ ?_ ?_; rw [show ((E8 (ks.take (i + 1)) + 1 : Nat) : Int) = ((E8 (ks.take i) + 1 : Nat) : Int) + (D1 ks[i] : Int) from by rw [A0G (by omega)]; omega])
 exact D6
 omega
 omega
 refine A0D ?_
 (obtain rfl : i = ks.length := (by omega); rw [List.take_length]; exact ⟨rfl, rfl, rfl⟩)
theorem A5r {Q : Prop} (h : Q := by exact ⟨rfl, by (cases R with | false => rfl | true => (exfalso; have h0 := hi.1 rfl; first | omega | simp_all)), rfl⟩) : Q := h
theorem A6R (t : Tm) (G : IM) (cells : List Value) (hcnt : D1 t ≤ 4294967296) (hr : B1 G t cells) :
  Fn Tryz.prog 144 [.agg ⟨cells⟩] [] G (J0 (.bool (M5 t)) G) := by
 have hl := hr.len
 have hv := B4n t 40 G cells (by omega) hr
 have hc := fun h => A9E 40 13 t 40 G cells (by omega) h hcnt hr
 have hi := A6Q t
 obtain ⟨R, hR⟩ : ∃ R, M5 t = R := ⟨_, rfl⟩
 rw [hR] at hi ⊢
 refine C6 Tryz.func144 rfl Tryz.ntmps144 Tryz.results144 rfl ?_
 intro w0
 refine A4 ?_
 refine sE (C9 rfl rfl) rfl (fun b3 => ?_)
 refine B0 ?_
 refine sL (A3 rfl rfl (B6 (by repeat first | exact mH | apply mT)) (by assumption)) rfl rfl ?_
 refine H1 rfl (hv) rfl rfl (fun h10 => ?_) (fun h10 => ?_)
 refine F8 ?_
 refine sL (A3 rfl rfl (B6 (by repeat first | exact mH | apply mT)) (by assumption)) rfl rfl ?_
 refine H6 rfl (hc (by assumption)) rfl rfl ?_
 refine sB (A0r rfl rfl) rfl rfl (fun h14 => ?_) (fun h14 => ?_)
 refine A8 ?_
 exact ⟨rfl, by rw [hi.2 ⟨by assumption, by omega⟩], rfl⟩
 refine A8 ?_
 exact A5r
 refine J2 ?_
 exact A5r
end Gw
end Go.Proofs.YtebfignffjhnhaaGreatDoor
