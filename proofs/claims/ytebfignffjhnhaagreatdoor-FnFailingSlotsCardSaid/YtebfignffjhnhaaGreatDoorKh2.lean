/-
  The tests of terms. The scan of a term, CastValid, TermValid. The reference model's tests of types and nodes: they compute the same plain functions. Fresh data taken back into the call's own hands, and given up again; sizes. How high and how wide types are. The reference model's scans of types. The reference model's consistency of types. The reference model's tests of nodes. The reference model's scan of terms with casts. Types of terms with casts, in plain words over trees: what a node wants of its operands, and what it is. The laws' copies of types and terms. Copies of types and terms: the reference model's, the program's, the laws' of paths. Terms each node of which is changed, operands first; own copies. The reference model's count of nodes, its CastValid.
-/
import Derived.Test.YtebfignffjhnhaaGreatDoorKh1
set_option linter.unusedVariables false
set_option linter.unusedSimpArgs false
set_option maxHeartbeats 0
set_option maxRecDepth 100000
set_option synthInstance.maxSize 4000
set_option synthInstance.maxHeartbeats 0
namespace Go.Proofs.YtebfignffjhnhaaGreatDoor
open Go Go.RowKit
namespace Gw
theorem B3K (k : Int) (G : IM) (hk : F8 k) : Fn Tryz.prog 198 [.int .i64 k] [] G (I5 (.int .i64 (E6 k)) G) := by
 unfold F8 at hk
 refine C1 Tryz.func198 rfl Tryz.ntmps198 Tryz.results198 rfl ?_
 intro w0
 refine E0 ?_
 refine F4 rfl (A1c _ _ _ _) rfl rfl (fun h10 => ?_) (fun h10 => ?_)
 refine D1 ?_
 (refine I3 (D0 rfl rfl rfl (by omega) (by unfold maxLen; omega) rfl) rfl ?_; rintro _ ⟨b19, rfl⟩)
 refine E3 ?_
 (have hkk : 1 ≤ k ∧ k ≤ 14 := A3Q (by assumption); refine sP (O9 rfl rfl (by omega) (by omega)) rfl rfl ?_)
 refine sP (A8a rfl rfl rfl (by omega) (by omega)) rfl rfl ?_
 refine sL (T3 rfl rfl (B2z (by repeat first | exact mH | apply mT) (B25 (by rw [Nat.zero_add, Nat.mul_one]; exact B24 hkk)))) rfl rfl ?_
 refine B0 ?_
 exact ⟨rfl, rfl, rfl⟩
 refine K5 ?_
 exact ⟨rfl, by rw [A4H (A8w (by assumption))], rfl⟩
theorem R1 {Q : Prop} (h : Q := by exact ⟨rfl, by (cases R with | false => rfl | true => (exfalso; obtain ⟨i1, i2, i3, i4, i5, i6, i7, i8, i9⟩ := hi.1 rfl; first | omega | (have j := i2 (by omega); simp_all; done) | (have j := i3 (by omega); simp_all; done) | (have j := i4 (by omega); simp_all; done) | (have j := i5 (by omega); simp_all; done) | (have j := i6 (by omega); simp_all; done) | (have j := i7 (by omega); simp_all; done) | (have j := i8 (by omega); simp_all; done) | (have j := i9 (by omega); simp_all; done))), rfl⟩) : Q := h
theorem zq8 {Q : Prop} (h : Q := by exact ⟨rfl, by rw [hi.2 ⟨by omega, fun _ => by (first | assumption | (exfalso; omega) | exact Classical.not_not.1 (by assumption)), fun _ => by (first | assumption | (exfalso; omega) | exact Classical.not_not.1 (by assumption)), fun _ => by (first | assumption | (exfalso; omega) | exact Classical.not_not.1 (by assumption)), fun _ => by (first | assumption | (exfalso; omega) | exact Classical.not_not.1 (by assumption)), fun _ => by (first | assumption | (exfalso; omega) | exact Classical.not_not.1 (by assumption)), fun _ => by (first | assumption | (exfalso; omega) | exact Classical.not_not.1 (by assumption)), fun _ => ⟨by (first | assumption | (exfalso; omega)), by (first | assumption | (exfalso; omega))⟩, fun _ => ⟨by (first | assumption | (exfalso; omega)), by (first | assumption | omega)⟩⟩], rfl⟩) : Q := h
theorem B3L (k : Int) (nm : ByteArray) (num : Int) (ty fr : Ty) (lb : Int) (ks : List Tm) (G : IM) (cells : List Value) (hr : B1 G (.mk k nm num ty fr lb ks) cells) :
  Fn Tryz.prog 150 [.agg ⟨cells⟩] [] G (I5 (.bool (V8 k nm num ty fr lb ks.length)) G) := by
 obtain ⟨tk, tks⟩ := ty
 obtain ⟨fk, fks⟩ := fr
 obtain ⟨pt, ct, pf, cf, p, c, es, rfl, hk, hnum, hlb, hty, hfr, hsl, hkl⟩ := hr.open9
 have hi := @T9 k nm num (.mk tk tks) (.mk fk fks) lb ks.length
 obtain ⟨R, hR⟩ : ∃ R, V8 k nm num (.mk tk tks) (.mk fk fks) lb ks.length = R := ⟨_, rfl⟩
 rw [hR] at hi ⊢
 clear hR hr
 have o1 := B3K k G hk
 have o2 := B3H nm G
 have o3 := A3U _ G _ hty
 have o4 := A83 _ G _ hty
 have o5 := B3J _ _ G _ _ hfr hty
 have o6 := B3G lb G
 have o7 := A83 _ G _ hfr
 refine C1 Tryz.func150 rfl Tryz.ntmps150 Tryz.results150 rfl ?_
 intro w0
 refine A3 ?_
 refine sE (C7 rfl rfl) rfl (fun b3 => ?_)
 refine B0 ?_
 refine E2 E4 rfl ?_
 refine J4 (i := 0) (l' := [tt,ff,ff,ff,ff,ff,ff]) rfl D6 (B9 rfl) rfl (by kernel_rfl) rfl rfl ?_
 refine aL 1 rfl (C8 rfl rfl) rfl ?_
 refine aP 3 rfl (B9 rfl) rfl ?_
 refine aL 4 rfl (C8 rfl rfl) rfl ?_
 refine aP 5 rfl (pLn rfl rfl) rfl ?_
 refine A4 2 ?_
 refine N3 rfl rfl (o1) rfl rfl rfl ?_
 refine A0v (i := 6) (l' := [tt,tt,tt,tt,tt,tt,tt]) rfl D6 (N5 rfl rfl) rfl (by kernel_rfl) rfl rfl (fun h17 => ?_) (fun h17 => ?_)
 refine J1 ?_
 exact R1
 refine E0 ?_
 refine sB (qE rfl rfl) rfl rfl (fun h39 => ?_) (fun h39 => ?_)
 refine K5 ?_
 refine sP (J8 rfl rfl (by omega)) rfl rfl ?_
 refine B7 ?_
 refine sP (J8 rfl rfl (by omega)) rfl rfl ?_
 refine B4 ?_
 refine sP (J8 rfl rfl (by omega)) rfl rfl ?_
 refine D1 ?_
 refine sP (J8 rfl rfl (by omega)) rfl rfl ?_
 refine J7 ?_
 refine sP (J8 rfl rfl (by omega)) rfl rfl ?_
 refine A8 ?_
 refine C0 ?_
 refine B5 ?_
 refine F4 rfl (o2) rfl rfl (fun h99 => ?_) (fun h99 => ?_)
 refine A06 ?_
 refine F4 rfl (A1c _ _ _ _) rfl rfl (fun h123 => ?_) (fun h123 => ?_)
 refine A3N ?_
 refine F4 rfl (o4) rfl rfl (fun h149 => ?_) (fun h149 => ?_)
 refine A0f ?_
 refine B4 ?_
 refine F4 rfl (o7) rfl rfl (fun h184 => ?_) (fun h184 => ?_)
 refine B4 ?_
 refine sB (N5 rfl rfl) rfl rfl (fun h189 => ?_) (fun h189 => ?_)
 refine I7 ?_
 exact R1
 refine K0 ?_
 exact zq8
 refine A0e ?_
 exact R1
 refine I7 ?_
 exact R1
 refine J9 ?_
 exact R1
 refine U7 ?_
 exact R1
 refine B7 ?_
 refine sB (qE rfl rfl) rfl rfl (fun h297 => ?_) (fun h297 => ?_)
 refine D1 ?_
 refine sP (X5 rfl rfl (by omega)) rfl rfl ?_
 refine Q5 ?_
 refine sP (J8 rfl rfl (by omega)) rfl rfl ?_
 refine J7 ?_
 refine sP (J8 rfl rfl (by omega)) rfl rfl ?_
 refine A8 ?_
 refine C0 ?_
 refine B5 ?_
 refine F4 rfl (o2) rfl rfl (fun h353 => ?_) (fun h353 => ?_)
 refine A06 ?_
 refine F4 rfl (A1c _ _ _ _) rfl rfl (fun h377 => ?_) (fun h377 => ?_)
 refine K5 ?_
 refine F4 rfl (o3) rfl rfl (fun h390 => ?_) (fun h390 => ?_)
 refine A0f ?_
 refine Q5 ?_
 refine F4 rfl (o7) rfl rfl (fun h438 => ?_) (fun h438 => ?_)
 refine B4 ?_
 refine sB (N5 rfl rfl) rfl rfl (fun h443 => ?_) (fun h443 => ?_)
 refine I7 ?_
 exact R1
 refine K0 ?_
 exact zq8
 refine A0e ?_
 exact R1
 refine U7 ?_
 exact R1
 refine J9 ?_
 exact R1
 refine U7 ?_
 exact R1
 refine D1 ?_
 refine sP (J8 rfl rfl (by omega)) rfl rfl ?_
 refine B7 ?_
 refine sB (qE rfl rfl) rfl rfl (fun h563 => ?_) (fun h563 => ?_)
 refine J7 ?_
 refine sP (J8 rfl rfl (by omega)) rfl rfl ?_
 refine J7 ?_
 refine sP (J8 rfl rfl (by omega)) rfl rfl ?_
 refine A8 ?_
 refine C0 ?_
 refine A0z ?_
 refine sB (A1Z rfl rfl) rfl rfl (fun h620 => ?_) (fun h620 => ?_)
 refine Q5 ?_
 exact R1
 refine E0 ?_
 refine F4 rfl (A1c _ _ _ _) rfl rfl (fun h648 => ?_) (fun h648 => ?_)
 refine K5 ?_
 refine F4 rfl (o3) rfl rfl (fun h661 => ?_) (fun h661 => ?_)
 refine A0f ?_
 refine Q5 ?_
 refine F4 rfl (o7) rfl rfl (fun h709 => ?_) (fun h709 => ?_)
 refine B4 ?_
 refine sB (N5 rfl rfl) rfl rfl (fun h714 => ?_) (fun h714 => ?_)
 refine I7 ?_
 exact R1
 refine K0 ?_
 exact zq8
 refine A0e ?_
 exact R1
 refine U7 ?_
 exact R1
 refine J9 ?_
 exact R1
 refine B4 ?_
 refine sB (qE rfl rfl) rfl rfl (fun h807 => ?_) (fun h807 => ?_)
 refine D1 ?_
 refine sP (X5 rfl rfl (by omega)) rfl rfl ?_
 refine J7 ?_
 refine sP (J8 rfl rfl (by omega)) rfl rfl ?_
 refine A8 ?_
 refine C0 ?_
 refine A0z ?_
 refine sB (A1Z rfl rfl) rfl rfl (fun h859 => ?_) (fun h859 => ?_)
 refine Q5 ?_
 exact R1
 refine E0 ?_
 refine F4 rfl (A1c _ _ _ _) rfl rfl (fun h887 => ?_) (fun h887 => ?_)
 refine K5 ?_
 refine F4 rfl (o3) rfl rfl (fun h900 => ?_) (fun h900 => ?_)
 refine A59 ?_
 refine F4 rfl (o5) rfl rfl (fun h929 => ?_) (fun h929 => ?_)
 refine B4 ?_
 refine F4 rfl (o6) rfl rfl (fun h934 => ?_) (fun h934 => ?_)
 refine A0f ?_
 refine B0 ?_
 exact zq8
 refine A0y ?_
 exact R1
 refine A26 ?_
 exact R1
 refine U7 ?_
 exact R1
 refine J9 ?_
 exact R1
 refine D1 ?_
 refine sP (J8 rfl rfl (by omega)) rfl rfl ?_
 refine J7 ?_
 refine sB (qE rfl rfl) rfl rfl (fun h1072 => ?_) (fun h1072 => ?_)
 refine D1 ?_
 refine C0 ?_
 refine A0z ?_
 refine sB (A1Z rfl rfl) rfl rfl (fun h1103 => ?_) (fun h1103 => ?_)
 refine Q5 ?_
 exact R1
 refine E0 ?_
 refine F4 rfl (A1c _ _ _ _) rfl rfl (fun h1131 => ?_) (fun h1131 => ?_)
 refine A3N ?_
 refine F4 rfl (o4) rfl rfl (fun h1157 => ?_) (fun h1157 => ?_)
 refine A0f ?_
 refine B4 ?_
 refine F4 rfl (o7) rfl rfl (fun h1192 => ?_) (fun h1192 => ?_)
 refine B4 ?_
 refine sB (N5 rfl rfl) rfl rfl (fun h1197 => ?_) (fun h1197 => ?_)
 refine I7 ?_
 exact R1
 refine K0 ?_
 exact zq8
 refine A0e ?_
 exact R1
 refine I7 ?_
 exact R1
 refine J9 ?_
 exact R1
 refine A8 ?_
 refine C0 ?_
 refine A0z ?_
 refine sB (A1Z rfl rfl) rfl rfl (fun h1311 => ?_) (fun h1311 => ?_)
 refine Q5 ?_
 exact R1
 refine E0 ?_
 refine F4 rfl (A1c _ _ _ _) rfl rfl (fun h1339 => ?_) (fun h1339 => ?_)
 refine A3N ?_
 refine F4 rfl (o4) rfl rfl (fun h1365 => ?_) (fun h1365 => ?_)
 refine A0f ?_
 refine B4 ?_
 refine F4 rfl (o7) rfl rfl (fun h1400 => ?_) (fun h1400 => ?_)
 refine B4 ?_
 refine sB (N5 rfl rfl) rfl rfl (fun h1405 => ?_) (fun h1405 => ?_)
 refine I7 ?_
 exact R1
 refine K0 ?_
 exact zq8
 refine A0e ?_
 exact R1
 refine I7 ?_
 exact R1
 refine J9 ?_
 exact R1
theorem zq9 {Q : Prop} (h : Q := by (rw [B26 (by rw [hR]; first | omega | exact Or.inr (Or.inr (Or.inr (by assumption)))) ]; exact ⟨rfl, rfl, rfl⟩)) : Q := h
theorem V0 {Q : Prop} (h : Q := by (show ks.length - (i + 1) < ks.length - i; omega)) : Q := h
theorem A84 (M D N : Int) (hM : 0 ≤ M ∧ M ≤ 1000) (hD : 0 ≤ D ∧ D ≤ 1000) (bc : Nat) : ∀ (t : Tm) (deep c : Int) (G : IM) (cells : List Value), 0 ≤ deep ∧ deep ≤ D + 1 → 0 ≤ c ∧ c ≤ M → B1 G t cells →
  Fn Tryz.prog 108 [.agg ⟨cells⟩, .int .i64 deep, .int .i64 M, .int .i64 D, .int .i64 N, .pointer (some ⟨bc, 0, none⟩)] [.blk bc [.int .i64 c]] G
   (V7 (.bool (S4 M D N t deep c).1) [.blk bc [.int .i64 (S4 M D N t deep c).2]] G) := by
 refine Tm.ind fun k nm num ty fr lb ks ih deep c G cells hd hc hr => ?_
 have hno := B3L k nm num ty fr lb ks G cells hr
 obtain ⟨tk, tks⟩ := ty
 obtain ⟨fk, fks⟩ := fr
 obtain ⟨pt, ct, pf, cf, p, cp, es, rfl, hk, hnum, hlb, hty, hfr, hsl, hkl⟩ := hr.open9
 have hn := hsl.le
 obtain ⟨R, hR⟩ : ∃ R, V8 k nm num (.mk tk tks) (.mk fk fks) lb ks.length = R := ⟨_, rfl⟩
 rw [hR] at hno
 refine C1 Tryz.func108 rfl Tryz.ntmps108 Tryz.results108 rfl ?_
 intro w0
 refine A3 ?_
 refine sE (C7 rfl rfl) rfl (fun b3 => ?_)
 refine A8 ?_
 refine sQ (Z5 rfl) rfl ?_
 refine E3 ?_
 refine sP (H5 rfl rfl (by omega) (by omega)) rfl rfl ?_
 refine sQ (Z5 rfl) rfl ?_
 refine B5 ?_
 refine sQ (Z5 rfl) rfl ?_
 refine A3 ?_
 refine sB (W3 rfl rfl) rfl rfl (fun h24 => ?_) (fun h24 => ?_)
 refine A4D ?_
 refine H9 (outs := [.blk bc [.int .i64 _]]) (rT rfl) (A0.cons (by repeat (first | exact Pk.here | apply Pk.there)) A0.nil) ?_
 exact zq9
 refine B7 ?_
 refine sB (W3 rfl rfl) rfl rfl (fun h56 => ?_) (fun h56 => ?_)
 refine A57 ?_
 refine H9 (outs := [.blk bc [.int .i64 _]]) (rT rfl) (A0.cons (by repeat (first | exact Pk.here | apply Pk.there)) A0.nil) ?_
 exact zq9
 refine B0 ?_
 refine sB (qE rfl rfl) rfl rfl (fun h86 => ?_) (fun h86 => ?_)
 refine K0 ?_
 refine H9 (outs := [.blk bc [.int .i64 _]]) (rT rfl) (A0.cons (by repeat (first | exact Pk.here | apply Pk.there)) A0.nil) ?_
 exact zq9
 refine B7 ?_
 refine F4 rfl (hno) rfl rfl (fun h108 => ?_) (fun h108 => ?_)
 refine K0 ?_
 refine C0 ?_
 (have hmk := B27 (M := M) (D := D) (N := N) (deep := deep) (c := c) (by omega) (hR.trans (by assumption)); refine J0 (fun (x : Nat × Int) => ⟨[(44, .int .i64 x.1), (43, .int .i64 ks.length), (42, .slice p ks.length cp), (5, .pointer (some ⟨bc, 0, none⟩)), (4, .int .i64 N), (3, .int .i64 D), (2, .int .i64 M), (1, .int .i64 deep)], [.blk bc [.int .i64 x.2]], G⟩) (fun x => x.1 ≤ ks.length ∧ 0 ≤ x.2 ∧ x.2 ≤ M ∧ U1 M D N ks (deep + 1) (c + 1) = U1 M D N (ks.drop x.1) (deep + 1) x.2) (fun x => ks.length - x.1) (0, c + 1) ?_ ?_ ?_)
 (simp only [H6]; exact D2)
 exact ⟨by simp, by simp; omega, by simp; omega, by simp⟩
 (rintro ⟨i, ci⟩ ⟨hi, hc0, hc1, hst⟩; simp only [] at hi hc0 hc1 hst ⊢)
 refine A3 ?_
 refine sB (I8 rfl rfl) rfl rfl (fun h132 => ?_) (fun h132 => ?_)
 refine B5 ?_
 refine C0 ?_
 refine A3 ?_
 (obtain ⟨b, o, e, rfl, hl, hat, hre, hgb⟩ := hsl.kidTm hkl (i := i) (by omega) (by omega); have hone := hre.one; have hle := A6c M D N ks[i] (deep + 1) ci hc0 hc1; refine sP (B6 rfl rfl rfl (by omega)) rfl rfl ?_)
 refine sL (A2 rfl rfl (hat _) hl) rfl rfl ?_
 refine sE (A7 rfl) rfl (fun b145 => ?_)
 refine W4 rfl rfl rfl (by assumption) (by assumption) rfl (by repeat first | exact Sw.here | apply Sw.there) (by exact D4 (by symm; assumption)) ?_
 refine B4 ?_
 refine sL (A2 rfl rfl (A9 (by repeat first | exact mH | apply mT)) (by assumption)) rfl rfl ?_
 refine E3 ?_
 refine sP (H5 rfl rfl (by omega) (by omega)) rfl rfl ?_
 refine B4 ?_
 refine B2V rfl (ih ks[i] (List.getElem_mem _) (deep + 1) ci G e (by omega) (by omega) hre) (Pk.perm (by repeat (first | exact Pk.here | apply Pk.there))) rfl rfl (fun h158 => ?_) (fun h158 => ?_)
 refine D1 ?_
 refine sP (H5 rfl rfl (by omega) (by omega)) rfl rfl ?_
 refine A3 ?_
 refine I1 (i + 1, (S4 M D N ks[i] (deep + 1) ci).2) ?_ ?_ ?_
 (simp only [H6]; exact D2)
 exact ⟨by omega, by omega, hle.2.2 (by assumption), by rw [hst, B28 (by omega) (by assumption)]⟩
 exact V0
 refine I7 ?_
 refine H9 (outs := [.blk bc [.int .i64 _]]) (rT rfl) (A0.cons (by repeat (first | exact Pk.here | apply Pk.there)) A0.nil) ?_
 (rw [hmk, hst, B29 (by omega) (by assumption)]; exact ⟨rfl, rfl, rfl⟩)
 refine I7 ?_
 refine H9 (outs := [.blk bc [.int .i64 _]]) (rT rfl) (A0.cons (by repeat (first | exact Pk.here | apply Pk.there)) A0.nil) ?_
 (rw [hmk, hst, B3a (by omega)]; exact ⟨rfl, rfl, rfl⟩)
 refine K5 ?_
 refine H9 (outs := [.blk bc [.int .i64 _]]) (rT rfl) (A0.cons (by repeat (first | exact Pk.here | apply Pk.there)) A0.nil) ?_
 exact zq9
theorem A85 (t : Tm) (G : IM) (cells : List Value) (hr : B1 G t cells) : Fn Tryz.prog 64 [.agg ⟨cells⟩] [] G (I5 (.bool (O4 t)) G) := by
 have hl := hr.len
 refine C1 Tryz.func64 rfl Tryz.ntmps64 Tryz.results64 rfl ?_
 intro w0
 refine A3 ?_
 refine sE (C7 rfl rfl) rfl (fun b3 => ?_)
 refine B0 ?_
 refine sE (A7 rfl) rfl (fun b9 => ?_)
 refine B0 ?_
 refine sL (A2 rfl rfl (A9 (by repeat first | exact mH | apply mT)) (by assumption)) rfl rfl ?_
 refine A4C rfl (A84 200 40 13 (by omega) (by omega) _ t 1 0 G cells (by omega) (by omega) hr) A0x rfl rfl ?_
 refine B0 ?_
 exact ⟨rfl, rfl, rfl⟩
theorem A3V (t : Tm) (G : IM) (cells : List Value) (hr : B1 G t cells) : Fn Tryz.prog 60 [.agg ⟨cells⟩] [] G (I5 (.bool (N9 t)) G) := by
 have hl := hr.len
 refine C1 Tryz.func60 rfl Tryz.ntmps60 Tryz.results60 rfl ?_
 intro w0
 refine A3 ?_
 refine sE (C7 rfl rfl) rfl (fun b3 => ?_)
 refine B0 ?_
 refine sE (A7 rfl) rfl (fun b9 => ?_)
 refine B0 ?_
 refine sL (A2 rfl rfl (A9 (by repeat first | exact mH | apply mT)) (by assumption)) rfl rfl ?_
 refine A4C rfl (A84 30 12 14 (by omega) (by omega) _ t 1 0 G cells (by omega) (by omega) hr) A0x rfl rfl ?_
 refine B0 ?_
 exact ⟨rfl, rfl, rfl⟩
theorem A3a {Q : Prop} (h : Q := by exact ⟨rfl, by (first | rw [(A1l k).1 (by omega)] | rw [(A1l k).2.1 (by omega)] | rw [(A1l k).2.2 (by omega) (by omega) (by omega) (by omega) (by omega)]), rfl⟩) : Q := h
theorem A86 (k : Int) (G : IM) : Fn Tryz.prog 168 [.int .i64 k] [] G (I5 (.int .i64 (U8 k)) G) := by
 refine C1 Tryz.func168 rfl Tryz.ntmps168 Tryz.results168 rfl ?_
 intro w0
 refine J1 ?_
 refine C0 ?_
 refine B7 ?_
 refine sB (qE rfl rfl) rfl rfl (fun h16 => ?_) (fun h16 => ?_)
 refine K0 ?_
 exact A3a
 refine A8 ?_
 refine sB (qE rfl rfl) rfl rfl (fun h40 => ?_) (fun h40 => ?_)
 refine K0 ?_
 exact A3a
 refine B0 ?_
 refine sB (qE rfl rfl) rfl rfl (fun h63 => ?_) (fun h63 => ?_)
 refine J7 ?_
 exact A3a
 refine B5 ?_
 refine sB (qE rfl rfl) rfl rfl (fun h85 => ?_) (fun h85 => ?_)
 refine K0 ?_
 exact A3a
 refine B0 ?_
 refine sB (qE rfl rfl) rfl rfl (fun h108 => ?_) (fun h108 => ?_)
 refine J7 ?_
 exact A3a
 refine J9 ?_
 exact A3a
theorem A0q {Q : Prop} (h : Q := by exact ⟨rfl, by (unfold E6; first | rw [if_pos (by omega)] | rw [if_neg (by omega), if_pos (by omega)] | rw [if_neg (by omega), if_neg (by omega), if_pos (by omega)] | rw [if_neg (by omega), if_neg (by omega), if_neg (by omega), if_pos (by omega)] | rw [if_neg (by omega), if_neg (by omega), if_neg (by omega), if_neg (by omega)]), rfl⟩) : Q := h
theorem A4T (k : Int) (G : IM) : Fn Tryz.prog 209 [.int .i64 k] [] G (I5 (.int .i64 (E6 k)) G) := by
 refine C1 Tryz.func209 rfl Tryz.ntmps209 Tryz.results209 rfl ?_
 intro w0
 refine J1 ?_
 refine C0 ?_
 refine B7 ?_
 refine sB (qE rfl rfl) rfl rfl (fun h16 => ?_) (fun h16 => ?_)
 refine K0 ?_
 exact A0q
 refine A8 ?_
 refine sB (qE rfl rfl) rfl rfl (fun h40 => ?_) (fun h40 => ?_)
 refine K0 ?_
 exact A0q
 refine A8 ?_
 refine sB (qE rfl rfl) rfl rfl (fun h64 => ?_) (fun h64 => ?_)
 refine K0 ?_
 exact A0q
 refine B0 ?_
 refine sB (qE rfl rfl) rfl rfl (fun h87 => ?_) (fun h87 => ?_)
 refine J7 ?_
 exact A0q
 refine B5 ?_
 refine sB (qE rfl rfl) rfl rfl (fun h109 => ?_) (fun h109 => ?_)
 refine K0 ?_
 exact A0q
 refine A8 ?_
 refine sB (qE rfl rfl) rfl rfl (fun h133 => ?_) (fun h133 => ?_)
 refine K0 ?_
 exact A0q
 refine A8 ?_
 refine sB (qE rfl rfl) rfl rfl (fun h157 => ?_) (fun h157 => ?_)
 refine K0 ?_
 exact A0q
 refine A8 ?_
 refine sB (qE rfl rfl) rfl rfl (fun h181 => ?_) (fun h181 => ?_)
 refine K0 ?_
 exact A0q
 refine B0 ?_
 refine sB (qE rfl rfl) rfl rfl (fun h204 => ?_) (fun h204 => ?_)
 refine J7 ?_
 exact A0q
 refine B5 ?_
 refine sB (qE rfl rfl) rfl rfl (fun h226 => ?_) (fun h226 => ?_)
 refine K0 ?_
 exact A0q
 refine A8 ?_
 refine sB (qE rfl rfl) rfl rfl (fun h250 => ?_) (fun h250 => ?_)
 refine K0 ?_
 exact A0q
 refine A8 ?_
 refine sB (qE rfl rfl) rfl rfl (fun h274 => ?_) (fun h274 => ?_)
 refine K0 ?_
 exact A0q
 refine B0 ?_
 refine sB (qE rfl rfl) rfl rfl (fun h297 => ?_) (fun h297 => ?_)
 refine J7 ?_
 exact A0q
 refine A8 ?_
 refine sB (qE rfl rfl) rfl rfl (fun h318 => ?_) (fun h318 => ?_)
 refine J7 ?_
 exact A0q
 refine J9 ?_
 exact A0q
theorem B3M (s : ByteArray) (G : IM) : Fn Tryz.prog 219 [.string s] [] G (I5 (.bool (A07 s)) G) := by
 refine C1 Tryz.func219 rfl Tryz.ntmps219 Tryz.results219 rfl ?_
 intro w0
 refine D1 ?_
 refine sQ (A2p rfl rfl) rfl (sB (qE rfl rfl) rfl rfl (fun h10 => ?_) (fun h10 => ?_))
 refine A3 ?_
 refine sP (A4v rfl rfl rfl (by omega) (A4G (by omega))) rfl rfl ?_
 refine sB (A0I rfl rfl) rfl rfl (fun h14 => ?_) (fun h14 => ?_)
 refine B7 ?_
 refine sP (A4v rfl rfl rfl (by omega) (A4G (by omega))) rfl rfl ?_
 refine sB (Y4 rfl rfl) rfl rfl (fun h19 => ?_) (fun h19 => ?_)
 refine A8 ?_
 exact zq3
 refine A8 ?_
 exact zq3
 refine J1 ?_
 exact zq3
 refine I7 ?_
 exact zq3
theorem A87 (t : Ty) (G : IM) (cells : List Value) (hr : C3 G t cells) : Fn Tryz.prog 236 [.agg ⟨cells⟩] [] G (I5 (.bool (A0K t)) G) := by
 obtain ⟨p, c, es, rfl, hk, hsl, hkl⟩ := hr.open
 refine C1 Tryz.func236 rfl Tryz.ntmps236 Tryz.results236 rfl ?_
 intro w0
 refine A3 ?_
 refine sE (C7 rfl rfl) rfl (fun b3 => ?_)
 refine B5 ?_
 refine sB (qE rfl rfl) rfl rfl (fun h11 => ?_) (fun h11 => ?_)
 refine B4 ?_
 refine sB (qE rfl rfl) rfl rfl (fun h16 => ?_) (fun h16 => ?_)
 refine A8 ?_
 exact zq2
 refine A8 ?_
 exact zq2
 refine J1 ?_
 exact zq2
def A1M (n : Int) : Int := if n < -99 ∨ n > 99 then 0 else if n < 0 then -n else n
theorem A4U {Q : Prop} (h : Q := by exact ⟨rfl, by (unfold A1M; first | rw [if_pos (by omega)] | rw [if_neg (by omega), if_pos (by omega)] | rw [if_neg (by omega), if_neg (by omega)]), rfl⟩) : Q := h
theorem B3N (n : Int) (G : IM) : Fn Tryz.prog 57 [.int .i64 n] [] G (I5 (.int .i64 (A1M n)) G) := by
 refine C1 Tryz.func57 rfl Tryz.ntmps57 Tryz.results57 rfl ?_
 intro w0
 refine E0 ?_
 refine sB (I8 rfl rfl) rfl rfl (fun h10 => ?_) (fun h10 => ?_)
 refine I7 ?_
 exact A4U
 refine A3 ?_
 refine sB (W3 rfl rfl) rfl rfl (fun h29 => ?_) (fun h29 => ?_)
 refine K5 ?_
 exact A4U
 refine J3 ?_
 refine sB (I8 rfl rfl) rfl rfl (fun h53 => ?_) (fun h53 => ?_)
 refine A8 ?_
 refine sP (A4t rfl (by omega) (by omega)) rfl rfl ?_
 refine A8 ?_
 exact A4U
 refine J7 ?_
 exact A4U
theorem Sl.of_blk {G : IM} {b n c sz : Nat} {A C cs : List Value} (hl : cs.length = n * sz) (hc : n ≤ c) (hm : c ≤ maxLen) (hg : G b = some (A ++ (cs ++ C))) : Sl G (some ⟨b, A.length, none⟩) n c sz cs := by
 refine ⟨hl, hc, hm, .inr ⟨b, A.length, _, rfl, hg, fun j v hj => ?_⟩⟩
 have hlt : j < cs.length := (List.getElem?_eq_some_iff.1 hj).1
 rw [List.getElem?_append, if_neg (by omega), List.getElem?_append, if_pos (by omega), show A.length + j - A.length = j by omega]
 exact hj
def InG (G : IM) (bs : A1a) (F : List Nat) : Prop := (bs.map Prod.fst).Sublist F ∧ ∀ q ∈ bs, G q.1 = some q.2
mutual
theorem A3W : ∀ t : Ty, K6 t ≤ 4294967296 → t.small
 | .mk _ ks, h => by
  rw [K6] at h
  have := A13 ks
  simp only [Ty.small]
  exact ⟨by omega, A88 ks (by omega)⟩
theorem A88 : ∀ ts : List Ty, P0 ts ≤ 4294967296 → Ty.smallL ts
 | [], _ => by simp [Ty.smallL]
 | t :: ts, h => by
  rw [P0] at h
  have := A1b t
  have := A13 ts
  simp only [Ty.smallL]
  exact ⟨A3W t (by omega), A88 ts (by omega)⟩
end
mutual
theorem A89 : ∀ t : Tm, A0p t ≤ 4294967296 → t.small
 | .mk _ nm _ ty fr _ ks, h => by
  rw [A0p] at h
  have := A4M ks
  have := A1b ty
  have := A1b fr
  simp only [Tm.small]
  exact ⟨by omega, A3W ty (by omega), A3W fr (by omega), by omega, A9a ks (by omega)⟩
theorem A9a : ∀ ts : List Tm, X6 ts ≤ 4294967296 → Tm.smallL ts
 | [], _ => by simp [Tm.smallL]
 | t :: ts, h => by
  rw [X6] at h
  have := A8O t
  have := A4M ts
  simp only [Tm.smallL]
  exact ⟨A89 t (by omega), A9a ts (by omega)⟩
end
mutual
theorem A6t : ∀ t : Tm, (D3 t : Int) ≤ A0p t + 1
 | .mk _ nm _ ty fr _ ks => by
  have := A9b ks
  have := A1b ty
  have := A1b fr
  rw [A0p, D3]; omega
theorem A9b : ∀ ts : List Tm, (E7 ts : Int) ≤ ts.length + X6 ts
 | [] => by rw [X6, E7]; simp
 | t :: ts => by
  have := A6t t
  have := A9b ts
  rw [X6, E7, List.length_cons]; omega
end
def O8 : Ty := .mk 1 []
def Q6 : Nat → Ty → Prop
 | 0, .mk k ks => ks = [] ∧ k ≠ 4 ∧ k ≠ 5
 | n + 1, .mk k ks => (k = 4 ∨ k = 5 → ks.length = 2) ∧ (k ≠ 4 → k ≠ 5 → ks.length = 0) ∧ ∀ t ∈ ks, Q6 n t
mutual
def F9 : Ty → Prop
 | .mk k ks => (k = 4 ∨ k = 5 → ks.length = 2) ∧ (k ≠ 4 → k ≠ 5 → ks.length = 0) ∧ A0U ks
def A0U : List Ty → Prop
 | [] => True
 | t :: ts => F9 t ∧ A0U ts
end
theorem A1N : ∀ {ts : List Ty}, A0U ts ↔ ∀ t ∈ ts, F9 t
 | [] => by simp [A0U]
 | t :: ts => by simp only [A0U, A1N (ts := ts), List.forall_mem_cons]
theorem Q6.ar : ∀ {n : Nat} {t : Ty}, Q6 n t → F9 t
 | 0, .mk k ks, h => by
  obtain ⟨rfl, h1, h2⟩ := h
  rw [F9]
  exact ⟨fun h => by omega, fun _ _ => rfl, by rw [A0U]; trivial⟩
 | n + 1, .mk k ks, h => by
  obtain ⟨h1, h2, h3⟩ := h
  rw [F9]
  exact ⟨h1, h2, A1N.2 fun t ht => (h3 t ht).ar⟩
theorem Q6.up : ∀ {n : Nat} {t : Ty}, Q6 n t → Q6 (n + 1) t
 | 0, .mk k ks, h => by
  obtain ⟨rfl, h1, h2⟩ := h
  exact ⟨fun h => by omega, fun _ _ => rfl, by simp⟩
 | n + 1, .mk k ks, h => by
  obtain ⟨h1, h2, h3⟩ := h
  exact ⟨h1, h2, fun t ht => (h3 t ht).up⟩
theorem Q6.le {n m : Nat} {t : Ty} (h : Q6 n t) (hm : n ≤ m) : Q6 m t := by
 induction hm with
 | refl => exact h
 | step _ ih => exact ih.up
theorem B3O {d : Nat} {k : Int} {ts : List Ty} (h0 : d = 0 → k < 4) (hl : (ts.length : Int) = U8 k) (h1 : 1 ≤ k) (h5 : k ≤ 5) (ha : ∀ u ∈ ts, Q6 (d - 1) u) : Q6 d (.mk k ts) := by
 have hk : k = 1 ∨ k = 2 ∨ k = 3 ∨ k = 4 ∨ k = 5 := by omega
 cases d with
 | zero =>
  have hk4 := h0 rfl
  refine ⟨?_, by omega, by omega⟩
  have : U8 k = 0 := by
   rcases hk with rfl | rfl | rfl | rfl | rfl <;> first | rfl | omega
  exact List.length_eq_zero_iff.1 (by omega)
 | succ d =>
  refine ⟨?_, ?_, ha⟩
  ·rintro (rfl | rfl)
   ·have : U8 4 = 2 := rfl
    omega
   ·have : U8 5 = 2 := rfl
    omega
  ·intro h4 h5
   have : U8 k = 0 := by
    rcases hk with rfl | rfl | rfl | rfl | rfl <;> first | rfl | omega
   omega
theorem A9c (n : Nat) : Q6 n O8 := by
 refine Q6.le (n := 0) ⟨rfl, by decide, by decide⟩ (Nat.zero_le n)
theorem A3b (n : Nat) {k : Int} (h4 : k ≠ 4) (h5 : k ≠ 5) : Q6 n (.mk k []) := Q6.le (n := 0) ⟨rfl, h4, h5⟩ (Nat.zero_le n)
theorem A3X : F9 O8 := (A9c 0).ar
mutual
theorem F9.small : ∀ {t : Ty}, F9 t → t.small
 | .mk k ks, h => by
  rw [F9] at h
  rw [Ty.small]
  exact ⟨by have h1 := h.1; have h2 := h.2.1; omega, A0U.small h.2.2⟩
theorem A0U.small : ∀ {ts : List Ty}, A0U ts → Ty.smallL ts
 | [], _ => by rw [Ty.smallL]; trivial
 | t :: ts, h => by
  rw [A0U] at h
  rw [Ty.smallL]
  exact ⟨h.1.small, A0U.small h.2⟩
end
theorem A4V : ∀ {n : Nat} {t : Ty}, Q6 n t → K6 t ≤ ((2 ^ (n + 1) - 2 : Nat) : Int)
 | 0, .mk k ks, h => by
  obtain ⟨rfl, h1, h2⟩ := h
  rw [K6, P0]; simp
 | n + 1, .mk k ks, h => by
  obtain ⟨h1, h2, h3⟩ := h
  have hp : 2 ≤ 2 ^ (n + 1) := by
   have := Nat.pow_le_pow_right (n := 2) (by omega) (show 1 ≤ n + 1 by omega)
   simpa using this
  have e : 2 ^ (n + 1 + 1) = 2 ^ (n + 1) * 2 := Nat.pow_succ ..
  have hl : ks.length = 0 ∨ ks.length = 2 := by omega
  rw [K6]
  match ks, hl, h3 with
  | [], _, _ => rw [P0]; simp
  | [a, b], _, h3 =>
   have := A4V (h3 a (by simp))
   have := A4V (h3 b (by simp))
   simp only [P0, List.length_cons, List.length_nil]; omega
theorem B3P {k : Int} {ks us : List Ty} : ∀ {n : Nat}, Q6 n (.mk k ks) → us.length = ks.length → (∀ u ∈ us, Q6 (n - 1) u) → Q6 n (.mk k us)
 | 0, h, hl, _ => by
  obtain ⟨rfl, h1, h2⟩ := h
  exact ⟨List.length_eq_zero_iff.1 (by simpa using hl), h1, h2⟩
 | n + 1, h, hl, hu => by
  obtain ⟨h1, h2, h3⟩ := h
  exact ⟨fun hk => by rw [hl]; exact h1 hk, fun a b => by rw [hl]; exact h2 a b, hu⟩
theorem A6u {k : Int} {ks : List Ty} {t : Ty} : ∀ {n : Nat}, Q6 n (.mk k ks) → t ∈ ks → Q6 (n - 1) t
 | 0, h, ht => by
  obtain ⟨rfl, h1, h2⟩ := h
  simp at ht
 | n + 1, h, ht => h.2.2 t ht
theorem A9d {k : Int} {ks : List Ty} {d : Int} (h : 4 < d ∨ U8 k ≠ ks.length) : P5 (.mk k ks) d = false := by
 rw [P5]
 rcases h with h | h
 ·rw [decide_eq_false (by omega)]; rfl
 ·rw [decide_eq_false (p := U8 k = ks.length) h, Bool.and_false]; rfl
theorem A9e {k : Int} {ks : List Ty} {d : Int} (h : d ≤ 4) (h2 : U8 k = ks.length) : P5 (.mk k ks) d = T5 ks (d + 1) := by
 rw [P5, decide_eq_true h, decide_eq_true h2]; rfl
theorem B3Q {ks : List Ty} {d : Int} {i : Nat} (hi : i < ks.length) (h : P5 ks[i] d = false) : T5 ks d = false := by
 cases hx : T5 ks d with
 | false => rfl
 | true => rw [(A4F ks d).1 hx i hi] at h; cases h
theorem A4W {Q : Prop} (h : Q := by exact ⟨by omega, fun j hj hji => by (by_cases he : j = i; (subst he; assumption); exact hf j hj (by omega))⟩) : Q := h
theorem B3R : ∀ (t : Ty) (d : Int) (G : IM) (cells : List Value), 0 ≤ d ∧ d ≤ 4 → C3 G t cells →
  Fn Tryz.prog 187 [.agg ⟨cells⟩, .int .i64 d] [] G (I5 (.bool (P5 t (5 - d))) G) := by
 refine Ty.ind fun k ks ih d G cells hd hr => ?_
 obtain ⟨p, c, es, rfl, hk, hsl, hkl⟩ := hr.open
 simp only [Ty.k, Ty.ks] at hk hsl hkl ⊢
 have hn := hsl.le
 have hk1 := A86 k G
 refine C1 Tryz.func187 rfl Tryz.ntmps187 Tryz.results187 rfl ?_
 intro w0
 refine A3 ?_
 refine sE (C7 rfl rfl) rfl (fun b3 => ?_)
 refine B0 ?_
 refine E2 E4 rfl ?_
 refine J4 (i := 0) (l' := [tt,ff,ff,ff,ff,ff,ff,ff,ff,ff,ff]) rfl D6 (qM rfl) rfl (by kernel_rfl) rfl rfl ?_
 refine A0v (i := 1) (l' := [tt,tt,ff,ff,ff,ff,ff,ff,ff,ff,ff]) rfl D6 (I8 rfl rfl) rfl (by kernel_rfl) rfl rfl (fun h11 => ?_) (fun h11 => ?_)
 refine aP 2 rfl (qM rfl) rfl ?_
 refine C4 3 rfl rfl rfl ?_
 refine C4 4 rfl rfl rfl ?_
 refine C4 6 rfl rfl rfl ?_
 refine C4 7 rfl rfl rfl ?_
 refine C4 8 rfl rfl rfl ?_
 refine C4 5 rfl rfl rfl ?_
 refine C4 9 rfl rfl rfl ?_
 refine aP 10 rfl (M9 rfl rfl) rfl ?_
 refine J1 ?_
 (rw [A9d (by omega)]; exact ⟨rfl, rfl, rfl⟩)
 refine aP 2 rfl (qM rfl) rfl ?_
 refine aP 3 rfl (B9 rfl) rfl ?_
 refine aL 4 rfl (C8 rfl rfl) rfl ?_
 refine aP 6 rfl (B9 rfl) rfl ?_
 refine aL 7 rfl (C8 rfl rfl) rfl ?_
 refine aP 8 rfl (pLn rfl rfl) rfl ?_
 refine A4 5 ?_
 refine N3 rfl rfl (hk1) rfl rfl rfl ?_
 refine A0v (i := 9) (l' := [tt,tt,tt,tt,tt,tt,tt,tt,tt,tt,ff]) rfl D6 (N5 rfl rfl) rfl (by kernel_rfl) rfl rfl (fun h41 => ?_) (fun h41 => ?_)
 refine aP 10 rfl (O6 rfl rfl) rfl ?_
 refine J1 ?_
 (rw [A9d (by omega)]; exact ⟨rfl, rfl, rfl⟩)
 refine aP 10 rfl (O6 rfl rfl) rfl ?_
 refine J1 ?_
 refine C0 ?_
 (refine J0 (fun (i : Nat) => ⟨[(5, .int .i64 i), (2, .pointer (some ⟨b3, 0, none⟩)), (1, .int .i64 d)], [.blk b3 [.int .i64 k, .slice p ks.length c]], G⟩) (fun i => i ≤ ks.length ∧ ∀ j (h : j < ks.length), j < i → P5 ks[j] (5 - d + 1) = true) (fun i => ks.length - i) 0 ?_ ?_ ?_)
 exact D2
 exact ⟨by omega, by omega⟩
 (rintro i ⟨hi, hf⟩)
 refine B5 ?_
 refine sB (I8 rfl rfl) rfl rfl (fun h79 => ?_) (fun h79 => ?_)
 refine A8 ?_
 refine C0 ?_
 refine B0 ?_
 (obtain ⟨b, o, p2, c2, rfl, hat, hre, hgb⟩ := hsl.kidTy hkl (i := i) (by omega) (by omega); refine sP (B6 rfl rfl rfl (by omega)) rfl rfl ?_)
 refine sL (A2 rfl rfl (hat _) rfl) rfl rfl ?_
 refine E3 ?_
 refine sP (O9 rfl rfl (by omega) (by omega)) rfl rfl ?_
 (have hih := ih ks[i] (List.getElem_mem (by omega)) (d - 1) G _ (by omega) hre; rw [show 5 - (d - 1) = 5 - d + 1 by omega] at hih; refine F4 rfl hih rfl rfl (fun h96 => ?_) (fun h96 => ?_))
 refine E0 ?_
 refine sP (H5 rfl rfl (by omega) (by omega)) rfl rfl ?_
 refine A3 ?_
 refine I1 (i + 1) ?_ ?_ ?_
 exact D2
 exact A4W
 omega
 refine K0 ?_
 (rw [A9e (by omega) (by omega), B3Q (i := i) (by omega) (by assumption)]; exact ⟨rfl, rfl, rfl⟩)
 refine I7 ?_
 (rw [A9e (by omega) (by omega), (A4F ks _).2 (fun j hj => hf j hj (by omega))]; exact ⟨rfl, rfl, rfl⟩)
theorem A1O (t : Ty) (G : IM) (cells : List Value) (hr : C3 G t cells) : Fn Tryz.prog 137 [.agg ⟨cells⟩] [] G (I5 (.bool (H1 t)) G) := by
 have hl := hr.len
 have hv := B3R t 4 G cells (by omega) hr
 refine C1 Tryz.func137 rfl Tryz.ntmps137 Tryz.results137 rfl ?_
 intro w0
 refine A3 ?_
 refine sE (C7 rfl rfl) rfl (fun b3 => ?_)
 refine B0 ?_
 refine sL (A2 rfl rfl (A9 (by repeat first | exact mH | apply mT)) (by assumption)) rfl rfl ?_
 refine E8 rfl (hv) rfl rfl ?_
 refine B0 ?_
 exact ⟨rfl, rfl, rfl⟩
theorem A3Y {k : Int} {ks : List Ty} {d : Int} (h : P5 (.mk k ks) d = true) : U8 k = ks.length ∧ ∀ i, (hi : i < ks.length) → P5 ks[i] (d + 1) = true := by
 rw [P5] at h
 simp only [Bool.and_eq_true, decide_eq_true_eq] at h
 exact ⟨h.1.2, (A4F ks _).1 h.2⟩
theorem B3S {k k' : Int} {ks ks' : List Ty} (h : k = 1 ∨ k' = 1) : K4 (.mk k ks) (.mk k' ks') = true := by
 rw [U9]
 rcases h with h | h
 ·rw [decide_eq_true (p := k = 1) h]; rfl
 ·rw [decide_eq_true (p := k' = 1) h]; simp
theorem A9f {k k' : Int} {ks ks' : List Ty} (h : k ≠ 1) (h' : k' ≠ 1) (hk : k ≠ k') : K4 (.mk k ks) (.mk k' ks') = false := by
 rw [U9, decide_eq_false h, decide_eq_false h', decide_eq_false hk]; rfl
theorem A9g {k k' : Int} {ks ks' : List Ty} (h : k ≠ 1) (h' : k' ≠ 1) (hk : k = k') : K4 (.mk k ks) (.mk k' ks') = N6 ks ks' := by
 rw [U9, decide_eq_false h, decide_eq_false h', decide_eq_true hk]; rfl
theorem B3T {ks ks' : List Ty} {i : Nat} (hi : i < ks.length) (hi' : i < ks'.length) (h : K4 ks[i] ks'[i] = false) : N6 ks ks' = false := by
 cases hx : N6 ks ks' with
 | false => rfl
 | true => rw [((A2w ks ks').1 hx).2 i hi hi'] at h; cases h
theorem A4X {Q : Prop} (h : Q := by (rw [B3S (by omega)]; exact ⟨rfl, rfl, rfl⟩)) : Q := h
theorem A9h {Q : Prop} (h : Q := by exact ⟨by omega, fun j hj hj' hji => by (by_cases he : j = i; (subst he; assumption); exact hf j hj hj' (by omega))⟩) : Q := h
theorem A9i {Q : Prop} (h : Q := by (rw [A9g (by omega) (by omega) (by omega), B3T (i := i) (by omega) (by omega) (by assumption)]; exact ⟨rfl, rfl, rfl⟩)) : Q := h
theorem A9j {Q : Prop} (h : Q := by (rw [A9g (by omega) (by omega) (by omega), (A2w ks _).2 ⟨hll, fun j hj hj' => hf j hj hj' (by omega)⟩]; exact ⟨rfl, rfl, rfl⟩)) : Q := h
theorem B3U : ∀ (t t' : Ty) (G : IM) (cells cells' : List Value) (d d' : Int), P5 t d = true → P5 t' d' = true → C3 G t cells → C3 G t' cells' →
  Fn Tryz.prog 163 [.agg ⟨cells⟩, .agg ⟨cells'⟩] [] G (I5 (.bool (K4 t t')) G) := by
 refine Ty.ind fun k ks ih t' G cells cells' d d' hv hv' hr hr' => ?_
 obtain ⟨k', ks'⟩ := t'
 obtain ⟨p, c, es, rfl, hk, hsl, hkl⟩ := hr.open
 obtain ⟨p', c', es', rfl, hk', hsl', hkl'⟩ := hr'.open
 simp only [Ty.k, Ty.ks] at hk hsl hkl hk' hsl' hkl' ⊢
 have hn := hsl.le
 have hn' := hsl'.le
 obtain ⟨hv1, hv2⟩ := A3Y hv
 obtain ⟨hv1', hv2'⟩ := A3Y hv'
 have hle : k = k' → ks.length = ks'.length := by rintro rfl; omega
 refine C1 Tryz.func163 rfl Tryz.ntmps163 Tryz.results163 rfl ?_
 intro w0
 refine A3 ?_
 refine sE (C7 rfl rfl) rfl (fun b3 => ?_)
 refine sE (C7 rfl rfl) rfl (fun b4 => ?_)
 refine D1 ?_
 refine sB (qE rfl rfl) rfl rfl (fun h13 => ?_) (fun h13 => ?_)
 refine K0 ?_
 exact A4X
 refine B7 ?_
 refine sB (qE rfl rfl) rfl rfl (fun h34 => ?_) (fun h34 => ?_)
 refine K5 ?_
 exact A4X
 refine J7 ?_
 refine sB (N5 rfl rfl) rfl rfl (fun h61 => ?_) (fun h61 => ?_)
 refine J1 ?_
 (rw [A9f (by omega) (by omega) (by omega)]; exact ⟨rfl, rfl, rfl⟩)
 refine J1 ?_
 refine C0 ?_
 (have hll : ks.length = ks'.length := hle (by omega); refine J0 (fun (i : Nat) => ⟨[(5, .int .i64 i), (3, .pointer (some ⟨b4, 0, none⟩)), (2, .pointer (some ⟨b3, 0, none⟩))], [.blk b3 [.int .i64 k, .slice p ks.length c], .blk b4 [.int .i64 k', .slice p' ks'.length c']], G⟩) (fun i => i ≤ ks.length ∧ ∀ j (h : j < ks.length) (h' : j < ks'.length), j < i → K4 ks[j] ks'[j] = true) (fun i => ks.length - i) 0 ?_ ?_ ?_)
 exact D2
 exact ⟨by omega, by omega⟩
 (rintro i ⟨hi, hf⟩)
 refine B5 ?_
 refine sB (I8 rfl rfl) rfl rfl (fun h97 => ?_) (fun h97 => ?_)
 refine A8 ?_
 refine C0 ?_
 refine tS ?_
 (obtain ⟨b, o, p2, c2, rfl, hat, hre, hgb⟩ := hsl.kidTy hkl (i := i) (by omega) (by omega); obtain ⟨b', o', p2', c2', rfl, hat', hre', hgb'⟩ := hsl'.kidTy hkl' (i := i) (by omega) (by omega); refine E2 E4 rfl ?_)
 refine J4 (i := 0) (l' := [tt,ff,ff,ff,ff,ff,ff,ff,ff,ff,ff,ff]) rfl D6 (B9 rfl) rfl (by kernel_rfl) rfl rfl ?_
 refine aL 1 rfl (C8 rfl rfl) rfl ?_
 refine aP 2 rfl (qM rfl) rfl ?_
 refine aP 3 rfl (B6 rfl rfl rfl (by omega)) rfl ?_
 refine aL 4 rfl (A2 rfl rfl (hat _) rfl) rfl ?_
 refine aP 5 rfl (B9 rfl) rfl ?_
 refine aL 6 rfl (C8 rfl rfl) rfl ?_
 refine aP 7 rfl (qM rfl) rfl ?_
 refine aP 8 rfl (B6 rfl rfl rfl (by omega)) rfl ?_
 refine aL 9 rfl (A2 rfl rfl (hat' _) rfl) rfl ?_
 refine A4 10 ?_
 refine T8 rfl rfl (ih ks[i] (List.getElem_mem (by omega)) ks'[i] G _ _ _ _ (hv2 i (by omega)) (hv2' i (by omega)) hre hre') rfl rfl rfl (fun h118 => ?_) (fun h118 => ?_)
 refine aP 11 rfl (pNt rfl) rfl ?_
 refine D1 ?_
 refine sP (H5 rfl rfl (by omega) (by omega)) rfl rfl ?_
 refine A3 ?_
 refine I1 (i + 1) ?_ ?_ ?_
 exact D2
 exact A9h
 omega
 refine aP 11 rfl (pNf rfl) rfl ?_
 refine I7 ?_
 exact A9i
 refine I7 ?_
 exact A9j
section blaws
variable {P : Program} {Γ : L7} {env : M2} {hp : List A6} {G : IM} {ty : TypeId}
theorem A0N {x y : Operand} {t t' : TypeId} {i : K9} [hI : I6 P t i] (hd : i.desc = .bool) {r : Bool} (hx : evo env x = some (.bool r)) (hy : evo env y = some (.bool r)) :
  I4 P Γ ⟨env, hp, G⟩ (.binOp .neq t x y t') ty (.bool false) := by
 have h := A5W (P := P) (Γ := Γ) (hp := hp) (G := G) (t := t) (t' := t') (ty := ty) hd hx hy
 rwa [decide_eq_false (by simp)] at h
theorem A9k {x y : Operand} {t t' : TypeId} {i : K9} [hI : I6 P t i] (hd : i.desc = .bool) (hx : evo env x = some (.bool true)) (hy : evo env y = some (.bool false)) :
  I4 P Γ ⟨env, hp, G⟩ (.binOp .neq t x y t') ty (.bool true) := A5W hd hx hy
theorem A6v {x y : Operand} {t t' : TypeId} {i : K9} [hI : I6 P t i] (hd : i.desc = .bool) (hx : evo env x = some (.bool false)) (hy : evo env y = some (.bool true)) :
  I4 P Γ ⟨env, hp, G⟩ (.binOp .neq t x y t') ty (.bool true) := A5W hd hx hy
end blaws
theorem B3V (n : Int) : ((1 ≤ A1M n ∧ A1M n ≤ 99) ↔ A08 n = true) := by
 unfold A1M A08 O7
 simp only [Bool.or_eq_true, decide_eq_true_eq]
 split
 ·omega
 ·split <;> omega
theorem A2z {Q : Prop} (h : Q := by exact ⟨rfl, by (cases R with | false => rfl | true => (exfalso; obtain ⟨i1, i2, i3, i4, i5, i6⟩ := hi.1 rfl; first | omega | (simp_all; done))), rfl⟩) : Q := h
theorem B3W (k : Int) (nm : ByteArray) (num : Int) (ty fr : Ty) (lb : Int) (ks : List Tm) (G : IM) (cells : List Value) (hr : B1 G (.mk k nm num ty fr lb ks) cells) (R : Bool)
  (hi : R = true ↔ nm = ⟨#[]⟩ ∧ num = 0 ∧ (1 ≤ A1M lb ∧ A1M lb ≤ 99) ∧ H1 ty = true ∧ H1 fr = true ∧ K4 fr ty = true) :
  Fn Tryz.prog 222 [.agg ⟨cells⟩] [] G (I5 (.bool R) G) := by
 obtain ⟨tk, tks⟩ := ty
 obtain ⟨fk, fks⟩ := fr
 obtain ⟨pt, ct, pf, cf, p, c, es, rfl, hk, hnum, hlb, hty, hfr, hsl, hkl⟩ := hr.open9
 clear hr
 have o3 := A1O _ G _ hty
 have o4 := A1O _ G _ hfr
 have o6 := B3N lb G
 refine C1 Tryz.func222 rfl Tryz.ntmps222 Tryz.results222 rfl ?_
 intro w0
 refine A3 ?_
 refine sE (C7 rfl rfl) rfl (fun b3 => ?_)
 refine B5 ?_
 refine E8 rfl (o6) rfl rfl ?_
 refine B5 ?_
 refine sB (A1G rfl rfl) rfl rfl (fun h19 => ?_) (fun h19 => ?_)
 refine B7 ?_
 refine sB (qE rfl rfl) rfl rfl (fun h23 => ?_) (fun h23 => ?_)
 refine B7 ?_
 refine sB (A0I rfl rfl) rfl rfl (fun h27 => ?_) (fun h27 => ?_)
 refine B7 ?_
 refine sB (Y4 rfl rfl) rfl rfl (fun h31 => ?_) (fun h31 => ?_)
 refine B4 ?_
 refine F4 rfl (o3) rfl rfl (fun h36 => ?_) (fun h36 => ?_)
 refine B4 ?_
 refine F4 rfl (o4) rfl rfl (fun h41 => ?_) (fun h41 => ?_)
 refine A8 ?_
 refine F4 rfl (B3U _ _ G _ _ _ _ (by assumption) (by assumption) hfr hty) rfl rfl (fun h48 => ?_) (fun h48 => ?_)
 refine A8 ?_
 exact ⟨rfl, by rw [hi.2 ⟨by (first | assumption | exact Classical.not_not.1 (by assumption)), by omega, by omega, by assumption, by assumption, by assumption⟩], rfl⟩
 refine A8 ?_
 exact A2z
 refine J7 ?_
 exact A2z
 refine U7 ?_
 exact A2z
 refine A06 ?_
 exact A2z
 refine A58 ?_
 exact A2z
 refine A0f ?_
 refine E3 ?_
 exact A2z
 refine A0f ?_
 refine B0 ?_
 exact A2z
theorem S5 {Q : Prop} (h : Q := by exact ⟨rfl, by (cases R with | false => rfl | true => (exfalso; obtain ⟨i1, i2, i3, i4, i5, i6, i7⟩ := hi.1 rfl; first | omega | (have j := i1 (by omega); simp_all; done) | (have j := he (i2 (by omega)); simp_all; done) | (have j := i2 (by omega); simp_all; done) | (have j := i3 (by omega); simp_all; done) | (have j := i4 (by omega); simp_all; done) | (have j := i5 (by omega); simp_all; done))), rfl⟩) : Q := h
theorem A3c {Q : Prop} (h : Q := by exact ⟨rfl, by rw [hi.2 ⟨fun _ => by (first | assumption | (exfalso; omega)), fun _ => by (first | assumption | (exfalso; omega) | exact Classical.not_not.1 (by assumption)), fun _ => by (first | assumption | (exfalso; omega)), fun _ => by (first | assumption | (exfalso; omega)), fun _ => ⟨by (first | assumption | (exfalso; omega)), by (first | assumption | omega)⟩, by omega, by omega⟩], rfl⟩) : Q := h
theorem A9l (k : Int) (nm : ByteArray) (num : Int) (ty fr : Ty) (lb : Int) (ks : List Tm) (G : IM) (cells : List Value) (hr : B1 G (.mk k nm num ty fr lb ks) cells) (R : Bool)
  (hi : R = true ↔ (k = 1 ∨ k = 5 → A07 nm = true) ∧ (¬(k = 1 ∨ k = 5) → nm = ⟨#[]⟩) ∧ (k = 5 ∨ k = 13 ∨ k = 14 → H1 ty = true) ∧ (¬(k = 5 ∨ k = 13 ∨ k = 14) → A0K ty = true) ∧ (k ≠ 14 → A0K fr = true ∧ lb = 0) ∧ (k = 2 → 0 ≤ num ∧ num ≤ 999) ∧ (k ≠ 2 → num = 0)) :
  Fn Tryz.prog 220 [.agg ⟨cells⟩] [] G (I5 (.bool R) G) := by
 have he : nm = ⟨#[]⟩ → A07 nm = false := by rintro rfl; rfl
 obtain ⟨tk, tks⟩ := ty
 obtain ⟨fk, fks⟩ := fr
 obtain ⟨pt, ct, pf, cf, p, c, es, rfl, hk, hnum, hlb, hty, hfr, hsl, hkl⟩ := hr.open9
 clear hr
 have o2 := B3M nm G
 have o3 := A1O _ G _ hty
 have o4 := A87 _ G _ hty
 have o7 := A87 _ G _ hfr
 refine C1 Tryz.func220 rfl Tryz.ntmps220 Tryz.results220 rfl ?_
 intro w0
 refine A3 ?_
 refine sE (C7 rfl rfl) rfl (fun b3 => ?_)
 refine B5 ?_
 refine sB (qE rfl rfl) rfl rfl (fun h11 => ?_) (fun h11 => ?_)
 refine K5 ?_
 refine sP (J8 rfl rfl (by omega)) rfl rfl ?_
 refine B7 ?_
 refine sP (J8 rfl rfl (by omega)) rfl rfl ?_
 refine B4 ?_
 refine sP (J8 rfl rfl (by omega)) rfl rfl ?_
 refine J3 ?_
 refine F4 rfl (o2) rfl rfl (fun h44 => ?_) (fun h44 => ?_)
 refine sQ (A0N rfl rfl rfl) rfl ?_
 refine A26 ?_
 refine F4 rfl (o4) rfl rfl (fun h70 => ?_) (fun h70 => ?_)
 refine J7 ?_
 refine sP (A0n rfl rfl (by omega)) rfl rfl ?_
 refine B7 ?_
 refine F4 rfl (o7) rfl rfl (fun h88 => ?_) (fun h88 => ?_)
 refine B4 ?_
 refine sB (N5 rfl rfl) rfl rfl (fun h93 => ?_) (fun h93 => ?_)
 refine J7 ?_
 exact S5
 refine K5 ?_
 refine sP (J8 rfl rfl (by omega)) rfl rfl ?_
 refine E0 ?_
 refine sB (qE rfl rfl) rfl rfl (fun h130 => ?_) (fun h130 => ?_)
 refine B0 ?_
 exact A3c
 refine B0 ?_
 exact S5
 refine U7 ?_
 exact S5
 refine J9 ?_
 exact S5
 refine sQ (A9k rfl rfl rfl) rfl ?_
 refine A0f ?_
 refine E0 ?_
 exact S5
 refine B7 ?_
 refine sB (qE rfl rfl) rfl rfl (fun h221 => ?_) (fun h221 => ?_)
 refine D1 ?_
 refine sP (X5 rfl rfl (by omega)) rfl rfl ?_
 refine A0y ?_
 refine F4 rfl (o2) rfl rfl (fun h250 => ?_) (fun h250 => ?_)
 refine sQ (A0N rfl rfl rfl) rfl ?_
 refine J9 ?_
 refine F4 rfl (o3) rfl rfl (fun h266 => ?_) (fun h266 => ?_)
 refine A06 ?_
 refine sP (A0n rfl rfl (by omega)) rfl rfl ?_
 refine B7 ?_
 refine F4 rfl (o7) rfl rfl (fun h294 => ?_) (fun h294 => ?_)
 refine B4 ?_
 refine sB (N5 rfl rfl) rfl rfl (fun h299 => ?_) (fun h299 => ?_)
 refine J7 ?_
 exact S5
 refine K5 ?_
 refine sP (J8 rfl rfl (by omega)) rfl rfl ?_
 refine E0 ?_
 refine sB (qE rfl rfl) rfl rfl (fun h336 => ?_) (fun h336 => ?_)
 refine B0 ?_
 exact A3c
 refine B0 ?_
 exact S5
 refine U7 ?_
 exact S5
 refine A26 ?_
 exact S5
 refine sQ (A9k rfl rfl rfl) rfl ?_
 refine A0f ?_
 refine E0 ?_
 exact S5
 refine D1 ?_
 refine sP (J8 rfl rfl (by omega)) rfl rfl ?_
 refine B7 ?_
 refine sB (qE rfl rfl) rfl rfl (fun h446 => ?_) (fun h446 => ?_)
 refine I7 ?_
 refine F4 rfl (o2) rfl rfl (fun h462 => ?_) (fun h462 => ?_)
 refine sQ (A6v rfl rfl rfl) rfl ?_
 refine A0f ?_
 refine E0 ?_
 exact S5
 refine sQ (A0N rfl rfl rfl) rfl ?_
 refine A8 ?_
 refine sB (A1Z rfl rfl) rfl rfl (fun h511 => ?_) (fun h511 => ?_)
 refine A0f ?_
 refine A3 ?_
 exact S5
 refine B5 ?_
 refine F4 rfl (o3) rfl rfl (fun h552 => ?_) (fun h552 => ?_)
 refine A06 ?_
 refine sP (A0n rfl rfl (by omega)) rfl rfl ?_
 refine B7 ?_
 refine F4 rfl (o7) rfl rfl (fun h580 => ?_) (fun h580 => ?_)
 refine B4 ?_
 refine sB (N5 rfl rfl) rfl rfl (fun h585 => ?_) (fun h585 => ?_)
 refine J7 ?_
 exact S5
 refine K5 ?_
 refine sP (J8 rfl rfl (by omega)) rfl rfl ?_
 refine E0 ?_
 refine sB (qE rfl rfl) rfl rfl (fun h622 => ?_) (fun h622 => ?_)
 refine B0 ?_
 exact A3c
 refine B0 ?_
 exact S5
 refine U7 ?_
 exact S5
 refine A26 ?_
 exact S5
 refine B4 ?_
 refine sB (qE rfl rfl) rfl rfl (fun h683 => ?_) (fun h683 => ?_)
 refine J3 ?_
 refine F4 rfl (o2) rfl rfl (fun h694 => ?_) (fun h694 => ?_)
 refine sQ (A6v rfl rfl rfl) rfl ?_
 refine A0f ?_
 refine E0 ?_
 exact S5
 refine sQ (A0N rfl rfl rfl) rfl ?_
 refine A8 ?_
 refine sB (A1Z rfl rfl) rfl rfl (fun h743 => ?_) (fun h743 => ?_)
 refine A0f ?_
 refine A3 ?_
 exact S5
 refine B5 ?_
 refine F4 rfl (o3) rfl rfl (fun h784 => ?_) (fun h784 => ?_)
 refine A06 ?_
 refine sP (A24 rfl rfl (by omega)) rfl rfl ?_
 refine A0z ?_
 refine sP (J8 rfl rfl (by omega)) rfl rfl ?_
 refine E0 ?_
 refine sB (qE rfl rfl) rfl rfl (fun h840 => ?_) (fun h840 => ?_)
 refine B0 ?_
 exact A3c
 refine B0 ?_
 exact S5
 refine A26 ?_
 exact S5
 refine J3 ?_
 refine F4 rfl (o2) rfl rfl (fun h888 => ?_) (fun h888 => ?_)
 refine sQ (A6v rfl rfl rfl) rfl ?_
 refine A0f ?_
 refine E0 ?_
 exact S5
 refine sQ (A0N rfl rfl rfl) rfl ?_
 refine A8 ?_
 refine sB (A1Z rfl rfl) rfl rfl (fun h937 => ?_) (fun h937 => ?_)
 refine A0f ?_
 refine A3 ?_
 exact S5
 refine Q5 ?_
 refine F4 rfl (o4) rfl rfl (fun h988 => ?_) (fun h988 => ?_)
 refine J7 ?_
 refine sP (A0n rfl rfl (by omega)) rfl rfl ?_
 refine B7 ?_
 refine F4 rfl (o7) rfl rfl (fun h1006 => ?_) (fun h1006 => ?_)
 refine B4 ?_
 refine sB (N5 rfl rfl) rfl rfl (fun h1011 => ?_) (fun h1011 => ?_)
 refine J7 ?_
 exact S5
 refine K5 ?_
 refine sB (qE rfl rfl) rfl rfl (fun h1038 => ?_) (fun h1038 => ?_)
 refine B5 ?_
 refine sB (A0I rfl rfl) rfl rfl (fun h1046 => ?_) (fun h1046 => ?_)
 refine B7 ?_
 refine sB (Y4 rfl rfl) rfl rfl (fun h1050 => ?_) (fun h1050 => ?_)
 refine B5 ?_
 exact A3c
 refine B5 ?_
 exact S5
 refine J1 ?_
 exact S5
 refine E0 ?_
 refine sB (qE rfl rfl) rfl rfl (fun h1088 => ?_) (fun h1088 => ?_)
 refine B0 ?_
 exact A3c
 refine B0 ?_
 exact S5
 refine U7 ?_
 exact S5
 refine J9 ?_
 exact S5
mutual
def M8 (D N : Int) : Tm → Int → Bool
 | .mk k nm num ty fr lb ks, deep => decide (deep ≤ D) && decide (k ≠ N) && V8 k nm num ty fr lb ks.length && M4 D N ks (deep + 1)
def M4 (D N : Int) : List Tm → Int → Bool
 | [], _ => true
 | t :: ts, deep => M8 D N t deep && M4 D N ts deep
end
theorem A1n (D N : Int) : ∀ (ts : List Tm) (d : Int), M4 D N ts d = true ↔ ∀ i, (h : i < ts.length) → M8 D N ts[i] d = true
 | [], d => by simp [M4]
 | t :: ts, d => by
  simp only [M4, Bool.and_eq_true, A1n D N ts d]
  constructor
  ·rintro ⟨h1, h2⟩ i hi
   cases i with
   | zero => exact h1
   | succ i => exact h2 i (by simpa using hi)
  ·intro h
   exact ⟨h 0 (by simp), fun i hi => h (i + 1) (by simpa using hi)⟩
theorem A9m {D N : Int} {k : Int} {nm : ByteArray} {num : Int} {ty fr : Ty} {lb : Int} {ks : List Tm} {d : Int} (h : D < d ∨ k = N ∨ V8 k nm num ty fr lb ks.length = false) : M8 D N (.mk k nm num ty fr lb ks) d = false := by
 rw [M8]
 rcases h with h | h | h
 ·rw [decide_eq_false (by omega)]; rfl
 ·rw [decide_eq_false (p := k ≠ N) (by omega), Bool.and_false]; rfl
 ·rw [h, Bool.and_false]; rfl
theorem A14 {D N : Int} {k : Int} {nm : ByteArray} {num : Int} {ty fr : Ty} {lb : Int} {ks : List Tm} {d : Int} (h1 : d ≤ D) (h2 : k ≠ N) (h3 : V8 k nm num ty fr lb ks.length = true) : M8 D N (.mk k nm num ty fr lb ks) d = M4 D N ks (d + 1) := by
 rw [M8, decide_eq_true h1, decide_eq_true h2, h3]; rfl
theorem B3X {D N : Int} {ks : List Tm} {d : Int} {i : Nat} (hi : i < ks.length) (h : M8 D N ks[i] d = false) : M4 D N ks d = false := by
 cases hx : M4 D N ks d with
 | false => rfl
 | true => rw [(A1n D N ks d).1 hx i hi] at h; cases h
theorem B3Y {k : Int} {nm : ByteArray} {num : Int} {ty fr : Ty} {lb : Int} {n : Nat} (hk : k = 14) (ha : E6 k = n) : V8 k nm num ty fr lb n = true ↔ nm = ⟨#[]⟩ ∧ num = 0 ∧ (1 ≤ A1M lb ∧ A1M lb ≤ 99) ∧ H1 ty = true ∧ H1 fr = true ∧ K4 fr ty = true := by
 rw [T9, B3V]
 simp only [O7, A11, decide_eq_true_eq, Bool.and_eq_true]
 constructor
 ·rintro ⟨_, _, h3, _, h5, h6, _, h8, _⟩
  have h8 := h8 hk
  exact ⟨h3 (by omega), by have := h5 (by omega); omega, h8.2, h6 (by omega), h8.1.1.1, h8.1.2⟩
 ·rintro ⟨h1, h2, h3, h4, h5, h6⟩
  exact ⟨ha, fun h => absurd h (by omega), fun _ => h1, fun h => absurd h (by omega), fun _ => by omega, fun _ => h4, fun h => absurd h (by omega), fun _ => ⟨⟨⟨h5, h4⟩, h6⟩, h3⟩, fun h => absurd hk h⟩
theorem A9n {k : Int} {nm : ByteArray} {num : Int} {ty fr : Ty} {lb : Int} {n : Nat} (hk : k ≠ 14) (ha : E6 k = n) : V8 k nm num ty fr lb n = true ↔
  (k = 1 ∨ k = 5 → A07 nm = true) ∧ (¬(k = 1 ∨ k = 5) → nm = ⟨#[]⟩) ∧ (k = 5 ∨ k = 13 ∨ k = 14 → H1 ty = true) ∧ (¬(k = 5 ∨ k = 13 ∨ k = 14) → A0K ty = true) ∧ (k ≠ 14 → A0K fr = true ∧ lb = 0) ∧ (k = 2 → 0 ≤ num ∧ num ≤ 999) ∧ (k ≠ 2 → num = 0) := by
 rw [T9]
 simp only [O7, decide_eq_true_eq]
 constructor
 ·rintro ⟨_, h2, h3, h4, h5, h6, h7, _, h9⟩
  exact ⟨h2, h3, h6, h7, h9, h4, fun h => by have := h5 h; omega⟩
 ·rintro ⟨h2, h3, h6, h7, h9, h4, h5⟩
  exact ⟨ha, h2, h3, h4, fun h => by have := h5 h; omega, h6, h7, fun h => absurd h hk, h9⟩
theorem A1P {Q : Prop} (h : Q := by (rw [A9m (by rw [hR]; first | omega | exact .inr (.inr (by assumption)) | exact .inr (.inr (by cases R with | false => rfl | true => exact absurd (har rfl) (by omega))))]; exact ⟨rfl, rfl, rfl⟩)) : Q := h
theorem A6w {Q : Prop} (h : Q := by (rw [A14 (by omega) (by omega) (hR.trans (by assumption)), B3X (i := i) (by omega) (by assumption)]; exact ⟨rfl, rfl, rfl⟩)) : Q := h
theorem A9o {Q : Prop} (h : Q := by (rw [A14 (by omega) (by omega) (hR.trans (by assumption)), (A1n 40 13 ks _).2 (fun j hj => hf j hj (by omega))]; exact ⟨rfl, rfl, rfl⟩)) : Q := h
theorem B3Z : ∀ (t : Tm) (d : Int) (G : IM) (cells : List Value), 0 ≤ d ∧ d ≤ 40 → B1 G t cells →
  Fn Tryz.prog 193 [.agg ⟨cells⟩, .int .i64 d] [] G (I5 (.bool (M8 40 13 t (41 - d))) G) := by
 refine Tm.ind fun k nm num ty fr lb ks ih d G cells hd hr => ?_
 have hr0 := hr
 have h14 := fun h : k = 14 => @B3Y k nm num ty fr lb ks.length h
 have hne := fun h : k ≠ 14 => @A9n k nm num ty fr lb ks.length h
 have har := fun h : V8 k nm num ty fr lb ks.length = true => (T9.1 h).1
 obtain ⟨R, hR⟩ : ∃ R, V8 k nm num ty fr lb ks.length = R := ⟨_, rfl⟩
 rw [hR] at h14 hne har
 have hlo := B3W k nm num ty fr lb ks G cells hr0 R
 have hl2 := A9l k nm num ty fr lb ks G cells hr0 R
 have hk1 := A4T k G
 obtain ⟨tk, tks⟩ := ty
 obtain ⟨fk, fks⟩ := fr
 obtain ⟨pt, ct, pf, cf, p, c, es, rfl, hk, hnum, hlb, hty, hfr, hsl, hkl⟩ := hr.open9
 have hn := hsl.le
 clear hr hr0
 refine C1 Tryz.func193 rfl Tryz.ntmps193 Tryz.results193 rfl ?_
 intro w0
 refine A3 ?_
 refine sE (C7 rfl rfl) rfl (fun b3 => ?_)
 refine B0 ?_
 refine E2 E4 rfl ?_
 refine J4 (i := 0) (l' := [tt,ff,ff,ff,ff,ff,ff,ff,ff,ff,ff,ff,ff,ff,ff,ff,ff,ff,ff,ff,ff,ff,ff,ff,ff,ff,ff,ff,ff,ff,ff,ff,ff,ff,ff,ff]) rfl D6 (qM rfl) rfl (by kernel_rfl) rfl rfl ?_
 refine A0v (i := 1) (l' := [tt,tt,ff,ff,ff,ff,ff,ff,ff,ff,ff,ff,ff,ff,ff,ff,ff,ff,ff,ff,ff,ff,ff,ff,ff,ff,ff,ff,ff,ff,ff,ff,ff,ff,ff,ff]) rfl D6 (I8 rfl rfl) rfl (by kernel_rfl) rfl rfl (fun h11 => ?_) (fun h11 => ?_)
 refine aP 2 rfl (qM rfl) rfl ?_
 refine C4 3 rfl rfl rfl ?_
 refine C4 4 rfl rfl rfl ?_
 refine C4 6 rfl rfl rfl ?_
 refine C4 7 rfl rfl rfl ?_
 refine C4 8 rfl rfl rfl ?_
 refine C4 5 rfl rfl rfl ?_
 refine C4 9 rfl rfl rfl ?_
 refine aP 10 rfl (M9 rfl rfl) rfl ?_
 refine aP 11 rfl (qM rfl) rfl ?_
 refine C4 12 rfl rfl rfl ?_
 refine C4 13 rfl rfl rfl ?_
 refine C4 14 rfl rfl rfl ?_
 refine aP 15 rfl (M9 rfl rfl) rfl ?_
 refine aP 16 rfl (qM rfl) rfl ?_
 refine C4 17 rfl rfl rfl ?_
 refine C4 18 rfl rfl rfl ?_
 refine C4 19 rfl rfl rfl ?_
 refine C4 20 rfl rfl rfl ?_
 refine C4 21 rfl rfl rfl ?_
 refine C4 22 rfl rfl rfl ?_
 refine C4 23 rfl rfl rfl ?_
 refine C4 24 rfl rfl rfl ?_
 refine aP 25 rfl (M9 rfl rfl) rfl ?_
 refine aP 26 rfl (qM rfl) rfl ?_
 refine C4 27 rfl rfl rfl ?_
 refine C4 28 rfl rfl rfl ?_
 refine C4 29 rfl rfl rfl ?_
 refine C4 30 rfl rfl rfl ?_
 refine C4 31 rfl rfl rfl ?_
 refine C4 32 rfl rfl rfl ?_
 refine C4 33 rfl rfl rfl ?_
 refine C4 34 rfl rfl rfl ?_
 refine aP 35 rfl (M9 rfl rfl) rfl ?_
 refine J1 ?_
 exact A1P
 refine aP 2 rfl (qM rfl) rfl ?_
 refine aP 3 rfl (B9 rfl) rfl ?_
 refine aL 4 rfl (C8 rfl rfl) rfl ?_
 refine aP 6 rfl (B9 rfl) rfl ?_
 refine aL 7 rfl (C8 rfl rfl) rfl ?_
 refine aP 8 rfl (pLn rfl rfl) rfl ?_
 refine A4 5 ?_
 refine N3 rfl rfl (hk1) rfl rfl rfl ?_
 refine A0v (i := 9) (l' := [tt,tt,tt,tt,tt,tt,tt,tt,tt,tt,ff,ff,ff,ff,ff,ff,ff,ff,ff,ff,ff,ff,ff,ff,ff,ff,ff,ff,ff,ff,ff,ff,ff,ff,ff,ff]) rfl D6 (N5 rfl rfl) rfl (by kernel_rfl) rfl rfl (fun h66 => ?_) (fun h66 => ?_)
 refine aP 10 rfl (O6 rfl rfl) rfl ?_
 refine aP 11 rfl (qM rfl) rfl ?_
 refine C4 12 rfl rfl rfl ?_
 refine C4 13 rfl rfl rfl ?_
 refine C4 14 rfl rfl rfl ?_
 refine aP 15 rfl (M9 rfl rfl) rfl ?_
 refine aP 16 rfl (qM rfl) rfl ?_
 refine C4 17 rfl rfl rfl ?_
 refine C4 18 rfl rfl rfl ?_
 refine C4 19 rfl rfl rfl ?_
 refine C4 20 rfl rfl rfl ?_
 refine C4 21 rfl rfl rfl ?_
 refine C4 22 rfl rfl rfl ?_
 refine C4 23 rfl rfl rfl ?_
 refine C4 24 rfl rfl rfl ?_
 refine aP 25 rfl (M9 rfl rfl) rfl ?_
 refine aP 26 rfl (qM rfl) rfl ?_
 refine C4 27 rfl rfl rfl ?_
 refine C4 28 rfl rfl rfl ?_
 refine C4 29 rfl rfl rfl ?_
 refine C4 30 rfl rfl rfl ?_
 refine C4 31 rfl rfl rfl ?_
 refine C4 32 rfl rfl rfl ?_
 refine C4 33 rfl rfl rfl ?_
 refine C4 34 rfl rfl rfl ?_
 refine aP 35 rfl (M9 rfl rfl) rfl ?_
 refine J1 ?_
 exact A1P
 refine aP 10 rfl (O6 rfl rfl) rfl ?_
 refine aP 11 rfl (qM rfl) rfl ?_
 refine aP 12 rfl (B9 rfl) rfl ?_
 refine aL 13 rfl (C8 rfl rfl) rfl ?_
 refine A0v (i := 14) (l' := [tt,tt,tt,tt,tt,tt,tt,tt,tt,tt,tt,tt,tt,tt,tt,ff,ff,ff,ff,ff,ff,ff,ff,ff,ff,ff,ff,ff,ff,ff,ff,ff,ff,ff,ff,ff]) rfl D6 (qE rfl rfl) rfl (by kernel_rfl) rfl rfl (fun h109 => ?_) (fun h109 => ?_)
 refine aP 15 rfl (O6 rfl rfl) rfl ?_
 refine aP 16 rfl (qM rfl) rfl ?_
 refine C4 17 rfl rfl rfl ?_
 refine C4 18 rfl rfl rfl ?_
 refine C4 19 rfl rfl rfl ?_
 refine C4 20 rfl rfl rfl ?_
 refine C4 21 rfl rfl rfl ?_
 refine C4 22 rfl rfl rfl ?_
 refine C4 23 rfl rfl rfl ?_
 refine C4 24 rfl rfl rfl ?_
 refine aP 25 rfl (M9 rfl rfl) rfl ?_
 refine aP 26 rfl (qM rfl) rfl ?_
 refine C4 27 rfl rfl rfl ?_
 refine C4 28 rfl rfl rfl ?_
 refine C4 29 rfl rfl rfl ?_
 refine C4 30 rfl rfl rfl ?_
 refine C4 31 rfl rfl rfl ?_
 refine C4 32 rfl rfl rfl ?_
 refine C4 33 rfl rfl rfl ?_
 refine C4 34 rfl rfl rfl ?_
 refine aP 35 rfl (M9 rfl rfl) rfl ?_
 refine J1 ?_
 exact A1P
 refine aP 15 rfl (O6 rfl rfl) rfl ?_
 refine aP 16 rfl (qM rfl) rfl ?_
 refine aP 17 rfl (B9 rfl) rfl ?_
 refine aL 18 rfl (C8 rfl rfl) rfl ?_
 refine A0v (i := 19) (l' := [tt,tt,tt,tt,tt,tt,tt,tt,tt,tt,tt,tt,tt,tt,tt,tt,tt,tt,tt,tt,ff,ff,ff,ff,ff,ff,ff,ff,ff,ff,ff,ff,ff,ff,ff,ff]) rfl D6 (qE rfl rfl) rfl (by kernel_rfl) rfl rfl (fun h147 => ?_) (fun h147 => ?_)
 refine aP 20 rfl (qM rfl) rfl ?_
 refine aL 21 rfl (A5 rfl rfl) rfl ?_
 refine A4 22 ?_
 refine T8 rfl rfl (hlo (h14 (by omega) (by omega))) rfl rfl rfl (fun h151 => ?_) (fun h151 => ?_)
 refine aP 23 rfl (pNt rfl) rfl ?_
 refine aP 24 rfl (M9 rfl rfl) rfl ?_
 refine aP 25 rfl (O6 rfl rfl) rfl ?_
 refine aP 26 rfl (qM rfl) rfl ?_
 refine aP 27 rfl (B9 rfl) rfl ?_
 refine aL 28 rfl (C8 rfl rfl) rfl ?_
 refine aP 29 rfl (A24 rfl rfl (by omega)) rfl ?_
 refine aP 30 rfl (qM rfl) rfl ?_
 refine C4 31 rfl rfl rfl ?_
 refine C4 32 rfl rfl rfl ?_
 refine C4 33 rfl rfl rfl ?_
 refine aP 34 rfl (O6 rfl rfl) rfl ?_
 refine aP 35 rfl (O6 rfl rfl) rfl ?_
 refine J1 ?_
 refine C0 ?_
 (refine J0 (fun (i : Nat) => ⟨[(5, .int .i64 i), (2, .pointer (some ⟨b3, 0, none⟩)), (1, .int .i64 d)], [.blk b3 [.int .i64 k, .string nm, .int .i64 num, .int .i64 tk, .slice pt tks.length ct, .int .i64 fk, .slice pf fks.length cf, .int .i64 lb, .slice p ks.length c]], G⟩) (fun i => i ≤ ks.length ∧ ∀ j (h : j < ks.length), j < i → M8 40 13 ks[j] (41 - d + 1) = true) (fun i => ks.length - i) 0 ?_ ?_ ?_)
 exact D2
 exact ⟨by omega, by omega⟩
 (rintro i ⟨hi, hf⟩)
 refine B5 ?_
 refine sB (I8 rfl rfl) rfl rfl (fun h188 => ?_) (fun h188 => ?_)
 refine A8 ?_
 refine C0 ?_
 refine B0 ?_
 (obtain ⟨b, o, e, rfl, hl, hat, hre, hgb⟩ := hsl.kidTm hkl (i := i) (by omega) (by omega); refine sP (B6 rfl rfl rfl (by omega)) rfl rfl ?_)
 refine sL (A2 rfl rfl (hat _) hl) rfl rfl ?_
 refine E3 ?_
 refine sP (O9 rfl rfl (by omega) (by omega)) rfl rfl ?_
 (have hih := ih ks[i] (List.getElem_mem (by omega)) (d - 1) G _ (by omega) hre; rw [show 41 - (d - 1) = 41 - d + 1 by omega] at hih; refine F4 rfl hih rfl rfl (fun h205 => ?_) (fun h205 => ?_))
 refine E0 ?_
 refine sP (H5 rfl rfl (by omega) (by omega)) rfl rfl ?_
 refine A3 ?_
 refine I1 (i + 1) ?_ ?_ ?_
 exact D2
 exact A4W
 omega
 refine K0 ?_
 exact A6w
 refine I7 ?_
 exact A9o
 refine aP 23 rfl (pNf rfl) rfl ?_
 refine aP 24 rfl (M9 rfl rfl) rfl ?_
 refine aP 25 rfl (O6 rfl rfl) rfl ?_
 refine aP 26 rfl (qM rfl) rfl ?_
 refine C4 27 rfl rfl rfl ?_
 refine C4 28 rfl rfl rfl ?_
 refine C4 29 rfl rfl rfl ?_
 refine C4 30 rfl rfl rfl ?_
 refine C4 31 rfl rfl rfl ?_
 refine C4 32 rfl rfl rfl ?_
 refine C4 33 rfl rfl rfl ?_
 refine C4 34 rfl rfl rfl ?_
 refine aP 35 rfl (M9 rfl rfl) rfl ?_
 refine J1 ?_
 exact A1P
 refine aP 20 rfl (qM rfl) rfl ?_
 refine C4 21 rfl rfl rfl ?_
 refine C4 22 rfl rfl rfl ?_
 refine C4 23 rfl rfl rfl ?_
 refine aP 24 rfl (O6 rfl rfl) rfl ?_
 refine aP 25 rfl (O6 rfl rfl) rfl ?_
 refine aP 26 rfl (qM rfl) rfl ?_
 refine aP 27 rfl (B9 rfl) rfl ?_
 refine aL 28 rfl (C8 rfl rfl) rfl ?_
 refine aP 29 rfl (A0n rfl rfl (by omega)) rfl ?_
 refine aP 30 rfl (qM rfl) rfl ?_
 refine aL 31 rfl (A5 rfl rfl) rfl ?_
 refine A4 32 ?_
 refine T8 rfl rfl (hl2 (hne (by omega) (by omega))) rfl rfl rfl (fun h293 => ?_) (fun h293 => ?_)
 refine aP 33 rfl (pNt rfl) rfl ?_
 refine aP 34 rfl (M9 rfl rfl) rfl ?_
 refine aP 35 rfl (O6 rfl rfl) rfl ?_
 refine J1 ?_
 refine C0 ?_
 (refine J0 (fun (i : Nat) => ⟨[(5, .int .i64 i), (2, .pointer (some ⟨b3, 0, none⟩)), (1, .int .i64 d)], [.blk b3 [.int .i64 k, .string nm, .int .i64 num, .int .i64 tk, .slice pt tks.length ct, .int .i64 fk, .slice pf fks.length cf, .int .i64 lb, .slice p ks.length c]], G⟩) (fun i => i ≤ ks.length ∧ ∀ j (h : j < ks.length), j < i → M8 40 13 ks[j] (41 - d + 1) = true) (fun i => ks.length - i) 0 ?_ ?_ ?_)
 exact D2
 exact ⟨by omega, by omega⟩
 (rintro i ⟨hi, hf⟩)
 refine B5 ?_
 refine sB (I8 rfl rfl) rfl rfl (fun h320 => ?_) (fun h320 => ?_)
 refine A8 ?_
 refine C0 ?_
 refine B0 ?_
 (obtain ⟨b, o, e, rfl, hl, hat, hre, hgb⟩ := hsl.kidTm hkl (i := i) (by omega) (by omega); refine sP (B6 rfl rfl rfl (by omega)) rfl rfl ?_)
 refine sL (A2 rfl rfl (hat _) hl) rfl rfl ?_
 refine E3 ?_
 refine sP (O9 rfl rfl (by omega) (by omega)) rfl rfl ?_
 (have hih := ih ks[i] (List.getElem_mem (by omega)) (d - 1) G _ (by omega) hre; rw [show 41 - (d - 1) = 41 - d + 1 by omega] at hih; refine F4 rfl hih rfl rfl (fun h337 => ?_) (fun h337 => ?_))
 refine E0 ?_
 refine sP (H5 rfl rfl (by omega) (by omega)) rfl rfl ?_
 refine A3 ?_
 refine I1 (i + 1) ?_ ?_ ?_
 exact D2
 exact A4W
 omega
 refine K0 ?_
 exact A6w
 refine I7 ?_
 exact A9o
 refine aP 33 rfl (pNf rfl) rfl ?_
 refine aP 34 rfl (M9 rfl rfl) rfl ?_
 refine aP 35 rfl (O6 rfl rfl) rfl ?_
 refine J1 ?_
 exact A1P
def T4 : Ty := .mk 2 []
def X7 : Ty := .mk 3 []
mutual
def M5 : Ty → Ty → Bool
 | .mk k ks, t => decide (k = t.k) && A0i ks t.ks
def A0i : List Ty → List Ty → Bool
 | [], [] => true
 | a :: xs, b :: ys => M5 a b && A0i xs ys
 | _, _ => false
end
theorem A3d (k k' : Int) (ks ks' : List Ty) : M5 (.mk k ks) (.mk k' ks') = (decide (k = k') && A0i ks ks') := by rw [M5]; rfl
mutual
theorem A1o : ∀ (a b : Ty), M5 a b = true ↔ a = b
 | .mk k ks, .mk k' ks' => by
  rw [A3d, Bool.and_eq_true, decide_eq_true_eq, A9p ks ks', Ty.mk.injEq]
theorem A9p : ∀ (xs ys : List Ty), A0i xs ys = true ↔ xs = ys
 | [], [] => by simp [A0i]
 | [], b :: ys => by simp [A0i]
 | a :: xs, [] => by simp [A0i]
 | a :: xs, b :: ys => by
  rw [A0i, Bool.and_eq_true, A1o a b, A9p xs ys, List.cons.injEq]
end
theorem A6x (a : Ty) : M5 a a = true := (A1o a a).2 rfl
theorem A3Z : ∀ (xs ys : List Ty), A0i xs ys = true ↔ xs.length = ys.length ∧ ∀ i, (h : i < xs.length) → (h' : i < ys.length) → M5 xs[i] ys[i] = true
 | [], [] => by simp [A0i]
 | [], b :: ys => by simp [A0i]
 | a :: xs, [] => by simp [A0i]
 | a :: xs, b :: ys => by
  simp only [A0i, Bool.and_eq_true, A3Z xs ys, List.length_cons]
  constructor
  ·rintro ⟨h1, h2, h3⟩
   refine ⟨by omega, fun i hi hi' => ?_⟩
   cases i with
   | zero => exact h1
   | succ i => exact h3 i (by simpa using hi) (by simpa using hi')
  ·rintro ⟨h1, h2⟩
   exact ⟨h2 0 (by simp) (by simp), by omega, fun i hi hi' => h2 (i + 1) (by simpa using hi) (by simpa using hi')⟩

abbrev Cx := List (ByteArray × Ty)
def X8 (cx : Cx) (nm : ByteArray) : Nat → Option Ty
 | 0 => none
 | n + 1 => match cx[n]? with
  | some b => if b.1 = nm then some b.2 else X8 cx nm n
  | none => X8 cx nm n
def A0j (cx : Cx) (nm : ByteArray) : Option Ty := X8 cx nm cx.length
theorem A6y {cx : Cx} {nm x : ByteArray} {n : Nat} {t : Ty} (h : cx[n]? = some (x, t)) (he : x = nm) : X8 cx nm (n + 1) = some t := by
 rw [X8, h]; simp only [he, if_true]
theorem A6z {cx : Cx} {nm x : ByteArray} {n : Nat} {t : Ty} (h : cx[n]? = some (x, t)) (he : ¬x = nm) : X8 cx nm (n + 1) = X8 cx nm n := by
 rw [X8, h]; simp only [he, if_false]

mutual
def U2 : Ty → Ty → Ty
 | .mk k ks, b => if k = 1 then b else if b.k = 1 then .mk k ks else .mk k (S6 ks b.ks)
def S6 : List Ty → List Ty → List Ty
 | a :: xs, b :: ys => U2 a b :: S6 xs ys
 | _, _ => []
end
theorem A1e (k k' : Int) (ks ks' : List Ty) : U2 (.mk k ks) (.mk k' ks') = if k = 1 then .mk k' ks' else if k' = 1 then .mk k ks else .mk k (S6 ks ks') := by rw [U2]; rfl
def R2 (kind : Int) (t : Ty) : Option (Ty × Ty) :=
 if t.k = kind then some (t.ks.getD 0 B3, t.ks.getD 1 B3) else if t.k = 1 then some (O8, O8) else none
def L9 (cx : Cx) (k : Int) (nm : ByteArray) (ty : Ty) (h : List Ty) : Option (List Ty × Ty) :=
 if k = 1 then (match A0j cx nm with | some t => some ([], t) | none => none)
 else if k = 2 then some ([], T4)
 else if k = 3 ∨ k = 4 then some ([], X7)
 else if k = 5 then some ([], .mk 4 [ty, h.getD 0 B3])
 else if k = 6 then (match R2 4 (h.getD 0 B3) with | some (a, b) => if K4 (h.getD 1 B3) a = true then some ([.mk 4 [a, b], a], b) else none | none => none)
 else if k = 7 ∨ k = 8 then (if K4 (h.getD 0 B3) T4 = true ∧ K4 (h.getD 1 B3) T4 = true then some ([T4, T4], if k = 8 then X7 else T4) else none)
 else if k = 9 then (if K4 (h.getD 0 B3) X7 = true ∧ K4 (h.getD 1 B3) (h.getD 2 B3) = true then some ([X7, U2 (h.getD 1 B3) (h.getD 2 B3), U2 (h.getD 1 B3) (h.getD 2 B3)], U2 (h.getD 1 B3) (h.getD 2 B3)) else none)
 else if k = 10 then some ([], .mk 5 [h.getD 0 B3, h.getD 1 B3])
 else if k = 13 then (if K4 (h.getD 0 B3) ty = true then some ([ty], ty) else none)
 else (match R2 5 (h.getD 0 B3) with | some (a, b) => some ([.mk 5 [a, b]], if k = 12 then b else a) | none => none)
def Y7 (cx : Cx) (k : Int) (nm : ByteArray) (ty : Ty) (h : List Ty) : Option (List Ty × Ty) := match L9 cx k nm ty h with
 | some (w, t) => if H1 t = true then some (w, t) else none
 | none => none
def A30 : List Ty → List Ty → Bool
 | [], _ => true
 | a :: xs, b :: ys => M5 a b && A30 xs ys
 | _ :: _, [] => false
def O0 (cx : Cx) (k : Int) (nm : ByteArray) (ty : Ty) : Cx := if k = 5 then cx ++ [(nm, ty)] else cx
mutual
def A0V (cx : Cx) : Tm → Option Ty
 | .mk k nm num ty fr lb ks => match Y8 (O0 cx k nm ty) ks with
  | none => none
  | some h => if k = 14 then (if M5 (h.getD 0 B3) fr = true then some ty else none)
   else match Y7 cx k nm ty h with
    | none => none
    | some (w, t) => if A30 w h = true then some t else none
def Y8 (cx : Cx) : List Tm → Option (List Ty)
 | [] => some []
 | t :: ts => match A0V cx t with
  | none => none
  | some u => match Y8 cx ts with
   | none => none
   | some us => some (u :: us)
end
def B8j (e : Tm) : Option Ty := if O4 e = true then A0V [] e else none
theorem A9q {Q : Prop} (h : Q := by exact ⟨by omega, hle.trans hle1, N8.step hst hnd hle hle1 (by omega) hs' hnd'⟩) : Q := h
theorem A9r {Q : Prop} (h : Q := by (rw [List.take_length] at hst; obtain ⟨F2, hf1, hf2⟩ := Q1.fin hst hnd hle hle2 hsl2 hno2 hk; exact ⟨rfl, _, F2, rfl, hf1, hf2⟩)) : Q := h
theorem A1Q : ∀ (t : Ty) (G : IM) (cells : List Value), t.small → C3 G t cells →
  Fn Tryz.prog 63 [.agg ⟨cells⟩] [] G (K1 fun G' v => ∃ cells' F, v = .agg ⟨cells'⟩ ∧ Q1 (C5 G' G) t cells' F ∧ F.Nodup) := by
 refine Ty.ind fun k ks ih G cells hts hr => ?_
 simp only [Ty.small] at hts
 obtain ⟨hsm, hks⟩ := hts
 obtain ⟨p, c, es, rfl, hk, hsl, hkl⟩ := hr.open
 simp only [Ty.k, Ty.ks] at hk hsl hkl ⊢
 have hn := hsl.le
 refine C1 Tryz.func63 rfl Tryz.ntmps63 Tryz.results63 rfl ?_
 intro w0
 refine A3 ?_
 refine sE (C7 rfl rfl) rfl (fun b3 => ?_)
 refine sE (A7 rfl) rfl (fun b4 => ?_)
 refine B5 ?_
 refine sE (A7 rfl) rfl (fun b12 => ?_)
 refine K5 ?_
 refine C0 ?_
 (refine Q9 34 2 ?_; refine J0 (fun (x : Nat × Option Addr × Nat × List (List Value) × List Nat × IM) => ⟨[(12, .int .i64 x.1), (11, .int .i64 ks.length), (10, .slice p ks.length c), (3, .pointer (some ⟨b12, 0, none⟩)), (2, .pointer (some ⟨b4, 0, none⟩))], [.blk b12 [.int .i64 k, .slice x.2.1 x.1 x.2.2.1], .slc x.2.1 x.2.2.1 34 2 x.1 x.2.2.2.1.flatten, .blk b4 [.int .i64 0, .slice none 0 0]], x.2.2.2.2.2⟩) (fun x => x.1 ≤ ks.length ∧ C2 G x.2.2.2.2.2 ∧ N8 (C5 x.2.2.2.2.2 G) (ks.take x.1) x.2.2.2.1 x.2.2.2.2.1 ∧ x.2.2.2.2.1.Nodup) (fun x => ks.length - x.1) (0, none, 0, [], [], G) ?_ ?_ ?_)
 (simp only [H6]; exact K2 (by repeat (first | exact D8.nil | refine D8.cons rfl ?_)) (by repeat (first | exact A0.refl | exact A0.nil | refine A0.cons (by repeat (first | exact Pk.here | apply Pk.there)) ?_)))
 exact ⟨by simp, C2.refl _, by simp [N8], by simp⟩
 (rintro ⟨i, pn, cn, es', F, Gi⟩ ⟨hi, hle, hst, hnd⟩; simp only [] at hi hle hst hnd ⊢; replace hsl := hsl.mono hle; replace hkl := hkl.mono hle)
 refine A3 ?_
 refine sB (I8 rfl rfl) rfl rfl (fun h32 => ?_) (fun h32 => ?_)
 refine B5 ?_
 refine C0 ?_
 refine A3 ?_
 (obtain ⟨b, o, p2, c2, rfl, hat, hre, hgb⟩ := hsl.kidTy hkl (i := i) (by omega) (by omega); refine sP (B6 rfl rfl rfl (by omega)) rfl rfl ?_)
 refine sL (A2 rfl rfl (hat _) rfl) rfl rfl ?_
 refine sE (A7 rfl) rfl (fun b45 => ?_)
 refine B7 ?_
 refine E2 E4 rfl ?_
 refine J4 (i := 0) (l' := [tt,ff,ff,ff,ff,ff,ff,ff]) rfl D6 (B9 rfl) rfl (by kernel_rfl) rfl rfl ?_
 refine aL 1 rfl (C8 rfl rfl) rfl ?_
 refine aL 2 rfl (A5 rfl rfl) rfl ?_
 refine A4 3 ?_
 (refine H7 rfl rfl (ih _ (List.getElem_mem (by omega)) _ _ (Ty.smallL_mem hks _ (List.getElem_mem (by omega))) hre) rfl rfl rfl (fun v G1 hle1 hh => ?_); obtain ⟨cells', F', rfl, hs', hnd'⟩ := hh; obtain ⟨p3, c3, es3, rfl, _⟩ := hs'.R.open)
 refine A4 4 ?_
 (refine E5 rfl (D0 rfl rfl rfl (by omega) (by unfold maxLen; omega) rfl) rfl rfl ?_; rintro _ ⟨b56, rfl⟩)
 refine A4 5 ?_
 refine R0 rfl rfl rfl rfl rfl rfl (fun _ _ => by repeat (first | exact Sw.here | apply Sw.there)) (M1 (by repeat first | exact mH | apply mT)) rfl (by simp [Value.oneCell']) (by unfold maxLen; omega) (by omega) rfl rfl (by repeat (first | exact B2.nil | apply B2.dep (by kernel_rfl) | apply B2.blk (by kernel_rfl) (by repeat (first | exact Pk.here | apply Pk.there)) (by repeat first | exact mH | apply mT))) (fun pn' cn' => ?_)
 refine aP 6 rfl (B9 rfl) rfl ?_
 refine A4 7 ?_
 refine R5 rfl rfl rfl rfl rfl rfl rfl rfl (by kernel_rfl) (by repeat first | exact Sw.here | apply Sw.there) (by rfl) ?_
 refine B4 ?_
 refine sP (H5 rfl rfl (by omega) (by omega)) rfl rfl ?_
 refine A3 ?_
 refine I1 (i + 1, pn', cn', es' ++ [[.int .i64 ks[i].k, .slice p3 ks[i].ks.length c3]], F ++ F', G1) ?_ ?_ ?_
 (simp only [H6]; exact K2 (by repeat (first | exact D8.nil | refine D8.cons rfl ?_)) (by repeat (first | exact A0.refl | exact A0.nil | refine A0.cons (by repeat (first | exact Pk.here | apply Pk.there)) ?_)))
 exact A9q
 exact V0
 refine I7 ?_
 (refine F0 (by repeat (first | exact Pk.here | apply Pk.there)) (fun G2 hle2 hsl2 hno2 => ?_); obtain rfl : i = ks.length := by omega)
 refine tT ?_
 refine M3 (rC rfl (A5 rfl rfl)) ?_
 exact A9r
def B30 (t : Ty) (G : IM) : IM → Value → List A6 → Prop := K1 fun G' v => ∃ cells' F, v = .agg ⟨cells'⟩ ∧ Q1 (C5 G' G) t cells' F ∧ F.Nodup
def B8k (ks : List Ty) (G : IM) : IM → Value → List A6 → Prop := K1 fun G' v => ∃ p c F, v = .slice p ks.length c ∧ A8B (C5 G' G) ks p c F ∧ F.Nodup
def A6A (t : Tm) (G : IM) : IM → Value → List A6 → Prop := K1 fun G' v => ∃ cells' F, v = .agg ⟨cells'⟩ ∧ P2 (C5 G' G) t cells' F ∧ F.Nodup
def B8l (ks : List Tm) (G : IM) : IM → Value → List A6 → Prop := K1 fun G' v => ∃ p c F, v = .slice p ks.length c ∧ A2x (C5 G' G) ks p c F ∧ F.Nodup
theorem P7 : ∀ (t : Ty) (G : IM) (cells : List Value), t.small → C3 G t cells → Fn Tryz.prog 161 [.agg ⟨cells⟩] [] G (B30 t G) := by
 refine Ty.ind fun k ks ih G cells hts hr => ?_
 simp only [Ty.small] at hts
 obtain ⟨hsm, hks⟩ := hts
 obtain ⟨p, c, es, rfl, hk, hsl, hkl⟩ := hr.open
 simp only [Ty.k, Ty.ks] at hk hsl hkl ⊢
 have hn := hsl.le
 refine C1 Tryz.func161 rfl Tryz.ntmps161 Tryz.results161 rfl ?_
 intro w0
 refine A3 ?_
 refine sE (C7 rfl rfl) rfl (fun b3 => ?_)
 refine sE (A7 rfl) rfl (fun b4 => ?_)
 refine B5 ?_
 refine sE (A7 rfl) rfl (fun b12 => ?_)
 refine E0 ?_
 refine C0 ?_
 (refine Q9 34 2 ?_; refine J0 (fun (x : Nat × Option Addr × Nat × List (List Value) × List Nat × IM) => ⟨[(4, .int .i64 x.1), (3, .pointer (some ⟨b12, 0, none⟩)), (1, .pointer (some ⟨b3, 0, none⟩)), (2, .pointer (some ⟨b4, 0, none⟩))], [.blk b12 [.int .i64 k, .slice x.2.1 x.1 x.2.2.1], .slc x.2.1 x.2.2.1 34 2 x.1 x.2.2.2.1.flatten, .blk b4 [.int .i64 0, .slice none 0 0], .blk b3 [.int .i64 k, .slice p ks.length c]], x.2.2.2.2.2⟩) (fun x => x.1 ≤ ks.length ∧ C2 G x.2.2.2.2.2 ∧ N8 (C5 x.2.2.2.2.2 G) (ks.take x.1) x.2.2.2.1 x.2.2.2.2.1 ∧ x.2.2.2.2.1.Nodup) (fun x => ks.length - x.1) (0, none, 0, [], [], G) ?_ ?_ ?_)
 (simp only [H6]; exact D2)
 exact ⟨by simp, C2.refl _, by simp [N8], by simp⟩
 (rintro ⟨i, pn, cn, es', F, Gi⟩ ⟨hi, hle, hst, hnd⟩; simp only [] at hi hle hst hnd ⊢; replace hsl := hsl.mono hle; replace hkl := hkl.mono hle)
 refine B5 ?_
 refine sB (I8 rfl rfl) rfl rfl (fun h34 => ?_) (fun h34 => ?_)
 refine A8 ?_
 refine C0 ?_
 (obtain ⟨b, o, p2, c2, rfl, hat, hre, hgb⟩ := hsl.kidTy hkl (i := i) (by omega) (by omega); refine E2 E4 rfl ?_)
 refine J4 (i := 0) (l' := [tt,ff,ff,ff,ff,ff,ff,ff,ff,ff,ff,ff]) rfl D6 (B9 rfl) rfl (by kernel_rfl) rfl rfl ?_
 refine aL 1 rfl (C8 rfl rfl) rfl ?_
 refine aP 2 rfl (B9 rfl) rfl ?_
 refine aL 3 rfl (C8 rfl rfl) rfl ?_
 refine aP 4 rfl (qM rfl) rfl ?_
 refine aP 5 rfl (B6 rfl rfl rfl (by omega)) rfl ?_
 refine aL 6 rfl (A2 rfl rfl (hat _) rfl) rfl ?_
 refine A4 7 ?_
 (refine H7 rfl rfl (ih ks[i] (List.getElem_mem (by omega)) _ _ (Ty.smallL_mem hks _ (List.getElem_mem (by omega))) hre) rfl rfl rfl (fun v G1 hle1 hh => ?_); obtain ⟨cells', F', rfl, hs', hnd'⟩ := hh; obtain ⟨p3, c3, es3, rfl, _⟩ := hs'.R.open)
 refine A4 8 ?_
 (refine E5 rfl (D0 rfl rfl rfl (by omega) (by unfold maxLen; omega) rfl) rfl rfl ?_; rintro _ ⟨b53, rfl⟩)
 refine A4 9 ?_
 refine R0 rfl rfl rfl rfl rfl rfl (fun _ _ => by repeat (first | exact Sw.here | apply Sw.there)) (M1 (by repeat first | exact mH | apply mT)) rfl (by simp [Value.oneCell']) (by unfold maxLen; omega) (by omega) rfl rfl (by repeat (first | exact B2.nil | apply B2.dep (by decide +kernel) | apply B2.blk (by decide +kernel) (by repeat (first | exact Pk.here | apply Pk.there)) (by repeat first | exact mH | apply mT))) (fun pn' cn' => ?_)
 refine aP 10 rfl (B9 rfl) rfl ?_
 refine A4 11 ?_
 refine R5 rfl rfl rfl rfl rfl rfl rfl rfl (by kernel_rfl) (by repeat first | exact Sw.here | apply Sw.there) (by rfl) ?_
 refine B0 ?_
 refine sP (H5 rfl rfl (by omega) (by omega)) rfl rfl ?_
 refine A3 ?_
 refine I1 (i + 1, pn', cn', es' ++ [[.int .i64 ks[i].k, .slice p3 ks[i].ks.length c3]], F ++ F', G1) ?_ ?_ ?_
 (simp only [H6]; exact D2)
 exact A9q
 exact V0
 refine J9 ?_
 (refine F0 (by repeat (first | exact Pk.here | apply Pk.there)) (fun G2 hle2 hsl2 hno2 => ?_); obtain rfl : i = ks.length := (by omega))
 refine tT ?_
 refine M3 (rC rfl (A5 rfl rfl)) ?_
 exact A9r
theorem A9s {Q : Prop} (h : Q := by exact ⟨by omega, hle.trans hle3, O5.step hst hnd hle hle3 (by omega) hs' hnd'⟩) : Q := h
theorem A3e : ∀ (t : Tm) (G : IM) (cells : List Value), t.small → B1 G t cells → Fn Tryz.prog 120 [.agg ⟨cells⟩] [] G (A6A t G) := by
 refine Tm.ind fun k nm num ty fr lb ks ih G cells hts hr => ?_
 have hone := hr.one
 simp only [Tm.small] at hts
 obtain ⟨hnm, hty', hfr', hsm, hks⟩ := hts
 obtain ⟨tk, tks⟩ := ty
 obtain ⟨fk, fks⟩ := fr
 obtain ⟨pt, ct, pf, cf, p, c, es, rfl, hk, hnum, hlb, hty, hfr, hsl, hkl⟩ := hr.open9
 have hn := hsl.le
 have hT := P7 (.mk tk tks) G _ hty' hty
 refine C1 Tryz.func120 rfl Tryz.ntmps120 Tryz.results120 rfl ?_
 intro w0
 refine A3 ?_
 refine sE (C7 rfl rfl) rfl (fun b3 => ?_)
 refine sE (A7 rfl) rfl (fun b4 => ?_)
 refine B0 ?_
 refine sE (A7 rfl) rfl (fun b10 => ?_)
 refine B5 ?_
 (refine D9 rfl hT rfl rfl (fun v G1 hle1 hh => ?_); obtain ⟨cs1, F1, rfl, hs1, hn1⟩ := hh; obtain ⟨p1, c1, rfl, _⟩ := hs1.open; have hF := P7 (.mk fk fks) G1 _ hfr' (hfr.mono hle1))
 refine D1 ?_
 (refine D9 rfl hF rfl rfl (fun v G2 hle2 hh => ?_); obtain ⟨cs2, F2, rfl, hs2, hn2⟩ := hh; obtain ⟨p2, c2, rfl, _⟩ := hs2.open; replace hsl := hsl.mono (hle1.trans hle2); replace hkl := hkl.mono (hle1.trans hle2))
 refine K0 ?_
 refine C0 ?_
 (refine Q9 37 9 ?_; refine J0 (fun (x : Nat × Option Addr × Nat × List (List Value) × List Nat × IM) => ⟨[(4, .int .i64 x.1), (3, .pointer (some ⟨b10, 0, none⟩)), (1, .pointer (some ⟨b3, 0, none⟩)), (2, .pointer (some ⟨b4, 0, none⟩))], [.blk b10 [.int .i64 k, .string nm, .int .i64 num, .int .i64 tk, .slice p1 tks.length c1, .int .i64 fk, .slice p2 fks.length c2, .int .i64 lb, .slice x.2.1 x.1 x.2.2.1], .slc x.2.1 x.2.2.1 37 9 x.1 x.2.2.2.1.flatten, .blk b4 [.int .i64 0, .string ⟨⟨[]⟩⟩, .int .i64 0, .int .i64 0, .slice none 0 0, .int .i64 0, .slice none 0 0, .int .i64 0, .slice none 0 0], .blk b3 [.int .i64 k, .string nm, .int .i64 num, .int .i64 tk, .slice pt tks.length ct, .int .i64 fk, .slice pf fks.length cf, .int .i64 lb, .slice p ks.length c]], x.2.2.2.2.2⟩) (fun x => x.1 ≤ ks.length ∧ C2 G2 x.2.2.2.2.2 ∧ O5 (C5 x.2.2.2.2.2 G2) (ks.take x.1) x.2.2.2.1 x.2.2.2.2.1 ∧ x.2.2.2.2.1.Nodup) (fun x => ks.length - x.1) (0, none, 0, [], [], G2) ?_ ?_ ?_)
 (simp only [H6]; exact D2)
 exact ⟨by simp, C2.refl _, by simp [O5], by simp⟩
 (rintro ⟨i, pn, cn, es', F, Gi⟩ ⟨hi, hle, hst, hnd⟩; simp only [] at hi hle hst hnd ⊢; replace hsl := hsl.mono hle; replace hkl := hkl.mono hle)
 refine B5 ?_
 refine sB (I8 rfl rfl) rfl rfl (fun h56 => ?_) (fun h56 => ?_)
 refine A8 ?_
 refine C0 ?_
 (obtain ⟨b, o, e, rfl, hl, hat, hre, hgb⟩ := hsl.kidTm hkl (i := i) (by omega) (by omega); have hone := hre.one; refine E2 E4 rfl ?_)
 refine J4 (i := 0) (l' := [tt,ff,ff,ff,ff,ff,ff,ff,ff,ff,ff,ff]) rfl D6 (B9 rfl) rfl (by kernel_rfl) rfl rfl ?_
 refine aL 1 rfl (C8 rfl rfl) rfl ?_
 refine aP 2 rfl (B9 rfl) rfl ?_
 refine aL 3 rfl (C8 rfl rfl) rfl ?_
 refine aP 4 rfl (qM rfl) rfl ?_
 refine aP 5 rfl (B6 rfl rfl rfl (by omega)) rfl ?_
 refine aL 6 rfl (A2 rfl rfl (hat _) hl) rfl ?_
 refine A4 7 ?_
 (refine H7 rfl rfl (ih ks[i] (List.getElem_mem (by omega)) _ _ (Tm.smallL_mem hks _ (List.getElem_mem (by omega))) hre) rfl rfl rfl (fun v G3 hle3 hh => ?_); obtain ⟨cells', F', rfl, hs', hnd'⟩ := hh; obtain ⟨qt, dt, et', qf, df, ef', q3, d3, es3, rfl, _⟩ := hs'.R.open)
 refine A4 8 ?_
 (refine E5 rfl (D0 rfl rfl rfl (by omega) (by unfold maxLen; omega) rfl) rfl rfl ?_; rintro _ ⟨b75, rfl⟩)
 refine A4 9 ?_
 refine R0 rfl rfl rfl rfl rfl rfl (fun _ _ => by repeat (first | exact Sw.here | apply Sw.there)) (M1 (by repeat first | exact mH | apply mT)) rfl (by simp [Value.oneCell']) (by unfold maxLen; omega) (by omega) rfl rfl (by repeat (first | exact B2.nil | apply B2.dep (by decide +kernel) | apply B2.blk (by decide +kernel) (by repeat (first | exact Pk.here | apply Pk.there)) (by repeat first | exact mH | apply mT))) (fun pn' cn' => ?_)
 refine aP 10 rfl (B9 rfl) rfl ?_
 refine A4 11 ?_
 refine R5 rfl rfl rfl rfl rfl rfl rfl rfl (by kernel_rfl) (by repeat first | exact Sw.here | apply Sw.there) (by rfl) ?_
 refine B0 ?_
 refine sP (H5 rfl rfl (by omega) (by omega)) rfl rfl ?_
 refine A3 ?_
 refine I1 (i + 1, pn', cn', es' ++ [[.int .i64 ks[i].k, .string ks[i].nm, .int .i64 ks[i].num, .int .i64 ks[i].ty.k, .slice qt ks[i].ty.ks.length dt, .int .i64 ks[i].fr.k, .slice qf ks[i].fr.ks.length df, .int .i64 ks[i].lb, .slice q3 ks[i].ks.length d3]], F ++ F', G3) ?_ ?_ ?_
 (simp only [H6]; exact D2)
 exact A9s
 exact V0
 refine J9 ?_
 (refine F0 (by repeat (first | exact Pk.here | apply Pk.there)) (fun G4 hle4 hsl4 hno4 => ?_); obtain rfl : i = ks.length := (by omega))
 refine tT ?_
 refine M3 (rC rfl (A5 rfl rfl)) ?_
 (rw [List.take_length] at hst; obtain ⟨F3, hf1, hf2⟩ := A2x.fin hst hnd hle hle4 hsl4 hno4; obtain ⟨F5, hg1, hg2⟩ := P2.mk3 (nm := nm) hk hnum hlb hle1 hle2 (hle.trans hle4) hs1 hn1 hs2 hn2 hf1 hf2; exact ⟨rfl, _, F5, rfl, hg1, hg2⟩)
mutual
def A1p (g : Tm → Tm) : Tm → Tm
 | .mk k nm num ty fr lb ks => g (.mk k nm num ty fr lb (A0B g ks))
def A0B (g : Tm → Tm) : List Tm → List Tm
 | [] => []
 | t :: ts => A1p g t :: A0B g ts
end
theorem A6B (g : Tm → Tm) : ∀ ks, A0B g ks = ks.map (A1p g)
 | [] => rfl
 | t :: ts => by rw [A0B, A6B g ts, List.map_cons]
mutual
theorem A9t : ∀ t, A1p id t = t
 | .mk k nm num ty fr lb ks => by rw [A1p, A9u ks]; rfl
theorem A9u : ∀ ks, A0B id ks = ks
 | [] => rfl
 | t :: ts => by rw [A0B, A9t t, A9u ts]
end
theorem P2.mk3k {G G1 G2 G3 : IM} {k : Int} {nm : ByteArray} {num : Int} {ty fr : Ty} {lb : Int} {ks : List Tm} {tc fc : List Value} {p : Option Addr} {c : Nat} {F1 F2 F3 : List Nat} (hk : F8 k) (hnum : F8 num) (hlb : F8 lb)
  (hl1 : C2 G G1) (hl2 : C2 G1 G2) (hl3 : C2 G2 G3) (h3 : A2x (C5 G1 G) ks p c F3) (n3 : F3.Nodup) (h1 : Q1 (C5 G2 G1) ty tc F1) (n1 : F1.Nodup) (h2 : Q1 (C5 G3 G2) fr fc F2) (n2 : F2.Nodup) :
  ∃ F, P2 (C5 G3 G) (.mk k nm num ty fr lb ks) ([.int .i64 k, .string nm, .int .i64 num] ++ tc ++ fc ++ [.int .i64 lb, .slice p ks.length c]) F ∧ F.Nodup := by
 obtain ⟨es, Fs, e1, e2, rfl, e4⟩ := h3
 have i3 : ∀ b ∈ J5 p ++ Fs, C5 G1 G b ≠ none := by
  intro b hb
  rcases List.mem_append.1 hb with hb | hb
  ·exact e4 b hb
  ·exact e2.inG b hb
 have a1 : C2 (C5 G1 G) (C5 G3 G) := C5.mono (hl2.trans hl3)
 have a2 : C2 (C5 G2 G1) (C5 G3 G) := fun b l h => C5.mono hl3 b l (C5.anti hl1 b l h)
 have a3 : C2 (C5 G3 G2) (C5 G3 G) := C5.anti (hl1.trans hl2)
 refine ⟨F1 ++ (F2 ++ (J5 p ++ Fs)), ?_, ?_⟩
 ·simp only [P2]
  exact ⟨tc, fc, p, c, es, F1, F2, Fs, rfl, hk, hnum, hlb, h1.mono a2, h2.mono a3, e1.mono a1, e2.mono a1, rfl, A27 a1 e4⟩
 ·rw [List.nodup_append, List.nodup_append]
  refine ⟨n1, ⟨n2, n3, ?_⟩, ?_⟩
  ·rintro x hx y hy rfl
   exact A2y (A27 (C5.mono hl2) i3) h2.inG x hy x hx rfl
  ·rintro x hx y hy rfl
   rcases List.mem_append.1 hy with hy | hy
   ·exact A2y (A27 (C5.anti hl1) h1.inG) h2.inG x hx x hy rfl
   ·exact A2y i3 h1.inG x hy x hx rfl
mutual
def mOk (Q : Tm → Prop) (g : Tm → Tm) : Tm → Prop
 | .mk k nm num ty fr lb ks => A2A Q g ks ∧ Q (.mk k nm num ty fr lb (A0B g ks))
def A2A (Q : Tm → Prop) (g : Tm → Tm) : List Tm → Prop
 | [] => True
 | t :: ts => mOk Q g t ∧ A2A Q g ts
end
theorem A9v {Q : Tm → Prop} {g : Tm → Tm} : ∀ {ts : List Tm}, A2A Q g ts → ∀ t ∈ ts, mOk Q g t
 | [], _, t, h => by simp at h
 | t' :: ts, h, t, ht => by
  simp only [A2A] at h
  rcases List.mem_cons.1 ht with rfl | ht
  ·exact h.1
  ·exact A9v h.2 t ht
mutual
theorem A6C (g : Tm → Tm) : ∀ t, mOk (fun _ => True) g t
 | .mk k nm num ty fr lb ks => by rw [mOk]; exact ⟨A9w g ks, trivial⟩
theorem A9w (g : Tm → Tm) : ∀ ts, A2A (fun _ => True) g ts
 | [] => by rw [A2A]; trivial
 | t :: ts => by rw [A2A]; exact ⟨A6C g t, A9w g ts⟩
end
def A6D (g : Tm → Tm) (Q : Tm → Prop) (fid : FuncId) (us cs : List Value) : Prop := ∀ (t : Tm) (G0 G1 : IM) (cells : List Value) (F : List Nat), Q t → C2 G0 G1 → P2 (C5 G1 G0) t cells F → F.Nodup →
 Fn Tryz.prog fid (us ++ [.agg ⟨cells⟩] ++ cs) [] G1 (K1 fun G2 v => ∃ cells' F', v = .agg ⟨cells'⟩ ∧ P2 (C5 G2 G0) (g t) cells' F' ∧ F'.Nodup)
theorem A9x (g : Tm → Tm) (Q : Tm → Prop) (fid : FuncId) [B8 Tryz.prog fid] (us cs : List Value) (hg : A6D g Q fid us cs) : ∀ (t : Tm) (G : IM) (cells : List Value), mOk Q g t → t.small → B1 G t cells →
  Fn Tryz.prog 75 [.agg ⟨cells⟩, .func (.func fid) ⟨us⟩ ⟨cs⟩] [] G (A6A (A1p g t) G) := by
 refine Tm.ind fun k nm num ty fr lb ks ih G cells hmo hts hr => ?_
 have hone := hr.one
 simp only [mOk] at hmo
 obtain ⟨hmoL, hQ⟩ := hmo
 simp only [Tm.small] at hts
 obtain ⟨hnm, hty', hfr', hsm, hks⟩ := hts
 obtain ⟨tk, tks⟩ := ty
 obtain ⟨fk, fks⟩ := fr
 obtain ⟨pt, ct, pf, cf, p, c, es, rfl, hk, hnum, hlb, hty, hfr, hsl, hkl⟩ := hr.open9
 have hn := hsl.le
 have hlen : (A0B g ks).length = ks.length := by rw [A6B, List.length_map]
 have hget : ∀ i (h : i < ks.length) (h' : i < (A0B g ks).length), (A0B g ks)[i] = A1p g ks[i] := fun i h h' => by simp [A6B]
 refine C1 Tryz.func75 rfl Tryz.ntmps75 Tryz.results75 rfl ?_
 intro w0
 refine A3 ?_
 refine sE (C7 rfl rfl) rfl (fun b3 => ?_)
 refine sE (A7 rfl) rfl (fun b4 => ?_)
 refine K0 ?_
 refine C0 ?_
 (refine Q9 37 9 ?_; refine J0 (fun (x : Nat × Option Addr × Nat × List (List Value) × List Nat × IM) => ⟨[(11, .int .i64 x.1), (10, .int .i64 ks.length), (9, .slice p ks.length c), (5, .slice x.2.1 x.1 x.2.2.1), (2, .pointer (some ⟨b3, 0, none⟩)), (1, .func (.func fid) ⟨us⟩ ⟨cs⟩), (4, .pointer (some ⟨b4, 0, none⟩))], [.slc x.2.1 x.2.2.1 37 9 x.1 x.2.2.2.1.flatten, .blk b4 [.int .i64 0, .string ⟨⟨[]⟩⟩, .int .i64 0, .int .i64 0, .slice none 0 0, .int .i64 0, .slice none 0 0, .int .i64 0, .slice none 0 0], .blk b3 [.int .i64 k, .string nm, .int .i64 num, .int .i64 tk, .slice pt tks.length ct, .int .i64 fk, .slice pf fks.length cf, .int .i64 lb, .slice p ks.length c]], x.2.2.2.2.2⟩) (fun x => x.1 ≤ ks.length ∧ C2 G x.2.2.2.2.2 ∧ O5 (C5 x.2.2.2.2.2 G) ((A0B g ks).take x.1) x.2.2.2.1 x.2.2.2.2.1 ∧ x.2.2.2.2.1.Nodup) (fun x => ks.length - x.1) (0, none, 0, [], [], G) ?_ ?_ ?_)
 (simp only [H6]; exact D2)
 exact ⟨by simp, C2.refl _, by simp [O5], by simp⟩
 (rintro ⟨i, pn, cn, es', F, Gi⟩ ⟨hi, hle, hst, hnd⟩; simp only [] at hi hle hst hnd ⊢; replace hsl := hsl.mono hle; replace hkl := hkl.mono hle)
 refine A3 ?_
 refine sB (I8 rfl rfl) rfl rfl (fun h28 => ?_) (fun h28 => ?_)
 refine B5 ?_
 refine C0 ?_
 refine A3 ?_
 (obtain ⟨b, o, e, rfl, hl, hat, hre, hgb⟩ := hsl.kidTm hkl (i := i) (by omega) (by omega); have hone := hre.one; refine sP (B6 rfl rfl rfl (by omega)) rfl rfl ?_)
 refine sL (A2 rfl rfl (hat _) hl) rfl rfl ?_
 refine sE (A7 rfl) rfl (fun b41 => ?_)
 refine sS rfl rfl rfl hl hone rfl ?_ (hu := by exact D4 hl.symm)
 refine B4 ?_
 refine sL (A2 rfl rfl (A9 (by repeat first | exact mH | apply mT)) (by assumption)) rfl rfl ?_
 refine E3 ?_
 (refine D9 rfl (ih ks[i] (List.getElem_mem (by omega)) _ _ (A9v hmoL _ (List.getElem_mem (by omega))) (Tm.smallL_mem hks _ (List.getElem_mem (by omega))) hre) rfl rfl (fun v G3 hle3 hh => ?_); obtain ⟨cells', F', rfl, hs', hnd'⟩ := hh; rw [← hget i (by omega) (by omega)] at hs'; have hlc := hs'.R.len; have hoc := hs'.R.one)
 (obtain ⟨v1, v2, v3, v4, v5, v6, v7, v8, v9, rfl⟩ : ∃ v1 v2 v3 v4 v5 v6 v7 v8 v9, cells' = [v1, v2, v3, v4, v5, v6, v7, v8, v9] := by obtain ⟨_, _, _, _, _, _, _, _, _, rfl, _⟩ := hs'.R.open; exact ⟨_, _, _, _, _, _, _, _, _, rfl⟩)
 (refine I3 (D0 rfl rfl rfl (by omega) (by unfold maxLen; omega) rfl) rfl ?_; rintro _ ⟨b51, rfl⟩)
 refine Y5 rfl rfl rfl rfl rfl (fun _ _ => by repeat (first | exact Sw.here | apply Sw.there)) (M1 (by repeat first | exact mH | apply mT)) rfl (fun u hu => List.all_eq_true.1 hoc u hu) (by unfold maxLen; omega) (by omega) rfl (fun pn' cn' => ?_)
 refine B0 ?_
 refine sP (H5 rfl rfl (by omega) (by omega)) rfl rfl ?_
 refine A3 ?_
 refine I1 (i + 1, pn', cn', es' ++ [[v1, v2, v3, v4, v5, v6, v7, v8, v9]], F ++ F', G3) ?_ ?_ ?_
 (simp only [H6]; exact D2)
 exact A9s
 exact V0
 refine J3 ?_
 (obtain rfl : i = ks.length := (by omega); refine A10 (by repeat (first | exact Pk.here | apply Pk.there)) (fun G2 hle2 hsl2 hno2 => ?_); rw [← hlen, List.take_length] at hst; rw [← hlen] at hsl2; obtain ⟨F3, hf1, hf2⟩ := A2x.fin hst hnd hle hle2 hsl2 hno2; have hleG := hle.trans hle2; have hT := A1Q (.mk tk tks) G2 _ hty' (hty.mono hleG); refine E2 E4 rfl ?_)
 refine J4 (i := 0) (l' := [tt,ff,ff,ff,ff,ff,ff,ff,ff,ff,ff,ff,ff]) rfl D6 (B9 rfl) rfl (by kernel_rfl) rfl rfl ?_
 refine aL 1 rfl (A5 rfl rfl) rfl ?_
 refine aP 3 rfl (B9 rfl) rfl ?_
 refine aL 4 rfl (A5 rfl rfl) rfl ?_
 refine aP 6 rfl (qM rfl) rfl ?_
 refine A4 2 ?_
 (refine H7 rfl rfl hT rfl rfl rfl (fun v G4 hle4 hh => ?_); obtain ⟨cs1, F1, rfl, hs1, hn1⟩ := hh; obtain ⟨p1, c1, rfl, _⟩ := hs1.open; have hF := A1Q (.mk fk fks) G4 _ hfr' (hfr.mono (hleG.trans hle4)))
 refine aP 7 rfl (B9 rfl) rfl ?_
 refine A4 5 ?_
 (refine H7 rfl rfl hF rfl rfl rfl (fun v G5 hle5 hh => ?_); obtain ⟨cs2, F2, rfl, hs2, hn2⟩ := hh; obtain ⟨p2, c2, rfl, _⟩ := hs2.open; obtain ⟨F6, hg1, hg2⟩ := P2.mk3k (nm := nm) hk hnum hlb hleG hle4 hle5 hf1 hf2 hs1 hn1 hs2 hn2; rw [hlen] at hg1; have hch := hg _ G G5 _ F6 hQ (hleG.trans (hle4.trans hle5)) hg1 hg2)
 refine A4 8 ?_
 refine R5 rfl rfl rfl rfl rfl rfl rfl rfl (by kernel_rfl) (by repeat first | exact Sw.here | apply Sw.there) (by rfl) ?_
 refine aP 9 rfl (B9 rfl) rfl ?_
 refine A4 10 ?_
 refine R5 rfl rfl rfl rfl rfl rfl rfl rfl (by kernel_rfl) (by repeat first | exact Sw.here | apply Sw.there) (by rfl) ?_
 refine aP 11 rfl (B9 rfl) rfl ?_
 refine A4 12 ?_
 refine R5 rfl rfl rfl rfl rfl rfl rfl rfl (by kernel_rfl) (by repeat first | exact Sw.here | apply Sw.there) (by rfl) ?_
 refine A8 ?_
 (refine I3 (A4x rfl rfl hch (List.Perm.refl _) rfl) rfl ?_; rintro _ ⟨v, G7, outs, rfl, hle7, rfl, cells7, F7, rfl, hs7, hn7⟩; have hl7 := hs7.R.len; have ho7 := hs7.R.one)
 refine sS rfl rfl rfl hl7 ho7 rfl ?_ (hu := by exact D4 hl7.symm)
 refine B7 ?_
 refine M3 (rC rfl (A2 rfl rfl (A9 (by repeat first | exact mH | apply mT)) hl7)) ?_
 (rw [A1p]; exact ⟨rfl, cells7, F7, rfl, hs7, hn7⟩)
theorem B31 (G : IM) (cells : List Value) (hl : cells.length = 9) (hone : cells.all (·.oneCell') = true) : Fn Tryz.prog 112 [.agg ⟨cells⟩] [] G (I5 (.agg ⟨cells⟩) G) := by
 refine C1 Tryz.func112 rfl Tryz.ntmps112 Tryz.results112 rfl ?_
 intro w0
 refine A3 ?_
 refine sE (C7 rfl rfl) rfl (fun b3 => ?_)
 refine sE (A7 rfl) rfl (fun b4 => ?_)
 refine B4 ?_
 refine sL (A2 rfl rfl (A9 (by repeat first | exact mH | apply mT)) (by assumption)) rfl rfl ?_
 refine sS rfl rfl rfl hl hone rfl ?_ (hu := by exact D4 hl.symm)
 refine B7 ?_
 refine M3 (rC rfl (A2 rfl rfl (A9 (by repeat first | exact mH | apply mT)) hl)) ?_
 exact ⟨rfl, rfl, rfl⟩
theorem B32 : A6D id (fun _ => True) 112 [] [] := fun t G0 G1 cells F _ hle hs hn =>
 (B31 G1 cells hs.R.len hs.R.one).mono fun G' v outs _ ⟨h1, h2, h3⟩ => ⟨h3, cells, F, h2, by rw [h1]; exact hs, hn⟩
theorem A6E (t : Tm) (G : IM) (cells : List Value) (hts : t.small) (hr : B1 G t cells) : Fn Tryz.prog 62 [.agg ⟨cells⟩] [] G (A6A t G) := by
 have hl := hr.len
 have hone := hr.one
 have hM := A9x id (fun _ => True) 112 [] [] B32 t G cells (A6C _ t) hts hr
 rw [A9t] at hM
 refine C1 Tryz.func62 rfl Tryz.ntmps62 Tryz.results62 rfl ?_
 intro w0
 refine A3 ?_
 refine sE (C7 rfl rfl) rfl (fun b3 => ?_)
 refine sE (A7 rfl) rfl (fun b4 => ?_)
 refine B4 ?_
 refine sL (A2 rfl rfl (A9 (by repeat first | exact mH | apply mT)) (by assumption)) rfl rfl ?_
 (refine D9 rfl hM rfl rfl (fun v G3 hle3 hh => ?_); obtain ⟨cells', F', rfl, hs', hnd'⟩ := hh; have hl' := hs'.R.len; have ho' := hs'.R.one)
 refine sS rfl rfl rfl hl' ho' rfl ?_ (hu := by exact D4 hl'.symm)
 refine B7 ?_
 refine M3 (rC rfl (A2 rfl rfl (A9 (by repeat first | exact mH | apply mT)) hl')) ?_
 exact ⟨rfl, cells', F', rfl, hs', hnd'⟩
theorem B33 {D N : Int} {k : Int} {nm : ByteArray} {num : Int} {ty fr : Ty} {lb : Int} {ks : List Tm} {d : Int} (h : M8 D N (.mk k nm num ty fr lb ks) d = true) : d ≤ D ∧ ∀ i, (hi : i < ks.length) → M8 D N ks[i] (d + 1) = true := by
 rw [M8] at h
 simp only [Bool.and_eq_true, decide_eq_true_eq] at h
 exact ⟨h.1.1.1, (A1n D N ks _).1 h.2⟩
mutual
theorem A6F (M D N : Int) : ∀ (t : Tm) (deep c : Int), c ≤ M → ((S4 M D N t deep c).1 = true ↔ M8 D N t deep = true ∧ c + D3 t ≤ M)
 | .mk k nm num ty fr lb ks, deep, c, hc => by
  rw [S4, D3]
  by_cases h : c + 1 > M ∨ deep > D ∨ k = N ∨ V8 k nm num ty fr lb ks.length = false
  ·rw [if_pos h]
   constructor
   ·intro h; cases h
   ·rintro ⟨h1, h2⟩
    rcases h with h | h
    ·omega
    ·rw [A9m h] at h1; cases h1
  ·rw [if_neg h]
   have hn : V8 k nm num ty fr lb ks.length = true := by
    cases hx : V8 k nm num ty fr lb ks.length with
    | true => rfl
    | false => exact absurd (Or.inr (Or.inr (Or.inr hx))) h
   rw [A14 (by omega) (by omega) hn, A9y M D N ks (deep + 1) (c + 1) (by omega)]
   constructor
   ·rintro ⟨a, b⟩; exact ⟨a, by omega⟩
   ·rintro ⟨a, b⟩; exact ⟨a, by omega⟩
theorem A9y (M D N : Int) : ∀ (ts : List Tm) (deep c : Int), c ≤ M → ((U1 M D N ts deep c).1 = true ↔ M4 D N ts deep = true ∧ c + E7 ts ≤ M)
 | [], deep, c, hc => by simp [U1, M4, E7]; omega
 | t :: ts, deep, c, hc => by
  have h0 := A6F M D N t deep c hc
  rw [U1, M4, E7, Bool.and_eq_true]
  by_cases h : (S4 M D N t deep c).1 = true
  ·rw [if_pos h, A6h M D N t deep c h, A9y M D N ts deep _ (h0.1 h).2]
   have := h0.1 h
   constructor
   ·rintro ⟨a, b⟩; exact ⟨⟨this.1, a⟩, by omega⟩
   ·rintro ⟨⟨_, a⟩, b⟩; exact ⟨a, by omega⟩
  ·rw [if_neg h]
   constructor
   ·intro h'; cases h'
   ·rintro ⟨⟨a, _⟩, b⟩
    exact absurd (h0.2 ⟨a, by omega⟩) h
end
theorem A6G (t : Tm) : O4 t = true ↔ M8 40 13 t 1 = true ∧ D3 t ≤ 200 := by
 have := A6F 200 40 13 t 1 0 (by omega)
 rw [O4, this]
 constructor
 ·rintro ⟨a, b⟩; exact ⟨a, by omega⟩
 ·rintro ⟨a, b⟩; exact ⟨a, by omega⟩
theorem A9z (D N : Int) : ∀ (t : Tm) (d : Int) (G : IM) (cells : List Value), d ≤ 40 → M8 D N t (D + 1 - d) = true → D3 t ≤ 4294967296 → B1 G t cells →
  Fn Tryz.prog 186 [.agg ⟨cells⟩, .int .i64 d] [] G (I5 (.int .i64 (D3 t : Int)) G) := by
 refine Tm.ind fun k nm num ty fr lb ks ih d G cells hd hv hcnt hr => ?_
 have hone := hr.one
 obtain ⟨hv1, hv2⟩ := B33 hv
 obtain ⟨tk, tks⟩ := ty
 obtain ⟨fk, fks⟩ := fr
 obtain ⟨pt, ct, pf, cf, p, c, es, rfl, hk, hnum, hlb, hty, hfr, hsl, hkl⟩ := hr.open9
 have hn := hsl.le
 clear hr
 rw [D3] at hcnt ⊢
 refine C1 Tryz.func186 rfl Tryz.ntmps186 Tryz.results186 rfl ?_
 intro w0
 refine A3 ?_
 refine sE (C7 rfl rfl) rfl (fun b3 => ?_)
 refine J9 ?_
 refine C0 ?_
 (refine J0 (fun (i : Nat) => ⟨[(6, .int .i64 i), (5, .int .i64 ((E7 (ks.take i) + 1 : Nat) : Int)), (2, .pointer (some ⟨b3, 0, none⟩)), (1, .int .i64 d)], [.blk b3 [.int .i64 k, .string nm, .int .i64 num, .int .i64 tk, .slice pt tks.length ct, .int .i64 fk, .slice pf fks.length cf, .int .i64 lb, .slice p ks.length c]], G⟩) (fun i => i ≤ ks.length) (fun i => ks.length - i) 0 ?_ ?_ ?_)
 exact D2
 exact Nat.zero_le _
 (rintro i hi)
 refine B5 ?_
 refine sB (I8 rfl rfl) rfl rfl (fun h30 => ?_) (fun h30 => ?_)
 refine A3 ?_
 refine sP (A3K rfl rfl (by omega)) rfl rfl ?_
 refine B5 ?_
 refine C0 ?_
 refine B0 ?_
 (obtain ⟨b, o, e, rfl, hl, hat, hre, hgb⟩ := hsl.kidTm hkl (i := i) (by omega) (by omega); have htk := A0L (ks := ks) (i := i) (by omega); refine sP (B6 rfl rfl rfl (by omega)) rfl rfl ?_)
 refine sL (A2 rfl rfl (hat _) hl) rfl rfl ?_
 refine E3 ?_
 refine sP (O9 rfl rfl (by omega) (by omega)) rfl rfl ?_
 (have hvk := hv2 i (by omega); rw [show D + 1 - d + 1 = D + 1 - (d - 1) by omega] at hvk; refine E8 rfl (ih ks[i] (List.getElem_mem (by omega)) (d - 1) G _ (by omega) hvk (by omega) hre) rfl rfl ?_)
 refine sP (H5 rfl rfl (by omega) (by omega)) rfl rfl ?_
 refine A8 ?_
 refine sP (H5 rfl rfl (by omega) (by omega)) rfl rfl ?_
 refine A3 ?_
 (refine I1 (i + 1) ?_ ?_ ?_; rw [show ((E7 (ks.take (i + 1)) + 1 : Nat) : Int) = ((E7 (ks.take i) + 1 : Nat) : Int) + (D3 ks[i] : Int) from by rw [A0M (by omega)]; omega])
 exact D2
 omega
 omega
 refine A0e ?_
 (obtain rfl : i = ks.length := (by omega); rw [List.take_length]; exact ⟨rfl, rfl, rfl⟩)
theorem A4Y {Q : Prop} (h : Q := by exact ⟨rfl, by (cases R with | false => rfl | true => (exfalso; have h0 := hi.1 rfl; first | omega | simp_all)), rfl⟩) : Q := h
theorem A9A (t : Tm) (G : IM) (cells : List Value) (hcnt : D3 t ≤ 4294967296) (hr : B1 G t cells) :
  Fn Tryz.prog 144 [.agg ⟨cells⟩] [] G (I5 (.bool (O4 t)) G) := by
 have hl := hr.len
 have hv := B3Z t 40 G cells (by omega) hr
 have hc := fun h => A9z 40 13 t 40 G cells (by omega) h hcnt hr
 have hi := A6G t
 obtain ⟨R, hR⟩ : ∃ R, O4 t = R := ⟨_, rfl⟩
 rw [hR] at hi ⊢
 refine C1 Tryz.func144 rfl Tryz.ntmps144 Tryz.results144 rfl ?_
 intro w0
 refine A3 ?_
 refine sE (C7 rfl rfl) rfl (fun b3 => ?_)
 refine B0 ?_
 refine sL (A2 rfl rfl (A9 (by repeat first | exact mH | apply mT)) (by assumption)) rfl rfl ?_
 refine F4 rfl (hv) rfl rfl (fun h10 => ?_) (fun h10 => ?_)
 refine E3 ?_
 refine sL (A2 rfl rfl (A9 (by repeat first | exact mH | apply mT)) (by assumption)) rfl rfl ?_
 refine E8 rfl (hc (by assumption)) rfl rfl ?_
 refine sB (Y4 rfl rfl) rfl rfl (fun h14 => ?_) (fun h14 => ?_)
 refine A8 ?_
 exact ⟨rfl, by rw [hi.2 ⟨by assumption, by omega⟩], rfl⟩
 refine A8 ?_
 exact A4Y
 refine J3 ?_
 exact A4Y
end Gw
end Go.Proofs.YtebfignffjhnhaaGreatDoor
