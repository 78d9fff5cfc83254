/-
  The tests of terms.
-/
import Derived.Test.YtmceanphadildaaGreatDoorKb1
set_option linter.unusedVariables false
set_option linter.unusedSimpArgs false
set_option maxHeartbeats 0
set_option maxRecDepth 100000
set_option synthInstance.maxSize 4000
set_option synthInstance.maxHeartbeats 0
namespace Go.Proofs.YtmceanphadildaaGreatDoor
open Go Go.RowKit
namespace Gw
theorem B1A (k : Int) (G : IM) (hk : F9 k) : Fn Tryz.prog 151 [.int .i64 k] [] G (F8 (.int .i64 (H8 k)) G) := by
 unfold F9 at hk
 refine D5 Tryz.func151 rfl Tryz.ntmps151 Tryz.results151 rfl ?_
 intro w0
 refine C2 ?_
 refine I5 rfl (A0M _ _ _ _) rfl rfl (fun h10 => ?_) (fun h10 => ?_)
 refine B4 ?_
 (refine F0 (C0 rfl rfl rfl zV zQ rfl) rfl ?_; rintro _ ⟨b19, rfl⟩)
 refine I0 ?_
 (have hkk : 1 ≤ k ∧ k ≤ 14 := A40 zS; refine sP (R9 rfl rfl zV zV) rfl rfl ?_)
 refine sP (A57 rfl rfl rfl zV zV) rfl rfl ?_
 refine sL (A03 rfl rfl (B0b zO (B0H (by rw [Nat.zero_add, Nat.mul_one]; exact B0G hkk)))) rfl rfl ?_
 refine A9 ?_
 exact ⟨rfl, rfl, rfl⟩
 refine K1 ?_
 exact ⟨rfl, by rw [A3E (A6x zS)], rfl⟩
theorem B1B (k : Int) (nm : ByteArray) (num : Int) (ty fr : Ty) (lb : Int) (ks : List Tm) (G : IM) (cells : List Value) (hr : D1 G (.mk k nm num ty fr lb ks) cells) :
  Fn Tryz.prog 108 [.agg ⟨cells⟩] [] G (F8 (.bool (R4 k nm num ty fr lb ks.length)) G) := by
 obtain ⟨tk, tks⟩ := ty
 obtain ⟨fk, fks⟩ := fr
 obtain ⟨pt, ct, pf, cf, p, c, es, rfl, hk, hnum, hlb, hty, hfr, hsl, hkl⟩ := hr.open9
 have hi := @S8 k nm num (.mk tk tks) (.mk fk fks) lb ks.length
 obtain ⟨R, hR⟩ : ∃ R, R4 k nm num (.mk tk tks) (.mk fk fks) lb ks.length = R := ⟨_, rfl⟩
 rw [hR] at hi ⊢
 clear hR hr
 have o1 := B1A k G hk
 have o2 := B1x nm G
 have o3 := A20 _ G _ hty
 have o4 := A7m _ G _ hty
 have o5 := B1z _ _ G _ _ hfr hty
 have o6 := B1w lb G
 have o7 := A7m _ G _ hfr
 refine D5 Tryz.func108 rfl Tryz.ntmps108 Tryz.results108 rfl ?_
 intro w0
 refine A3 ?_
 refine sE (D8 rfl rfl) rfl (fun b3 => ?_)
 refine A9 ?_
 refine D3 D4 rfl ?_
 refine E9 (i := 0) (l' := [tt,ff,ff,ff,ff,ff,ff]) rfl C1 (B0 rfl) rfl zT rfl rfl ?_
 refine aL 1 rfl (B3 rfl rfl) rfl ?_
 refine aP 3 rfl (B0 rfl) rfl ?_
 refine aL 4 rfl (B3 rfl rfl) rfl ?_
 refine aP 5 rfl (pLn rfl rfl) rfl ?_
 refine A0 2 ?_
 refine M8 rfl rfl (o1) rfl rfl rfl ?_
 refine V4 (i := 6) (l' := [tt,tt,tt,tt,tt,tt,tt]) rfl C1 (O6 rfl rfl) rfl zT rfl rfl (fun h17 => ?_) (fun h17 => ?_)
 refine E8 ?_
 exact ⟨rfl, zA, rfl⟩
 refine C2 ?_
 refine sB (qE rfl rfl) rfl rfl (fun h39 => ?_) (fun h39 => ?_)
 refine K1 ?_
 refine sP (E1 rfl rfl zV) rfl rfl ?_
 refine B2 ?_
 refine sP (E1 rfl rfl zV) rfl rfl ?_
 refine C3 ?_
 refine sP (E1 rfl rfl zV) rfl rfl ?_
 refine B4 ?_
 refine sP (E1 rfl rfl zV) rfl rfl ?_
 refine G9 ?_
 refine sP (E1 rfl rfl zV) rfl rfl ?_
 refine A7 ?_
 refine B7 ?_
 refine A8 ?_
 refine I5 rfl (o2) rfl rfl (fun h99 => ?_) (fun h99 => ?_)
 refine A07 ?_
 refine I5 rfl (A0M _ _ _ _) rfl rfl (fun h123 => ?_) (fun h123 => ?_)
 refine A4W ?_
 refine I5 rfl (o4) rfl rfl (fun h149 => ?_) (fun h149 => ?_)
 refine V6 ?_
 refine C3 ?_
 refine I5 rfl (o7) rfl rfl (fun h184 => ?_) (fun h184 => ?_)
 refine C3 ?_
 refine sB (O6 rfl rfl) rfl rfl (fun h189 => ?_) (fun h189 => ?_)
 refine I9 ?_
 exact ⟨rfl, zA, rfl⟩
 refine K0 ?_
 exact ⟨rfl, by rw [hi.2 ⟨by omega, fun _ => zK, fun _ => zK, fun _ => zK, fun _ => zK, fun _ => zK, fun _ => zK, fun _ => ⟨by (first | assumption | (exfalso; omega)), by (first | assumption | (exfalso; omega))⟩, fun _ => ⟨by (first | assumption | (exfalso; omega)), by (first | assumption | omega)⟩⟩], rfl⟩
 refine Z0 ?_
 exact ⟨rfl, zA, rfl⟩
 refine I9 ?_
 exact ⟨rfl, zA, rfl⟩
 refine J5 ?_
 exact ⟨rfl, zA, rfl⟩
 refine U9 ?_
 exact ⟨rfl, zA, rfl⟩
 refine B2 ?_
 refine sB (qE rfl rfl) rfl rfl (fun h297 => ?_) (fun h297 => ?_)
 refine B4 ?_
 refine sP (I1 rfl rfl zV) rfl rfl ?_
 refine R0 ?_
 refine sP (E1 rfl rfl zV) rfl rfl ?_
 refine G9 ?_
 refine sP (E1 rfl rfl zV) rfl rfl ?_
 refine A7 ?_
 refine B7 ?_
 refine A8 ?_
 refine I5 rfl (o2) rfl rfl (fun h353 => ?_) (fun h353 => ?_)
 refine A07 ?_
 refine I5 rfl (A0M _ _ _ _) rfl rfl (fun h377 => ?_) (fun h377 => ?_)
 refine K1 ?_
 refine I5 rfl (o3) rfl rfl (fun h390 => ?_) (fun h390 => ?_)
 refine V6 ?_
 refine R0 ?_
 refine I5 rfl (o7) rfl rfl (fun h438 => ?_) (fun h438 => ?_)
 refine C3 ?_
 refine sB (O6 rfl rfl) rfl rfl (fun h443 => ?_) (fun h443 => ?_)
 refine I9 ?_
 exact ⟨rfl, zA, rfl⟩
 refine K0 ?_
 exact ⟨rfl, by rw [hi.2 ⟨by omega, fun _ => zK, fun _ => zK, fun _ => zK, fun _ => zK, fun _ => zK, fun _ => zK, fun _ => ⟨by (first | assumption | (exfalso; omega)), by (first | assumption | (exfalso; omega))⟩, fun _ => ⟨by (first | assumption | (exfalso; omega)), by (first | assumption | omega)⟩⟩], rfl⟩
 refine Z0 ?_
 exact ⟨rfl, zA, rfl⟩
 refine U9 ?_
 exact ⟨rfl, zA, rfl⟩
 refine J5 ?_
 exact ⟨rfl, zA, rfl⟩
 refine U9 ?_
 exact ⟨rfl, zA, rfl⟩
 refine B4 ?_
 refine sP (E1 rfl rfl zV) rfl rfl ?_
 refine B2 ?_
 refine sB (qE rfl rfl) rfl rfl (fun h563 => ?_) (fun h563 => ?_)
 refine G9 ?_
 refine sP (E1 rfl rfl zV) rfl rfl ?_
 refine G9 ?_
 refine sP (E1 rfl rfl zV) rfl rfl ?_
 refine A7 ?_
 refine B7 ?_
 refine Z1 ?_
 refine sB (A04 rfl rfl) rfl rfl (fun h620 => ?_) (fun h620 => ?_)
 refine R0 ?_
 exact ⟨rfl, zA, rfl⟩
 refine C2 ?_
 refine I5 rfl (A0M _ _ _ _) rfl rfl (fun h648 => ?_) (fun h648 => ?_)
 refine K1 ?_
 refine I5 rfl (o3) rfl rfl (fun h661 => ?_) (fun h661 => ?_)
 refine V6 ?_
 refine R0 ?_
 refine I5 rfl (o7) rfl rfl (fun h709 => ?_) (fun h709 => ?_)
 refine C3 ?_
 refine sB (O6 rfl rfl) rfl rfl (fun h714 => ?_) (fun h714 => ?_)
 refine I9 ?_
 exact ⟨rfl, zA, rfl⟩
 refine K0 ?_
 exact ⟨rfl, by rw [hi.2 ⟨by omega, fun _ => zK, fun _ => zK, fun _ => zK, fun _ => zK, fun _ => zK, fun _ => zK, fun _ => ⟨by (first | assumption | (exfalso; omega)), by (first | assumption | (exfalso; omega))⟩, fun _ => ⟨by (first | assumption | (exfalso; omega)), by (first | assumption | omega)⟩⟩], rfl⟩
 refine Z0 ?_
 exact ⟨rfl, zA, rfl⟩
 refine U9 ?_
 exact ⟨rfl, zA, rfl⟩
 refine J5 ?_
 exact ⟨rfl, zA, rfl⟩
 refine C3 ?_
 refine sB (qE rfl rfl) rfl rfl (fun h807 => ?_) (fun h807 => ?_)
 refine B4 ?_
 refine sP (I1 rfl rfl zV) rfl rfl ?_
 refine G9 ?_
 refine sP (E1 rfl rfl zV) rfl rfl ?_
 refine A7 ?_
 refine B7 ?_
 refine Z1 ?_
 refine sB (A04 rfl rfl) rfl rfl (fun h859 => ?_) (fun h859 => ?_)
 refine R0 ?_
 exact ⟨rfl, zA, rfl⟩
 refine C2 ?_
 refine I5 rfl (A0M _ _ _ _) rfl rfl (fun h887 => ?_) (fun h887 => ?_)
 refine K1 ?_
 refine I5 rfl (o3) rfl rfl (fun h900 => ?_) (fun h900 => ?_)
 refine A6s ?_
 refine I5 rfl (o5) rfl rfl (fun h929 => ?_) (fun h929 => ?_)
 refine C3 ?_
 refine I5 rfl (o6) rfl rfl (fun h934 => ?_) (fun h934 => ?_)
 refine V6 ?_
 refine A9 ?_
 exact ⟨rfl, by rw [hi.2 ⟨by omega, fun _ => zK, fun _ => zK, fun _ => zK, fun _ => zK, fun _ => zK, fun _ => zK, fun _ => ⟨by (first | assumption | (exfalso; omega)), by (first | assumption | (exfalso; omega))⟩, fun _ => ⟨by (first | assumption | (exfalso; omega)), by (first | assumption | omega)⟩⟩], rfl⟩
 refine Z7 ?_
 exact ⟨rfl, zA, rfl⟩
 refine A2i ?_
 exact ⟨rfl, zA, rfl⟩
 refine U9 ?_
 exact ⟨rfl, zA, rfl⟩
 refine J5 ?_
 exact ⟨rfl, zA, rfl⟩
 refine B4 ?_
 refine sP (E1 rfl rfl zV) rfl rfl ?_
 refine G9 ?_
 refine sB (qE rfl rfl) rfl rfl (fun h1072 => ?_) (fun h1072 => ?_)
 refine B4 ?_
 refine B7 ?_
 refine Z1 ?_
 refine sB (A04 rfl rfl) rfl rfl (fun h1103 => ?_) (fun h1103 => ?_)
 refine R0 ?_
 exact ⟨rfl, zA, rfl⟩
 refine C2 ?_
 refine I5 rfl (A0M _ _ _ _) rfl rfl (fun h1131 => ?_) (fun h1131 => ?_)
 refine A4W ?_
 refine I5 rfl (o4) rfl rfl (fun h1157 => ?_) (fun h1157 => ?_)
 refine V6 ?_
 refine C3 ?_
 refine I5 rfl (o7) rfl rfl (fun h1192 => ?_) (fun h1192 => ?_)
 refine C3 ?_
 refine sB (O6 rfl rfl) rfl rfl (fun h1197 => ?_) (fun h1197 => ?_)
 refine I9 ?_
 exact ⟨rfl, zA, rfl⟩
 refine K0 ?_
 exact ⟨rfl, by rw [hi.2 ⟨by omega, fun _ => zK, fun _ => zK, fun _ => zK, fun _ => zK, fun _ => zK, fun _ => zK, fun _ => ⟨by (first | assumption | (exfalso; omega)), by (first | assumption | (exfalso; omega))⟩, fun _ => ⟨by (first | assumption | (exfalso; omega)), by (first | assumption | omega)⟩⟩], rfl⟩
 refine Z0 ?_
 exact ⟨rfl, zA, rfl⟩
 refine I9 ?_
 exact ⟨rfl, zA, rfl⟩
 refine J5 ?_
 exact ⟨rfl, zA, rfl⟩
 refine A7 ?_
 refine B7 ?_
 refine Z1 ?_
 refine sB (A04 rfl rfl) rfl rfl (fun h1311 => ?_) (fun h1311 => ?_)
 refine R0 ?_
 exact ⟨rfl, zA, rfl⟩
 refine C2 ?_
 refine I5 rfl (A0M _ _ _ _) rfl rfl (fun h1339 => ?_) (fun h1339 => ?_)
 refine A4W ?_
 refine I5 rfl (o4) rfl rfl (fun h1365 => ?_) (fun h1365 => ?_)
 refine V6 ?_
 refine C3 ?_
 refine I5 rfl (o7) rfl rfl (fun h1400 => ?_) (fun h1400 => ?_)
 refine C3 ?_
 refine sB (O6 rfl rfl) rfl rfl (fun h1405 => ?_) (fun h1405 => ?_)
 refine I9 ?_
 exact ⟨rfl, zA, rfl⟩
 refine K0 ?_
 exact ⟨rfl, by rw [hi.2 ⟨by omega, fun _ => zK, fun _ => zK, fun _ => zK, fun _ => zK, fun _ => zK, fun _ => zK, fun _ => ⟨by (first | assumption | (exfalso; omega)), by (first | assumption | (exfalso; omega))⟩, fun _ => ⟨by (first | assumption | (exfalso; omega)), by (first | assumption | omega)⟩⟩], rfl⟩
 refine Z0 ?_
 exact ⟨rfl, zA, rfl⟩
 refine I9 ?_
 exact ⟨rfl, zA, rfl⟩
 refine J5 ?_
 exact ⟨rfl, zA, rfl⟩
theorem A7n (M D N : Int) (hM : 0 ≤ M ∧ M ≤ 1000) (hD : 0 ≤ D ∧ D ≤ 1000) (bc : Nat) : ∀ (t : Tm) (deep c : Int) (G : IM) (cells : List Value), 0 ≤ deep ∧ deep ≤ D + 1 → 0 ≤ c ∧ c ≤ M → D1 G t cells →
  Fn Tryz.prog 56 [.agg ⟨cells⟩, .int .i64 deep, .int .i64 M, .int .i64 D, .int .i64 N, .pointer (some ⟨bc, 0, none⟩)] [.blk bc [.int .i64 c]] G
   (S0 (.bool (P1 M D N t deep c).1) [.blk bc [.int .i64 (P1 M D N t deep c).2]] G) := by
 refine Tm.ind fun k nm num ty fr lb ks ih deep c G cells hd hc hr => ?_
 have hno := B1B k nm num ty fr lb ks G cells hr
 obtain ⟨tk, tks⟩ := ty
 obtain ⟨fk, fks⟩ := fr
 obtain ⟨pt, ct, pf, cf, p, cp, es, rfl, hk, hnum, hlb, hty, hfr, hsl, hkl⟩ := hr.open9
 have hn := hsl.le
 obtain ⟨R, hR⟩ : ∃ R, R4 k nm num (.mk tk tks) (.mk fk fks) lb ks.length = R := ⟨_, rfl⟩
 rw [hR] at hno
 refine D5 Tryz.func56 rfl Tryz.ntmps56 Tryz.results56 rfl ?_
 intro w0
 refine A3 ?_
 refine sE (D8 rfl rfl) rfl (fun b3 => ?_)
 refine A7 ?_
 refine sQ (A2b rfl) rfl ?_
 refine I0 ?_
 refine sP (H9 rfl rfl zV zV) rfl rfl ?_
 refine sQ (A2b rfl) rfl ?_
 refine A8 ?_
 refine sQ (A2b rfl) rfl ?_
 refine A3 ?_
 refine sB (A0h rfl rfl) rfl rfl (fun h24 => ?_) (fun h24 => ?_)
 refine A6q ?_
 refine S1 (outs := [.blk bc [.int .i64 _]]) (rT rfl) (D0.cons zM D0.nil) ?_
 (rw [A3F (by rw [hR]; first | omega | exact Or.inr (Or.inr (Or.inr zS))) ]; exact ⟨rfl, rfl, rfl⟩)
 refine B2 ?_
 refine sB (A0h rfl rfl) rfl rfl (fun h56 => ?_) (fun h56 => ?_)
 refine A2R ?_
 refine S1 (outs := [.blk bc [.int .i64 _]]) (rT rfl) (D0.cons zM D0.nil) ?_
 (rw [A3F (by rw [hR]; first | omega | exact Or.inr (Or.inr (Or.inr zS))) ]; exact ⟨rfl, rfl, rfl⟩)
 refine A9 ?_
 refine sB (qE rfl rfl) rfl rfl (fun h86 => ?_) (fun h86 => ?_)
 refine K0 ?_
 refine S1 (outs := [.blk bc [.int .i64 _]]) (rT rfl) (D0.cons zM D0.nil) ?_
 (rw [A3F (by rw [hR]; first | omega | exact Or.inr (Or.inr (Or.inr zS))) ]; exact ⟨rfl, rfl, rfl⟩)
 refine B2 ?_
 refine I5 rfl (hno) rfl rfl (fun h108 => ?_) (fun h108 => ?_)
 refine K0 ?_
 refine B7 ?_
 (have hmk := B0I (M := M) (D := D) (N := N) (deep := deep) (c := c) zV (hR.trans zS); refine J3 (fun (x : Nat × Int) => ⟨[(44, .int .i64 x.1), (43, .int .i64 ks.length), (42, .slice p ks.length cp), (5, .pointer (some ⟨bc, 0, none⟩)), (4, .int .i64 N), (3, .int .i64 D), (2, .int .i64 M), (1, .int .i64 deep)], [.blk bc [.int .i64 x.2]], G⟩) (fun x => x.1 ≤ ks.length ∧ 0 ≤ x.2 ∧ x.2 ≤ M ∧ Q4 M D N ks (deep + 1) (c + 1) = Q4 M D N (ks.drop x.1) (deep + 1) x.2) (fun x => ks.length - x.1) (0, c + 1) ?_ ?_ ?_)
 (simp only [J4]; exact E3)
 exact ⟨by simp, by simp; omega, by simp; omega, by simp⟩
 (rintro ⟨i, ci⟩ ⟨hi, hc0, hc1, hst⟩; simp only [] at hi hc0 hc1 hst ⊢)
 refine A3 ?_
 refine sB (I3 rfl rfl) rfl rfl (fun h132 => ?_) (fun h132 => ?_)
 refine A8 ?_
 refine B7 ?_
 refine A3 ?_
 (obtain ⟨b, o, e, rfl, hl, hat, hre, hgb⟩ := hsl.kidTm hkl (i := i) zV zV; have hone := hre.one; have hle := A6z M D N ks[i] (deep + 1) ci hc0 hc1; refine sP (A6 rfl rfl rfl zV) rfl rfl ?_)
 refine sL (A2 rfl rfl (hat _) hl) rfl rfl ?_
 refine sE (A4 rfl) rfl (fun b145 => ?_)
 refine U8 rfl rfl rfl zS zS rfl zN (by exact D7 (by symm; assumption)) ?_
 refine C3 ?_
 refine sL (A2 rfl rfl (C9 zO) zS) rfl rfl ?_
 refine I0 ?_
 refine sP (H9 rfl rfl zV zV) rfl rfl ?_
 refine C3 ?_
 refine B0x rfl (ih ks[i] (List.getElem_mem _) (deep + 1) ci G e zV zV hre) (Pk.perm zM) rfl rfl (fun h158 => ?_) (fun h158 => ?_)
 refine B4 ?_
 refine sP (H9 rfl rfl zV zV) rfl rfl ?_
 refine A3 ?_
 refine I6 (i + 1, (P1 M D N ks[i] (deep + 1) ci).2) ?_ ?_ ?_
 (simp only [J4]; exact E3)
 exact ⟨by omega, by omega, hle.2.2 zS, by rw [hst, B0J zV zS]⟩
 (show ks.length - (i + 1) < ks.length - i; omega)
 refine I9 ?_
 refine S1 (outs := [.blk bc [.int .i64 _]]) (rT rfl) (D0.cons zM D0.nil) ?_
 (rw [hmk, hst, B0K zV zS]; exact ⟨rfl, rfl, rfl⟩)
 refine I9 ?_
 refine S1 (outs := [.blk bc [.int .i64 _]]) (rT rfl) (D0.cons zM D0.nil) ?_
 (rw [hmk, hst, B0L zV]; exact ⟨rfl, rfl, rfl⟩)
 refine K1 ?_
 refine S1 (outs := [.blk bc [.int .i64 _]]) (rT rfl) (D0.cons zM D0.nil) ?_
 (rw [A3F (by rw [hR]; first | omega | exact Or.inr (Or.inr (Or.inr zS))) ]; exact ⟨rfl, rfl, rfl⟩)
theorem B1C (t : Tm) (G : IM) (cells : List Value) (hr : D1 G t cells) : Fn Tryz.prog 22 [.agg ⟨cells⟩] [] G (F8 (.bool (T5 t)) G) := by
 have hl := hr.len
 refine D5 Tryz.func22 rfl Tryz.ntmps22 Tryz.results22 rfl ?_
 intro w0
 refine A3 ?_
 refine sE (D8 rfl rfl) rfl (fun b3 => ?_)
 refine A9 ?_
 refine sE (A4 rfl) rfl (fun b9 => ?_)
 refine A9 ?_
 refine sL (A2 rfl rfl (C9 zO) zS) rfl rfl ?_
 refine A3B rfl (A7n 200 40 13 zV zV _ t 1 0 G cells zV zV hr) A0k rfl rfl ?_
 refine A9 ?_
 exact ⟨rfl, rfl, rfl⟩
theorem B1D (t : Tm) (G : IM) (cells : List Value) (hr : D1 G t cells) : Fn Tryz.prog 87 [.agg ⟨cells⟩] [] G (F8 (.bool (V7 t)) G) := by
 have hl := hr.len
 refine D5 Tryz.func87 rfl Tryz.ntmps87 Tryz.results87 rfl ?_
 intro w0
 refine A3 ?_
 refine sE (D8 rfl rfl) rfl (fun b3 => ?_)
 refine A9 ?_
 refine sE (A4 rfl) rfl (fun b9 => ?_)
 refine A9 ?_
 refine sL (A2 rfl rfl (C9 zO) zS) rfl rfl ?_
 refine A3B rfl (A7n 30 12 14 zV zV _ t 1 0 G cells zV zV hr) A0k rfl rfl ?_
 refine A9 ?_
 exact ⟨rfl, rfl, rfl⟩
theorem B1E (k : Int) (G : IM) : Fn Tryz.prog 184 [.int .i64 k] [] G (F8 (.int .i64 (Z9 k)) G) := by
 refine D5 Tryz.func184 rfl Tryz.ntmps184 Tryz.results184 rfl ?_
 intro w0
 refine E8 ?_
 refine B7 ?_
 refine B2 ?_
 refine sB (qE rfl rfl) rfl rfl (fun h16 => ?_) (fun h16 => ?_)
 refine K0 ?_
 exact ⟨rfl, by (first | rw [(M0 k).1 zV] | rw [(M0 k).2.1 zV] | rw [(M0 k).2.2 zV zV zV zV zV]), rfl⟩
 refine A7 ?_
 refine sB (qE rfl rfl) rfl rfl (fun h40 => ?_) (fun h40 => ?_)
 refine K0 ?_
 exact ⟨rfl, by (first | rw [(M0 k).1 zV] | rw [(M0 k).2.1 zV] | rw [(M0 k).2.2 zV zV zV zV zV]), rfl⟩
 refine A9 ?_
 refine sB (qE rfl rfl) rfl rfl (fun h63 => ?_) (fun h63 => ?_)
 refine G9 ?_
 exact ⟨rfl, by (first | rw [(M0 k).1 zV] | rw [(M0 k).2.1 zV] | rw [(M0 k).2.2 zV zV zV zV zV]), rfl⟩
 refine A8 ?_
 refine sB (qE rfl rfl) rfl rfl (fun h85 => ?_) (fun h85 => ?_)
 refine K0 ?_
 exact ⟨rfl, by (first | rw [(M0 k).1 zV] | rw [(M0 k).2.1 zV] | rw [(M0 k).2.2 zV zV zV zV zV]), rfl⟩
 refine A9 ?_
 refine sB (qE rfl rfl) rfl rfl (fun h108 => ?_) (fun h108 => ?_)
 refine G9 ?_
 exact ⟨rfl, by (first | rw [(M0 k).1 zV] | rw [(M0 k).2.1 zV] | rw [(M0 k).2.2 zV zV zV zV zV]), rfl⟩
 refine J5 ?_
 exact ⟨rfl, by (first | rw [(M0 k).1 zV] | rw [(M0 k).2.1 zV] | rw [(M0 k).2.2 zV zV zV zV zV]), rfl⟩
theorem A7o (k : Int) (G : IM) : Fn Tryz.prog 109 [.int .i64 k] [] G (F8 (.int .i64 (H8 k)) G) := by
 refine D5 Tryz.func109 rfl Tryz.ntmps109 Tryz.results109 rfl ?_
 intro w0
 refine E8 ?_
 refine B7 ?_
 refine B2 ?_
 refine sB (qE rfl rfl) rfl rfl (fun h16 => ?_) (fun h16 => ?_)
 refine K0 ?_
 exact ⟨rfl, zE, rfl⟩
 refine A7 ?_
 refine sB (qE rfl rfl) rfl rfl (fun h40 => ?_) (fun h40 => ?_)
 refine K0 ?_
 exact ⟨rfl, zE, rfl⟩
 refine A7 ?_
 refine sB (qE rfl rfl) rfl rfl (fun h64 => ?_) (fun h64 => ?_)
 refine K0 ?_
 exact ⟨rfl, zE, rfl⟩
 refine A9 ?_
 refine sB (qE rfl rfl) rfl rfl (fun h87 => ?_) (fun h87 => ?_)
 refine G9 ?_
 exact ⟨rfl, zE, rfl⟩
 refine A8 ?_
 refine sB (qE rfl rfl) rfl rfl (fun h109 => ?_) (fun h109 => ?_)
 refine K0 ?_
 exact ⟨rfl, zE, rfl⟩
 refine A7 ?_
 refine sB (qE rfl rfl) rfl rfl (fun h133 => ?_) (fun h133 => ?_)
 refine K0 ?_
 exact ⟨rfl, zE, rfl⟩
 refine A7 ?_
 refine sB (qE rfl rfl) rfl rfl (fun h157 => ?_) (fun h157 => ?_)
 refine K0 ?_
 exact ⟨rfl, zE, rfl⟩
 refine A7 ?_
 refine sB (qE rfl rfl) rfl rfl (fun h181 => ?_) (fun h181 => ?_)
 refine K0 ?_
 exact ⟨rfl, zE, rfl⟩
 refine A9 ?_
 refine sB (qE rfl rfl) rfl rfl (fun h204 => ?_) (fun h204 => ?_)
 refine G9 ?_
 exact ⟨rfl, zE, rfl⟩
 refine A8 ?_
 refine sB (qE rfl rfl) rfl rfl (fun h226 => ?_) (fun h226 => ?_)
 refine K0 ?_
 exact ⟨rfl, zE, rfl⟩
 refine A7 ?_
 refine sB (qE rfl rfl) rfl rfl (fun h250 => ?_) (fun h250 => ?_)
 refine K0 ?_
 exact ⟨rfl, zE, rfl⟩
 refine A7 ?_
 refine sB (qE rfl rfl) rfl rfl (fun h274 => ?_) (fun h274 => ?_)
 refine K0 ?_
 exact ⟨rfl, zE, rfl⟩
 refine A9 ?_
 refine sB (qE rfl rfl) rfl rfl (fun h297 => ?_) (fun h297 => ?_)
 refine G9 ?_
 exact ⟨rfl, zE, rfl⟩
 refine A7 ?_
 refine sB (qE rfl rfl) rfl rfl (fun h318 => ?_) (fun h318 => ?_)
 refine G9 ?_
 exact ⟨rfl, zE, rfl⟩
 refine J5 ?_
 exact ⟨rfl, zE, rfl⟩
theorem B1F (s : ByteArray) (G : IM) : Fn Tryz.prog 158 [.string s] [] G (F8 (.bool (V1 s)) G) := by
 refine D5 Tryz.func158 rfl Tryz.ntmps158 Tryz.results158 rfl ?_
 intro w0
 refine B4 ?_
 refine sQ (A4K rfl rfl) rfl (sB (qE rfl rfl) rfl rfl (fun h10 => ?_) (fun h10 => ?_))
 refine A3 ?_
 refine sP (A3v rfl rfl rfl zV (A3D zV)) rfl rfl ?_
 refine sB (A1p rfl rfl) rfl rfl (fun h14 => ?_) (fun h14 => ?_)
 refine B2 ?_
 refine sP (A3v rfl rfl rfl zV (A3D zV)) rfl rfl ?_
 refine sB (W8 rfl rfl) rfl rfl (fun h19 => ?_) (fun h19 => ?_)
 refine A7 ?_
 exact ⟨rfl, by simp only [V1]; (try simp only [Int.toNat_zero] at *); (first | rw [decide_eq_true zV] | rw [decide_eq_false zV]), rfl⟩
 refine A7 ?_
 exact ⟨rfl, by simp only [V1]; (try simp only [Int.toNat_zero] at *); (first | rw [decide_eq_true zV] | rw [decide_eq_false zV]), rfl⟩
 refine E8 ?_
 exact ⟨rfl, by simp only [V1]; (try simp only [Int.toNat_zero] at *); (first | rw [decide_eq_true zV] | rw [decide_eq_false zV]), rfl⟩
 refine I9 ?_
 exact ⟨rfl, by simp only [V1]; (try simp only [Int.toNat_zero] at *); (first | rw [decide_eq_true zV] | rw [decide_eq_false zV]), rfl⟩
theorem A7p (t : Ty) (G : IM) (cells : List Value) (hr : C7 G t cells) : Fn Tryz.prog 159 [.agg ⟨cells⟩] [] G (F8 (.bool (V0 t)) G) := by
 obtain ⟨p, c, es, rfl, hk, hsl, hkl⟩ := hr.open
 refine D5 Tryz.func159 rfl Tryz.ntmps159 Tryz.results159 rfl ?_
 intro w0
 refine A3 ?_
 refine sE (D8 rfl rfl) rfl (fun b3 => ?_)
 refine A8 ?_
 refine sB (qE rfl rfl) rfl rfl (fun h11 => ?_) (fun h11 => ?_)
 refine C3 ?_
 refine sB (qE rfl rfl) rfl rfl (fun h16 => ?_) (fun h16 => ?_)
 refine A7 ?_
 exact ⟨rfl, by simp only [V0]; (first | rw [decide_eq_true zV] | rw [decide_eq_false zV]), rfl⟩
 refine A7 ?_
 exact ⟨rfl, by simp only [V0]; (first | rw [decide_eq_true zV] | rw [decide_eq_false zV]), rfl⟩
 refine E8 ?_
 exact ⟨rfl, by simp only [V0]; (first | rw [decide_eq_true zV] | rw [decide_eq_false zV]), rfl⟩
def Z4 (n : Int) : Int := if n < -99 ∨ n > 99 then 0 else if n < 0 then -n else n
theorem B1G (n : Int) (G : IM) : Fn Tryz.prog 156 [.int .i64 n] [] G (F8 (.int .i64 (Z4 n)) G) := by
 refine D5 Tryz.func156 rfl Tryz.ntmps156 Tryz.results156 rfl ?_
 intro w0
 refine C2 ?_
 refine sB (I3 rfl rfl) rfl rfl (fun h10 => ?_) (fun h10 => ?_)
 refine I9 ?_
 exact ⟨rfl, by (unfold Z4; first | rw [if_pos zV] | rw [if_neg zV, if_pos zV] | rw [if_neg zV, if_neg zV]), rfl⟩
 refine A3 ?_
 refine sB (A0h rfl rfl) rfl rfl (fun h29 => ?_) (fun h29 => ?_)
 refine K1 ?_
 exact ⟨rfl, by (unfold Z4; first | rw [if_pos zV] | rw [if_neg zV, if_pos zV] | rw [if_neg zV, if_neg zV]), rfl⟩
 refine H3 ?_
 refine sB (I3 rfl rfl) rfl rfl (fun h53 => ?_) (fun h53 => ?_)
 refine A7 ?_
 refine sP (A3u rfl zV zV) rfl rfl ?_
 refine A7 ?_
 exact ⟨rfl, by (unfold Z4; first | rw [if_pos zV] | rw [if_neg zV, if_pos zV] | rw [if_neg zV, if_neg zV]), rfl⟩
 refine G9 ?_
 exact ⟨rfl, by (unfold Z4; first | rw [if_pos zV] | rw [if_neg zV, if_pos zV] | rw [if_neg zV, if_neg zV]), rfl⟩
theorem Sl.of_blk {G : IM} {b n c sz : Nat} {A C cs : List Value} (hl : cs.length = n * sz) (hc : n ≤ c) (hm : c ≤ maxLen) (hg : G b = some (A ++ (cs ++ C))) : Sl G (some ⟨b, A.length, none⟩) n c sz cs := by
 refine ⟨hl, hc, hm, .inr ⟨b, A.length, _, rfl, hg, fun j v hj => ?_⟩⟩
 have hlt : j < cs.length := (List.getElem?_eq_some_iff.1 hj).1
 rw [List.getElem?_append, if_neg zV, List.getElem?_append, if_pos zV, show A.length + j - A.length = j by omega]
 exact hj
def InG (G : IM) (bs : A0x) (F : List Nat) : Prop := (bs.map Prod.fst).Sublist F ∧ ∀ q ∈ bs, G q.1 = some q.2
mutual
theorem A5g : ∀ t : Ty, O7 t ≤ 4294967296 → t.small
 | .mk _ ks, h => by
  rw [O7] at h
  have := A1O ks
  simp only [Ty.small]
  exact ⟨by omega, A7q ks zV⟩
theorem A7q : ∀ ts : List Ty, Q0 ts ≤ 4294967296 → Ty.smallL ts
 | [], _ => by simp [Ty.smallL]
 | t :: ts, h => by
  rw [Q0] at h
  have := A0L t
  have := A1O ts
  simp only [Ty.smallL]
  exact ⟨A5g t zV, A7q ts zV⟩
end
mutual
theorem A3N : ∀ t : Tm, Z3 t ≤ 4294967296 → t.small
 | .mk _ nm _ ty fr _ ks, h => by
  rw [Z3] at h
  have := A1t ks
  have := A0L ty
  have := A0L fr
  simp only [Tm.small]
  exact ⟨by omega, A5g ty zV, A5g fr zV, by omega, A7r ks zV⟩
theorem A7r : ∀ ts : List Tm, Q1 ts ≤ 4294967296 → Tm.smallL ts
 | [], _ => by simp [Tm.smallL]
 | t :: ts, h => by
  rw [Q1] at h
  have := A46 t
  have := A1t ts
  simp only [Tm.smallL]
  exact ⟨A3N t zV, A7r ts zV⟩
end
mutual
theorem A7s : ∀ t : Tm, (J1 t : Int) ≤ Z3 t + 1
 | .mk _ nm _ ty fr _ ks => by
  have := A7t ks
  have := A0L ty
  have := A0L fr
  rw [Z3, J1]; omega
theorem A7t : ∀ ts : List Tm, (I4 ts : Int) ≤ ts.length + Q1 ts
 | [] => by rw [Q1, I4]; simp
 | t :: ts => by
  have := A7s t
  have := A7t ts
  rw [Q1, I4, List.length_cons]; omega
end
def P7 : Ty := .mk 1 []
def Y1 : Nat → Ty → Prop
 | 0, .mk k ks => ks = [] ∧ k ≠ 4 ∧ k ≠ 5
 | n + 1, .mk k ks => (k = 4 ∨ k = 5 → ks.length = 2) ∧ (k ≠ 4 → k ≠ 5 → ks.length = 0) ∧ ∀ t ∈ ks, Y1 n t
mutual
def H1 : Ty → Prop
 | .mk k ks => (k = 4 ∨ k = 5 → ks.length = 2) ∧ (k ≠ 4 → k ≠ 5 → ks.length = 0) ∧ V3 ks
def V3 : List Ty → Prop
 | [] => True
 | t :: ts => H1 t ∧ V3 ts
end
theorem A21 : ∀ {ts : List Ty}, V3 ts ↔ ∀ t ∈ ts, H1 t
 | [] => by simp [V3]
 | t :: ts => by simp only [V3, A21 (ts := ts), List.forall_mem_cons]
theorem Y1.ar : ∀ {n : Nat} {t : Ty}, Y1 n t → H1 t
 | 0, .mk k ks, h => by
  obtain ⟨rfl, h1, h2⟩ := h
  rw [H1]
  exact ⟨fun h => by omega, fun _ _ => rfl, by rw [V3]; trivial⟩
 | n + 1, .mk k ks, h => by
  obtain ⟨h1, h2, h3⟩ := h
  rw [H1]
  exact ⟨h1, h2, A21.2 fun t ht => (h3 t ht).ar⟩
theorem Y1.up : ∀ {n : Nat} {t : Ty}, Y1 n t → Y1 (n + 1) t
 | 0, .mk k ks, h => by
  obtain ⟨rfl, h1, h2⟩ := h
  exact ⟨fun h => by omega, fun _ _ => rfl, by simp⟩
 | n + 1, .mk k ks, h => by
  obtain ⟨h1, h2, h3⟩ := h
  exact ⟨h1, h2, fun t ht => (h3 t ht).up⟩
theorem Y1.le {n m : Nat} {t : Ty} (h : Y1 n t) (hm : n ≤ m) : Y1 m t := by
 induction hm with
 | refl => exact h
 | step _ ih => exact ih.up
theorem B1H (n : Nat) : Y1 n P7 := by
 refine Y1.le (n := 0) ⟨rfl, by decide, by decide⟩ (Nat.zero_le n)
theorem B1I (n : Nat) {k : Int} (h4 : k ≠ 4) (h5 : k ≠ 5) : Y1 n (.mk k []) := Y1.le (n := 0) ⟨rfl, h4, h5⟩ (Nat.zero_le n)
theorem A3O : H1 P7 := (B1H 0).ar
mutual
theorem H1.small : ∀ {t : Ty}, H1 t → t.small
 | .mk k ks, h => by
  rw [H1] at h
  rw [Ty.small]
  exact ⟨by have h1 := h.1; have h2 := h.2.1; omega, V3.small h.2.2⟩
theorem V3.small : ∀ {ts : List Ty}, V3 ts → Ty.smallL ts
 | [], _ => by rw [Ty.smallL]; trivial
 | t :: ts, h => by
  rw [V3] at h
  rw [Ty.smallL]
  exact ⟨h.1.small, V3.small h.2⟩
end
theorem A5h : ∀ {n : Nat} {t : Ty}, Y1 n t → O7 t ≤ ((2 ^ (n + 1) - 2 : Nat) : Int)
 | 0, .mk k ks, h => by
  obtain ⟨rfl, h1, h2⟩ := h
  rw [O7, Q0]; simp
 | n + 1, .mk k ks, h => by
  obtain ⟨h1, h2, h3⟩ := h
  have hp : 2 ≤ 2 ^ (n + 1) := by
   have := Nat.pow_le_pow_right (n := 2) zV (show 1 ≤ n + 1 by omega)
   simpa using this
  have e : 2 ^ (n + 1 + 1) = 2 ^ (n + 1) * 2 := Nat.pow_succ ..
  have hl : ks.length = 0 ∨ ks.length = 2 := by omega
  rw [O7]
  match ks, hl, h3 with
  | [], _, _ => rw [Q0]; simp
  | [a, b], _, h3 =>
   have := A5h (h3 a zW)
   have := A5h (h3 b zW)
   simp only [Q0, List.length_cons, List.length_nil]; omega
theorem A7u {k : Int} {ks : List Ty} {d : Int} (h : 4 < d ∨ Z9 k ≠ ks.length) : J6 (.mk k ks) d = false := by
 rw [J6]
 rcases h with h | h
 ·rw [decide_eq_false zV]; rfl
 ·rw [decide_eq_false (p := Z9 k = ks.length) h, Bool.and_false]; rfl
theorem A7v {k : Int} {ks : List Ty} {d : Int} (h : d ≤ 4) (h2 : Z9 k = ks.length) : J6 (.mk k ks) d = R2 ks (d + 1) := by
 rw [J6, decide_eq_true h, decide_eq_true h2]; rfl
theorem B1J {ks : List Ty} {d : Int} {i : Nat} (hi : i < ks.length) (h : J6 ks[i] d = false) : R2 ks d = false := by
 cases hx : R2 ks d with
 | false => rfl
 | true => rw [(A3C ks d).1 hx i hi] at h; cases h
theorem B1K : ∀ (t : Ty) (d : Int) (G : IM) (cells : List Value), 0 ≤ d ∧ d ≤ 4 → C7 G t cells →
  Fn Tryz.prog 190 [.agg ⟨cells⟩, .int .i64 d] [] G (F8 (.bool (J6 t (5 - d))) G) := by
 refine Ty.ind fun k ks ih d G cells hd hr => ?_
 obtain ⟨p, c, es, rfl, hk, hsl, hkl⟩ := hr.open
 simp only [Ty.k, Ty.ks] at hk hsl hkl ⊢
 have hn := hsl.le
 have hk1 := B1E k G
 refine D5 Tryz.func190 rfl Tryz.ntmps190 Tryz.results190 rfl ?_
 intro w0
 refine A3 ?_
 refine sE (D8 rfl rfl) rfl (fun b3 => ?_)
 refine A9 ?_
 refine D3 D4 rfl ?_
 refine E9 (i := 0) (l' := [tt,ff,ff,ff,ff,ff,ff,ff,ff,ff,ff]) rfl C1 (qM rfl) rfl zT rfl rfl ?_
 refine V4 (i := 1) (l' := [tt,tt,ff,ff,ff,ff,ff,ff,ff,ff,ff]) rfl C1 (I3 rfl rfl) rfl zT rfl rfl (fun h11 => ?_) (fun h11 => ?_)
 refine aP 2 rfl (qM rfl) rfl ?_
 refine C4 3 rfl rfl rfl ?_
 refine C4 4 rfl rfl rfl ?_
 refine C4 6 rfl rfl rfl ?_
 refine C4 7 rfl rfl rfl ?_
 refine C4 8 rfl rfl rfl ?_
 refine C4 5 rfl rfl rfl ?_
 refine C4 9 rfl rfl rfl ?_
 refine aP 10 rfl (M2 rfl rfl) rfl ?_
 refine E8 ?_
 (rw [A7u zV]; exact ⟨rfl, rfl, rfl⟩)
 refine aP 2 rfl (qM rfl) rfl ?_
 refine aP 3 rfl (B0 rfl) rfl ?_
 refine aL 4 rfl (B3 rfl rfl) rfl ?_
 refine aP 6 rfl (B0 rfl) rfl ?_
 refine aL 7 rfl (B3 rfl rfl) rfl ?_
 refine aP 8 rfl (pLn rfl rfl) rfl ?_
 refine A0 5 ?_
 refine M8 rfl rfl (hk1) rfl rfl rfl ?_
 refine V4 (i := 9) (l' := [tt,tt,tt,tt,tt,tt,tt,tt,tt,tt,ff]) rfl C1 (O6 rfl rfl) rfl zT rfl rfl (fun h41 => ?_) (fun h41 => ?_)
 refine aP 10 rfl (N7 rfl rfl) rfl ?_
 refine E8 ?_
 (rw [A7u zV]; exact ⟨rfl, rfl, rfl⟩)
 refine aP 10 rfl (N7 rfl rfl) rfl ?_
 refine E8 ?_
 refine B7 ?_
 (refine J3 (fun (i : Nat) => ⟨[(5, .int .i64 i), (2, .pointer (some ⟨b3, 0, none⟩)), (1, .int .i64 d)], [.blk b3 [.int .i64 k, .slice p ks.length c]], G⟩) (fun i => i ≤ ks.length ∧ ∀ j (h : j < ks.length), j < i → J6 ks[j] (5 - d + 1) = true) (fun i => ks.length - i) 0 ?_ ?_ ?_)
 exact E3
 exact ⟨by omega, by omega⟩
 (rintro i ⟨hi, hf⟩)
 refine A8 ?_
 refine sB (I3 rfl rfl) rfl rfl (fun h79 => ?_) (fun h79 => ?_)
 refine A7 ?_
 refine B7 ?_
 refine A9 ?_
 (obtain ⟨b, o, p2, c2, rfl, hat, hre, hgb⟩ := hsl.kidTy hkl (i := i) zV zV; refine sP (A6 rfl rfl rfl zV) rfl rfl ?_)
 refine sL (A2 rfl rfl (hat _) rfl) rfl rfl ?_
 refine I0 ?_
 refine sP (R9 rfl rfl zV zV) rfl rfl ?_
 (have hih := ih ks[i] (List.getElem_mem zV) (d - 1) G _ zV hre; rw [show 5 - (d - 1) = 5 - d + 1 by omega] at hih; refine I5 rfl hih rfl rfl (fun h96 => ?_) (fun h96 => ?_))
 refine C2 ?_
 refine sP (H9 rfl rfl zV zV) rfl rfl ?_
 refine A3 ?_
 refine I6 (i + 1) ?_ ?_ ?_
 exact E3
 exact ⟨by omega, fun j hj hji => by (by_cases he : j = i; (subst he; assumption); exact hf j hj zV)⟩
 omega
 refine K0 ?_
 (rw [A7v zV zV, B1J (i := i) zV zS]; exact ⟨rfl, rfl, rfl⟩)
 refine I9 ?_
 (rw [A7v zV zV, (A3C ks _).2 (fun j hj => hf j hj zV)]; exact ⟨rfl, rfl, rfl⟩)
theorem A1U (t : Ty) (G : IM) (cells : List Value) (hr : C7 G t cells) : Fn Tryz.prog 157 [.agg ⟨cells⟩] [] G (F8 (.bool (H0 t)) G) := by
 have hl := hr.len
 have hv := B1K t 4 G cells zV hr
 refine D5 Tryz.func157 rfl Tryz.ntmps157 Tryz.results157 rfl ?_
 intro w0
 refine A3 ?_
 refine sE (D8 rfl rfl) rfl (fun b3 => ?_)
 refine A9 ?_
 refine sL (A2 rfl rfl (C9 zO) zS) rfl rfl ?_
 refine E5 rfl (hv) rfl rfl ?_
 refine A9 ?_
 exact ⟨rfl, rfl, rfl⟩
theorem A22 {k : Int} {ks : List Ty} {d : Int} (h : J6 (.mk k ks) d = true) : Z9 k = ks.length ∧ ∀ i, (hi : i < ks.length) → J6 ks[i] (d + 1) = true := by
 rw [J6] at h
 simp only [Bool.and_eq_true, decide_eq_true_eq] at h
 exact ⟨h.1.2, (A3C ks _).1 h.2⟩
theorem A3P {k k' : Int} {ks ks' : List Ty} (h : k = 1 ∨ k' = 1) : J0 (.mk k ks) (.mk k' ks') = true := by
 rw [P6]
 rcases h with h | h
 ·rw [decide_eq_true (p := k = 1) h]; rfl
 ·rw [decide_eq_true (p := k' = 1) h]; simp
theorem A7w {k k' : Int} {ks ks' : List Ty} (h : k ≠ 1) (h' : k' ≠ 1) (hk : k ≠ k') : J0 (.mk k ks) (.mk k' ks') = false := by
 rw [P6, decide_eq_false h, decide_eq_false h', decide_eq_false hk]; rfl
theorem A3Q {k k' : Int} {ks ks' : List Ty} (h : k ≠ 1) (h' : k' ≠ 1) (hk : k = k') : J0 (.mk k ks) (.mk k' ks') = M3 ks ks' := by
 rw [P6, decide_eq_false h, decide_eq_false h', decide_eq_true hk]; rfl
theorem A7x {ks ks' : List Ty} {i : Nat} (hi : i < ks.length) (hi' : i < ks'.length) (h : J0 ks[i] ks'[i] = false) : M3 ks ks' = false := by
 cases hx : M3 ks ks' with
 | false => rfl
 | true => rw [((A1q ks ks').1 hx).2 i hi hi'] at h; cases h
theorem B1L : ∀ (t t' : Ty) (G : IM) (cells cells' : List Value) (d d' : Int), J6 t d = true → J6 t' d' = true → C7 G t cells → C7 G t' cells' →
  Fn Tryz.prog 101 [.agg ⟨cells⟩, .agg ⟨cells'⟩] [] G (F8 (.bool (J0 t t')) G) := by
 refine Ty.ind fun k ks ih t' G cells cells' d d' hv hv' hr hr' => ?_
 obtain ⟨k', ks'⟩ := t'
 obtain ⟨p, c, es, rfl, hk, hsl, hkl⟩ := hr.open
 obtain ⟨p', c', es', rfl, hk', hsl', hkl'⟩ := hr'.open
 simp only [Ty.k, Ty.ks] at hk hsl hkl hk' hsl' hkl' ⊢
 have hn := hsl.le
 have hn' := hsl'.le
 obtain ⟨hv1, hv2⟩ := A22 hv
 obtain ⟨hv1', hv2'⟩ := A22 hv'
 have hle : k = k' → ks.length = ks'.length := by rintro rfl; omega
 refine D5 Tryz.func101 rfl Tryz.ntmps101 Tryz.results101 rfl ?_
 intro w0
 refine A3 ?_
 refine sE (D8 rfl rfl) rfl (fun b3 => ?_)
 refine sE (D8 rfl rfl) rfl (fun b4 => ?_)
 refine B4 ?_
 refine sB (qE rfl rfl) rfl rfl (fun h13 => ?_) (fun h13 => ?_)
 refine K0 ?_
 (rw [A3P zV]; exact ⟨rfl, rfl, rfl⟩)
 refine B2 ?_
 refine sB (qE rfl rfl) rfl rfl (fun h34 => ?_) (fun h34 => ?_)
 refine K1 ?_
 (rw [A3P zV]; exact ⟨rfl, rfl, rfl⟩)
 refine G9 ?_
 refine sB (O6 rfl rfl) rfl rfl (fun h61 => ?_) (fun h61 => ?_)
 refine E8 ?_
 (rw [A7w zV zV zV]; exact ⟨rfl, rfl, rfl⟩)
 refine E8 ?_
 refine B7 ?_
 (have hll : ks.length = ks'.length := hle zV; refine J3 (fun (i : Nat) => ⟨[(5, .int .i64 i), (3, .pointer (some ⟨b4, 0, none⟩)), (2, .pointer (some ⟨b3, 0, none⟩))], [.blk b3 [.int .i64 k, .slice p ks.length c], .blk b4 [.int .i64 k', .slice p' ks'.length c']], G⟩) (fun i => i ≤ ks.length ∧ ∀ j (h : j < ks.length) (h' : j < ks'.length), j < i → J0 ks[j] ks'[j] = true) (fun i => ks.length - i) 0 ?_ ?_ ?_)
 exact E3
 exact ⟨by omega, by omega⟩
 (rintro i ⟨hi, hf⟩)
 refine A8 ?_
 refine sB (I3 rfl rfl) rfl rfl (fun h97 => ?_) (fun h97 => ?_)
 refine A7 ?_
 refine B7 ?_
 refine tS ?_
 (obtain ⟨b, o, p2, c2, rfl, hat, hre, hgb⟩ := hsl.kidTy hkl (i := i) zV zV; obtain ⟨b', o', p2', c2', rfl, hat', hre', hgb'⟩ := hsl'.kidTy hkl' (i := i) zV zV; refine D3 D4 rfl ?_)
 refine E9 (i := 0) (l' := [tt,ff,ff,ff,ff,ff,ff,ff,ff,ff,ff,ff]) rfl C1 (B0 rfl) rfl zT rfl rfl ?_
 refine aL 1 rfl (B3 rfl rfl) rfl ?_
 refine aP 2 rfl (qM rfl) rfl ?_
 refine aP 3 rfl (A6 rfl rfl rfl zV) rfl ?_
 refine aL 4 rfl (A2 rfl rfl (hat _) rfl) rfl ?_
 refine aP 5 rfl (B0 rfl) rfl ?_
 refine aL 6 rfl (B3 rfl rfl) rfl ?_
 refine aP 7 rfl (qM rfl) rfl ?_
 refine aP 8 rfl (A6 rfl rfl rfl zV) rfl ?_
 refine aL 9 rfl (A2 rfl rfl (hat' _) rfl) rfl ?_
 refine A0 10 ?_
 refine Q3 rfl rfl (ih ks[i] (List.getElem_mem zV) ks'[i] G _ _ _ _ (hv2 i zV) (hv2' i zV) hre hre') rfl rfl rfl (fun h118 => ?_) (fun h118 => ?_)
 refine aP 11 rfl (Z6 rfl) rfl ?_
 refine B4 ?_
 refine sP (H9 rfl rfl zV zV) rfl rfl ?_
 refine A3 ?_
 refine I6 (i + 1) ?_ ?_ ?_
 exact E3
 exact ⟨by omega, fun j hj hj' hji => by (by_cases he : j = i; (subst he; assumption); exact hf j hj hj' zV)⟩
 omega
 refine aP 11 rfl (pNf rfl) rfl ?_
 refine I9 ?_
 (rw [A3Q zV zV zV, A7x (i := i) zV zV zS]; exact ⟨rfl, rfl, rfl⟩)
 refine I9 ?_
 (rw [A3Q zV zV zV, (A1q ks _).2 ⟨hll, fun j hj hj' => hf j hj hj' zV⟩]; exact ⟨rfl, rfl, rfl⟩)
section blaws
variable {P : Program} {Γ : K7} {env : L4} {hp : List A5} {G : IM} {ty : TypeId}
theorem A23 {x y : Operand} {t t' : TypeId} {i : K4} [hI : H2 P t i] (hd : i.desc = .bool) {r : Bool} (hx : evo env x = some (.bool r)) (hy : evo env y = some (.bool r)) :
  I8 P Γ ⟨env, hp, G⟩ (.binOp .neq t x y t') ty (.bool false) := by
 have h := A4M (P := P) (Γ := Γ) (hp := hp) (G := G) (t := t) (t' := t') (ty := ty) hd hx hy
 rwa [decide_eq_false zW] at h
theorem A7y {x y : Operand} {t t' : TypeId} {i : K4} [hI : H2 P t i] (hd : i.desc = .bool) (hx : evo env x = some (.bool true)) (hy : evo env y = some (.bool false)) :
  I8 P Γ ⟨env, hp, G⟩ (.binOp .neq t x y t') ty (.bool true) := A4M hd hx hy
theorem A5i {x y : Operand} {t t' : TypeId} {i : K4} [hI : H2 P t i] (hd : i.desc = .bool) (hx : evo env x = some (.bool false)) (hy : evo env y = some (.bool true)) :
  I8 P Γ ⟨env, hp, G⟩ (.binOp .neq t x y t') ty (.bool true) := A4M hd hx hy
end blaws
theorem B1M (n : Int) : ((1 ≤ Z4 n ∧ Z4 n ≤ 99) ↔ A0b n = true) := by
 unfold Z4 A0b Q6
 simp only [Bool.or_eq_true, decide_eq_true_eq]
 split
 ·omega
 ·split <;> omega
theorem B1N (k : Int) (nm : ByteArray) (num : Int) (ty fr : Ty) (lb : Int) (ks : List Tm) (G : IM) (cells : List Value) (hr : D1 G (.mk k nm num ty fr lb ks) cells) (R : Bool)
  (hi : R = true ↔ nm = ⟨#[]⟩ ∧ num = 0 ∧ (1 ≤ Z4 lb ∧ Z4 lb ≤ 99) ∧ H0 ty = true ∧ H0 fr = true ∧ J0 fr ty = true) :
  Fn Tryz.prog 110 [.agg ⟨cells⟩] [] G (F8 (.bool R) G) := by
 obtain ⟨tk, tks⟩ := ty
 obtain ⟨fk, fks⟩ := fr
 obtain ⟨pt, ct, pf, cf, p, c, es, rfl, hk, hnum, hlb, hty, hfr, hsl, hkl⟩ := hr.open9
 clear hr
 have o3 := A1U _ G _ hty
 have o4 := A1U _ G _ hfr
 have o6 := B1G lb G
 refine D5 Tryz.func110 rfl Tryz.ntmps110 Tryz.results110 rfl ?_
 intro w0
 refine A3 ?_
 refine sE (D8 rfl rfl) rfl (fun b3 => ?_)
 refine A8 ?_
 refine E5 rfl (o6) rfl rfl ?_
 refine A8 ?_
 refine sB (A1H rfl rfl) rfl rfl (fun h19 => ?_) (fun h19 => ?_)
 refine B2 ?_
 refine sB (qE rfl rfl) rfl rfl (fun h23 => ?_) (fun h23 => ?_)
 refine B2 ?_
 refine sB (A1p rfl rfl) rfl rfl (fun h27 => ?_) (fun h27 => ?_)
 refine B2 ?_
 refine sB (W8 rfl rfl) rfl rfl (fun h31 => ?_) (fun h31 => ?_)
 refine C3 ?_
 refine I5 rfl (o3) rfl rfl (fun h36 => ?_) (fun h36 => ?_)
 refine C3 ?_
 refine I5 rfl (o4) rfl rfl (fun h41 => ?_) (fun h41 => ?_)
 refine A7 ?_
 refine I5 rfl (B1L _ _ G _ _ _ _ zS zS hfr hty) rfl rfl (fun h48 => ?_) (fun h48 => ?_)
 refine A7 ?_
 exact ⟨rfl, by rw [hi.2 ⟨by (first | assumption | exact Classical.not_not.1 zS), by omega, by omega, by assumption, by assumption, by assumption⟩], rfl⟩
 refine A7 ?_
 exact ⟨rfl, by (cases R with | false => rfl | true => (exfalso; obtain ⟨i1, i2, i3, i4, i5, i6⟩ := hi.1 rfl; first | omega | (simp_all; done))), rfl⟩
 refine G9 ?_
 exact ⟨rfl, by (cases R with | false => rfl | true => (exfalso; obtain ⟨i1, i2, i3, i4, i5, i6⟩ := hi.1 rfl; first | omega | (simp_all; done))), rfl⟩
 refine U9 ?_
 exact ⟨rfl, by (cases R with | false => rfl | true => (exfalso; obtain ⟨i1, i2, i3, i4, i5, i6⟩ := hi.1 rfl; first | omega | (simp_all; done))), rfl⟩
 refine A07 ?_
 exact ⟨rfl, by (cases R with | false => rfl | true => (exfalso; obtain ⟨i1, i2, i3, i4, i5, i6⟩ := hi.1 rfl; first | omega | (simp_all; done))), rfl⟩
 refine A6r ?_
 exact ⟨rfl, by (cases R with | false => rfl | true => (exfalso; obtain ⟨i1, i2, i3, i4, i5, i6⟩ := hi.1 rfl; first | omega | (simp_all; done))), rfl⟩
 refine V6 ?_
 refine I0 ?_
 exact ⟨rfl, by (cases R with | false => rfl | true => (exfalso; obtain ⟨i1, i2, i3, i4, i5, i6⟩ := hi.1 rfl; first | omega | (simp_all; done))), rfl⟩
 refine V6 ?_
 refine A9 ?_
 exact ⟨rfl, by (cases R with | false => rfl | true => (exfalso; obtain ⟨i1, i2, i3, i4, i5, i6⟩ := hi.1 rfl; first | omega | (simp_all; done))), rfl⟩
theorem A7z (k : Int) (nm : ByteArray) (num : Int) (ty fr : Ty) (lb : Int) (ks : List Tm) (G : IM) (cells : List Value) (hr : D1 G (.mk k nm num ty fr lb ks) cells) (R : Bool)
  (hi : R = true ↔ (k = 1 ∨ k = 5 → V1 nm = true) ∧ (¬(k = 1 ∨ k = 5) → nm = ⟨#[]⟩) ∧ (k = 5 ∨ k = 13 ∨ k = 14 → H0 ty = true) ∧ (¬(k = 5 ∨ k = 13 ∨ k = 14) → V0 ty = true) ∧ (k ≠ 14 → V0 fr = true ∧ lb = 0) ∧ (k = 2 → 0 ≤ num ∧ num ≤ 999) ∧ (k ≠ 2 → num = 0)) :
  Fn Tryz.prog 111 [.agg ⟨cells⟩] [] G (F8 (.bool R) G) := by
 have he : nm = ⟨#[]⟩ → V1 nm = false := by rintro rfl; rfl
 obtain ⟨tk, tks⟩ := ty
 obtain ⟨fk, fks⟩ := fr
 obtain ⟨pt, ct, pf, cf, p, c, es, rfl, hk, hnum, hlb, hty, hfr, hsl, hkl⟩ := hr.open9
 clear hr
 have o2 := B1F nm G
 have o3 := A1U _ G _ hty
 have o4 := A7p _ G _ hty
 have o7 := A7p _ G _ hfr
 refine D5 Tryz.func111 rfl Tryz.ntmps111 Tryz.results111 rfl ?_
 intro w0
 refine A3 ?_
 refine sE (D8 rfl rfl) rfl (fun b3 => ?_)
 refine A8 ?_
 refine sB (qE rfl rfl) rfl rfl (fun h11 => ?_) (fun h11 => ?_)
 refine K1 ?_
 refine sP (E1 rfl rfl zV) rfl rfl ?_
 refine B2 ?_
 refine sP (E1 rfl rfl zV) rfl rfl ?_
 refine C3 ?_
 refine sP (E1 rfl rfl zV) rfl rfl ?_
 refine H3 ?_
 refine I5 rfl (o2) rfl rfl (fun h44 => ?_) (fun h44 => ?_)
 refine sQ (A23 rfl rfl rfl) rfl ?_
 refine A2i ?_
 refine I5 rfl (o4) rfl rfl (fun h70 => ?_) (fun h70 => ?_)
 refine G9 ?_
 refine sP (A2N rfl rfl zV) rfl rfl ?_
 refine B2 ?_
 refine I5 rfl (o7) rfl rfl (fun h88 => ?_) (fun h88 => ?_)
 refine C3 ?_
 refine sB (O6 rfl rfl) rfl rfl (fun h93 => ?_) (fun h93 => ?_)
 refine G9 ?_
 exact ⟨rfl, zD, rfl⟩
 refine K1 ?_
 refine sP (E1 rfl rfl zV) rfl rfl ?_
 refine C2 ?_
 refine sB (qE rfl rfl) rfl rfl (fun h130 => ?_) (fun h130 => ?_)
 refine A9 ?_
 exact ⟨rfl, by rw [hi.2 ⟨fun _ => by (first | assumption | (exfalso; omega)), fun _ => zK, fun _ => by (first | assumption | (exfalso; omega)), fun _ => by (first | assumption | (exfalso; omega)), fun _ => ⟨by (first | assumption | (exfalso; omega)), by (first | assumption | omega)⟩, by omega, by omega⟩], rfl⟩
 refine A9 ?_
 exact ⟨rfl, zD, rfl⟩
 refine U9 ?_
 exact ⟨rfl, zD, rfl⟩
 refine J5 ?_
 exact ⟨rfl, zD, rfl⟩
 refine sQ (A7y rfl rfl rfl) rfl ?_
 refine V6 ?_
 refine C2 ?_
 exact ⟨rfl, zD, rfl⟩
 refine B2 ?_
 refine sB (qE rfl rfl) rfl rfl (fun h221 => ?_) (fun h221 => ?_)
 refine B4 ?_
 refine sP (I1 rfl rfl zV) rfl rfl ?_
 refine Z7 ?_
 refine I5 rfl (o2) rfl rfl (fun h250 => ?_) (fun h250 => ?_)
 refine sQ (A23 rfl rfl rfl) rfl ?_
 refine J5 ?_
 refine I5 rfl (o3) rfl rfl (fun h266 => ?_) (fun h266 => ?_)
 refine A07 ?_
 refine sP (A2N rfl rfl zV) rfl rfl ?_
 refine B2 ?_
 refine I5 rfl (o7) rfl rfl (fun h294 => ?_) (fun h294 => ?_)
 refine C3 ?_
 refine sB (O6 rfl rfl) rfl rfl (fun h299 => ?_) (fun h299 => ?_)
 refine G9 ?_
 exact ⟨rfl, zD, rfl⟩
 refine K1 ?_
 refine sP (E1 rfl rfl zV) rfl rfl ?_
 refine C2 ?_
 refine sB (qE rfl rfl) rfl rfl (fun h336 => ?_) (fun h336 => ?_)
 refine A9 ?_
 exact ⟨rfl, by rw [hi.2 ⟨fun _ => by (first | assumption | (exfalso; omega)), fun _ => zK, fun _ => by (first | assumption | (exfalso; omega)), fun _ => by (first | assumption | (exfalso; omega)), fun _ => ⟨by (first | assumption | (exfalso; omega)), by (first | assumption | omega)⟩, by omega, by omega⟩], rfl⟩
 refine A9 ?_
 exact ⟨rfl, zD, rfl⟩
 refine U9 ?_
 exact ⟨rfl, zD, rfl⟩
 refine A2i ?_
 exact ⟨rfl, zD, rfl⟩
 refine sQ (A7y rfl rfl rfl) rfl ?_
 refine V6 ?_
 refine C2 ?_
 exact ⟨rfl, zD, rfl⟩
 refine B4 ?_
 refine sP (E1 rfl rfl zV) rfl rfl ?_
 refine B2 ?_
 refine sB (qE rfl rfl) rfl rfl (fun h446 => ?_) (fun h446 => ?_)
 refine I9 ?_
 refine I5 rfl (o2) rfl rfl (fun h462 => ?_) (fun h462 => ?_)
 refine sQ (A5i rfl rfl rfl) rfl ?_
 refine V6 ?_
 refine C2 ?_
 exact ⟨rfl, zD, rfl⟩
 refine sQ (A23 rfl rfl rfl) rfl ?_
 refine A7 ?_
 refine sB (A04 rfl rfl) rfl rfl (fun h511 => ?_) (fun h511 => ?_)
 refine V6 ?_
 refine A3 ?_
 exact ⟨rfl, zD, rfl⟩
 refine A8 ?_
 refine I5 rfl (o3) rfl rfl (fun h552 => ?_) (fun h552 => ?_)
 refine A07 ?_
 refine sP (A2N rfl rfl zV) rfl rfl ?_
 refine B2 ?_
 refine I5 rfl (o7) rfl rfl (fun h580 => ?_) (fun h580 => ?_)
 refine C3 ?_
 refine sB (O6 rfl rfl) rfl rfl (fun h585 => ?_) (fun h585 => ?_)
 refine G9 ?_
 exact ⟨rfl, zD, rfl⟩
 refine K1 ?_
 refine sP (E1 rfl rfl zV) rfl rfl ?_
 refine C2 ?_
 refine sB (qE rfl rfl) rfl rfl (fun h622 => ?_) (fun h622 => ?_)
 refine A9 ?_
 exact ⟨rfl, by rw [hi.2 ⟨fun _ => by (first | assumption | (exfalso; omega)), fun _ => zK, fun _ => by (first | assumption | (exfalso; omega)), fun _ => by (first | assumption | (exfalso; omega)), fun _ => ⟨by (first | assumption | (exfalso; omega)), by (first | assumption | omega)⟩, by omega, by omega⟩], rfl⟩
 refine A9 ?_
 exact ⟨rfl, zD, rfl⟩
 refine U9 ?_
 exact ⟨rfl, zD, rfl⟩
 refine A2i ?_
 exact ⟨rfl, zD, rfl⟩
 refine C3 ?_
 refine sB (qE rfl rfl) rfl rfl (fun h683 => ?_) (fun h683 => ?_)
 refine H3 ?_
 refine I5 rfl (o2) rfl rfl (fun h694 => ?_) (fun h694 => ?_)
 refine sQ (A5i rfl rfl rfl) rfl ?_
 refine V6 ?_
 refine C2 ?_
 exact ⟨rfl, zD, rfl⟩
 refine sQ (A23 rfl rfl rfl) rfl ?_
 refine A7 ?_
 refine sB (A04 rfl rfl) rfl rfl (fun h743 => ?_) (fun h743 => ?_)
 refine V6 ?_
 refine A3 ?_
 exact ⟨rfl, zD, rfl⟩
 refine A8 ?_
 refine I5 rfl (o3) rfl rfl (fun h784 => ?_) (fun h784 => ?_)
 refine A07 ?_
 refine sP (Y9 rfl rfl zV) rfl rfl ?_
 refine Z1 ?_
 refine sP (E1 rfl rfl zV) rfl rfl ?_
 refine C2 ?_
 refine sB (qE rfl rfl) rfl rfl (fun h840 => ?_) (fun h840 => ?_)
 refine A9 ?_
 exact ⟨rfl, by rw [hi.2 ⟨fun _ => by (first | assumption | (exfalso; omega)), fun _ => zK, fun _ => by (first | assumption | (exfalso; omega)), fun _ => by (first | assumption | (exfalso; omega)), fun _ => ⟨by (first | assumption | (exfalso; omega)), by (first | assumption | omega)⟩, by omega, by omega⟩], rfl⟩
 refine A9 ?_
 exact ⟨rfl, zD, rfl⟩
 refine A2i ?_
 exact ⟨rfl, zD, rfl⟩
 refine H3 ?_
 refine I5 rfl (o2) rfl rfl (fun h888 => ?_) (fun h888 => ?_)
 refine sQ (A5i rfl rfl rfl) rfl ?_
 refine V6 ?_
 refine C2 ?_
 exact ⟨rfl, zD, rfl⟩
 refine sQ (A23 rfl rfl rfl) rfl ?_
 refine A7 ?_
 refine sB (A04 rfl rfl) rfl rfl (fun h937 => ?_) (fun h937 => ?_)
 refine V6 ?_
 refine A3 ?_
 exact ⟨rfl, zD, rfl⟩
 refine R0 ?_
 refine I5 rfl (o4) rfl rfl (fun h988 => ?_) (fun h988 => ?_)
 refine G9 ?_
 refine sP (A2N rfl rfl zV) rfl rfl ?_
 refine B2 ?_
 refine I5 rfl (o7) rfl rfl (fun h1006 => ?_) (fun h1006 => ?_)
 refine C3 ?_
 refine sB (O6 rfl rfl) rfl rfl (fun h1011 => ?_) (fun h1011 => ?_)
 refine G9 ?_
 exact ⟨rfl, zD, rfl⟩
 refine K1 ?_
 refine sB (qE rfl rfl) rfl rfl (fun h1038 => ?_) (fun h1038 => ?_)
 refine A8 ?_
 refine sB (A1p rfl rfl) rfl rfl (fun h1046 => ?_) (fun h1046 => ?_)
 refine B2 ?_
 refine sB (W8 rfl rfl) rfl rfl (fun h1050 => ?_) (fun h1050 => ?_)
 refine A8 ?_
 exact ⟨rfl, by rw [hi.2 ⟨fun _ => by (first | assumption | (exfalso; omega)), fun _ => zK, fun _ => by (first | assumption | (exfalso; omega)), fun _ => by (first | assumption | (exfalso; omega)), fun _ => ⟨by (first | assumption | (exfalso; omega)), by (first | assumption | omega)⟩, by omega, by omega⟩], rfl⟩
 refine A8 ?_
 exact ⟨rfl, zD, rfl⟩
 refine E8 ?_
 exact ⟨rfl, zD, rfl⟩
 refine C2 ?_
 refine sB (qE rfl rfl) rfl rfl (fun h1088 => ?_) (fun h1088 => ?_)
 refine A9 ?_
 exact ⟨rfl, by rw [hi.2 ⟨fun _ => by (first | assumption | (exfalso; omega)), fun _ => zK, fun _ => by (first | assumption | (exfalso; omega)), fun _ => by (first | assumption | (exfalso; omega)), fun _ => ⟨by (first | assumption | (exfalso; omega)), by (first | assumption | omega)⟩, by omega, by omega⟩], rfl⟩
 refine A9 ?_
 exact ⟨rfl, zD, rfl⟩
 refine U9 ?_
 exact ⟨rfl, zD, rfl⟩
 refine J5 ?_
 exact ⟨rfl, zD, rfl⟩
mutual
def N1 (D N : Int) : Tm → Int → Bool
 | .mk k nm num ty fr lb ks, deep => decide (deep ≤ D) && decide (k ≠ N) && R4 k nm num ty fr lb ks.length && N2 D N ks (deep + 1)
def N2 (D N : Int) : List Tm → Int → Bool
 | [], _ => true
 | t :: ts, deep => N1 D N t deep && N2 D N ts deep
end
theorem A0A (D N : Int) : ∀ (ts : List Tm) (d : Int), N2 D N ts d = true ↔ ∀ i, (h : i < ts.length) → N1 D N ts[i] d = true
 | [], d => by simp [N2]
 | t :: ts, d => by
  simp only [N2, Bool.and_eq_true, A0A D N ts d]
  constructor
  ·rintro ⟨h1, h2⟩ i hi
   cases i with
   | zero => exact h1
   | succ i => exact h2 i (by simpa using hi)
  ·intro h
   exact ⟨h 0 zW, fun i hi => h (i + 1) (by simpa using hi)⟩
theorem A0N {D N : Int} {k : Int} {nm : ByteArray} {num : Int} {ty fr : Ty} {lb : Int} {ks : List Tm} {d : Int} (h : D < d ∨ k = N ∨ R4 k nm num ty fr lb ks.length = false) : N1 D N (.mk k nm num ty fr lb ks) d = false := by
 rw [N1]
 rcases h with h | h | h
 ·rw [decide_eq_false zV]; rfl
 ·rw [decide_eq_false (p := k ≠ N) zV, Bool.and_false]; rfl
 ·rw [h, Bool.and_false]; rfl
theorem A0O {D N : Int} {k : Int} {nm : ByteArray} {num : Int} {ty fr : Ty} {lb : Int} {ks : List Tm} {d : Int} (h1 : d ≤ D) (h2 : k ≠ N) (h3 : R4 k nm num ty fr lb ks.length = true) : N1 D N (.mk k nm num ty fr lb ks) d = N2 D N ks (d + 1) := by
 rw [N1, decide_eq_true h1, decide_eq_true h2, h3]; rfl
theorem A5j {D N : Int} {ks : List Tm} {d : Int} {i : Nat} (hi : i < ks.length) (h : N1 D N ks[i] d = false) : N2 D N ks d = false := by
 cases hx : N2 D N ks d with
 | false => rfl
 | true => rw [(A0A D N ks d).1 hx i hi] at h; cases h
theorem B1O {k : Int} {nm : ByteArray} {num : Int} {ty fr : Ty} {lb : Int} {n : Nat} (hk : k = 14) (ha : H8 k = n) : R4 k nm num ty fr lb n = true ↔ nm = ⟨#[]⟩ ∧ num = 0 ∧ (1 ≤ Z4 lb ∧ Z4 lb ≤ 99) ∧ H0 ty = true ∧ H0 fr = true ∧ J0 fr ty = true := by
 rw [S8, B1M]
 simp only [Q6, A0a, decide_eq_true_eq, Bool.and_eq_true]
 constructor
 ·rintro ⟨_, _, h3, _, h5, h6, _, h8, _⟩
  have h8 := h8 hk
  exact ⟨h3 zV, by have := h5 zV; omega, h8.2, h6 zV, h8.1.1.1, h8.1.2⟩
 ·rintro ⟨h1, h2, h3, h4, h5, h6⟩
  exact ⟨ha, fun h => absurd h zV, fun _ => h1, fun h => absurd h zV, fun _ => by omega, fun _ => h4, fun h => absurd h zV, fun _ => ⟨⟨⟨h5, h4⟩, h6⟩, h3⟩, fun h => absurd hk h⟩
theorem A7A {k : Int} {nm : ByteArray} {num : Int} {ty fr : Ty} {lb : Int} {n : Nat} (hk : k ≠ 14) (ha : H8 k = n) : R4 k nm num ty fr lb n = true ↔
  (k = 1 ∨ k = 5 → V1 nm = true) ∧ (¬(k = 1 ∨ k = 5) → nm = ⟨#[]⟩) ∧ (k = 5 ∨ k = 13 ∨ k = 14 → H0 ty = true) ∧ (¬(k = 5 ∨ k = 13 ∨ k = 14) → V0 ty = true) ∧ (k ≠ 14 → V0 fr = true ∧ lb = 0) ∧ (k = 2 → 0 ≤ num ∧ num ≤ 999) ∧ (k ≠ 2 → num = 0) := by
 rw [S8]
 simp only [Q6, decide_eq_true_eq]
 constructor
 ·rintro ⟨_, h2, h3, h4, h5, h6, h7, _, h9⟩
  exact ⟨h2, h3, h6, h7, h9, h4, fun h => by have := h5 h; omega⟩
 ·rintro ⟨h2, h3, h6, h7, h9, h4, h5⟩
  exact ⟨ha, h2, h3, h4, fun h => by have := h5 h; omega, h6, h7, fun h => absurd h hk, h9⟩
theorem B1P : ∀ (t : Tm) (d : Int) (G : IM) (cells : List Value), 0 ≤ d ∧ d ≤ 40 → D1 G t cells →
  Fn Tryz.prog 57 [.agg ⟨cells⟩, .int .i64 d] [] G (F8 (.bool (N1 40 13 t (41 - d))) G) := by
 refine Tm.ind fun k nm num ty fr lb ks ih d G cells hd hr => ?_
 have hr0 := hr
 have h14 := fun h : k = 14 => @B1O k nm num ty fr lb ks.length h
 have hne := fun h : k ≠ 14 => @A7A k nm num ty fr lb ks.length h
 have har := fun h : R4 k nm num ty fr lb ks.length = true => (S8.1 h).1
 obtain ⟨R, hR⟩ : ∃ R, R4 k nm num ty fr lb ks.length = R := ⟨_, rfl⟩
 rw [hR] at h14 hne har
 have hlo := B1N k nm num ty fr lb ks G cells hr0 R
 have hl2 := A7z k nm num ty fr lb ks G cells hr0 R
 have hk1 := A7o k G
 obtain ⟨tk, tks⟩ := ty
 obtain ⟨fk, fks⟩ := fr
 obtain ⟨pt, ct, pf, cf, p, c, es, rfl, hk, hnum, hlb, hty, hfr, hsl, hkl⟩ := hr.open9
 have hn := hsl.le
 clear hr hr0
 refine D5 Tryz.func57 rfl Tryz.ntmps57 Tryz.results57 rfl ?_
 intro w0
 refine A3 ?_
 refine sE (D8 rfl rfl) rfl (fun b3 => ?_)
 refine A9 ?_
 refine D3 D4 rfl ?_
 refine E9 (i := 0) (l' := [tt,ff,ff,ff,ff,ff,ff,ff,ff,ff,ff,ff,ff,ff,ff,ff,ff,ff,ff,ff,ff,ff,ff,ff,ff,ff,ff,ff,ff,ff,ff,ff,ff,ff,ff,ff]) rfl C1 (qM rfl) rfl zT rfl rfl ?_
 refine V4 (i := 1) (l' := [tt,tt,ff,ff,ff,ff,ff,ff,ff,ff,ff,ff,ff,ff,ff,ff,ff,ff,ff,ff,ff,ff,ff,ff,ff,ff,ff,ff,ff,ff,ff,ff,ff,ff,ff,ff]) rfl C1 (I3 rfl rfl) rfl zT rfl rfl (fun h11 => ?_) (fun h11 => ?_)
 refine aP 2 rfl (qM rfl) rfl ?_
 refine C4 3 rfl rfl rfl ?_
 refine C4 4 rfl rfl rfl ?_
 refine C4 6 rfl rfl rfl ?_
 refine C4 7 rfl rfl rfl ?_
 refine C4 8 rfl rfl rfl ?_
 refine C4 5 rfl rfl rfl ?_
 refine C4 9 rfl rfl rfl ?_
 refine aP 10 rfl (M2 rfl rfl) rfl ?_
 refine aP 11 rfl (qM rfl) rfl ?_
 refine C4 12 rfl rfl rfl ?_
 refine C4 13 rfl rfl rfl ?_
 refine C4 14 rfl rfl rfl ?_
 refine aP 15 rfl (M2 rfl rfl) rfl ?_
 refine aP 16 rfl (qM rfl) rfl ?_
 refine C4 17 rfl rfl rfl ?_
 refine C4 18 rfl rfl rfl ?_
 refine C4 19 rfl rfl rfl ?_
 refine C4 20 rfl rfl rfl ?_
 refine C4 21 rfl rfl rfl ?_
 refine C4 22 rfl rfl rfl ?_
 refine C4 23 rfl rfl rfl ?_
 refine C4 24 rfl rfl rfl ?_
 refine aP 25 rfl (M2 rfl rfl) rfl ?_
 refine aP 26 rfl (qM rfl) rfl ?_
 refine C4 27 rfl rfl rfl ?_
 refine C4 28 rfl rfl rfl ?_
 refine C4 29 rfl rfl rfl ?_
 refine C4 30 rfl rfl rfl ?_
 refine C4 31 rfl rfl rfl ?_
 refine C4 32 rfl rfl rfl ?_
 refine C4 33 rfl rfl rfl ?_
 refine C4 34 rfl rfl rfl ?_
 refine aP 35 rfl (M2 rfl rfl) rfl ?_
 refine E8 ?_
 (rw [A0N (by rw [hR]; first | omega | exact .inr (.inr zS) | exact .inr (.inr (by cases R with | false => rfl | true => exact absurd (har rfl) zV)))]; exact ⟨rfl, rfl, rfl⟩)
 refine aP 2 rfl (qM rfl) rfl ?_
 refine aP 3 rfl (B0 rfl) rfl ?_
 refine aL 4 rfl (B3 rfl rfl) rfl ?_
 refine aP 6 rfl (B0 rfl) rfl ?_
 refine aL 7 rfl (B3 rfl rfl) rfl ?_
 refine aP 8 rfl (pLn rfl rfl) rfl ?_
 refine A0 5 ?_
 refine M8 rfl rfl (hk1) rfl rfl rfl ?_
 refine V4 (i := 9) (l' := [tt,tt,tt,tt,tt,tt,tt,tt,tt,tt,ff,ff,ff,ff,ff,ff,ff,ff,ff,ff,ff,ff,ff,ff,ff,ff,ff,ff,ff,ff,ff,ff,ff,ff,ff,ff]) rfl C1 (O6 rfl rfl) rfl zT rfl rfl (fun h66 => ?_) (fun h66 => ?_)
 refine aP 10 rfl (N7 rfl rfl) rfl ?_
 refine aP 11 rfl (qM rfl) rfl ?_
 refine C4 12 rfl rfl rfl ?_
 refine C4 13 rfl rfl rfl ?_
 refine C4 14 rfl rfl rfl ?_
 refine aP 15 rfl (M2 rfl rfl) rfl ?_
 refine aP 16 rfl (qM rfl) rfl ?_
 refine C4 17 rfl rfl rfl ?_
 refine C4 18 rfl rfl rfl ?_
 refine C4 19 rfl rfl rfl ?_
 refine C4 20 rfl rfl rfl ?_
 refine C4 21 rfl rfl rfl ?_
 refine C4 22 rfl rfl rfl ?_
 refine C4 23 rfl rfl rfl ?_
 refine C4 24 rfl rfl rfl ?_
 refine aP 25 rfl (M2 rfl rfl) rfl ?_
 refine aP 26 rfl (qM rfl) rfl ?_
 refine C4 27 rfl rfl rfl ?_
 refine C4 28 rfl rfl rfl ?_
 refine C4 29 rfl rfl rfl ?_
 refine C4 30 rfl rfl rfl ?_
 refine C4 31 rfl rfl rfl ?_
 refine C4 32 rfl rfl rfl ?_
 refine C4 33 rfl rfl rfl ?_
 refine C4 34 rfl rfl rfl ?_
 refine aP 35 rfl (M2 rfl rfl) rfl ?_
 refine E8 ?_
 (rw [A0N (by rw [hR]; first | omega | exact .inr (.inr zS) | exact .inr (.inr (by cases R with | false => rfl | true => exact absurd (har rfl) zV)))]; exact ⟨rfl, rfl, rfl⟩)
 refine aP 10 rfl (N7 rfl rfl) rfl ?_
 refine aP 11 rfl (qM rfl) rfl ?_
 refine aP 12 rfl (B0 rfl) rfl ?_
 refine aL 13 rfl (B3 rfl rfl) rfl ?_
 refine V4 (i := 14) (l' := [tt,tt,tt,tt,tt,tt,tt,tt,tt,tt,tt,tt,tt,tt,tt,ff,ff,ff,ff,ff,ff,ff,ff,ff,ff,ff,ff,ff,ff,ff,ff,ff,ff,ff,ff,ff]) rfl C1 (qE rfl rfl) rfl zT rfl rfl (fun h109 => ?_) (fun h109 => ?_)
 refine aP 15 rfl (N7 rfl rfl) rfl ?_
 refine aP 16 rfl (qM rfl) rfl ?_
 refine C4 17 rfl rfl rfl ?_
 refine C4 18 rfl rfl rfl ?_
 refine C4 19 rfl rfl rfl ?_
 refine C4 20 rfl rfl rfl ?_
 refine C4 21 rfl rfl rfl ?_
 refine C4 22 rfl rfl rfl ?_
 refine C4 23 rfl rfl rfl ?_
 refine C4 24 rfl rfl rfl ?_
 refine aP 25 rfl (M2 rfl rfl) rfl ?_
 refine aP 26 rfl (qM rfl) rfl ?_
 refine C4 27 rfl rfl rfl ?_
 refine C4 28 rfl rfl rfl ?_
 refine C4 29 rfl rfl rfl ?_
 refine C4 30 rfl rfl rfl ?_
 refine C4 31 rfl rfl rfl ?_
 refine C4 32 rfl rfl rfl ?_
 refine C4 33 rfl rfl rfl ?_
 refine C4 34 rfl rfl rfl ?_
 refine aP 35 rfl (M2 rfl rfl) rfl ?_
 refine E8 ?_
 (rw [A0N (by rw [hR]; first | omega | exact .inr (.inr zS) | exact .inr (.inr (by cases R with | false => rfl | true => exact absurd (har rfl) zV)))]; exact ⟨rfl, rfl, rfl⟩)
 refine aP 15 rfl (N7 rfl rfl) rfl ?_
 refine aP 16 rfl (qM rfl) rfl ?_
 refine aP 17 rfl (B0 rfl) rfl ?_
 refine aL 18 rfl (B3 rfl rfl) rfl ?_
 refine V4 (i := 19) (l' := [tt,tt,tt,tt,tt,tt,tt,tt,tt,tt,tt,tt,tt,tt,tt,tt,tt,tt,tt,tt,ff,ff,ff,ff,ff,ff,ff,ff,ff,ff,ff,ff,ff,ff,ff,ff]) rfl C1 (qE rfl rfl) rfl zT rfl rfl (fun h147 => ?_) (fun h147 => ?_)
 refine aP 20 rfl (qM rfl) rfl ?_
 refine aL 21 rfl (A1 rfl rfl) rfl ?_
 refine A0 22 ?_
 refine Q3 rfl rfl (hlo (h14 zV zV)) rfl rfl rfl (fun h151 => ?_) (fun h151 => ?_)
 refine aP 23 rfl (Z6 rfl) rfl ?_
 refine aP 24 rfl (M2 rfl rfl) rfl ?_
 refine aP 25 rfl (N7 rfl rfl) rfl ?_
 refine aP 26 rfl (qM rfl) rfl ?_
 refine aP 27 rfl (B0 rfl) rfl ?_
 refine aL 28 rfl (B3 rfl rfl) rfl ?_
 refine aP 29 rfl (Y9 rfl rfl zV) rfl ?_
 refine aP 30 rfl (qM rfl) rfl ?_
 refine C4 31 rfl rfl rfl ?_
 refine C4 32 rfl rfl rfl ?_
 refine C4 33 rfl rfl rfl ?_
 refine aP 34 rfl (N7 rfl rfl) rfl ?_
 refine aP 35 rfl (N7 rfl rfl) rfl ?_
 refine E8 ?_
 refine B7 ?_
 (refine J3 (fun (i : Nat) => ⟨[(5, .int .i64 i), (2, .pointer (some ⟨b3, 0, none⟩)), (1, .int .i64 d)], [.blk b3 [.int .i64 k, .string nm, .int .i64 num, .int .i64 tk, .slice pt tks.length ct, .int .i64 fk, .slice pf fks.length cf, .int .i64 lb, .slice p ks.length c]], G⟩) (fun i => i ≤ ks.length ∧ ∀ j (h : j < ks.length), j < i → N1 40 13 ks[j] (41 - d + 1) = true) (fun i => ks.length - i) 0 ?_ ?_ ?_)
 exact E3
 exact ⟨by omega, by omega⟩
 (rintro i ⟨hi, hf⟩)
 refine A8 ?_
 refine sB (I3 rfl rfl) rfl rfl (fun h188 => ?_) (fun h188 => ?_)
 refine A7 ?_
 refine B7 ?_
 refine A9 ?_
 (obtain ⟨b, o, e, rfl, hl, hat, hre, hgb⟩ := hsl.kidTm hkl (i := i) zV zV; refine sP (A6 rfl rfl rfl zV) rfl rfl ?_)
 refine sL (A2 rfl rfl (hat _) hl) rfl rfl ?_
 refine I0 ?_
 refine sP (R9 rfl rfl zV zV) rfl rfl ?_
 (have hih := ih ks[i] (List.getElem_mem zV) (d - 1) G _ zV hre; rw [show 41 - (d - 1) = 41 - d + 1 by omega] at hih; refine I5 rfl hih rfl rfl (fun h205 => ?_) (fun h205 => ?_))
 refine C2 ?_
 refine sP (H9 rfl rfl zV zV) rfl rfl ?_
 refine A3 ?_
 refine I6 (i + 1) ?_ ?_ ?_
 exact E3
 exact ⟨by omega, fun j hj hji => by (by_cases he : j = i; (subst he; assumption); exact hf j hj zV)⟩
 omega
 refine K0 ?_
 (rw [A0O zV zV (hR.trans zS), A5j (i := i) zV zS]; exact ⟨rfl, rfl, rfl⟩)
 refine I9 ?_
 (rw [A0O zV zV (hR.trans zS), (A0A 40 13 ks _).2 (fun j hj => hf j hj zV)]; exact ⟨rfl, rfl, rfl⟩)
 refine aP 23 rfl (pNf rfl) rfl ?_
 refine aP 24 rfl (M2 rfl rfl) rfl ?_
 refine aP 25 rfl (N7 rfl rfl) rfl ?_
 refine aP 26 rfl (qM rfl) rfl ?_
 refine C4 27 rfl rfl rfl ?_
 refine C4 28 rfl rfl rfl ?_
 refine C4 29 rfl rfl rfl ?_
 refine C4 30 rfl rfl rfl ?_
 refine C4 31 rfl rfl rfl ?_
 refine C4 32 rfl rfl rfl ?_
 refine C4 33 rfl rfl rfl ?_
 refine C4 34 rfl rfl rfl ?_
 refine aP 35 rfl (M2 rfl rfl) rfl ?_
 refine E8 ?_
 (rw [A0N (by rw [hR]; first | omega | exact .inr (.inr zS) | exact .inr (.inr (by cases R with | false => rfl | true => exact absurd (har rfl) zV)))]; exact ⟨rfl, rfl, rfl⟩)
 refine aP 20 rfl (qM rfl) rfl ?_
 refine C4 21 rfl rfl rfl ?_
 refine C4 22 rfl rfl rfl ?_
 refine C4 23 rfl rfl rfl ?_
 refine aP 24 rfl (N7 rfl rfl) rfl ?_
 refine aP 25 rfl (N7 rfl rfl) rfl ?_
 refine aP 26 rfl (qM rfl) rfl ?_
 refine aP 27 rfl (B0 rfl) rfl ?_
 refine aL 28 rfl (B3 rfl rfl) rfl ?_
 refine aP 29 rfl (A2N rfl rfl zV) rfl ?_
 refine aP 30 rfl (qM rfl) rfl ?_
 refine aL 31 rfl (A1 rfl rfl) rfl ?_
 refine A0 32 ?_
 refine Q3 rfl rfl (hl2 (hne zV zV)) rfl rfl rfl (fun h293 => ?_) (fun h293 => ?_)
 refine aP 33 rfl (Z6 rfl) rfl ?_
 refine aP 34 rfl (M2 rfl rfl) rfl ?_
 refine aP 35 rfl (N7 rfl rfl) rfl ?_
 refine E8 ?_
 refine B7 ?_
 (refine J3 (fun (i : Nat) => ⟨[(5, .int .i64 i), (2, .pointer (some ⟨b3, 0, none⟩)), (1, .int .i64 d)], [.blk b3 [.int .i64 k, .string nm, .int .i64 num, .int .i64 tk, .slice pt tks.length ct, .int .i64 fk, .slice pf fks.length cf, .int .i64 lb, .slice p ks.length c]], G⟩) (fun i => i ≤ ks.length ∧ ∀ j (h : j < ks.length), j < i → N1 40 13 ks[j] (41 - d + 1) = true) (fun i => ks.length - i) 0 ?_ ?_ ?_)
 exact E3
 exact ⟨by omega, by omega⟩
 (rintro i ⟨hi, hf⟩)
 refine A8 ?_
 refine sB (I3 rfl rfl) rfl rfl (fun h320 => ?_) (fun h320 => ?_)
 refine A7 ?_
 refine B7 ?_
 refine A9 ?_
 (obtain ⟨b, o, e, rfl, hl, hat, hre, hgb⟩ := hsl.kidTm hkl (i := i) zV zV; refine sP (A6 rfl rfl rfl zV) rfl rfl ?_)
 refine sL (A2 rfl rfl (hat _) hl) rfl rfl ?_
 refine I0 ?_
 refine sP (R9 rfl rfl zV zV) rfl rfl ?_
 (have hih := ih ks[i] (List.getElem_mem zV) (d - 1) G _ zV hre; rw [show 41 - (d - 1) = 41 - d + 1 by omega] at hih; refine I5 rfl hih rfl rfl (fun h337 => ?_) (fun h337 => ?_))
 refine C2 ?_
 refine sP (H9 rfl rfl zV zV) rfl rfl ?_
 refine A3 ?_
 refine I6 (i + 1) ?_ ?_ ?_
 exact E3
 exact ⟨by omega, fun j hj hji => by (by_cases he : j = i; (subst he; assumption); exact hf j hj zV)⟩
 omega
 refine K0 ?_
 (rw [A0O zV zV (hR.trans zS), A5j (i := i) zV zS]; exact ⟨rfl, rfl, rfl⟩)
 refine I9 ?_
 (rw [A0O zV zV (hR.trans zS), (A0A 40 13 ks _).2 (fun j hj => hf j hj zV)]; exact ⟨rfl, rfl, rfl⟩)
 refine aP 33 rfl (pNf rfl) rfl ?_
 refine aP 34 rfl (M2 rfl rfl) rfl ?_
 refine aP 35 rfl (N7 rfl rfl) rfl ?_
 refine E8 ?_
 (rw [A0N (by rw [hR]; first | omega | exact .inr (.inr zS) | exact .inr (.inr (by cases R with | false => rfl | true => exact absurd (har rfl) zV)))]; exact ⟨rfl, rfl, rfl⟩)
def O4 : Ty := .mk 2 []
def T0 : Ty := .mk 3 []
mutual
def M5 : Ty → Ty → Bool
 | .mk k ks, t => decide (k = t.k) && X0 ks t.ks
def X0 : List Ty → List Ty → Bool
 | [], [] => true
 | a :: xs, b :: ys => M5 a b && X0 xs ys
 | _, _ => false
end
theorem A1V (k k' : Int) (ks ks' : List Ty) : M5 (.mk k ks) (.mk k' ks') = (decide (k = k') && X0 ks ks') := by rw [M5]; rfl
mutual
theorem A0P : ∀ (a b : Ty), M5 a b = true ↔ a = b
 | .mk k ks, .mk k' ks' => by
  rw [A1V, Bool.and_eq_true, decide_eq_true_eq, A7B ks ks', Ty.mk.injEq]
theorem A7B : ∀ (xs ys : List Ty), X0 xs ys = true ↔ xs = ys
 | [], [] => by simp [X0]
 | [], b :: ys => by simp [X0]
 | a :: xs, [] => by simp [X0]
 | a :: xs, b :: ys => by
  rw [X0, Bool.and_eq_true, A0P a b, A7B xs ys, List.cons.injEq]
end
theorem A5k (a : Ty) : M5 a a = true := (A0P a a).2 rfl
theorem A24 : ∀ (xs ys : List Ty), X0 xs ys = true ↔ xs.length = ys.length ∧ ∀ i, (h : i < xs.length) → (h' : i < ys.length) → M5 xs[i] ys[i] = true
 | [], [] => by simp [X0]
 | [], b :: ys => by simp [X0]
 | a :: xs, [] => by simp [X0]
 | a :: xs, b :: ys => by
  simp only [X0, Bool.and_eq_true, A24 xs ys, List.length_cons]
  constructor
  ·rintro ⟨h1, h2, h3⟩
   refine ⟨by omega, fun i hi hi' => ?_⟩
   cases i with
   | zero => exact h1
   | succ i => exact h3 i (by simpa using hi) (by simpa using hi')
  ·rintro ⟨h1, h2⟩
   exact ⟨h2 0 zW zW, by omega, fun i hi hi' => h2 (i + 1) (by simpa using hi) (by simpa using hi')⟩

abbrev Cx := List (ByteArray × Ty)
def U3 (cx : Cx) (nm : ByteArray) : Nat → Option Ty
 | 0 => none
 | n + 1 => match cx[n]? with
  | some b => if b.1 = nm then some b.2 else U3 cx nm n
  | none => U3 cx nm n
def W1 (cx : Cx) (nm : ByteArray) : Option Ty := U3 cx nm cx.length
theorem A5l {cx : Cx} {nm x : ByteArray} {n : Nat} {t : Ty} (h : cx[n]? = some (x, t)) (he : x = nm) : U3 cx nm (n + 1) = some t := by
 rw [U3, h]; simp only [he, if_true]
theorem A5m {cx : Cx} {nm x : ByteArray} {n : Nat} {t : Ty} (h : cx[n]? = some (x, t)) (he : ¬x = nm) : U3 cx nm (n + 1) = U3 cx nm n := by
 rw [U3, h]; simp only [he, if_false]

mutual
def R5 : Ty → Ty → Ty
 | .mk k ks, b => if k = 1 then b else if b.k = 1 then .mk k ks else .mk k (Q7 ks b.ks)
def Q7 : List Ty → List Ty → List Ty
 | a :: xs, b :: ys => R5 a b :: Q7 xs ys
 | _, _ => []
end
theorem A2n (k k' : Int) (ks ks' : List Ty) : R5 (.mk k ks) (.mk k' ks') = if k = 1 then .mk k' ks' else if k' = 1 then .mk k ks else .mk k (Q7 ks ks') := by rw [R5]; rfl
def O8 (kind : Int) (t : Ty) : Option (Ty × Ty) :=
 if t.k = kind then some (t.ks.getD 0 C6, t.ks.getD 1 C6) else if t.k = 1 then some (P7, P7) else none
def L6 (cx : Cx) (k : Int) (nm : ByteArray) (ty : Ty) (h : List Ty) : Option (List Ty × Ty) :=
 if k = 1 then (match W1 cx nm with | some t => some ([], t) | none => none)
 else if k = 2 then some ([], O4)
 else if k = 3 ∨ k = 4 then some ([], T0)
 else if k = 5 then some ([], .mk 4 [ty, h.getD 0 C6])
 else if k = 6 then (match O8 4 (h.getD 0 C6) with | some (a, b) => if J0 (h.getD 1 C6) a = true then some ([.mk 4 [a, b], a], b) else none | none => none)
 else if k = 7 ∨ k = 8 then (if J0 (h.getD 0 C6) O4 = true ∧ J0 (h.getD 1 C6) O4 = true then some ([O4, O4], if k = 8 then T0 else O4) else none)
 else if k = 9 then (if J0 (h.getD 0 C6) T0 = true ∧ J0 (h.getD 1 C6) (h.getD 2 C6) = true then some ([T0, R5 (h.getD 1 C6) (h.getD 2 C6), R5 (h.getD 1 C6) (h.getD 2 C6)], R5 (h.getD 1 C6) (h.getD 2 C6)) else none)
 else if k = 10 then some ([], .mk 5 [h.getD 0 C6, h.getD 1 C6])
 else if k = 13 then (if J0 (h.getD 0 C6) ty = true then some ([ty], ty) else none)
 else (match O8 5 (h.getD 0 C6) with | some (a, b) => some ([.mk 5 [a, b]], if k = 12 then b else a) | none => none)
def W2 (cx : Cx) (k : Int) (nm : ByteArray) (ty : Ty) (h : List Ty) : Option (List Ty × Ty) := match L6 cx k nm ty h with
 | some (w, t) => if H0 t = true then some (w, t) else none
 | none => none
def A0l : List Ty → List Ty → Bool
 | [], _ => true
 | a :: xs, b :: ys => M5 a b && A0l xs ys
 | _ :: _, [] => false
def M6 (cx : Cx) (k : Int) (nm : ByteArray) (ty : Ty) : Cx := if k = 5 then cx ++ [(nm, ty)] else cx
mutual
def M1 (cx : Cx) : Tm → Option Ty
 | .mk k nm num ty fr lb ks => match R6 (M6 cx k nm ty) ks with
  | none => none
  | some h => if k = 14 then (if M5 (h.getD 0 C6) fr = true then some ty else none)
   else match W2 cx k nm ty h with
    | none => none
    | some (w, t) => if A0l w h = true then some t else none
def R6 (cx : Cx) : List Tm → Option (List Ty)
 | [] => some []
 | t :: ts => match M1 cx t with
  | none => none
  | some u => match R6 cx ts with
   | none => none
   | some us => some (u :: us)
end
def B4W (e : Tm) : Option Ty := if T5 e = true then M1 [] e else none
theorem A2o : ∀ (t : Ty) (G : IM) (cells : List Value), t.small → C7 G t cells →
  Fn Tryz.prog 28 [.agg ⟨cells⟩] [] G (K9 fun G' v => ∃ cells' F, v = .agg ⟨cells'⟩ ∧ N5 (E2 G' G) t cells' F ∧ F.Nodup) := by
 refine Ty.ind fun k ks ih G cells hts hr => ?_
 simp only [Ty.small] at hts
 obtain ⟨hsm, hks⟩ := hts
 obtain ⟨p, c, es, rfl, hk, hsl, hkl⟩ := hr.open
 simp only [Ty.k, Ty.ks] at hk hsl hkl ⊢
 have hn := hsl.le
 refine D5 Tryz.func28 rfl Tryz.ntmps28 Tryz.results28 rfl ?_
 intro w0
 refine A3 ?_
 refine sE (D8 rfl rfl) rfl (fun b3 => ?_)
 refine sE (A4 rfl) rfl (fun b4 => ?_)
 refine A8 ?_
 refine sE (A4 rfl) rfl (fun b12 => ?_)
 refine K1 ?_
 refine B7 ?_
 (refine S7 25 2 ?_; refine J3 (fun (x : Nat × Option Addr × Nat × List (List Value) × List Nat × IM) => ⟨[(12, .int .i64 x.1), (11, .int .i64 ks.length), (10, .slice p ks.length c), (3, .pointer (some ⟨b12, 0, none⟩)), (2, .pointer (some ⟨b4, 0, none⟩))], [.blk b12 [.int .i64 k, .slice x.2.1 x.1 x.2.2.1], .slc x.2.1 x.2.2.1 25 2 x.1 x.2.2.2.1.flatten, .blk b4 [.int .i64 0, .slice none 0 0]], x.2.2.2.2.2⟩) (fun x => x.1 ≤ ks.length ∧ D2 G x.2.2.2.2.2 ∧ L5 (E2 x.2.2.2.2.2 G) (ks.take x.1) x.2.2.2.1 x.2.2.2.2.1 ∧ x.2.2.2.2.1.Nodup) (fun x => ks.length - x.1) (0, none, 0, [], [], G) ?_ ?_ ?_)
 (simp only [J4]; exact T4 zL zJ)
 exact ⟨by simp, D2.refl _, by simp [L5], by simp⟩
 (rintro ⟨i, pn, cn, es', F, Gi⟩ ⟨hi, hle, hst, hnd⟩; simp only [] at hi hle hst hnd ⊢; replace hsl := hsl.mono hle; replace hkl := hkl.mono hle)
 refine A3 ?_
 refine sB (I3 rfl rfl) rfl rfl (fun h32 => ?_) (fun h32 => ?_)
 refine A8 ?_
 refine B7 ?_
 refine A3 ?_
 (obtain ⟨b, o, p2, c2, rfl, hat, hre, hgb⟩ := hsl.kidTy hkl (i := i) zV zV; refine sP (A6 rfl rfl rfl zV) rfl rfl ?_)
 refine sL (A2 rfl rfl (hat _) rfl) rfl rfl ?_
 refine sE (A4 rfl) rfl (fun b45 => ?_)
 refine B2 ?_
 refine D3 D4 rfl ?_
 refine E9 (i := 0) (l' := [tt,ff,ff,ff,ff,ff,ff,ff]) rfl C1 (B0 rfl) rfl zT rfl rfl ?_
 refine aL 1 rfl (B3 rfl rfl) rfl ?_
 refine aL 2 rfl (A1 rfl rfl) rfl ?_
 refine A0 3 ?_
 (refine D6 rfl rfl (ih _ (List.getElem_mem zV) _ _ (Ty.smallL_mem hks _ (List.getElem_mem zV)) hre) rfl rfl rfl (fun v G1 hle1 hh => ?_); obtain ⟨cells', F', rfl, hs', hnd'⟩ := hh; obtain ⟨p3, c3, es3, rfl, _⟩ := hs'.R.open)
 refine A0 4 ?_
 (refine B6 rfl (C0 rfl rfl rfl zV zQ rfl) rfl rfl ?_; rintro _ ⟨b56, rfl⟩)
 refine A0 5 ?_
 refine P5 rfl rfl rfl rfl rfl rfl (fun _ _ => by repeat (first | exact Sw.here | apply Sw.there)) (O1 zO) rfl zP zQ zV rfl rfl (by repeat (first | exact B5.nil | apply B5.dep zT | apply B5.blk zT zM zO)) (fun pn' cn' => ?_)
 refine aP 6 rfl (B0 rfl) rfl ?_
 refine A0 7 ?_
 refine S2 rfl rfl rfl rfl rfl rfl rfl rfl zT zN (by rfl) ?_
 refine C3 ?_
 refine sP (H9 rfl rfl zV zV) rfl rfl ?_
 refine A3 ?_
 refine I6 (i + 1, pn', cn', es' ++ [[.int .i64 ks[i].k, .slice p3 ks[i].ks.length c3]], F ++ F', G1) ?_ ?_ ?_
 (simp only [J4]; exact T4 zL zJ)
 exact ⟨by omega, hle.trans hle1, L5.step hst hnd hle hle1 zV hs' hnd'⟩
 (show ks.length - (i + 1) < ks.length - i; omega)
 refine I9 ?_
 (refine E0 zM (fun G2 hle2 hsl2 hno2 => ?_); obtain rfl : i = ks.length := by omega)
 refine tT ?_
 refine I7 (rC rfl (A1 rfl rfl)) ?_
 (rw [List.take_length] at hst; obtain ⟨F2, hf1, hf2⟩ := N5.fin hst hnd hle hle2 hsl2 hno2 hk; exact ⟨rfl, _, F2, rfl, hf1, hf2⟩)
def A5n (t : Ty) (G : IM) : IM → Value → List A5 → Prop := K9 fun G' v => ∃ cells' F, v = .agg ⟨cells'⟩ ∧ N5 (E2 G' G) t cells' F ∧ F.Nodup
def B1Q (ks : List Ty) (G : IM) : IM → Value → List A5 → Prop := K9 fun G' v => ∃ p c F, v = .slice p ks.length c ∧ A1M (E2 G' G) ks p c F ∧ F.Nodup
def A25 (t : Tm) (G : IM) : IM → Value → List A5 → Prop := K9 fun G' v => ∃ cells' F, v = .agg ⟨cells'⟩ ∧ O2 (E2 G' G) t cells' F ∧ F.Nodup
def B1R (ks : List Tm) (G : IM) : IM → Value → List A5 → Prop := K9 fun G' v => ∃ p c F, v = .slice p ks.length c ∧ A1r (E2 G' G) ks p c F ∧ F.Nodup
theorem B1S (ks : List Ty) (ih : ∀ t ∈ ks, ∀ (G : IM) (cells : List Value), t.small → C7 G t cells → Fn Tryz.prog 42 [.agg ⟨cells⟩] [] G (A5n t G)) (hks : Ty.smallL ks) (hsm : ks.length ≤ 4294967296)
  (G : IM) (p : Option Addr) (c : Nat) (es : List (List Value)) (hsl : C8 G p ks.length c 2 es) (hkl : F4 G ks es) :
  Fn Tryz.prog 86 [.slice p ks.length c] [] G (B1Q ks G) := by
 have hn := hsl.le
 refine D5 Tryz.func86 rfl Tryz.ntmps86 Tryz.results86 rfl ?_
 intro w0
 refine C2 ?_
 (refine A6B rfl rfl rfl zV zQ rfl (fun bm => ?_))
 refine C2 ?_
 refine B7 ?_
 (refine J3 (fun (x : Nat × List (List Value) × List Nat × IM) => ⟨[(4, .int .i64 x.1), (3, .slice (some ⟨bm, 0, none⟩) ks.length ks.length), (0, .slice p ks.length c)], [.blk bm (x.2.1.flatten ++ T3 (ks.length - x.1) [.int .i64 0, .slice none 0 0])], x.2.2.2⟩) (fun x => x.1 ≤ ks.length ∧ D2 G x.2.2.2 ∧ L5 (E2 x.2.2.2 G) (ks.take x.1) x.2.1 x.2.2.1 ∧ x.2.2.1.Nodup) (fun x => ks.length - x.1) (0, [], [], G) ?_ ?_ ?_)
 (simp only [J4]; exact E3)
 exact ⟨by simp, D2.refl _, by simp [L5], by simp⟩
 (rintro ⟨i, es', F, Gi⟩ ⟨hi, hle, hst, hnd⟩; simp only [] at hi hle hst hnd ⊢; replace hsl := hsl.mono hle; replace hkl := hkl.mono hle)
 refine A7 ?_
 refine sB (I3 rfl rfl) rfl rfl (fun h31 => ?_) (fun h31 => ?_)
 refine A7 ?_
 refine B7 ?_
 refine A9 ?_
 (obtain ⟨b, o, p2, c2, rfl, hat, hre, hgb⟩ := hsl.kidTy hkl (i := i) zV zV; refine sP (A6 rfl rfl rfl zV) rfl rfl ?_)
 refine sL (A2 rfl rfl (hat _) rfl) rfl rfl ?_
 (refine E7 rfl (ih ks[i] (List.getElem_mem zV) _ _ (Ty.smallL_mem hks _ (List.getElem_mem zV)) hre) rfl rfl (fun v G1 hle1 hh => ?_); obtain ⟨cells', F', rfl, hs', hnd'⟩ := hh; obtain ⟨p3, c3, rfl, _⟩ := hs'.open)
 refine sP (A6 rfl rfl rfl zV) rfl rfl ?_
 (refine U8 rfl rfl rfl rfl rfl rfl zN (A6C (by rw [hst.R.len, List.length_take]; omega) hst.R.all rfl rfl zV) ?_)
 refine A9 ?_
 refine sP (H9 rfl rfl zV zV) rfl rfl ?_
 refine A3 ?_
 refine I6 (i + 1, es' ++ [[.int .i64 ks[i].k, .slice p3 ks[i].ks.length c3]], F ++ F', G1) ?_ ?_ ?_
 (simp only [J4]; exact E3)
 exact ⟨by omega, hle.trans hle1, L5.step hst hnd hle hle1 zV hs' hnd'⟩
 (show ks.length - (i + 1) < ks.length - i; omega)
 refine J5 ?_
 (obtain rfl : i = ks.length := zV; rw [A6D]; refine Z8 (bs := [(bm, es'.flatten)]) (List.Perm.refl _) (fun hn2 hd2 hle2 => ?_))
 refine A3 ?_
 (rw [List.take_length] at hst; obtain ⟨F2, hf1, hf2⟩ := A1M.fin hst hnd hle hle2 (A6E (by rw [V8 hst.R.all, hst.R.len]) zQ) (A6F hd2); exact ⟨rfl, _, _, F2, rfl, hf1, hf2⟩)
theorem A7C : ∀ (t : Ty) (G : IM) (cells : List Value), t.small → C7 G t cells → Fn Tryz.prog 42 [.agg ⟨cells⟩] [] G (A5n t G) := by
 refine Ty.ind fun k ks ih G cells hts hr => ?_
 simp only [Ty.small] at hts
 obtain ⟨hsm, hks⟩ := hts
 obtain ⟨p, c, es, rfl, hk, hsl, hkl⟩ := hr.open
 simp only [Ty.k, Ty.ks] at hk hsl hkl ⊢
 have hS := B1S ks ih hks hsm G p c es hsl hkl
 refine D5 Tryz.func42 rfl Tryz.ntmps42 Tryz.results42 rfl ?_
 intro w0
 refine A3 ?_
 refine sE (D8 rfl rfl) rfl (fun b3 => ?_)
 refine sE (A4 rfl) rfl (fun b4 => ?_)
 refine C3 ?_
 refine sE (A4 rfl) rfl (fun b9 => ?_)
 refine J5 ?_
 (refine E7 rfl hS rfl rfl (fun v G1 hle1 hh => ?_); obtain ⟨p1, c1, F1, rfl, hs1, hn1⟩ := hh)
 refine E8 ?_
 refine I7 (rC rfl (A1 rfl rfl)) ?_
 exact ⟨rfl, _, F1, rfl, hs1.ty hk, hn1⟩
theorem B1T (ks : List Tm) (ih : ∀ t ∈ ks, ∀ (G : IM) (cells : List Value), t.small → D1 G t cells → Fn Tryz.prog 15 [.agg ⟨cells⟩] [] G (A25 t G)) (hks : Tm.smallL ks) (hsm : ks.length ≤ 4294967296)
  (G : IM) (p : Option Addr) (c : Nat) (es : List (List Value)) (hsl : C8 G p ks.length c 9 es) (hkl : H4 G ks es) :
  Fn Tryz.prog 43 [.slice p ks.length c] [] G (B1R ks G) := by
 have hn := hsl.le
 refine D5 Tryz.func43 rfl Tryz.ntmps43 Tryz.results43 rfl ?_
 intro w0
 refine C2 ?_
 (refine A6B rfl rfl rfl zV zQ rfl (fun bm => ?_))
 refine C2 ?_
 refine B7 ?_
 (refine J3 (fun (x : Nat × List (List Value) × List Nat × IM) => ⟨[(4, .int .i64 x.1), (3, .slice (some ⟨bm, 0, none⟩) ks.length ks.length), (0, .slice p ks.length c)], [.blk bm (x.2.1.flatten ++ T3 (ks.length - x.1) [.int .i64 0, .string ⟨⟨[]⟩⟩, .int .i64 0, .int .i64 0, .slice none 0 0, .int .i64 0, .slice none 0 0, .int .i64 0, .slice none 0 0])], x.2.2.2⟩) (fun x => x.1 ≤ ks.length ∧ D2 G x.2.2.2 ∧ L8 (E2 x.2.2.2 G) (ks.take x.1) x.2.1 x.2.2.1 ∧ x.2.2.1.Nodup) (fun x => ks.length - x.1) (0, [], [], G) ?_ ?_ ?_)
 (simp only [J4]; exact E3)
 exact ⟨by simp, D2.refl _, by simp [L8], by simp⟩
 (rintro ⟨i, es', F, Gi⟩ ⟨hi, hle, hst, hnd⟩; simp only [] at hi hle hst hnd ⊢; replace hsl := hsl.mono hle; replace hkl := hkl.mono hle)
 refine A7 ?_
 refine sB (I3 rfl rfl) rfl rfl (fun h31 => ?_) (fun h31 => ?_)
 refine A7 ?_
 refine B7 ?_
 refine A9 ?_
 (obtain ⟨b, o, e, rfl, hl, hat, hre, hgb⟩ := hsl.kidTm hkl (i := i) zV zV; refine sP (A6 rfl rfl rfl zV) rfl rfl ?_)
 refine sL (A2 rfl rfl (hat _) hl) rfl rfl ?_
 (refine E7 rfl (ih ks[i] (List.getElem_mem zV) _ _ (Tm.smallL_mem hks _ (List.getElem_mem zV)) hre) rfl rfl (fun v G1 hle1 hh => ?_); obtain ⟨cells', F', rfl, hs', hnd'⟩ := hh; have hl9 := hs'.R.len; have hone := hs'.R.one)
 refine sP (A6 rfl rfl rfl zV) rfl rfl ?_
 (refine U8 rfl rfl rfl hl9 hone rfl zN (A6C (by rw [hst.R.len, List.length_take]; omega) hst.R.all rfl hl9 zV) ?_)
 refine A9 ?_
 refine sP (H9 rfl rfl zV zV) rfl rfl ?_
 refine A3 ?_
 refine I6 (i + 1, es' ++ [cells'], F ++ F', G1) ?_ ?_ ?_
 (simp only [J4]; exact E3)
 exact ⟨by omega, hle.trans hle1, L8.step hst hnd hle hle1 zV hs' hnd'⟩
 (show ks.length - (i + 1) < ks.length - i; omega)
 refine J5 ?_
 (obtain rfl : i = ks.length := zV; rw [A6D]; refine Z8 (bs := [(bm, es'.flatten)]) (List.Perm.refl _) (fun hn2 hd2 hle2 => ?_))
 refine A3 ?_
 (rw [List.take_length] at hst; obtain ⟨F2, hf1, hf2⟩ := A1r.fin hst hnd hle hle2 (A6E (by rw [V8 hst.R.all, hst.R.len]) zQ) (A6F hd2); exact ⟨rfl, _, _, F2, rfl, hf1, hf2⟩)
theorem A5o : ∀ (t : Tm) (G : IM) (cells : List Value), t.small → D1 G t cells → Fn Tryz.prog 15 [.agg ⟨cells⟩] [] G (A25 t G) := by
 refine Tm.ind fun k nm num ty fr lb ks ih G cells hts hr => ?_
 have hone := hr.one
 simp only [Tm.small] at hts
 obtain ⟨hnm, hty', hfr', hsm, hks⟩ := hts
 obtain ⟨tk, tks⟩ := ty
 obtain ⟨fk, fks⟩ := fr
 obtain ⟨pt, ct, pf, cf, p, c, es, rfl, hk, hnum, hlb, hty, hfr, hsl, hkl⟩ := hr.open9
 have hT := A7C (.mk tk tks) G _ hty' hty
 refine D5 Tryz.func15 rfl Tryz.ntmps15 Tryz.results15 rfl ?_
 intro w0
 refine A3 ?_
 refine sE (D8 rfl rfl) rfl (fun b3 => ?_)
 refine sE (A4 rfl) rfl (fun b4 => ?_)
 refine C3 ?_
 refine sE (A4 rfl) rfl (fun b9 => ?_)
 refine V6 ?_
 (refine E7 rfl hT rfl rfl (fun v G1 hle1 hh => ?_); obtain ⟨cs1, F1, rfl, hs1, hn1⟩ := hh; obtain ⟨p1, c1, rfl, _⟩ := hs1.open; have hF := A7C (.mk fk fks) G1 _ hfr' (hfr.mono hle1))
 refine B4 ?_
 (refine E7 rfl hF rfl rfl (fun v G2 hle2 hh => ?_); obtain ⟨cs2, F2, rfl, hs2, hn2⟩ := hh; obtain ⟨p2, c2, rfl, _⟩ := hs2.open; have hS := B1T ks ih hks hsm G2 p c es (hsl.mono (hle1.trans hle2)) (hkl.mono (hle1.trans hle2)))
 refine K0 ?_
 (refine E7 rfl hS rfl rfl (fun v G3 hle3 hh => ?_); obtain ⟨p3, c3, F3, rfl, hs3, hn3⟩ := hh)
 refine E8 ?_
 refine I7 (rC rfl (A1 rfl rfl)) ?_
 (obtain ⟨F, hf1, hf2⟩ := O2.mk3 (nm := nm) hk hnum hlb hle1 hle2 hle3 hs1 hn1 hs2 hn2 hs3 hn3; exact ⟨rfl, _, F, rfl, hf1, hf2⟩)
theorem X1 : ∀ (t : Ty) (G : IM) (cells : List Value), t.small → C7 G t cells → Fn Tryz.prog 105 [.agg ⟨cells⟩] [] G (A5n t G) := by
 refine Ty.ind fun k ks ih G cells hts hr => ?_
 simp only [Ty.small] at hts
 obtain ⟨hsm, hks⟩ := hts
 obtain ⟨p, c, es, rfl, hk, hsl, hkl⟩ := hr.open
 simp only [Ty.k, Ty.ks] at hk hsl hkl ⊢
 have hn := hsl.le
 refine D5 Tryz.func105 rfl Tryz.ntmps105 Tryz.results105 rfl ?_
 intro w0
 refine A3 ?_
 refine sE (D8 rfl rfl) rfl (fun b3 => ?_)
 refine sE (A4 rfl) rfl (fun b4 => ?_)
 refine A8 ?_
 refine sE (A4 rfl) rfl (fun b12 => ?_)
 refine C2 ?_
 refine B7 ?_
 (refine S7 25 2 ?_; refine J3 (fun (x : Nat × Option Addr × Nat × List (List Value) × List Nat × IM) => ⟨[(4, .int .i64 x.1), (3, .pointer (some ⟨b12, 0, none⟩)), (1, .pointer (some ⟨b3, 0, none⟩)), (2, .pointer (some ⟨b4, 0, none⟩))], [.blk b12 [.int .i64 k, .slice x.2.1 x.1 x.2.2.1], .slc x.2.1 x.2.2.1 25 2 x.1 x.2.2.2.1.flatten, .blk b4 [.int .i64 0, .slice none 0 0], .blk b3 [.int .i64 k, .slice p ks.length c]], x.2.2.2.2.2⟩) (fun x => x.1 ≤ ks.length ∧ D2 G x.2.2.2.2.2 ∧ L5 (E2 x.2.2.2.2.2 G) (ks.take x.1) x.2.2.2.1 x.2.2.2.2.1 ∧ x.2.2.2.2.1.Nodup) (fun x => ks.length - x.1) (0, none, 0, [], [], G) ?_ ?_ ?_)
 (simp only [J4]; exact E3)
 exact ⟨by simp, D2.refl _, by simp [L5], by simp⟩
 (rintro ⟨i, pn, cn, es', F, Gi⟩ ⟨hi, hle, hst, hnd⟩; simp only [] at hi hle hst hnd ⊢; replace hsl := hsl.mono hle; replace hkl := hkl.mono hle)
 refine A8 ?_
 refine sB (I3 rfl rfl) rfl rfl (fun h34 => ?_) (fun h34 => ?_)
 refine A7 ?_
 refine B7 ?_
 (obtain ⟨b, o, p2, c2, rfl, hat, hre, hgb⟩ := hsl.kidTy hkl (i := i) zV zV; refine D3 D4 rfl ?_)
 refine E9 (i := 0) (l' := [tt,ff,ff,ff,ff,ff,ff,ff,ff,ff,ff,ff]) rfl C1 (B0 rfl) rfl zT rfl rfl ?_
 refine aL 1 rfl (B3 rfl rfl) rfl ?_
 refine aP 2 rfl (B0 rfl) rfl ?_
 refine aL 3 rfl (B3 rfl rfl) rfl ?_
 refine aP 4 rfl (qM rfl) rfl ?_
 refine aP 5 rfl (A6 rfl rfl rfl zV) rfl ?_
 refine aL 6 rfl (A2 rfl rfl (hat _) rfl) rfl ?_
 refine A0 7 ?_
 (refine D6 rfl rfl (ih ks[i] (List.getElem_mem zV) _ _ (Ty.smallL_mem hks _ (List.getElem_mem zV)) hre) rfl rfl rfl (fun v G1 hle1 hh => ?_); obtain ⟨cells', F', rfl, hs', hnd'⟩ := hh; obtain ⟨p3, c3, es3, rfl, _⟩ := hs'.R.open)
 refine A0 8 ?_
 (refine B6 rfl (C0 rfl rfl rfl zV zQ rfl) rfl rfl ?_; rintro _ ⟨b53, rfl⟩)
 refine A0 9 ?_
 refine P5 rfl rfl rfl rfl rfl rfl (fun _ _ => by repeat (first | exact Sw.here | apply Sw.there)) (O1 zO) rfl zP zQ zV rfl rfl zH (fun pn' cn' => ?_)
 refine aP 10 rfl (B0 rfl) rfl ?_
 refine A0 11 ?_
 refine S2 rfl rfl rfl rfl rfl rfl rfl rfl zT zN (by rfl) ?_
 refine A9 ?_
 refine sP (H9 rfl rfl zV zV) rfl rfl ?_
 refine A3 ?_
 refine I6 (i + 1, pn', cn', es' ++ [[.int .i64 ks[i].k, .slice p3 ks[i].ks.length c3]], F ++ F', G1) ?_ ?_ ?_
 (simp only [J4]; exact E3)
 exact ⟨by omega, hle.trans hle1, L5.step hst hnd hle hle1 zV hs' hnd'⟩
 (show ks.length - (i + 1) < ks.length - i; omega)
 refine J5 ?_
 (refine E0 zM (fun G2 hle2 hsl2 hno2 => ?_); obtain rfl : i = ks.length := zV)
 refine tT ?_
 refine I7 (rC rfl (A1 rfl rfl)) ?_
 (rw [List.take_length] at hst; obtain ⟨F2, hf1, hf2⟩ := N5.fin hst hnd hle hle2 hsl2 hno2 hk; exact ⟨rfl, _, F2, rfl, hf1, hf2⟩)
theorem B1U : ∀ (t : Tm) (G : IM) (cells : List Value), t.small → D1 G t cells → Fn Tryz.prog 59 [.agg ⟨cells⟩] [] G (A25 t G) := by
 refine Tm.ind fun k nm num ty fr lb ks ih G cells hts hr => ?_
 have hone := hr.one
 simp only [Tm.small] at hts
 obtain ⟨hnm, hty', hfr', hsm, hks⟩ := hts
 obtain ⟨tk, tks⟩ := ty
 obtain ⟨fk, fks⟩ := fr
 obtain ⟨pt, ct, pf, cf, p, c, es, rfl, hk, hnum, hlb, hty, hfr, hsl, hkl⟩ := hr.open9
 have hn := hsl.le
 have hT := X1 (.mk tk tks) G _ hty' hty
 refine D5 Tryz.func59 rfl Tryz.ntmps59 Tryz.results59 rfl ?_
 intro w0
 refine A3 ?_
 refine sE (D8 rfl rfl) rfl (fun b3 => ?_)
 refine sE (A4 rfl) rfl (fun b4 => ?_)
 refine A9 ?_
 refine sE (A4 rfl) rfl (fun b10 => ?_)
 refine A8 ?_
 (refine E7 rfl hT rfl rfl (fun v G1 hle1 hh => ?_); obtain ⟨cs1, F1, rfl, hs1, hn1⟩ := hh; obtain ⟨p1, c1, rfl, _⟩ := hs1.open; have hF := X1 (.mk fk fks) G1 _ hfr' (hfr.mono hle1))
 refine B4 ?_
 (refine E7 rfl hF rfl rfl (fun v G2 hle2 hh => ?_); obtain ⟨cs2, F2, rfl, hs2, hn2⟩ := hh; obtain ⟨p2, c2, rfl, _⟩ := hs2.open; replace hsl := hsl.mono (hle1.trans hle2); replace hkl := hkl.mono (hle1.trans hle2))
 refine K0 ?_
 refine B7 ?_
 (refine S7 28 9 ?_; refine J3 (fun (x : Nat × Option Addr × Nat × List (List Value) × List Nat × IM) => ⟨[(4, .int .i64 x.1), (3, .pointer (some ⟨b10, 0, none⟩)), (1, .pointer (some ⟨b3, 0, none⟩)), (2, .pointer (some ⟨b4, 0, none⟩))], [.blk b10 [.int .i64 k, .string nm, .int .i64 num, .int .i64 tk, .slice p1 tks.length c1, .int .i64 fk, .slice p2 fks.length c2, .int .i64 lb, .slice x.2.1 x.1 x.2.2.1], .slc x.2.1 x.2.2.1 28 9 x.1 x.2.2.2.1.flatten, .blk b4 [.int .i64 0, .string ⟨⟨[]⟩⟩, .int .i64 0, .int .i64 0, .slice none 0 0, .int .i64 0, .slice none 0 0, .int .i64 0, .slice none 0 0], .blk b3 [.int .i64 k, .string nm, .int .i64 num, .int .i64 tk, .slice pt tks.length ct, .int .i64 fk, .slice pf fks.length cf, .int .i64 lb, .slice p ks.length c]], x.2.2.2.2.2⟩) (fun x => x.1 ≤ ks.length ∧ D2 G2 x.2.2.2.2.2 ∧ L8 (E2 x.2.2.2.2.2 G2) (ks.take x.1) x.2.2.2.1 x.2.2.2.2.1 ∧ x.2.2.2.2.1.Nodup) (fun x => ks.length - x.1) (0, none, 0, [], [], G2) ?_ ?_ ?_)
 (simp only [J4]; exact E3)
 exact ⟨by simp, D2.refl _, by simp [L8], by simp⟩
 (rintro ⟨i, pn, cn, es', F, Gi⟩ ⟨hi, hle, hst, hnd⟩; simp only [] at hi hle hst hnd ⊢; replace hsl := hsl.mono hle; replace hkl := hkl.mono hle)
 refine A8 ?_
 refine sB (I3 rfl rfl) rfl rfl (fun h56 => ?_) (fun h56 => ?_)
 refine A7 ?_
 refine B7 ?_
 (obtain ⟨b, o, e, rfl, hl, hat, hre, hgb⟩ := hsl.kidTm hkl (i := i) zV zV; have hone := hre.one; refine D3 D4 rfl ?_)
 refine E9 (i := 0) (l' := [tt,ff,ff,ff,ff,ff,ff,ff,ff,ff,ff,ff]) rfl C1 (B0 rfl) rfl zT rfl rfl ?_
 refine aL 1 rfl (B3 rfl rfl) rfl ?_
 refine aP 2 rfl (B0 rfl) rfl ?_
 refine aL 3 rfl (B3 rfl rfl) rfl ?_
 refine aP 4 rfl (qM rfl) rfl ?_
 refine aP 5 rfl (A6 rfl rfl rfl zV) rfl ?_
 refine aL 6 rfl (A2 rfl rfl (hat _) hl) rfl ?_
 refine A0 7 ?_
 (refine D6 rfl rfl (ih ks[i] (List.getElem_mem zV) _ _ (Tm.smallL_mem hks _ (List.getElem_mem zV)) hre) rfl rfl rfl (fun v G3 hle3 hh => ?_); obtain ⟨cells', F', rfl, hs', hnd'⟩ := hh; obtain ⟨qt, dt, et', qf, df, ef', q3, d3, es3, rfl, _⟩ := hs'.R.open)
 refine A0 8 ?_
 (refine B6 rfl (C0 rfl rfl rfl zV zQ rfl) rfl rfl ?_; rintro _ ⟨b75, rfl⟩)
 refine A0 9 ?_
 refine P5 rfl rfl rfl rfl rfl rfl (fun _ _ => by repeat (first | exact Sw.here | apply Sw.there)) (O1 zO) rfl zP zQ zV rfl rfl zH (fun pn' cn' => ?_)
 refine aP 10 rfl (B0 rfl) rfl ?_
 refine A0 11 ?_
 refine S2 rfl rfl rfl rfl rfl rfl rfl rfl zT zN (by rfl) ?_
 refine A9 ?_
 refine sP (H9 rfl rfl zV zV) rfl rfl ?_
 refine A3 ?_
 refine I6 (i + 1, pn', cn', es' ++ [[.int .i64 ks[i].k, .string ks[i].nm, .int .i64 ks[i].num, .int .i64 ks[i].ty.k, .slice qt ks[i].ty.ks.length dt, .int .i64 ks[i].fr.k, .slice qf ks[i].fr.ks.length df, .int .i64 ks[i].lb, .slice q3 ks[i].ks.length d3]], F ++ F', G3) ?_ ?_ ?_
 (simp only [J4]; exact E3)
 exact ⟨by omega, hle.trans hle3, L8.step hst hnd hle hle3 zV hs' hnd'⟩
 (show ks.length - (i + 1) < ks.length - i; omega)
 refine J5 ?_
 (refine E0 zM (fun G4 hle4 hsl4 hno4 => ?_); obtain rfl : i = ks.length := zV)
 refine tT ?_
 refine I7 (rC rfl (A1 rfl rfl)) ?_
 (rw [List.take_length] at hst; obtain ⟨F3, hf1, hf2⟩ := A1r.fin hst hnd hle hle4 hsl4 hno4; obtain ⟨F5, hg1, hg2⟩ := O2.mk3 (nm := nm) hk hnum hlb hle1 hle2 (hle.trans hle4) hs1 hn1 hs2 hn2 hf1 hf2; exact ⟨rfl, _, F5, rfl, hg1, hg2⟩)
mutual
def A1v (g : Tm → Tm) : Tm → Tm
 | .mk k nm num ty fr lb ks => g (.mk k nm num ty fr lb (A0B g ks))
def A0B (g : Tm → Tm) : List Tm → List Tm
 | [] => []
 | t :: ts => A1v g t :: A0B g ts
end
theorem A5p (g : Tm → Tm) : ∀ ks, A0B g ks = ks.map (A1v g)
 | [] => rfl
 | t :: ts => by rw [A0B, A5p g ts, List.map_cons]
mutual
theorem A7D : ∀ t, A1v id t = t
 | .mk k nm num ty fr lb ks => by rw [A1v, A7E ks]; rfl
theorem A7E : ∀ ks, A0B id ks = ks
 | [] => rfl
 | t :: ts => by rw [A0B, A7D t, A7E ts]
end
theorem O2.mk3k {G G1 G2 G3 : IM} {k : Int} {nm : ByteArray} {num : Int} {ty fr : Ty} {lb : Int} {ks : List Tm} {tc fc : List Value} {p : Option Addr} {c : Nat} {F1 F2 F3 : List Nat} (hk : F9 k) (hnum : F9 num) (hlb : F9 lb)
  (hl1 : D2 G G1) (hl2 : D2 G1 G2) (hl3 : D2 G2 G3) (h3 : A1r (E2 G1 G) ks p c F3) (n3 : F3.Nodup) (h1 : N5 (E2 G2 G1) ty tc F1) (n1 : F1.Nodup) (h2 : N5 (E2 G3 G2) fr fc F2) (n2 : F2.Nodup) :
  ∃ F, O2 (E2 G3 G) (.mk k nm num ty fr lb ks) ([.int .i64 k, .string nm, .int .i64 num] ++ tc ++ fc ++ [.int .i64 lb, .slice p ks.length c]) F ∧ F.Nodup := by
 obtain ⟨es, Fs, e1, e2, rfl, e4⟩ := h3
 have i3 : ∀ b ∈ I2 p ++ Fs, E2 G1 G b ≠ none := by
  intro b hb
  rcases List.mem_append.1 hb with hb | hb
  ·exact e4 b hb
  ·exact e2.inG b hb
 have a1 : D2 (E2 G1 G) (E2 G3 G) := E2.mono (hl2.trans hl3)
 have a2 : D2 (E2 G2 G1) (E2 G3 G) := fun b l h => E2.mono hl3 b l (E2.anti hl1 b l h)
 have a3 : D2 (E2 G3 G2) (E2 G3 G) := E2.anti (hl1.trans hl2)
 refine ⟨F1 ++ (F2 ++ (I2 p ++ Fs)), ?_, ?_⟩
 ·simp only [O2]
  exact ⟨tc, fc, p, c, es, F1, F2, Fs, rfl, hk, hnum, hlb, h1.mono a2, h2.mono a3, e1.mono a1, e2.mono a1, rfl, A2j a1 e4⟩
 ·rw [List.nodup_append, List.nodup_append]
  refine ⟨n1, ⟨n2, n3, ?_⟩, ?_⟩
  ·rintro x hx y hy rfl
   exact A1N (A2j (E2.mono hl2) i3) h2.inG x hy x hx rfl
  ·rintro x hx y hy rfl
   rcases List.mem_append.1 hy with hy | hy
   ·exact A1N (A2j (E2.anti hl1) h1.inG) h2.inG x hx x hy rfl
   ·exact A1N i3 h1.inG x hy x hx rfl
mutual
def mOk (Q : Tm → Prop) (g : Tm → Tm) : Tm → Prop
 | .mk k nm num ty fr lb ks => A1W Q g ks ∧ Q (.mk k nm num ty fr lb (A0B g ks))
def A1W (Q : Tm → Prop) (g : Tm → Tm) : List Tm → Prop
 | [] => True
 | t :: ts => mOk Q g t ∧ A1W Q g ts
end
theorem A7F {Q : Tm → Prop} {g : Tm → Tm} : ∀ {ts : List Tm}, A1W Q g ts → ∀ t ∈ ts, mOk Q g t
 | [], _, t, h => by simp at h
 | t' :: ts, h, t, ht => by
  simp only [A1W] at h
  rcases List.mem_cons.1 ht with rfl | ht
  ·exact h.1
  ·exact A7F h.2 t ht
mutual
theorem A7G (g : Tm → Tm) : ∀ t, mOk (fun _ => True) g t
 | .mk k nm num ty fr lb ks => by rw [mOk]; exact ⟨A7H g ks, trivial⟩
theorem A7H (g : Tm → Tm) : ∀ ts, A1W (fun _ => True) g ts
 | [] => by rw [A1W]; trivial
 | t :: ts => by rw [A1W]; exact ⟨A7G g t, A7H g ts⟩
end
def A7I (g : Tm → Tm) (Q : Tm → Prop) (fid : FuncId) (us cs : List Value) : Prop := ∀ (t : Tm) (G0 G1 : IM) (cells : List Value) (F : List Nat), Q t → D2 G0 G1 → O2 (E2 G1 G0) t cells F → F.Nodup →
 Fn Tryz.prog fid (us ++ [.agg ⟨cells⟩] ++ cs) [] G1 (K9 fun G2 v => ∃ cells' F', v = .agg ⟨cells'⟩ ∧ O2 (E2 G2 G0) (g t) cells' F' ∧ F'.Nodup)
theorem B1V (g : Tm → Tm) (Q : Tm → Prop) (fid : FuncId) [B9 Tryz.prog fid] (us cs : List Value) (hg : A7I g Q fid us cs) : ∀ (t : Tm) (G : IM) (cells : List Value), mOk Q g t → t.small → D1 G t cells →
  Fn Tryz.prog 23 [.agg ⟨cells⟩, .func (.func fid) ⟨us⟩ ⟨cs⟩] [] G (A25 (A1v g t) G) := by
 refine Tm.ind fun k nm num ty fr lb ks ih G cells hmo hts hr => ?_
 have hone := hr.one
 simp only [mOk] at hmo
 obtain ⟨hmoL, hQ⟩ := hmo
 simp only [Tm.small] at hts
 obtain ⟨hnm, hty', hfr', hsm, hks⟩ := hts
 obtain ⟨tk, tks⟩ := ty
 obtain ⟨fk, fks⟩ := fr
 obtain ⟨pt, ct, pf, cf, p, c, es, rfl, hk, hnum, hlb, hty, hfr, hsl, hkl⟩ := hr.open9
 have hn := hsl.le
 have hlen : (A0B g ks).length = ks.length := by rw [A5p, List.length_map]
 have hget : ∀ i (h : i < ks.length) (h' : i < (A0B g ks).length), (A0B g ks)[i] = A1v g ks[i] := fun i h h' => by simp [A5p]
 refine D5 Tryz.func23 rfl Tryz.ntmps23 Tryz.results23 rfl ?_
 intro w0
 refine A3 ?_
 refine sE (D8 rfl rfl) rfl (fun b3 => ?_)
 refine sE (A4 rfl) rfl (fun b4 => ?_)
 refine K0 ?_
 refine B7 ?_
 (refine S7 28 9 ?_; refine J3 (fun (x : Nat × Option Addr × Nat × List (List Value) × List Nat × IM) => ⟨[(11, .int .i64 x.1), (10, .int .i64 ks.length), (9, .slice p ks.length c), (5, .slice x.2.1 x.1 x.2.2.1), (2, .pointer (some ⟨b3, 0, none⟩)), (1, .func (.func fid) ⟨us⟩ ⟨cs⟩), (4, .pointer (some ⟨b4, 0, none⟩))], [.slc x.2.1 x.2.2.1 28 9 x.1 x.2.2.2.1.flatten, .blk b4 [.int .i64 0, .string ⟨⟨[]⟩⟩, .int .i64 0, .int .i64 0, .slice none 0 0, .int .i64 0, .slice none 0 0, .int .i64 0, .slice none 0 0], .blk b3 [.int .i64 k, .string nm, .int .i64 num, .int .i64 tk, .slice pt tks.length ct, .int .i64 fk, .slice pf fks.length cf, .int .i64 lb, .slice p ks.length c]], x.2.2.2.2.2⟩) (fun x => x.1 ≤ ks.length ∧ D2 G x.2.2.2.2.2 ∧ L8 (E2 x.2.2.2.2.2 G) ((A0B g ks).take x.1) x.2.2.2.1 x.2.2.2.2.1 ∧ x.2.2.2.2.1.Nodup) (fun x => ks.length - x.1) (0, none, 0, [], [], G) ?_ ?_ ?_)
 (simp only [J4]; exact E3)
 exact ⟨by simp, D2.refl _, by simp [L8], by simp⟩
 (rintro ⟨i, pn, cn, es', F, Gi⟩ ⟨hi, hle, hst, hnd⟩; simp only [] at hi hle hst hnd ⊢; replace hsl := hsl.mono hle; replace hkl := hkl.mono hle)
 refine A3 ?_
 refine sB (I3 rfl rfl) rfl rfl (fun h28 => ?_) (fun h28 => ?_)
 refine A8 ?_
 refine B7 ?_
 refine A3 ?_
 (obtain ⟨b, o, e, rfl, hl, hat, hre, hgb⟩ := hsl.kidTm hkl (i := i) zV zV; have hone := hre.one; refine sP (A6 rfl rfl rfl zV) rfl rfl ?_)
 refine sL (A2 rfl rfl (hat _) hl) rfl rfl ?_
 refine sE (A4 rfl) rfl (fun b41 => ?_)
 refine sS rfl rfl rfl hl hone rfl ?_ (hu := by exact D7 hl.symm)
 refine C3 ?_
 refine sL (A2 rfl rfl (C9 zO) zS) rfl rfl ?_
 refine I0 ?_
 (refine E7 rfl (ih ks[i] (List.getElem_mem zV) _ _ (A7F hmoL _ (List.getElem_mem zV)) (Tm.smallL_mem hks _ (List.getElem_mem zV)) hre) rfl rfl (fun v G3 hle3 hh => ?_); obtain ⟨cells', F', rfl, hs', hnd'⟩ := hh; rw [← hget i zV zV] at hs'; have hlc := hs'.R.len; have hoc := hs'.R.one)
 (obtain ⟨v1, v2, v3, v4, v5, v6, v7, v8, v9, rfl⟩ : ∃ v1 v2 v3 v4 v5 v6 v7 v8 v9, cells' = [v1, v2, v3, v4, v5, v6, v7, v8, v9] := by obtain ⟨_, _, _, _, _, _, _, _, _, rfl, _⟩ := hs'.R.open; exact ⟨_, _, _, _, _, _, _, _, _, rfl⟩)
 (refine F0 (C0 rfl rfl rfl zV zQ rfl) rfl ?_; rintro _ ⟨b51, rfl⟩)
 refine A2T rfl rfl rfl rfl rfl (fun _ _ => by repeat (first | exact Sw.here | apply Sw.there)) (O1 zO) rfl (fun u hu => List.all_eq_true.1 hoc u hu) zQ zV rfl (fun pn' cn' => ?_)
 refine A9 ?_
 refine sP (H9 rfl rfl zV zV) rfl rfl ?_
 refine A3 ?_
 refine I6 (i + 1, pn', cn', es' ++ [[v1, v2, v3, v4, v5, v6, v7, v8, v9]], F ++ F', G3) ?_ ?_ ?_
 (simp only [J4]; exact E3)
 exact ⟨by omega, hle.trans hle3, L8.step hst hnd hle hle3 zV hs' hnd'⟩
 (show ks.length - (i + 1) < ks.length - i; omega)
 refine H3 ?_
 (obtain rfl : i = ks.length := zV; refine A2h zM (fun G2 hle2 hsl2 hno2 => ?_); rw [← hlen, List.take_length] at hst; rw [← hlen] at hsl2; obtain ⟨F3, hf1, hf2⟩ := A1r.fin hst hnd hle hle2 hsl2 hno2; have hleG := hle.trans hle2; have hT := A2o (.mk tk tks) G2 _ hty' (hty.mono hleG); refine D3 D4 rfl ?_)
 refine E9 (i := 0) (l' := [tt,ff,ff,ff,ff,ff,ff,ff,ff,ff,ff,ff,ff]) rfl C1 (B0 rfl) rfl zT rfl rfl ?_
 refine aL 1 rfl (A1 rfl rfl) rfl ?_
 refine aP 3 rfl (B0 rfl) rfl ?_
 refine aL 4 rfl (A1 rfl rfl) rfl ?_
 refine aP 6 rfl (qM rfl) rfl ?_
 refine A0 2 ?_
 (refine D6 rfl rfl hT rfl rfl rfl (fun v G4 hle4 hh => ?_); obtain ⟨cs1, F1, rfl, hs1, hn1⟩ := hh; obtain ⟨p1, c1, rfl, _⟩ := hs1.open; have hF := A2o (.mk fk fks) G4 _ hfr' (hfr.mono (hleG.trans hle4)))
 refine aP 7 rfl (B0 rfl) rfl ?_
 refine A0 5 ?_
 (refine D6 rfl rfl hF rfl rfl rfl (fun v G5 hle5 hh => ?_); obtain ⟨cs2, F2, rfl, hs2, hn2⟩ := hh; obtain ⟨p2, c2, rfl, _⟩ := hs2.open; obtain ⟨F6, hg1, hg2⟩ := O2.mk3k (nm := nm) hk hnum hlb hleG hle4 hle5 hf1 hf2 hs1 hn1 hs2 hn2; rw [hlen] at hg1; have hch := hg _ G G5 _ F6 hQ (hleG.trans (hle4.trans hle5)) hg1 hg2)
 refine A0 8 ?_
 refine S2 rfl rfl rfl rfl rfl rfl rfl rfl zT zN (by rfl) ?_
 refine aP 9 rfl (B0 rfl) rfl ?_
 refine A0 10 ?_
 refine S2 rfl rfl rfl rfl rfl rfl rfl rfl zT zN (by rfl) ?_
 refine aP 11 rfl (B0 rfl) rfl ?_
 refine A0 12 ?_
 refine S2 rfl rfl rfl rfl rfl rfl rfl rfl zT zN (by rfl) ?_
 refine A7 ?_
 (refine F0 (A6e rfl rfl hch (List.Perm.refl _) rfl) rfl ?_; rintro _ ⟨v, G7, outs, rfl, hle7, rfl, cells7, F7, rfl, hs7, hn7⟩; have hl7 := hs7.R.len; have ho7 := hs7.R.one)
 refine sS rfl rfl rfl hl7 ho7 rfl ?_ (hu := by exact D7 hl7.symm)
 refine B2 ?_
 refine I7 (rC rfl (A2 rfl rfl (C9 zO) hl7)) ?_
 (rw [A1v]; exact ⟨rfl, cells7, F7, rfl, hs7, hn7⟩)
theorem B1W (G : IM) (cells : List Value) (hl : cells.length = 9) (hone : cells.all (·.oneCell') = true) : Fn Tryz.prog 141 [.agg ⟨cells⟩] [] G (F8 (.agg ⟨cells⟩) G) := by
 refine D5 Tryz.func141 rfl Tryz.ntmps141 Tryz.results141 rfl ?_
 intro w0
 refine A3 ?_
 refine sE (D8 rfl rfl) rfl (fun b3 => ?_)
 refine sE (A4 rfl) rfl (fun b4 => ?_)
 refine C3 ?_
 refine sL (A2 rfl rfl (C9 zO) zS) rfl rfl ?_
 refine sS rfl rfl rfl hl hone rfl ?_ (hu := by exact D7 hl.symm)
 refine B2 ?_
 refine I7 (rC rfl (A2 rfl rfl (C9 zO) hl)) ?_
 exact ⟨rfl, rfl, rfl⟩
theorem B1X : A7I id (fun _ => True) 141 [] [] := fun t G0 G1 cells F _ hle hs hn =>
 (B1W G1 cells hs.R.len hs.R.one).mono fun G' v outs _ ⟨h1, h2, h3⟩ => ⟨h3, cells, F, h2, by rw [h1]; exact hs, hn⟩
theorem B1Y (t : Tm) (G : IM) (cells : List Value) (hts : t.small) (hr : D1 G t cells) : Fn Tryz.prog 89 [.agg ⟨cells⟩] [] G (A25 t G) := by
 have hl := hr.len
 have hone := hr.one
 have hM := B1V id (fun _ => True) 141 [] [] B1X t G cells (A7G _ t) hts hr
 rw [A7D] at hM
 refine D5 Tryz.func89 rfl Tryz.ntmps89 Tryz.results89 rfl ?_
 intro w0
 refine A3 ?_
 refine sE (D8 rfl rfl) rfl (fun b3 => ?_)
 refine sE (A4 rfl) rfl (fun b4 => ?_)
 refine C3 ?_
 refine sL (A2 rfl rfl (C9 zO) zS) rfl rfl ?_
 (refine E7 rfl hM rfl rfl (fun v G3 hle3 hh => ?_); obtain ⟨cells', F', rfl, hs', hnd'⟩ := hh; have hl' := hs'.R.len; have ho' := hs'.R.one)
 refine sS rfl rfl rfl hl' ho' rfl ?_ (hu := by exact D7 hl'.symm)
 refine B2 ?_
 refine I7 (rC rfl (A2 rfl rfl (C9 zO) hl')) ?_
 exact ⟨rfl, cells', F', rfl, hs', hnd'⟩
end Gw
end Go.Proofs.YtmceanphadildaaGreatDoor
