/-
  The reference model's drawn types, changed at random.
-/
import Derived.Test.YtbdacdnffkhgeaaGreatDoorKz512
import Derived.Test.YtbdacdnffkhgeaaGreatDoorKz511
import Derived.Laws.Slices
import Derived.Test.YtbdacdnffkhgeaaGreatDoorKz510
set_option linter.unusedVariables false
set_option linter.unusedSimpArgs false
set_option maxHeartbeats 0
set_option maxRecDepth 100000
set_option synthInstance.maxSize 4000
set_option synthInstance.maxHeartbeats 0
namespace Go.Proofs.YtbdacdnffkhgeaaGreatDoor
open Go Go.RowKit
namespace Gw
theorem y100 {p : Prop} (h : p := by
  refine A2 7 ?_
  (refine P0 rfl rfl rfl rfl rfl rfl (fun _ _ => by repeat (first | exact Sw.here | apply Sw.there)) (K4 zI0) rfl zK0 zL0 zR0 rfl rfl zR (fun p5 c5 => ?_))
  refine aP 8 rfl (qA rfl) rfl ?_
  refine A4 ?_
  (refine J6 (cs := es.flatten ++ [.string nm, .int .i64 k, .slice q ks.length d]) zD0 (fun G5 hle5 hsl5 hno5 => ?_))
  refine A4 ?_
  (exact ⟨rfl, _, _, rfl, GCx.snoc h1 h2 h3 hle5 (A7z (hr.mono hle5) ha hs hnm) hsl5⟩)
) : p := h
theorem y101 {p : Prop} (h : p := by
  refine D3 D4 rfl ?_
  refine J4 (i := 0) (l' := [tt,ff,ff,ff,ff,ff,ff,ff,ff,ff]) rfl C8 (qM rfl) rfl zP0 rfl rfl ?_
  refine aP 1 rfl (qM rfl) rfl ?_
  refine aP 2 rfl (A9W rfl rfl rfl zR0) rfl ?_
  refine aP 3 rfl (qM rfl) rfl ?_
  refine aP 4 rfl (A4A rfl rfl (by simp only [ByteArray.size_extract, ByteArray.size_append]; omega)) rfl ?_
  refine aP 5 rfl (qM rfl) rfl ?_
  refine aP 6 rfl (qM rfl) rfl ?_
  refine aP 7 rfl (A9X rfl rfl rfl zR0) rfl ?_
  refine aP 8 rfl (A4A rfl rfl (by simp only [ByteArray.size_extract, ByteArray.size_append]; omega)) rfl ?_
  refine aP 9 rfl (qA rfl) rfl ?_
  refine C1 ?_
  refine H8 (outs := []) (rT rfl) A0.nil ?_
  (exact ⟨rfl, rfl, _, rfl, by simp only [ByteArray.size_extract, ByteArray.size_append]; omega⟩)
) : p := h
theorem y102 {p : Prop} (h : p := by
  refine tT ?_
  refine H3 (rC rfl (A3 rfl rfl)) (rT rfl) ?_
  (rw [hW2, hL2]; exact RtP.mk hk hnum hlb zI (hfr.mono (by first | exact hle.trans hle5 | exact hle1.trans (hle.trans hle5))) (by rw [A29]) hsl5 (hst.mono hle5) (by simp only [List.length_append, List.length_singleton, List.length_nil, List.length_drop] at hnl ⊢; omega) (hsL.mono hle5) (by simpa [List.drop_drop, Nat.add_comm] using heL.mono hle5))
) : p := h
theorem B4y (br : Nat) (pb : Option Addr) (nb cb : Nat) (bs : List UInt8) (hnb : nb ≤ 2000) (p : Nat) (G : IM) (hb : Sl G pb nb cb 1 (R4 bs)) (hp : p + 31 < 1099511627776) :
  Fn Tryz.prog 75 [.pointer (some ⟨br, 0, none⟩)] [rd br pb nb cb p] G
   (A1o br pb nb cb p 31 (fun G' v => ∃ t cells, v = .agg ⟨cells⟩ ∧ C7 G' t cells ∧ M4 t ≤ 30 ∧ T8 3 t)) := by
 refine C0 Tryz.func75 rfl Tryz.ntmps75 Tryz.results75 rfl ?_
 intro w0
 refine A4 ?_
 refine sE (A6 rfl) rfl (fun b3 => ?_)
 refine A9 ?_
 (refine J8 (D1 rfl rfl rfl zR0 zL0 rfl) rfl ?_; rintro _ ⟨b10, rfl⟩)
 (refine X9 zD0 (fun G1 hle1 hsl1 _ => ?_); refine L5 rfl (A08 G1 br pb nb cb p bs _ _ _ _ (hb.mono hle1) hnb zR0 hsl1 zQ0) (Pk.perm zD0) rfl rfl (fun v G2 outs hle2 hh => ?_); obtain ⟨rfl, rfl, hv⟩ := hh; replace hb := hb.mono hle1; obtain ⟨d, rfl, hd⟩ : ∃ d : Nat, v = .int .i64 ((d + 1 : Nat) : Int) ∧ d ≤ 3 := (by simp only [List.mem_cons, List.not_mem_nil, or_false] at hv; rcases hv with rfl | rfl | rfl | rfl | rfl <;> first | exact ⟨0, rfl, by decide⟩ | exact ⟨1, rfl, by decide⟩ | exact ⟨2, rfl, by decide⟩ | exact ⟨3, rfl, by decide⟩))
 (have hdB := B4e hd; refine L5 rfl (A4N br pb nb cb bs hnb d (p + 1) G2 zR0 hb zR0) (Pk.perm zD0) rfl rfl (fun v G3 outs hle3 hh => ?_); obtain ⟨p3, hp31, hp32, rfl, t3, cells3, rfl, hr3, hs3, ha3⟩ := hh; obtain ⟨q3, c3, es3, rfl, _⟩ := hr3.open)
 refine B5 ?_
 refine H8 (outs := [rd br pb nb cb p3]) (rC rfl (A3 rfl rfl)) zA0 ?_
 exact ⟨p3, by omega, by omega, rfl, t3, _, rfl, hr3, by omega, ha3.le hd⟩
theorem B4z (br : Nat) (pb : Option Addr) (nb cb : Nat) (bs : List UInt8) (hnb : nb ≤ 2000) (p : Nat) (G : IM) (hb : Sl G pb nb cb 1 (R4 bs)) (hp : p + 31 < 1099511627776) :
  Fn Tryz.prog 75 [.pointer (some ⟨br, 0, none⟩)] [rd br pb nb cb p] G
   (A1o br pb nb cb p 31 (fun G' v => ∃ t cells, v = .agg ⟨cells⟩ ∧ C7 G' t cells ∧ M4 t ≤ 30)) :=
 (B4y br pb nb cb bs hnb p G hb hp).mono fun G' v outs _ ⟨p', h1, h2, h3, t, cells, h4, h5, h6, _⟩ => ⟨p', h1, h2, h3, t, cells, h4, h5, h6⟩
theorem B4A (k : Int) (ks : List Ty) (G : IM) (p : Option Addr) (c : Nat) (hts : (Ty.mk k ks).small) (hr : C7 G (.mk k ks) [.int .i64 k, .slice p ks.length c]) : Fn Tryz.prog 89 [.agg ⟨[.int .i64 k, .slice p ks.length c]⟩] [] G
  (fun G' v outs => ∃ p c es, v = .agg ⟨[.int .i64 k, .slice p ks.length c]⟩ ∧ outs = [.slc p c 25 2 ks.length es.flatten] ∧ D9 G' ks es) := by
 simp only [Ty.small] at hts
 obtain ⟨hsm, hks⟩ := hts
 obtain ⟨p', c', es, he, hk, hsl, hkl⟩ := hr.open
 simp only [Ty.k, Ty.ks, List.cons.injEq, Value.slice.injEq, true_and, and_true] at he hk hsl hkl
 obtain ⟨rfl, rfl⟩ := he
 have hn := hsl.le
 refine C0 Tryz.func89 rfl Tryz.ntmps89 Tryz.results89 rfl ?_
 intro w0
 refine A4 ?_
 refine sE (B6 rfl rfl) rfl (fun b3 => ?_)
 refine sE (A6 rfl) rfl (fun b4 => ?_)
 refine B0 ?_
 refine sE (A6 rfl) rfl (fun b12 => ?_)
 refine E7 ?_
 refine C2 ?_
 (refine X1 25 2 ?_; refine L8 (fun (x : Nat × Option Addr × Nat × List (List Value) × IM) => ⟨[(4, .int .i64 x.1), (3, .pointer (some ⟨b12, 0, none⟩)), (1, .pointer (some ⟨b3, 0, none⟩)), (2, .pointer (some ⟨b4, 0, none⟩))], [.blk b12 [.int .i64 k, .slice x.2.1 x.1 x.2.2.1], .slc x.2.1 x.2.2.1 25 2 x.1 x.2.2.2.1.flatten, .blk b4 [.int .i64 0, .slice none 0 0], .blk b3 [.int .i64 k, .slice p ks.length c]], x.2.2.2.2⟩) (fun x => x.1 ≤ ks.length ∧ B9 G x.2.2.2.2 ∧ D9 x.2.2.2.2 (ks.take x.1) x.2.2.2.1) (fun x => ks.length - x.1) (0, none, 0, [], G) ?_ ?_ ?_)
 (simp only [I9]; exact F8)
 exact ⟨by simp, B9.refl _, by simp [D9]⟩
 (rintro ⟨i, pn, cn, es', Gi⟩ ⟨hi, hle, hst⟩; simp only [] at hi hle hst ⊢; replace hsl := hsl.mono hle; replace hkl := hkl.mono hle)
 refine B0 ?_
 refine sB (N5 rfl rfl) rfl rfl (fun h34 => ?_) (fun h34 => ?_)
 refine A9 ?_
 refine C2 ?_
 (obtain ⟨b, o, p2, c2, rfl, hat, hre, hgb⟩ := hsl.kidTy hkl (i := i) zR0 zR0; refine D3 D4 rfl ?_)
 refine J4 (i := 0) (l' := [tt,ff,ff,ff,ff,ff,ff,ff,ff,ff,ff,ff]) rfl C8 (C3 rfl) rfl zP0 rfl rfl ?_
 refine aL 1 rfl (F0 rfl rfl) rfl ?_
 refine aP 2 rfl (C3 rfl) rfl ?_
 refine aL 3 rfl (F0 rfl rfl) rfl ?_
 refine aP 4 rfl (qM rfl) rfl ?_
 refine aP 5 rfl (B8 rfl rfl rfl zR0) rfl ?_
 refine aL 6 rfl (A5 rfl rfl (hat _) rfl) rfl ?_
 refine A2 7 ?_
 (refine H1 rfl rfl (Z9 ks[i] _ _ (Ty.smallL_mem hks _ (List.getElem_mem zR0)) hre) rfl rfl rfl (fun v G1 hle1 hh => ?_); obtain ⟨cells', F', rfl, hs', hnd'⟩ := hh; have hr' := hs'.R.mono (E0.le _ _); obtain ⟨p3, c3, es3, rfl, _⟩ := hr'.open)
 refine A2 8 ?_
 (refine D2 rfl (D1 rfl rfl rfl zR0 zL0 rfl) rfl rfl ?_; rintro _ ⟨b53, rfl⟩)
 refine A2 9 ?_
 refine P0 rfl rfl rfl rfl rfl rfl (fun _ _ => by repeat (first | exact Sw.here | apply Sw.there)) (K4 zI0) rfl zK0 zL0 zR0 rfl rfl zR (fun pn' cn' => ?_)
 refine aP 10 rfl (C3 rfl) rfl ?_
 refine A2 11 ?_
 refine T7 rfl rfl rfl rfl rfl rfl rfl rfl zP0 zF0 (by rfl) ?_
 refine A8 ?_
 refine sP (K0 rfl rfl zR0 zR0) rfl rfl ?_
 refine A4 ?_
 refine J7 (i + 1, pn', cn', es' ++ [[.int .i64 ks[i].k, .slice p3 ks[i].ks.length c3]], G1) ?_ ?_ ?_
 (simp only [I9]; exact F8)
 (dsimp only; exact ⟨by omega, hle.trans hle1, by rw [List.take_succ_eq_append_getElem zR0]; exact D9.snoc (hst.mono hle1) hr'⟩)
 (show ks.length - (i + 1) < ks.length - i; omega)
 refine J0 ?_
 (obtain rfl : i = ks.length := zR0; refine H8 (outs := [.slc pn cn 25 2 ks.length es'.flatten]) (rC rfl (A3 rfl rfl)) zA0 ?_)
 (rw [List.take_length] at hst; exact ⟨pn, cn, es', rfl, rfl, hst⟩)
theorem A1G (G : IM) : C7 G S0 [.int .i64 1, .slice none 0 0] := by
 simp only [S0, C7]
 exact ⟨none, 0, [], rfl, ⟨by omega, by omega⟩, D7.of (Sl.nil _ _) rfl zS0 zS0, by simp [D9]⟩
theorem A7o : M4 S0 = 0 := rfl
theorem B4B (br : Nat) (pb : Option Addr) (nb cb : Nat) (bs : List UInt8) (hnb : nb ≤ 2000) (p : Nat) (G : IM) (hb : Sl G pb nb cb 1 (R4 bs)) (hp : p + 31 < 1099511627776) (t : Ty) (cells : List Value) (hr : C7 G t cells) (hsz : M4 t ≤ 30) :
  Fn Tryz.prog 74 [.pointer (some ⟨br, 0, none⟩), .agg ⟨cells⟩] [rd br pb nb cb p] G
   (A1o br pb nb cb p 2 (fun G' v => ∃ t cells, v = .agg ⟨cells⟩ ∧ C7 G' t cells ∧ M4 t ≤ 38)) := by
 have hts := A4G t zR0
 obtain ⟨k, ks⟩ := t
 rw [M4] at hsz
 have hsn := A2L ks
 obtain ⟨q0, c0, es0, rfl, hk, _⟩ := hr.open
 simp only [Ty.k, Ty.ks] at hk hr ⊢
 refine C0 Tryz.func74 rfl Tryz.ntmps74 Tryz.results74 rfl ?_
 intro w0
 refine A4 ?_
 refine sE (B6 rfl rfl) rfl (fun b3 => ?_)
 refine sE (A6 rfl) rfl (fun b4 => ?_)
 refine A8 ?_
 (refine A1l rfl (B4A k ks G q0 c0 hts hr) rfl rfl (fun v G1 outs hle1 hh => ?_); obtain ⟨q, c, es, rfl, rfl, hst⟩ := hh)
 refine sE (A6 rfl) rfl (fun b11 => ?_)
 refine B0 ?_
 (refine L5 rfl (A0C G1 br pb nb cb p bs 40 (hb.mono hle1) hnb zR0) (Pk.perm zD0) rfl rfl (fun v G2 outs hle2 hh => ?_); obtain ⟨rfl, rfl, j, rfl, hj0, hj1⟩ := hh; replace hb := hb.mono hle1)
 refine A4 ?_
 (show L3 _ _ (.block 0 _) _ _; refine A0V (fun (x : Ty × Option Addr × Nat × Nat × IM) => ⟨[(5, .pointer (some ⟨b11, 0, none⟩)), (4, .pointer (some ⟨b4, 0, none⟩))], [.blk b11 [.int .i64 x.1.k, .slice x.2.1 x.1.ks.length x.2.2.1], .blk b4 [.int .i64 0, .slice none 0 0], rd br pb nb cb x.2.2.2.1], x.2.2.2.2⟩) (fun x => B9 G2 x.2.2.2.2 ∧ C7 x.2.2.2.2 x.1 [.int .i64 x.1.k, .slice x.2.1 x.1.ks.length x.2.2.1] ∧ M4 x.1 ≤ 38 ∧ p ≤ x.2.2.2.1 ∧ x.2.2.2.1 ≤ p + 2) ?_ ?_)
 refine C2 (tS (tR (sB (qE rfl rfl) rfl rfl (fun h26 => ?_) (fun h26 => ?_))))
 refine A9 ?_
 (refine J8 (D1 rfl rfl rfl zR0 zL0 rfl) rfl ?_; rintro _ ⟨b33, rfl⟩)
 (refine X9 zD0 (fun G3 hle3 hsl3 _ => ?_); refine X9 zD0 (fun G4 hle4 hsl4 _ => ?_); refine L5 rfl (A08 G4 br pb nb cb (p + 1) bs _ _ _ _ (hb.mono (hle3.trans hle4)) hnb zR0 (hsl3.mono hle4) zQ0) (Pk.perm zD0) rfl rfl (fun v G5 outs hle5 hh => ?_); obtain ⟨rfl, rfl, hv⟩ := hh; obtain ⟨k', rfl, hk'⟩ : ∃ k', v = .int .i64 k' ∧ H6 k' := (by simp only [List.mem_cons, List.not_mem_nil, or_false] at hv; rcases hv with rfl | rfl | rfl | rfl | rfl <;> exact ⟨_, rfl, by unfold H6; omega⟩))
 refine B5 ?_
 refine O7 (.mk k' ks, q, c, p + 2, G5) ?_ ?_
 (simp only [I9]; exact F8)
 (dsimp only; exact ⟨hle3.trans hle4, (hst.mono (hle3.trans hle4)).ty rfl hsl4 hk', by (rw [M4]; omega), by omega, by omega⟩)
 refine A9 ?_
 refine sB (qE rfl rfl) rfl rfl (fun h48 => ?_) (fun h48 => ?_)
 refine B5 ?_
 refine D3 D4 rfl ?_
 refine J4 (i := 0) (l' := [tt,ff,ff,ff,ff,ff,ff]) rfl C8 (C3 rfl) rfl zP0 rfl rfl ?_
 refine aL 1 rfl (F0 rfl rfl) rfl ?_
 refine A2 2 ?_
 refine T2 rfl rfl ((A2M _)) rfl rfl rfl ?_
 refine A2 3 ?_
 (refine D2 rfl (D1 rfl rfl rfl zR0 zL0 rfl) rfl rfl ?_; rintro _ ⟨b59, rfl⟩)
 refine A2 4 ?_
 refine P0 rfl rfl rfl rfl rfl rfl (fun _ _ => by repeat (first | exact Sw.here | apply Sw.there)) (K4 zI0) rfl zK0 zL0 zR0 rfl rfl zR (fun qn cn => ?_)
 (refine A0t (cs := es.flatten ++ [.int .i64 1, .slice none 0 0]) zD0 (fun G6 hle6 hsl6 _ => ?_))
 refine aP 5 rfl (C3 rfl) rfl ?_
 refine A2 6 ?_
 refine T7 rfl rfl rfl rfl rfl rfl rfl rfl zP0 zF0 (by rfl) ?_
 refine A4 ?_
 refine O7 (.mk k (ks ++ [S0]), qn, cn, p + 1, G6) (by rw [show (Ty.mk k (ks ++ [S0])).ks.length = ks.length + 1 from by simp [Ty.ks]]; exact F8) ?_
 (dsimp only; refine ⟨hle6, D9.ty (ts := ks ++ [S0]) (es := es ++ [[.int .i64 1, .slice none 0 0]]) (D9.snoc (hst.mono hle6) (A1G _)) rfl (by simpa [Ty.ks] using hsl6) hk, ?_, by omega, by omega⟩; rw [M4, A5U, A7o, List.length_append]; simp only [List.length_singleton]; omega)
 refine A9 ?_
 refine sB (qE rfl rfl) rfl rfl (fun h76 => ?_) (fun h76 => ?_)
 refine E7 ?_
 refine C2 ?_
 (refine A2c zD0 (fun G3 hle3 hsl3 _ => ?_); refine L8 (fun (x : Nat × Ty × Option Addr × Nat × IM) => ⟨[(6, .int .i64 x.1), (5, .pointer (some ⟨b11, 0, none⟩)), (4, .pointer (some ⟨b4, 0, none⟩))], [.blk b11 [.int .i64 x.2.1.k, .slice x.2.2.1 x.2.1.ks.length x.2.2.2.1], .blk b4 [.int .i64 0, .slice none 0 0], rd br pb nb cb (p + 1)], x.2.2.2.2⟩) (fun x => x.1 ≤ 4 ∧ B9 G3 x.2.2.2.2 ∧ C7 x.2.2.2.2 x.2.1 [.int .i64 x.2.1.k, .slice x.2.2.1 x.2.1.ks.length x.2.2.2.1] ∧ M4 x.2.1 ≤ 30 + 2 * x.1) (fun x => 4 - x.1) (0, .mk k ks, q, c, G3) ?_ ?_ ?_)
 (simp only [I9]; exact F8)
 (dsimp only; exact ⟨by omega, B9.refl _, (hst.mono hle3).ty rfl hsl3 hk, by (rw [M4]; omega)⟩)
 (rintro ⟨i, ⟨tk, tks⟩, qi, ci, Gi⟩ ⟨hi, hlei, hri, hsi⟩; simp only [Ty.k, Ty.ks] at hi hlei hri hsi ⊢)
 refine B5 ?_
 refine sB (N5 rfl rfl) rfl rfl (fun h95 => ?_) (fun h95 => ?_)
 refine A9 ?_
 refine C2 ?_
 refine D3 D4 rfl ?_
 refine J3 (i := 1) (l' := [ff,tt,ff,ff,ff]) rfl C8 (A3 rfl rfl) rfl zP0 rfl rfl ?_
 refine A2 0 ?_
 refine T2 rfl rfl ((A2M _)) rfl rfl rfl ?_
 refine A2 2 ?_
 (refine D2 rfl (D1 rfl rfl rfl zR0 zL0 rfl) rfl rfl ?_; rintro _ ⟨b108, rfl⟩)
 (refine A0t (cs := [.int .i64 1, .slice none 0 0, .int .i64 tk, .slice qi tks.length ci]) zD0 (fun G7 hle7 hsl7 _ => ?_))
 refine aP 3 rfl (pBd rfl rfl) rfl ?_
 refine A2 4 ?_
 refine T7 rfl rfl rfl rfl rfl rfl rfl rfl zP0 zF0 (by rfl) ?_
 refine A8 ?_
 refine sP (K0 rfl rfl zR0 zR0) rfl rfl ?_
 refine A4 ?_
 refine J7 (i + 1, .mk 4 [S0, .mk tk tks], some ⟨b108, 0, none⟩, 2, G7) ?_ ?_ ?_
 (simp only [I9]; exact F8)
 (dsimp only; refine ⟨by omega, hlei.trans hle7, D9.ty (ts := [S0, .mk tk tks]) (es := [[.int .i64 1, .slice none 0 0], [.int .i64 tk, .slice qi tks.length ci]]) ⟨_, _, rfl, A1G _, _, _, rfl, hri.mono hle7, rfl⟩ rfl hsl7 ⟨by omega, by omega⟩, ?_⟩; rw [M4, Q8, Q8, Q8, A7o]; simp only [List.length_cons, List.length_nil]; omega)
 (show 4 - (i + 1) < 4 - i; omega)
 refine E1 ?_
 refine O7 (.mk tk tks, qi, ci, p + 1, Gi) ?_ ?_
 (simp only [I9]; exact F8)
 (dsimp only; exact ⟨hle3.trans hlei, hri, by omega, by omega, by omega⟩)
 refine B5 ?_
 (refine A2c zD0 (fun G8 hle8 hsl8 _ => ?_); refine tK ?_)
 refine D8 ?_
 refine O7 (.mk k ks, q, c, p + 1, G8) ?_ ?_
 (simp only [I9]; exact F8)
 (dsimp only; exact ⟨hle8, (hst.mono hle8).ty rfl hsl8 hk, by (rw [M4]; omega), by omega, by omega⟩)
 (rintro ⟨t', q', c', p', G'⟩ ⟨hle9, hr9, hs9, hp9, hp9'⟩; simp only [] at hle9 hr9 hs9 hp9 hp9' ⊢)
 refine B0 ?_
 refine H8 (outs := [rd br pb nb cb p']) (rC rfl (A3 rfl rfl)) zA0 ?_
 (exact ⟨p', by omega, by omega, rfl, t', _, rfl, hr9, by omega⟩)
mutual
def H2 : Tm → Tm
 | .mk k nm num ty fr lb ks => if k = 13 ∨ k = 14 then (I0 ks).headD I8 else .mk k nm num (if k = 5 then S0 else B4) B4 0 (I0 ks)
def I0 : List Tm → List Tm
 | [] => []
 | t :: ts => H2 t :: I0 ts
end
theorem A3A : ∀ ks, I0 ks = ks.map H2
 | [] => rfl
 | t :: ts => by rw [I0, A3A ts, List.map_cons]
def A1b : Tm → Tm
 | .mk k nm num ty fr lb ks => if k = 13 ∨ k = 14 then ks.headD I8 else if k = 5 then .mk k nm num S0 fr lb ks else .mk k nm num ty fr lb ks
def A3B : Tm → Prop
 | .mk k _ _ _ _ _ ks => k = 13 ∨ k = 14 → ks ≠ []
theorem A2O {t : Ty} (h : A0A t = true) : t = B4 := by
 obtain ⟨k, ks⟩ := t
 obtain ⟨h1, h2⟩ : (Ty.mk k ks).k = 0 ∧ (Ty.mk k ks).ks.length = 0 := of_decide_eq_true h
 simp only [Ty.k, Ty.ks] at h1 h2
 have h3 : ks = [] := List.length_eq_zero_iff.1 zR0
 rw [h3, B4]
 congr
theorem A0b {D N : Int} {k : Int} {nm : ByteArray} {num : Int} {ty fr : Ty} {lb : Int} {ks : List Tm} {d : Int} (h : L6 D N (.mk k nm num ty fr lb ks) d = true) : d ≤ D ∧ k ≠ N ∧ Z2 k nm num ty fr lb ks.length = true ∧ I2 D N ks (d + 1) = true := by
 rw [L6] at h
 simp only [Bool.and_eq_true, decide_eq_true_eq] at h
 exact ⟨h.1.1.1, h.1.1.2, h.1.2, h.2⟩
mutual
theorem A9O (D N : Int) : ∀ (t : Tm) (d : Int), L6 D N t d = true → A2i A1b t = H2 t ∧ mOk A3B A1b t
 | .mk k nm num ty fr lb ks, d, h => by
  obtain ⟨h1, h2, h3, h4⟩ := A0b h
  obtain ⟨e1, e2⟩ := A9P D N ks _ h4
  have hn := X5.1 h3
  rw [A2i, H2, mOk, e1]
  refine ⟨?_, e2, ?_⟩
  ·rw [A1b]
   by_cases hk : k = 13 ∨ k = 14
   ·rw [if_pos hk, if_pos hk]
   ·rw [if_neg hk, if_neg hk]
    obtain ⟨hf, hl⟩ := hn.2.2.2.2.2.2.2.2 zR0
    rw [A2O hf, hl]
    by_cases hk5 : k = 5
    ·rw [if_pos hk5, if_pos hk5]
    ·rw [if_neg hk5, if_neg hk5, A2O (hn.2.2.2.2.2.2.1 zR0)]
  ·rw [A3B]
   intro hk he
   have ha := hn.1
   have : ks.length = 0 := by
    have := congrArg List.length he
    rw [A3A, List.length_map] at this
    simpa using this
   rcases hk with rfl | rfl <;> (rw [this] at ha; revert ha; decide)
theorem A9P (D N : Int) : ∀ (ts : List Tm) (d : Int), I2 D N ts d = true → A1a A1b ts = I0 ts ∧ A2j A3B A1b ts
 | [], d, h => by rw [A1a, I0, A2j]; exact ⟨rfl, trivial⟩
 | t :: ts, d, h => by
  rw [I2, Bool.and_eq_true] at h
  obtain ⟨a1, a2⟩ := A9O D N t d h.1
  obtain ⟨b1, b2⟩ := A9P D N ts d h.2
  rw [A1a, I0, A2j, a1, b1]
  exact ⟨rfl, a2, b2⟩
end
mutual
theorem A24 : ∀ t : Tm, t.small → (H2 t).small ∧ E4 (H2 t) ≤ E4 t
 | .mk k nm num ty fr lb ks, h => by
  simp only [Tm.small] at h
  obtain ⟨h1, h2, h3, h4, h5⟩ := h
  obtain ⟨b1, b2⟩ := A9Q ks h5
  rw [H2]
  by_cases hk : k = 13 ∨ k = 14
  ·rw [if_pos hk]
   cases ks with
   | nil => exact ⟨by simp [I0, I8, Tm.small, Ty.small, Ty.smallL, Tm.smallL, ByteArray.size], by rw [E4]; simp [I0, I8, E4, H0]⟩
   | cons x xs =>
    simp only [Tm.smallL] at h5
    obtain ⟨c1, c2⟩ := A24 x h5.1
    rw [I0, E4, H0]
    exact ⟨c1, by show E4 (H2 x) ≤ _; omega⟩
  ·rw [if_neg hk]
   simp only [Tm.small, E4]
   refine ⟨⟨h1, ?_, by simp [B4, Ty.small, Ty.smallL], by rw [A3A, List.length_map]; exact h4, b1⟩, by omega⟩
   by_cases hk5 : k = 5
   ·rw [if_pos hk5]; simp [S0, Ty.small, Ty.smallL]
   ·rw [if_neg hk5]; simp [B4, Ty.small, Ty.smallL]
theorem A9Q : ∀ ts : List Tm, Tm.smallL ts → Tm.smallL (I0 ts) ∧ H0 (I0 ts) ≤ H0 ts
 | [], h => by rw [I0]; simp [Tm.smallL]
 | t :: ts, h => by
  simp only [Tm.smallL] at h
  obtain ⟨a1, a2⟩ := A24 t h.1
  obtain ⟨b1, b2⟩ := A9Q ts h.2
  rw [I0, H0, H0]
  simp only [Tm.smallL]
  exact ⟨⟨a1, b1⟩, by omega⟩
end
structure IS where
 B : BV
 c : Nat
 L : List SV
def A1c : List (ByteArray × SV) → ByteArray → Option SV
 | [], _ => none
 | (x, s) :: Γ, nm => if x = nm then some s else A1c Γ nm
inductive Nod : Int → List SV → IS → IS → Option SV → Prop
 | num {S} : Nod 2 [] S S (some (.b false))
 | tru {k S} : k = 3 ∨ k = 4 → Nod k [] S S (some (.b true))
 | pair {x y S} : Nod 10 [x, y] S S (some (.t true x y))
 | app {x y S B' ok} : S.B S.c = none → Q4 S.B x (.t false y (.v S.c)) B' ok → Nod 6 [x, y] S ⟨B', S.c + 2, S.L⟩ (if ok = true then some (.v S.c) else none)
 | ar0 {k x y S B'} : k = 7 ∨ k = 8 → Q4 S.B x (.b false) B' false → Nod k [x, y] S ⟨B', S.c, S.L⟩ none
 | ar {k x y S B1 B' ok} : k = 7 ∨ k = 8 → Q4 S.B x (.b false) B1 true → Q4 B1 y (.b false) B' ok → Nod k [x, y] S ⟨B', S.c, S.L⟩ (if ok = true then some (.b (decide (k = 8))) else none)
 | ite0 {x y z S B'} : Q4 S.B x (.b true) B' false → Nod 9 [x, y, z] S ⟨B', S.c, S.L⟩ none
 | ite {x y z S B1 B' ok} : Q4 S.B x (.b true) B1 true → Q4 B1 y z B' ok → Nod 9 [x, y, z] S ⟨B', S.c, S.L⟩ (if ok = true then some y else none)
 | part {k x S B' ok} : k = 11 ∨ k = 12 → S.B S.c = none → S.B (S.c + 1) = none → Q4 S.B x (.t true (.v S.c) (.v (S.c + 1))) B' ok → Nod k [x] S ⟨B', S.c + 2, S.L⟩ (if ok = true then some (.v (if k = 12 then S.c + 1 else S.c)) else none)
mutual
inductive V3 : List (ByteArray × SV) → Tm → IS → IS → Option SV → Prop
 | var {Γ nm num ty fr lb ks S} : V3 Γ (.mk 1 nm num ty fr lb ks) S S (A1c Γ nm)
 | lam {Γ nm num ty fr lb e S S' o} : S.B S.c = none → V3 ((nm, .v S.c) :: Γ) e ⟨S.B, S.c + 1, S.L ++ [.v S.c]⟩ S' o → V3 Γ (.mk 5 nm num ty fr lb [e]) S S' (o.map fun t => .t false (.v S.c) t)
 | no {Γ k nm num ty fr lb ks S S'} : k ≠ 1 → k ≠ 5 → A0W Γ ks S S' none → V3 Γ (.mk k nm num ty fr lb ks) S S' none
 | node {Γ k nm num ty fr lb ks S S1 S2 ss o} : k ≠ 1 → k ≠ 5 → A0W Γ ks S S1 (some ss) → Nod k ss S1 S2 o → V3 Γ (.mk k nm num ty fr lb ks) S S2 o
inductive A0W : List (ByteArray × SV) → List Tm → IS → IS → Option (List SV) → Prop
 | nil {Γ S} : A0W Γ [] S S (some [])
 | no {Γ e es S S'} : V3 Γ e S S' none → A0W Γ (e :: es) S S' none
 | cons {Γ e es S S1 S2 s os} : V3 Γ e S S1 (some s) → A0W Γ es S1 S2 os → A0W Γ (e :: es) S S2 (os.map (s :: ·))
end
mutual
def mBr : Tm → Prop
 | .mk k nm _ _ _ _ ks => E8 k = ks.length ∧ 1 ≤ k ∧ k ≤ 12 ∧ (k = 1 ∨ k = 5 → nm.size = 1) ∧ A1q ks
def A1q : List Tm → Prop
 | [] => True
 | t :: ts => mBr t ∧ A1q ts
end
theorem SV.lt.mono {s : SV} {c c' : Nat} (h : s.lt c) (hc : c ≤ c') : s.lt c' := fun m hm => Nat.lt_of_lt_of_le (h m hm) hc
theorem WB.mono {B : BV} {c c' : Nat} (h : WB B c) (hc : c ≤ c') : WB B c' := ⟨fun n hn => h.hi n zR0, by
 obtain ⟨r, hr⟩ := h.rk
 exact ⟨r, fun n s hs m hm => ⟨(hr n s hs m hm).1, Nat.lt_of_lt_of_le (hr n s hs m hm).2 hc⟩⟩⟩
structure IS.ok (S : IS) : Prop where
 wb : WB S.B S.c
 ls : ∀ s ∈ S.L, s.lt S.c
def A1r (Γ : List (ByteArray × SV)) (c : Nat) : Prop := ∀ p ∈ Γ, p.2.lt c
theorem A1r.mono {Γ : List (ByteArray × SV)} {c c' : Nat} (h : A1r Γ c) (hc : c ≤ c') : A1r Γ c' := fun p hp => (h p hp).mono hc
theorem A7p {c : Nat} : ∀ {Γ : List (ByteArray × SV)} {nm : ByteArray} {s : SV}, A1r Γ c → A1c Γ nm = some s → s.lt c
 | [], _, _, _, h => by cases h
 | (x, t) :: Γ, nm, s, hc, h => by
  rw [A1c] at h
  split at h
  ·cases h; exact hc _ List.mem_cons_self
  ·exact A7p (fun p hp => hc p (List.mem_cons_of_mem _ hp)) h
theorem B4C {S : IS} (h : S.ok) {a b : SV} (ha : a.lt S.c) (hb : b.lt S.c) : ∃ B' ok, Q4 S.B a b B' ok ∧ WB B' S.c := by
 obtain ⟨r, hr⟩ := h.wb.den a
 obtain ⟨B', ok, h1, h2, _⟩ := B3Z (nfr S.B S.c) r.sz S.B S.c a b r h.wb (Nat.le_refl _) ha hb hr (Nat.le_refl _)
 exact ⟨B', ok, h1, h2⟩
theorem A34 {B : BV} {c : Nat} (h : WB B c) {a b : SV} (ha : a.lt c) (hb : b.lt c) : ∃ B' ok, Q4 B a b B' ok ∧ WB B' c :=
 B4C (S := ⟨B, c, []⟩) ⟨h, fun s hs => (by cases hs)⟩ ha hb
theorem Y7 (b : Bool) (c : Nat) : (SV.b b).lt c := fun m h => (by cases h)
theorem Z4 {n c : Nat} (h : n < c) : (SV.v n).lt c := fun m hm => by cases hm; exact h
theorem A2k {b : Bool} {x y : SV} {c : Nat} (hx : x.lt c) (hy : y.lt c) : (SV.t b x y).lt c := fun m hm => hm.elim (hx m) (hy m)
structure A5W (S S' : IS) (n : Nat) (k : Nat) : Prop where
 ok : S'.ok
 le : S.c ≤ S'.c
 ub : S'.c ≤ S.c + 2 * n
 ln : S'.L.length ≤ S.L.length + k
theorem B4D {k : Int} {ss : List SV} {S : IS} (hS : S.ok) (hs : ∀ s ∈ ss, s.lt S.c) (h : E8 k = ss.length) (h1 : 1 ≤ k) (h12 : k ≤ 12) (n1 : k ≠ 1) (n5 : k ≠ 5) :
  ∃ S' o, Nod k ss S S' o ∧ S'.ok ∧ S.c ≤ S'.c ∧ S'.c ≤ S.c + 2 ∧ S'.L = S.L ∧ ∀ s, o = some s → s.lt S'.c := by
 have hW2 : WB S.B (S.c + 2) := hS.wb.mono zR0
 have hL2 : ∀ s ∈ S.L, s.lt (S.c + 2) := fun s h => (hS.ls s h).mono zR0
 have hc : k = 2 ∨ (k = 3 ∨ k = 4) ∨ k = 6 ∨ (k = 7 ∨ k = 8) ∨ k = 9 ∨ k = 10 ∨ (k = 11 ∨ k = 12) := by omega
 rcases hc with rfl | hk | rfl | hk | rfl | rfl | hk
 ·obtain rfl : ss = [] := List.length_eq_zero_iff.1 (by have : E8 2 = 0 := rfl; omega)
  exact ⟨S, _, .num, hS, Nat.le_refl _, by omega, rfl, fun s h => by cases h; exact Y7 _ _⟩
 ·obtain rfl : ss = [] := List.length_eq_zero_iff.1 (by have : E8 k = 0 := (by rcases hk with rfl | rfl <;> rfl); omega)
  exact ⟨S, _, .tru hk, hS, Nat.le_refl _, by omega, rfl, fun s h => by cases h; exact Y7 _ _⟩
 ·obtain ⟨x, y, rfl⟩ : ∃ x y, ss = [x, y] := by
   have : ss.length = 2 := by have : E8 6 = 2 := rfl; omega
   match ss, this with | [x, y], _ => exact ⟨x, y, rfl⟩
  have hx := (hs x zS0).mono (show S.c ≤ S.c + 2 by omega)
  have hy := (hs y zS0).mono (show S.c ≤ S.c + 2 by omega)
  obtain ⟨B', ok, hu, hB⟩ := A34 hW2 hx (A2k (b := false) hy (Z4 (show S.c < S.c + 2 by omega)))
  exact ⟨_, _, .app (hS.wb.hi _ (Nat.le_refl _)) hu, ⟨hB, hL2⟩, by simp, by simp, rfl, fun s h => by split at h <;> cases h; exact Z4 zS0⟩
 ·obtain ⟨x, y, rfl⟩ : ∃ x y, ss = [x, y] := by
   have : ss.length = 2 := by have : E8 k = 2 := (by rcases hk with rfl | rfl <;> rfl); omega
   match ss, this with | [x, y], _ => exact ⟨x, y, rfl⟩
  obtain ⟨B1, ok, hu, hB⟩ := A34 hS.wb (hs x zS0) (Y7 false _)
  cases ok with
  | false => exact ⟨_, _, .ar0 hk hu, ⟨hB, hS.ls⟩, Nat.le_refl _, by simp, rfl, fun s h => by cases h⟩
  | true =>
   obtain ⟨B2, ok2, hu2, hB2⟩ := A34 hB (hs y zS0) (Y7 false _)
   exact ⟨_, _, .ar hk hu hu2, ⟨hB2, hS.ls⟩, Nat.le_refl _, by simp, rfl, fun s h => by split at h <;> cases h; exact Y7 _ _⟩
 ·obtain ⟨x, y, z, rfl⟩ : ∃ x y z, ss = [x, y, z] := by
   have : ss.length = 3 := by have : E8 9 = 3 := rfl; omega
   match ss, this with | [x, y, z], _ => exact ⟨x, y, z, rfl⟩
  obtain ⟨B1, ok, hu, hB⟩ := A34 hS.wb (hs x zS0) (Y7 true _)
  cases ok with
  | false => exact ⟨_, _, .ite0 hu, ⟨hB, hS.ls⟩, Nat.le_refl _, by simp, rfl, fun s h => by cases h⟩
  | true =>
   obtain ⟨B2, ok2, hu2, hB2⟩ := A34 hB (hs y zS0) (hs z zS0)
   exact ⟨_, _, .ite hu hu2, ⟨hB2, hS.ls⟩, Nat.le_refl _, by simp, rfl, fun s h => by split at h <;> cases h; exact hs _ zS0⟩
 ·obtain ⟨x, y, rfl⟩ : ∃ x y, ss = [x, y] := by
   have : ss.length = 2 := by have : E8 10 = 2 := rfl; omega
   match ss, this with | [x, y], _ => exact ⟨x, y, rfl⟩
  exact ⟨S, _, .pair, hS, Nat.le_refl _, by omega, rfl, fun s h => by cases h; exact A2k (hs x zS0) (hs y zS0)⟩
 ·obtain ⟨x, rfl⟩ : ∃ x, ss = [x] := by
   have : ss.length = 1 := by have : E8 k = 1 := (by rcases hk with rfl | rfl <;> rfl); omega
   match ss, this with | [x], _ => exact ⟨x, rfl⟩
  have hx := (hs x zS0).mono (show S.c ≤ S.c + 2 by omega)
  obtain ⟨B', ok, hu, hB⟩ := A34 hW2 hx (A2k (b := true) (Z4 (show S.c < S.c + 2 by omega)) (Z4 (show S.c + 1 < S.c + 2 by omega)))
  exact ⟨_, _, .part hk (hS.wb.hi _ (Nat.le_refl _)) (hS.wb.hi _ zR0) hu, ⟨hB, hL2⟩, by simp, by simp, rfl, fun s h => by split at h <;> cases h; exact Z4 (by dsimp only; split <;> omega)⟩
mutual
def A02 : Tm → Nat
 | .mk k _ _ _ _ _ ks => (if k = 5 then 1 else 0) + A1d ks
def A1d : List Tm → Nat
 | [] => 0
 | t :: ts => A02 t + A1d ts
end
mutual
theorem A7q : ∀ (e : Tm) (Γ : List (ByteArray × SV)) (S : IS), mBr e → S.ok → A1r Γ S.c → ∃ S' o, V3 Γ e S S' o ∧ A5W S S' (E4 e) (A02 e) ∧ (∀ s, o = some s → s.lt S'.c) ∧ (o.isSome = true → S'.L.length = S.L.length + A02 e)
 | .mk k nm num ty fr lb ks, Γ, S, h, hS, hΓ => by
  simp only [mBr] at h
  obtain ⟨ha, h1, h12, hnm, hb⟩ := h
  by_cases n1 : k = 1
  ·subst n1
   have hk0 : ks = [] := List.length_eq_zero_iff.1 (by have : E8 1 = 0 := rfl; omega)
   subst hk0
   exact ⟨S, _, .var, ⟨hS, Nat.le_refl _, by omega, by omega⟩, fun s hs => A7p hΓ hs, fun _ => by simp [A02, A1d]⟩
  ·by_cases n5 : k = 5
   ·subst n5
    have hlen : ks.length = 1 := by have : E8 5 = 1 := rfl; omega
    match ks, hlen, hb with
    | [e], _, hb =>
     simp only [A1q] at hb
     have hS1 : IS.ok ⟨S.B, S.c + 1, S.L ++ [.v S.c]⟩ := ⟨hS.wb.mono zS0, fun s hs => by
      rcases List.mem_append.1 hs with hs | hs
      ·exact (hS.ls s hs).mono zS0
      ·simp only [List.mem_singleton] at hs; subst hs; exact Z4 zS0⟩
     have hΓ1 : A1r ((nm, .v S.c) :: Γ) (S.c + 1) := fun p hp => by
      rcases List.mem_cons.1 hp with rfl | hp
      ·exact Z4 zS0
      ·exact (hΓ p hp).mono zR0
     obtain ⟨S', o, h3, h4, h5, h6⟩ := A7q e _ _ hb.1 hS1 hΓ1
     have q1 := h4.le
     have q2 := h4.ub
     have q3 := h4.ln
     simp only [List.length_append, List.length_singleton] at q1 q2 q3 h6
     have hl : A02 (.mk 5 nm num ty fr lb [e]) = 1 + A02 e := by simp [A02, A1d]
     have ht : E4 (.mk 5 nm num ty fr lb [e]) = 1 + E4 e := by simp [E4, H0]; try omega
     refine ⟨S', _, .lam (hS.wb.hi _ (Nat.le_refl _)) h3, ⟨h4.ok, by omega, by rw [ht]; omega, by rw [hl]; omega⟩, fun s hs => ?_, fun hs => ?_⟩
     ·cases o with
      | none => cases hs
      | some t => cases hs; exact A2k (Z4 zR0) (h5 t rfl)
     ·cases o with
      | none => cases hs
      | some t => have := h6 rfl; rw [hl]; omega
   ·obtain ⟨S1, os, h3, h4, h5, h6⟩ := A9R ks Γ S hb hS hΓ
    have hl : A02 (.mk k nm num ty fr lb ks) = A1d ks := by simp [A02, n5]
    have ht : E4 (.mk k nm num ty fr lb ks) = 1 + H0 ks := by simp [E4]; try omega
    have q1 := h4.le
    have q2 := h4.ub
    have q3 := h4.ln
    cases os with
    | none => exact ⟨S1, none, .no n1 n5 h3, ⟨h4.ok, q1, by rw [ht]; omega, by rw [hl]; omega⟩, fun s hs => (by cases hs), fun hs => (by cases hs)⟩
    | some ss =>
     obtain ⟨g1, g2⟩ := h5 ss rfl
     obtain ⟨S2, o, h7, h8, h9, h10, h11, h12'⟩ := B4D h4.ok g1 (by rw [g2]; exact ha) h1 h12 n1 n5
     have := h6 rfl
     exact ⟨S2, o, .node n1 n5 h3 h7, ⟨h8, by omega, by rw [ht]; omega, by rw [h11, hl]; omega⟩, h12', fun _ => by rw [h11, hl]; omega⟩
theorem A9R : ∀ (es : List Tm) (Γ : List (ByteArray × SV)) (S : IS), A1q es → S.ok → A1r Γ S.c → ∃ S' os, A0W Γ es S S' os ∧ A5W S S' (H0 es) (A1d es) ∧ (∀ ss, os = some ss → (∀ s ∈ ss, s.lt S'.c) ∧ ss.length = es.length) ∧ (os.isSome = true → S'.L.length = S.L.length + A1d es)
 | [], Γ, S, _, hS, _ => ⟨S, _, .nil, ⟨hS, Nat.le_refl _, by omega, by omega⟩, fun ss h => by cases h; exact ⟨by simp, rfl⟩, fun _ => by simp [A1d]⟩
 | e :: es, Γ, S, h, hS, hΓ => by
  simp only [A1q] at h
  obtain ⟨S1, o, h1, h2, h3, h4⟩ := A7q e Γ S h.1 hS hΓ
  have hl : A1d (e :: es) = A02 e + A1d es := by simp [A1d]
  have ht : H0 (e :: es) = E4 e + H0 es := by simp [H0]; try omega
  have q1 := h2.le
  have q2 := h2.ub
  have q3 := h2.ln
  cases o with
  | none => exact ⟨S1, none, .no h1, ⟨h2.ok, q1, by rw [ht]; omega, by rw [hl]; omega⟩, fun ss hs => (by cases hs), fun hs => (by cases hs)⟩
  | some s =>
   obtain ⟨S2, os, h5, h6, h7, h8⟩ := A9R es Γ S1 h.2 h2.ok (hΓ.mono q1)
   have p1 := h6.le
   have p2 := h6.ub
   have p3 := h6.ln
   have hs1 := h4 rfl
   refine ⟨S2, _, .cons h1 h5, ⟨h6.ok, by omega, by rw [ht]; omega, by rw [hl]; omega⟩, fun ss hs => ?_, fun hs => ?_⟩
   ·cases os with
    | none => cases hs
    | some r =>
     cases hs
     obtain ⟨g1, g2⟩ := h7 r rfl
     refine ⟨fun t ht => ?_, by simp [g2]⟩
     rcases List.mem_cons.1 ht with rfl | ht
     ·exact (h3 _ rfl).mono p1
     ·exact g1 t ht
   ·cases os with
    | none => cases hs
    | some r => have := h8 rfl; rw [hl]; omega
end
def S9 : Nat → SV → Option Ty
 | 0, _ => none
 | _ + 1, .v _ => some (.mk 2 [])
 | _ + 1, .b c => some (.mk (if c = true then 3 else 2) [])
 | d + 1, .t c x y => match S9 d x with
  | none => none
  | some a => match S9 d y with
   | none => none
   | some b => some (.mk (if c = true then 5 else 4) [a, b])
def A0m : List SV → Option (List Ty)
 | [] => some []
 | s :: ss => match S9 4 s with
  | none => none
  | some t => match A0m ss with
   | none => none
   | some ts => some (t :: ts)
section slaw
variable {P : Program} {Γ : N7} {env : O6} {hp : List A7} {G : IM} {ty : TypeId} {K : Po} {ops : Array Oper} {rest : List Oper}
theorem B4E {x y : Operand} {t el : TypeId} {i : M6} {sz by' : Nat} {zs : List Value} [hI : I3 P t i] (hd' : i.desc = .slice el) [hE : Z7 P el sz by' zs] {b o n c l : Nat}
  (hx : evo env x = some (.slice (some ⟨b, o, none⟩) n c)) (hy : evo env y = some (.int .i64 (l : Int))) (hl : l ≤ n) :
  J9 P Γ ⟨env, hp, G⟩ (.slice t x (some y) none none) ty (.slice (some ⟨b, if c = l then o else o + l * sz, none⟩) (n - l) (c - l)) := by
 refine ⟨fun a _ hs _ _ _ _ w => ?_⟩
 have hu := hI.und
 rw [hd'] at hu
 obtain ⟨d, hE⟩ := hE.ok
 obtain ⟨inf, z, t1, t2, t3, _⟩ := A3T (P := P) (t := el)
 have e1 : a.eval x = _ := hs.evo hx
 have e2 : a.eval y = _ := hs.evo hy
 have hb : ∀ code, (Instr.sliceBound (.int .i64 (l : Int)) n code).run P w = .ok l w := fun code => by
  have := run_sliceBound (P := P) w .i64 (l : Int) n code zR0 zR0
  simpa using this
 simp only [execOp, Option.map, e1, e2, Instr.sliceAt, Sem.run_bind, run_underlying hu, Result.andThen_ok, Instr.slice, Instr.sliceBounds, Sem.run_pure, hb, t3]
 by_cases h : c = l
 ·simp [h]
 ·simp [h, A3q]
theorem Sl.from {G : IM} {b o n c l sz : Nat} {cs : List Value} (h : Sl G (some ⟨b, o, none⟩) n c sz cs) (hl : l ≤ n) : Sl G (some ⟨b, if c = l then o else o + l * sz, none⟩) (n - l) (c - l) sz (cs.drop (l * sz)) := by
 obtain ⟨h1, h2, h3, h4⟩ := h
 refine ⟨by rw [List.length_drop, h1, Nat.sub_mul], by omega, by omega, ?_⟩
 by_cases h : c = l
 ·left; omega
 ·rcases h4 with h0 | ⟨b', o', full, he, hg, hv⟩
  ·left; omega
  ·right
   cases he
   rw [if_neg h]
   refine ⟨b, _, full, rfl, hg, fun j v hj => ?_⟩
   rw [List.getElem?_drop] at hj
   have := hv _ v hj
   rw [Nat.add_assoc]; exact this
theorem St.slc_open {a : Act} {w : World} {p : Option Addr} {c el sz n : Nat} {cs : List Value} {hp' : List A7} (hs : St Γ ⟨env, hp, G⟩ a w) (hk : Pk hp (.slc p c el sz n cs) hp') (h0 : 0 < n) :
  ∃ b C, p = some ⟨b, 0, none⟩ ∧ n ≤ c ∧ c ≤ maxLen ∧ St Γ ⟨env, .blk b (cs ++ C) :: hp', G⟩ a w := by
 have hown : X0 [.slc p c el sz n cs] G w := hs.res.own.of_mem hk.perm
 obtain ⟨hl, h⟩ := hown.ok _ List.mem_cons_self
 rcases h with ⟨hv, hn⟩ | ⟨g, cap, cur, hv, _, hg, hnc, hcm, hsz, ht⟩
 ·omega
 ·cases hv
  refine ⟨g, cur.toList.drop cs.length, rfl, hnc, hcm, ?_⟩
  have hcur : cur.toList = cs ++ cur.toList.drop cs.length := by
   have e : cs.length = n * sz := hl
   rw [e]
   conv => lhs; rw [← List.take_append_drop (n * sz) cur.toList, ht]
  have hr : U8 [.slc (some ⟨g, 0, none⟩) c el sz n cs] G w [.blk g (cs ++ cur.toList.drop cs.length)] G w := by
   refine ⟨⟨hown.inn, ?_, by simp [Fp, A7.fp], ?_⟩, Ext.refl _ _, B9.refl _, fun _ _ h => .inl h, ?_, fun b l h h0 => absurd h (by rw [h0]; simp)⟩
   ·intro e he
    simp at he; subst he
    refine ⟨el, ?_⟩
    rw [← hcur]; simpa using hg
   ·intro b' hb; exact hown.disj b' (by simpa [Fp, A7.fp, K5] using hb)
   ·intro b' hb; exact .inr (by simpa [Fp, A7.fp, K5] using hb)
  exact ⟨hs.size, hs.nod, hs.env, by have := (hs.res.perm hk.perm).frame hr; simpa using this⟩
theorem A4T {p : Option Addr} {c el sz n : Nat} {cs : List Value} {hp' : List A7} (hk : Pk hp (.slc p c el sz n cs) hp') (h0 : 0 < n)
  (h : ∀ b C, p = some ⟨b, 0, none⟩ → n ≤ c → c ≤ maxLen → I1 P Γ ops rest K ⟨env, .blk b (cs ++ C) :: hp', G⟩) : I1 P Γ ops rest K ⟨env, hp, G⟩ :=
 ⟨fun a w hs => let ⟨b, C, h1, h2, h3, h4⟩ := hs.slc_open hk h0; (h b C h1 h2 h3).run a w h4⟩
end slaw
theorem B4F {es : List (List Value)} {j : Nat} {vs : List Value} (hj : j < es.length) : (es.set j vs).flatten = (es.take j).flatten ++ (vs ++ (es.drop (j + 1)).flatten) := by
 rw [List.set_eq_take_append_cons_drop, if_pos hj]; simp
theorem A9S {es : List (List Value)} {j : Nat} (hj : j < es.length) : es.flatten = (es.take j).flatten ++ (es[j] ++ (es.drop (j + 1)).flatten) := by
 have h := congrArg List.flatten (List.take_append_drop j es).symm
 rw [List.drop_eq_getElem_cons hj, List.flatten_append, List.flatten_cons] at h
 exact h
theorem A4U {es : List (List Value)} {C vs : List Value} {j sz : Nat} (hj : j < es.length) (ha : ∀ e ∈ es, e.length = sz) (hv : vs.length = sz) : V8 (es.flatten ++ C) (0 + j * sz) vs = some ((es.set j vs).flatten ++ C) := by
 have := A6Z (A := (es.take j).flatten) (B := es[j]) (C := (es.drop (j + 1)).flatten ++ C) (V := vs) (o := 0 + j * sz)
  (by rw [A1y (fun e he => ha e (List.mem_of_mem_take he)), List.length_take]; rw [Nat.min_eq_left zR0]; omega) (by rw [ha _ (List.getElem_mem hj), hv])
 rw [A9S hj, B4F hj]
 simp only [List.append_assoc] at this ⊢
 exact this
theorem F9.set {G : IM} : ∀ {ks : List Tm} {es : List (List Value)} {j : Nat} {y : Tm} {v : List Value}, F9 G ks es → B7 G y v → F9 G (ks.set j y) (es.set j v)
 | [], es, j, y, v, h, h2 => by simp only [F9] at h; subst h; simp [F9]
 | t :: ts, es, 0, y, v, h, h2 => by
  simp only [F9] at h
  obtain ⟨a, r, rfl, h3, h4⟩ := h
  simp only [List.set_cons_zero, F9]
  exact ⟨v, r, rfl, h2, h4⟩
 | t :: ts, es, j + 1, y, v, h, h2 => by
  simp only [F9] at h
  obtain ⟨a, r, rfl, h3, h4⟩ := h
  simp only [List.set_cons_succ, F9]
  exact ⟨a, r.set j v, rfl, h3, F9.set h4 h2⟩
def A9T : Tm → List Int → Tm → Tm
 | _, [], x => x
 | .mk k nm num ty fr lb ks, i :: is, x => if h : 0 ≤ i ∧ i < ks.length then .mk k nm num ty fr lb (ks.set i.toNat (A9T (ks[i.toNat]'zR0) is x)) else .mk k nm num ty fr lb ks
def W7 : Ty := .mk 2 []
def A0v : Ty := .mk 3 []
mutual
def T3 : Ty → Ty → Bool
 | .mk k ks, t => decide (k = t.k) && A1e ks t.ks
def A1e : List Ty → List Ty → Bool
 | [], [] => true
 | a :: xs, b :: ys => T3 a b && A1e xs ys
 | _, _ => false
end
theorem A7r (k k' : Int) (ks ks' : List Ty) : T3 (.mk k ks) (.mk k' ks') = (decide (k = k') && A1e ks ks') := by rw [T3]; rfl
mutual
theorem A2l : ∀ (a b : Ty), T3 a b = true ↔ a = b
 | .mk k ks, .mk k' ks' => by
  rw [A7r, Bool.and_eq_true, decide_eq_true_eq, A9U ks ks', Ty.mk.injEq]
theorem A9U : ∀ (xs ys : List Ty), A1e xs ys = true ↔ xs = ys
 | [], [] => by simp [A1e]
 | [], b :: ys => by simp [A1e]
 | a :: xs, [] => by simp [A1e]
 | a :: xs, b :: ys => by
  rw [A1e, Bool.and_eq_true, A2l a b, A9U xs ys, List.cons.injEq]
end
theorem A7s (a : Ty) : T3 a a = true := (A2l a a).2 rfl
theorem A9V : ∀ (xs ys : List Ty), A1e xs ys = true ↔ xs.length = ys.length ∧ ∀ i, (h : i < xs.length) → (h' : i < ys.length) → T3 xs[i] ys[i] = true
 | [], [] => by simp [A1e]
 | [], b :: ys => by simp [A1e]
 | a :: xs, [] => by simp [A1e]
 | a :: xs, b :: ys => by
  simp only [A1e, Bool.and_eq_true, A9V xs ys, List.length_cons]
  constructor
  ·rintro ⟨h1, h2, h3⟩
   refine ⟨by omega, fun i hi hi' => ?_⟩
   cases i with
   | zero => exact h1
   | succ i => exact h3 i (by simpa using hi) (by simpa using hi')
  ·rintro ⟨h1, h2⟩
   exact ⟨h2 0 zS0 zS0, by omega, fun i hi hi' => h2 (i + 1) (by simpa using hi) (by simpa using hi')⟩

abbrev Cx := List (ByteArray × Ty)
def A0n (cx : Cx) (nm : ByteArray) : Nat → Option Ty
 | 0 => none
 | n + 1 => match cx[n]? with
  | some b => if b.1 = nm then some b.2 else A0n cx nm n
  | none => A0n cx nm n
def Z5 (cx : Cx) (nm : ByteArray) : Option Ty := A0n cx nm cx.length
theorem A7t {cx : Cx} {nm x : ByteArray} {n : Nat} {t : Ty} (h : cx[n]? = some (x, t)) (he : x = nm) : A0n cx nm (n + 1) = some t := by
 rw [A0n, h]; simp only [he, if_true]
theorem A7u {cx : Cx} {nm x : ByteArray} {n : Nat} {t : Ty} (h : cx[n]? = some (x, t)) (he : ¬x = nm) : A0n cx nm (n + 1) = A0n cx nm n := by
 rw [A0n, h]; simp only [he, if_false]

mutual
def Y2 : Ty → Ty → Ty
 | .mk k ks, b => if k = 1 then b else if b.k = 1 then .mk k ks else .mk k (W2 ks b.ks)
def W2 : List Ty → List Ty → List Ty
 | a :: xs, b :: ys => Y2 a b :: W2 xs ys
 | _, _ => []
end
theorem A10 (k k' : Int) (ks ks' : List Ty) : Y2 (.mk k ks) (.mk k' ks') = if k = 1 then .mk k' ks' else if k' = 1 then .mk k ks else .mk k (W2 ks ks') := by rw [Y2]; rfl
def U5 (kind : Int) (t : Ty) : Option (Ty × Ty) :=
 if t.k = kind then some (t.ks.getD 0 B4, t.ks.getD 1 B4) else if t.k = 1 then some (S0, S0) else none
def P8 (cx : Cx) (k : Int) (nm : ByteArray) (ty : Ty) (h : List Ty) : Option (List Ty × Ty) :=
 if k = 1 then (match Z5 cx nm with | some t => some ([], t) | none => none)
 else if k = 2 then some ([], W7)
 else if k = 3 ∨ k = 4 then some ([], A0v)
 else if k = 5 then some ([], .mk 4 [ty, h.getD 0 B4])
 else if k = 6 then (match U5 4 (h.getD 0 B4) with | some (a, b) => if N6 (h.getD 1 B4) a = true then some ([.mk 4 [a, b], a], b) else none | none => none)
 else if k = 7 ∨ k = 8 then (if N6 (h.getD 0 B4) W7 = true ∧ N6 (h.getD 1 B4) W7 = true then some ([W7, W7], if k = 8 then A0v else W7) else none)
 else if k = 9 then (if N6 (h.getD 0 B4) A0v = true ∧ N6 (h.getD 1 B4) (h.getD 2 B4) = true then some ([A0v, Y2 (h.getD 1 B4) (h.getD 2 B4), Y2 (h.getD 1 B4) (h.getD 2 B4)], Y2 (h.getD 1 B4) (h.getD 2 B4)) else none)
 else if k = 10 then some ([], .mk 5 [h.getD 0 B4, h.getD 1 B4])
 else if k = 13 then (if N6 (h.getD 0 B4) ty = true then some ([ty], ty) else none)
 else (match U5 5 (h.getD 0 B4) with | some (a, b) => some ([.mk 5 [a, b]], if k = 12 then b else a) | none => none)
def A0N (cx : Cx) (k : Int) (nm : ByteArray) (ty : Ty) (h : List Ty) : Option (List Ty × Ty) := match P8 cx k nm ty h with
 | some (w, t) => if H9 t = true then some (w, t) else none
 | none => none
def A4V : List Ty → List Ty → Bool
 | [], _ => true
 | a :: xs, b :: ys => T3 a b && A4V xs ys
 | _ :: _, [] => false
def R5 (cx : Cx) (k : Int) (nm : ByteArray) (ty : Ty) : Cx := if k = 5 then cx ++ [(nm, ty)] else cx
mutual
def A1H (cx : Cx) : Tm → Option Ty
 | .mk k nm num ty fr lb ks => match A0D (R5 cx k nm ty) ks with
  | none => none
  | some h => if k = 14 then (if T3 (h.getD 0 B4) fr = true then some ty else none)
   else match A0N cx k nm ty h with
    | none => none
    | some (w, t) => if A4V w h = true then some t else none
def A0D (cx : Cx) : List Tm → Option (List Ty)
 | [] => some []
 | t :: ts => match A1H cx t with
  | none => none
  | some u => match A0D cx ts with
   | none => none
   | some us => some (u :: us)
end
def B9w (e : Tm) : Option Ty := if O9 e = true then A1H [] e else none
section slaws
variable {P : Program} {Γ : N7} {env : O6} {hp : List A7} {G : IM} {ty : TypeId}
theorem A5X {P : Program} {w : World} {l c : Nat} (hl : l ≤ c) (code : BoundsCode) : (Instr.sliceBound (.int .i64 (l : Int)) c code).run P w = .ok l w := by
 unfold Instr.sliceBound
 simp only [asIntOf, Sem.run_bind, Sem.run_pure, Result.andThen_ok]
 rw [if_pos ⟨by omega, by omega⟩]
 simp
theorem A5Y {x y z : Operand} {t : TypeId} {i : M6} [hI : I3 P t i] (hd' : i.desc = .string) {s : ByteArray} {l h : Nat}
  (hx : evo env x = some (.string s)) (hy : evo env y = some (.int .i64 (l : Int))) (hz : evo env z = some (.int .i64 (h : Int))) (hl : l ≤ h) (hh : h ≤ s.size) :
  J9 P Γ ⟨env, hp, G⟩ (.slice t x (some y) (some z) none) ty (.string (s.extract l h)) := by
 refine ⟨fun a _ hs _ _ _ _ w => ?_⟩
 have hu := hI.und
 rw [hd'] at hu
 simp [execOp, (hs.evo hx : a.eval x = _), (hs.evo hy : a.eval y = _), (hs.evo hz : a.eval z = _), Instr.sliceAt, Sem.run_bind, run_underlying hu, Instr.slice, Instr.sliceBounds, A5X hl, A5X hh]
theorem A9W {x z : Operand} {t : TypeId} {i : M6} [hI : I3 P t i] (hd' : i.desc = .string) {s : ByteArray} {h : Nat}
  (hx : evo env x = some (.string s)) (hz : evo env z = some (.int .i64 (h : Int))) (hh : h ≤ s.size) :
  J9 P Γ ⟨env, hp, G⟩ (.slice t x none (some z) none) ty (.string (s.extract 0 h)) := by
 refine ⟨fun a _ hs _ _ _ _ w => ?_⟩
 have hu := hI.und
 rw [hd'] at hu
 simp [execOp, (hs.evo hx : a.eval x = _), (hs.evo hz : a.eval z = _), Instr.sliceAt, Sem.run_bind, run_underlying hu, Instr.slice, Instr.sliceBounds, A5X hh]
theorem A9X {x y : Operand} {t : TypeId} {i : M6} [hI : I3 P t i] (hd' : i.desc = .string) {s : ByteArray} {l : Nat}
  (hx : evo env x = some (.string s)) (hy : evo env y = some (.int .i64 (l : Int))) (hl : l ≤ s.size) :
  J9 P Γ ⟨env, hp, G⟩ (.slice t x (some y) none none) ty (.string (s.extract l s.size)) := by
 refine ⟨fun a _ hs _ _ _ _ w => ?_⟩
 have hu := hI.und
 rw [hd'] at hu
 simp [execOp, (hs.evo hx : a.eval x = _), (hs.evo hy : a.eval y = _), Instr.sliceAt, Sem.run_bind, run_underlying hu, Instr.slice, Instr.sliceBounds, A5X hl]
theorem B4G {x y : Operand} {t t' : TypeId} {r s : ByteArray} (hx : evo env x = some (.string r)) (hy : evo env y = some (.string s)) :
  J9 P Γ ⟨env, hp, G⟩ (.binOp .lss t x y t') ty (.bool (decide (Op.bytesLess r.toList s.toList = true))) := by
 refine ⟨fun a _ hs _ _ _ _ w => ?_⟩
 simp only [execOp, eqGuard, binOp, Op.stringOp, (hs.evo hx : a.eval x = _), (hs.evo hy : a.eval y = _)]
 simp
end slaws
theorem B4H (s nm : ByteArray) (G : IM) (hs : s.size ≤ 1000) (hn : nm.size ≤ 1000) :
  Fn Tryz.prog 138 [.string s, .string nm] [] G (fun G' v outs => G' = G ∧ outs = [] ∧ ∃ r, v = .string r ∧ r.size ≤ s.size + nm.size) := by
 refine C0 Tryz.func138 rfl Tryz.ntmps138 Tryz.results138 rfl ?_
 intro w0
 refine M7 ?_
 refine C2 ?_
 (refine L8 (fun (i : Nat) => ⟨[(5, .int .i64 (i : Int)), (0, .string s), (1, .string nm)], [], G⟩) (fun i => i ≤ s.size) (fun i => s.size - i) 0 ?_ ?_ ?_)
 exact F8
 exact Nat.zero_le _
 (intro i hi)
 refine A8 ?_
 refine sQ (A2E rfl rfl) rfl (sB (N5 rfl rfl) rfl rfl (fun h23 => ?_) (fun h23 => ?_))
 refine B5 ?_
 refine sP (A2g (n := 1) rfl rfl zR0) rfl rfl ?_
 refine sP (A5Y (h := i + 1) rfl rfl rfl rfl zR0 zR0) rfl rfl ?_
 refine D8 ?_
 refine sB (B4G rfl rfl) rfl rfl (fun h31 => ?_) (fun h31 => ?_)
 refine A9 ?_
 refine C2 ?_
 refine A4 ?_
 refine sP (A2g (n := 1) rfl rfl zR0) rfl rfl ?_
 refine C1 ?_
 refine J7 (i + 1) ?_ ?_ ?_
 exact F8
 (show _ ≤ s.size; omega)
 (show s.size - _ < s.size - _; omega)
 refine M8 ?_
 refine sQ (A2E rfl rfl) rfl ?_
 refine sP (A2a rfl rfl zR0) rfl rfl ?_
 refine B5 ?_
 refine sP (A2g (n := 1) rfl rfl zR0) rfl rfl ?_
 refine sP (A5Y (h := i + 1) rfl rfl rfl rfl zR0 zR0) rfl rfl ?_
 refine D8 ?_
 refine sB (A2F rfl rfl) rfl rfl (fun h72 => ?_) (fun h72 => ?_)
 refine O3 ?_
 refine H8 (outs := []) (rT rfl) A0.nil ?_
 (exact ⟨rfl, rfl, _, rfl, Nat.le_add_right _ _⟩)
 refine B0 ?_
 exact y101
 refine A5B ?_
 refine sQ (A2E rfl rfl) rfl ?_
 refine sP (A1U rfl rfl zR0) rfl rfl ?_
 refine J0 ?_
 exact y101
theorem A25 (G : IM) : C7 G B4 [.int .i64 0, .slice none 0 0] := by
 simp only [B4, C7]
 exact ⟨none, 0, [], rfl, ⟨by omega, by omega⟩, D7.of (Sl.nil _ _) rfl zS0 zS0, by simp [D9]⟩
theorem A7v : M4 B4 = 0 := rfl
theorem F9.tm {G : IM} {k : Int} {nm : ByteArray} {num : Int} {t : Ty} {q : Option Addr} {d : Nat} {ts : List Tm} {es : List (List Value)} {p : Option Addr} {n c : Nat} (h : F9 G ts es) (hn : ts.length = n) (hs : Sl G p n c 9 es.flatten) (hk : H6 k) (hm : H6 num)
  (ht : C7 G t [.int .i64 t.k, .slice q t.ks.length d]) : B7 G (.mk k nm num t B4 0 ts) [.int .i64 k, .string nm, .int .i64 num, .int .i64 t.k, .slice q t.ks.length d, .int .i64 0, .slice none 0 0, .int .i64 0, .slice p n c] := by
 subst hn
 simp only [B7]
 exact ⟨_, _, p, c, es, rfl, hk, hm, ⟨by omega, by omega⟩, ht, A25 G, D7.of hs h.len h.all (fun e he => (h.each e he).2), h⟩
theorem A2P {G : IM} {k : Int} {nm : ByteArray} {num : Int} (hk : H6 k) (hm : H6 num) :
  B7 G (.mk k nm num B4 B4 0 []) [.int .i64 k, .string nm, .int .i64 num, .int .i64 0, .slice none 0 0, .int .i64 0, .slice none 0 0, .int .i64 0, .slice none 0 0] :=
 F9.tm (ts := []) (es := []) (t := B4) (by simp [F9]) rfl (Sl.nil _ _) hk hm (A25 G)
theorem A26 (k : Int) (nm : ByteArray) (num : Int) : A00 (.mk k nm num B4 B4 0 []) = nm.size := by
 rw [A00, A7v, A0u]; simp
theorem A7w : ∀ (ts : List Tm) (t : Tm), A0u (ts ++ [t]) = A0u ts + A00 t
 | [], t => by simp [A0u]
 | a :: ts, t => by simp only [List.cons_append, A0u, A7w ts t]; omega
theorem A27 (k : Int) : E8 k ≤ 3 := by
 unfold E8; repeat (split; omega)
 omega
theorem A7x {d : Nat} (h : d ≤ 2) : dB (d + 1) ≤ 14 := by
 have : d = 0 ∨ d = 1 ∨ d = 2 := by omega
 rcases this with rfl | rfl | rfl <;> decide
theorem A35 (n : Int) (G : IM) : Fn Tryz.prog 109 [.int .i64 n] [] G (K7 (.agg ⟨[.int .i64 2, .string ⟨⟨[]⟩⟩, .int .i64 n, .int .i64 0, .slice none 0 0, .int .i64 0, .slice none 0 0, .int .i64 0, .slice none 0 0]⟩) G) := by
 refine C0 Tryz.func109 rfl Tryz.ntmps109 Tryz.results109 rfl ?_
 intro w0
 refine A4 ?_
 refine sE (A6 rfl) rfl (fun b3 => ?_)
 refine J2 ?_
 refine P5 (rC rfl (A3 rfl rfl)) ?_
 exact ⟨rfl, rfl, rfl⟩
theorem A9Y (br : Nat) (pb : Option Addr) (nb cb : Nat) (bs : List UInt8) (hnb : nb ≤ 2000) (p : Nat) (G : IM) (hb : Sl G pb nb cb 1 (R4 bs)) (hp : p + 3 < 1099511627776) (s : ByteArray) (hs : s.size ≤ 1000) :
  Fn Tryz.prog 137 [.pointer (some ⟨br, 0, none⟩), .string s] [rd br pb nb cb p] G
   (A1o br pb nb cb p 3 (fun G' v => ∃ t cells, v = .agg ⟨cells⟩ ∧ B7 G' t cells ∧ A00 t ≤ 1)) := by
 refine C0 Tryz.func137 rfl Tryz.ntmps137 Tryz.results137 rfl ?_
 intro w0
 refine A4 ?_
 refine sE (A6 rfl) rfl (fun b3 => ?_)
 refine A9 ?_
 refine sQ (A2E rfl rfl) rfl ?_
 refine sB (A0K rfl rfl) rfl rfl (fun h11 => ?_) (fun h11 => ?_)
 refine A4 ?_
 (refine L5 rfl (A0C _ br pb nb cb p bs _ hb hnb zR0) (Pk.perm zD0) rfl rfl (fun v14 G14 outs14 hle14 hh => ?_); obtain ⟨rfl, rfl, j14, rfl, hj14, hk14⟩ := hh; obtain ⟨i14, rfl⟩ := Int.eq_ofNat_of_zero_le hj14)
 replace hb := hb.mono hle14
 refine sB (A0K rfl rfl) rfl rfl (fun h15 => ?_) (fun h15 => ?_)
 refine E1 ?_
 refine sQ (A2E rfl rfl) rfl ?_
 (refine L5 rfl (A0C _ br pb nb cb (p + 1) bs _ hb hnb zR0) (Pk.perm zD0) rfl rfl (fun v25 G25 outs25 hle25 hh => ?_); obtain ⟨rfl, rfl, j25, rfl, hj25, hk25⟩ := hh; obtain ⟨i25, rfl⟩ := Int.eq_ofNat_of_zero_le hj25)
 replace hb := hb.mono hle25
 refine E1 ?_
 refine sP (A2g (n := 1) rfl rfl zR0) rfl rfl ?_
 refine sP (A5Y rfl rfl rfl rfl zR0 zR0) rfl rfl ?_
 refine A9 ?_
 refine H8 (outs := [rd br pb nb cb (p + 1 + 1)]) (rC rfl (A3 rfl rfl)) zS ?_
 focus (refine ⟨_, ?_, ?_, rfl, _, _, rfl, A2P ⟨by omega, by omega⟩ ⟨by omega, by omega⟩, ?_⟩; all_goals (try rw [A26]); all_goals (first | omega | (simp only [ByteArray.size_extract]; omega) | decide))
 refine J2 ?_
 (refine L5 rfl (A0C _ br pb nb cb (p + 1) bs _ hb hnb zR0) (Pk.perm zD0) rfl rfl (fun v54 G54 outs54 hle54 hh => ?_); obtain ⟨rfl, rfl, j54, rfl, hj54, hk54⟩ := hh; obtain ⟨i54, rfl⟩ := Int.eq_ofNat_of_zero_le hj54)
 replace hb := hb.mono hle54
 refine A4 ?_
 refine C2 (tS (tR (sB (qE rfl rfl) rfl rfl (fun h60 => ?_) (fun h60 => ?_))))
 refine N0 ?_
 refine H8 (outs := [rd br pb nb cb (p + 1 + 1)]) (rC rfl (A3 rfl rfl)) zS ?_
 focus (refine ⟨_, ?_, ?_, rfl, _, _, rfl, A2P ⟨by omega, by omega⟩ ⟨by omega, by omega⟩, ?_⟩; all_goals (try rw [A26]); all_goals (first | omega | (simp only [ByteArray.size_extract]; omega) | decide))
 refine A9 ?_
 refine sB (qE rfl rfl) rfl rfl (fun h82 => ?_) (fun h82 => ?_)
 refine N0 ?_
 refine H8 (outs := [rd br pb nb cb (p + 1 + 1)]) (rC rfl (A3 rfl rfl)) zS ?_
 focus (refine ⟨_, ?_, ?_, rfl, _, _, rfl, A2P ⟨by omega, by omega⟩ ⟨by omega, by omega⟩, ?_⟩; all_goals (try rw [A26]); all_goals (first | omega | (simp only [ByteArray.size_extract]; omega) | decide))
 refine J2 ?_
 (refine J8 (D1 rfl rfl rfl zR0 zL0 rfl) rfl ?_; rintro _ ⟨b108, rfl⟩)
 (refine X9 zD0 (fun Gf hlef hslf _ => ?_); refine L5 rfl (A08 Gf br pb nb cb (p + 1 + 1) bs _ _ _ _ (hb.mono hlef) hnb zR0 hslf zQ0) (Pk.perm zD0) rfl rfl (fun v Gn outs hlen hh => ?_); obtain ⟨rfl, rfl, hv⟩ := hh; obtain ⟨kn, rfl, hkn⟩ : ∃ k, v = .int .i64 k ∧ H6 k := zU)
 refine H4 rfl ((A35 _ _)) rfl rfl ?_
 refine B5 ?_
 refine H8 (outs := [rd br pb nb cb (p + 1 + 1 + 1)]) (rC rfl (A3 rfl rfl)) zS ?_
 focus (refine ⟨_, ?_, ?_, rfl, _, _, rfl, A2P ⟨by omega, by omega⟩ hkn, ?_⟩; all_goals (try rw [A26]); all_goals (first | omega | decide))
 refine M8 ?_
 (refine L5 rfl (A0C _ br pb nb cb p bs _ hb hnb zR0) (Pk.perm zD0) rfl rfl (fun v131 G131 outs131 hle131 hh => ?_); obtain ⟨rfl, rfl, j131, rfl, hj131, hk131⟩ := hh; obtain ⟨i131, rfl⟩ := Int.eq_ofNat_of_zero_le hj131)
 replace hb := hb.mono hle131
 refine A4 ?_
 refine C2 (tS (tR (sB (qE rfl rfl) rfl rfl (fun h137 => ?_) (fun h137 => ?_))))
 refine N0 ?_
 refine H8 (outs := [rd br pb nb cb (p + 1)]) (rC rfl (A3 rfl rfl)) zS ?_
 focus (refine ⟨_, ?_, ?_, rfl, _, _, rfl, A2P ⟨by omega, by omega⟩ ⟨by omega, by omega⟩, ?_⟩; all_goals (try rw [A26]); all_goals (first | omega | (simp only [ByteArray.size_extract]; omega) | decide))
 refine A9 ?_
 refine sB (qE rfl rfl) rfl rfl (fun h159 => ?_) (fun h159 => ?_)
 refine N0 ?_
 refine H8 (outs := [rd br pb nb cb (p + 1)]) (rC rfl (A3 rfl rfl)) zS ?_
 focus (refine ⟨_, ?_, ?_, rfl, _, _, rfl, A2P ⟨by omega, by omega⟩ ⟨by omega, by omega⟩, ?_⟩; all_goals (try rw [A26]); all_goals (first | omega | (simp only [ByteArray.size_extract]; omega) | decide))
 refine J2 ?_
 (refine J8 (D1 rfl rfl rfl zR0 zL0 rfl) rfl ?_; rintro _ ⟨b185, rfl⟩)
 (refine X9 zD0 (fun Gf hlef hslf _ => ?_); refine L5 rfl (A08 Gf br pb nb cb (p + 1) bs _ _ _ _ (hb.mono hlef) hnb zR0 hslf zQ0) (Pk.perm zD0) rfl rfl (fun v Gn outs hlen hh => ?_); obtain ⟨rfl, rfl, hv⟩ := hh; obtain ⟨kn, rfl, hkn⟩ : ∃ k, v = .int .i64 k ∧ H6 k := zU)
 refine H4 rfl ((A35 _ _)) rfl rfl ?_
 refine B5 ?_
 refine H8 (outs := [rd br pb nb cb (p + 1 + 1)]) (rC rfl (A3 rfl rfl)) zS ?_
 focus (refine ⟨_, ?_, ?_, rfl, _, _, rfl, A2P ⟨by omega, by omega⟩ hkn, ?_⟩; all_goals (try rw [A26]); all_goals (first | omega | decide))
def tB : Nat → Nat
 | 0 => 3
 | d + 1 => 3 * tB d + 20
theorem A9Z (d : Nat) : 3 ≤ tB d := by cases d <;> simp only [tB] <;> omega
theorem B4I (br : Nat) (pb : Option Addr) (nb cb : Nat) (bs : List UInt8) (hnb : nb ≤ 2000) : ∀ (d p : Nat) (G : IM) (s : ByteArray), d ≤ 900 → s.size + d ≤ 950 → Sl G pb nb cb 1 (R4 bs) → p + tB d < 1099511627776 →
  Fn Tryz.prog 111 [.pointer (some ⟨br, 0, none⟩), .string s, .int .i64 ((d + 1 : Nat) : Int)] [rd br pb nb cb p] G
   (A1o br pb nb cb p (tB d) (fun G' v => ∃ t cells, v = .agg ⟨cells⟩ ∧ B7 G' t cells ∧ A00 t ≤ ((tB d : Nat) : Int))) := by
 refine fun d => Nat.strongRecOn d fun d ih p G s hd hs hb hp => ?_
 have hge := A9Z d
 refine C0 Tryz.func111 rfl Tryz.ntmps111 Tryz.results111 rfl ?_
 intro w0
 refine A4 ?_
 refine sE (A6 rfl) rfl (fun b3 => ?_)
 refine A9 ?_
 refine sB (N5 rfl rfl) rfl rfl (fun h10 => ?_) (fun h10 => ?_)
 ·refine O3 ?_
  (refine L5 rfl (A9Y br pb nb cb bs hnb p _ hb zR0 s zR0) (Pk.perm zD0) rfl rfl (fun v Ga outs hlea hh => ?_); obtain ⟨pa, hpa1, hpa2, rfl, ta, cellsa, rfl, hra, hsa⟩ := hh; have hl9 := hra.len; have ho9 := hra.one)
  refine sS rfl rfl rfl hl9 ho9 rfl ?_ (hu := by exact C6 hl9.symm)
  refine B5 ?_
  refine H8 (outs := [rd br pb nb cb pa]) (rC rfl (A5 rfl rfl (B3 zI0) hl9)) zS ?_
  (exact ⟨pa, by omega, by omega, rfl, ta, cellsa, rfl, hra, by omega⟩)
 ·refine A4 ?_
  (have hB4 : 4 ≤ tB d := (by obtain ⟨d1, rfl⟩ : ∃ d1, d = d1 + 1 := ⟨d - 1, by omega⟩; simp only [tB]; have := A9Z d1; omega); refine L5 rfl (A0C _ br pb nb cb p bs _ hb hnb zR0) (Pk.perm zD0) rfl rfl (fun v33 G33 outs33 hle33 hh => ?_); obtain ⟨rfl, rfl, j33, rfl, hj33, hk33⟩ := hh)
  replace hb := hb.mono hle33
  refine sB (qE rfl rfl) rfl rfl (fun h34 => ?_) (fun h34 => ?_)
  ·refine E1 ?_
   (refine L5 rfl (A9Y br pb nb cb bs hnb (p + 1) _ hb zR0 s zR0) (Pk.perm zD0) rfl rfl (fun v Ga outs hlea hh => ?_); obtain ⟨pa, hpa1, hpa2, rfl, ta, cellsa, rfl, hra, hsa⟩ := hh; have hl9 := hra.len; have ho9 := hra.one)
   refine sS rfl rfl rfl hl9 ho9 rfl ?_ (hu := by exact C6 hl9.symm)
   refine B5 ?_
   refine H8 (outs := [rd br pb nb cb pa]) (rC rfl (A5 rfl rfl (B3 zI0) hl9)) zS ?_
   (exact ⟨pa, by omega, by omega, rfl, ta, cellsa, rfl, hra, by omega⟩)
  ·refine E7 ?_
   (refine J8 (D1 rfl rfl rfl zR0 zL0 rfl) rfl ?_; rintro _ ⟨b60, rfl⟩)
   (refine X9 zD0 (fun Gf hlef hslf _ => ?_); refine L5 rfl (A08 Gf br pb nb cb (p + 1) bs _ _ _ _ (hb.mono hlef) hnb zR0 hslf zQ0) (Pk.perm zD0) rfl rfl (fun v Gk outs hlek hh => ?_); obtain ⟨rfl, rfl, hv⟩ := hh; replace hb := hb.mono hlef; obtain ⟨k, rfl, hk1, hk2⟩ : ∃ k, v = .int .i64 k ∧ 5 ≤ k ∧ k ≤ 13 := (by simp only [List.mem_cons, List.not_mem_nil, or_false] at hv; rcases hv with rfl | rfl | rfl | rfl | rfl | rfl | rfl | rfl | rfl | rfl | rfl <;> exact ⟨_, rfl, by decide, by decide⟩); obtain ⟨d1, rfl⟩ : ∃ d1, d = d1 + 1 := ⟨d - 1, by omega⟩; have hB : tB (d1 + 1) = 3 * tB d1 + 20 := rfl)
   refine B0 ?_
   refine sE (A6 rfl) rfl (fun b69 => ?_)
   refine B0 ?_
   refine sB (qE rfl rfl) rfl rfl (fun h77 => ?_) (fun h77 => ?_)
   ·refine A4 ?_
    (show L3 _ _ (.cond (.tmp 26) _ _) _ _; refine A0V (fun (x : ByteArray × ByteArray × Nat × IM) => ⟨[(7, .int .i64 k), (8, .pointer (some ⟨b69, 0, none⟩)), (6, .pointer (some ⟨b3, 0, none⟩)), (0, .pointer (some ⟨br, 0, none⟩)), (1, .string x.2.1), (2, .int .i64 ((d1 + 1 + 1 : Nat) : Int))], [.blk b69 [.int .i64 k, .string x.1, .int .i64 0, .int .i64 0, .slice none 0 0, .int .i64 0, .slice none 0 0, .int .i64 0, .slice none 0 0], .blk b3 [.int .i64 0, .string ⟨⟨[]⟩⟩, .int .i64 0, .int .i64 0, .slice none 0 0, .int .i64 0, .slice none 0 0, .int .i64 0, .slice none 0 0], rd br pb nb cb x.2.2.1], x.2.2.2⟩) (fun x => B9 Gk x.2.2.2 ∧ x.1.size ≤ 1 ∧ x.2.1.size ≤ s.size + 1 ∧ p + 2 ≤ x.2.2.1 ∧ x.2.2.1 ≤ p + 3) ?_ ?_)
    ·refine B5 ?_
     (refine J8 (D1 rfl rfl rfl zR0 zL0 rfl) rfl ?_; rintro _ ⟨b85, rfl⟩)
     (refine X9 zD0 (fun Gf2 hlef2 hslf2 _ => ?_); refine L5 rfl (A7h Gf2 br pb nb cb (p + 1 + 1) bs _ _ _ _ (hb.mono hlef2) hnb zR0 hslf2 zQ0) (Pk.perm zD0) rfl rfl (fun v Go outs hleo hh => ?_); obtain ⟨rfl, rfl, hv2⟩ := hh; obtain ⟨nmA, rfl, hnA⟩ : ∃ nm, v = .string nm ∧ nm.size ≤ 1 := (by simp only [List.mem_cons, List.not_mem_nil, or_false] at hv2; rcases hv2 with rfl | rfl | rfl | rfl <;> exact ⟨_, rfl, by decide⟩))
     refine E1 ?_
     (refine A1l rfl (B4H s nmA _ zR0 zR0) rfl rfl (fun v Ga outs hlea hh => ?_); obtain ⟨rfl, rfl, sA, rfl, hsA⟩ := hh)
     refine A4 ?_
     refine O7 (nmA, sA, p + 1 + 1 + 1, Ga) (I6 zC0 zV) ?_
     (dsimp only; exact ⟨hlef2, hnA, by omega, by omega, by omega⟩)
    ·(rintro ⟨(nm : ByteArray), s', p1, G1⟩ ⟨hleA, hnm, hss, hpA, hpB⟩; simp only [] at hleA hnm hss hpA hpB ⊢; replace hb := hb.mono hleA; have hmark := hleA)
     refine A4 ?_
     (have hm' := hmark; refine A0V (fun (x : Bool) => ⟨(40, .bool x) :: [(7, .int .i64 k), (8, .pointer (some ⟨b69, 0, none⟩)), (6, .pointer (some ⟨b3, 0, none⟩)), (0, .pointer (some ⟨br, 0, none⟩)), (1, .string s'), (2, .int .i64 ((d1 + 1 + 1 : Nat) : Int))], [.blk b69 [.int .i64 k, .string nm, .int .i64 0, .int .i64 0, .slice none 0 0, .int .i64 0, .slice none 0 0, .int .i64 0, .slice none 0 0], .blk b3 [.int .i64 0, .string ⟨⟨[]⟩⟩, .int .i64 0, .int .i64 0, .slice none 0 0, .int .i64 0, .slice none 0 0, .int .i64 0, .slice none 0 0], rd br pb nb cb p1], G1⟩) (fun x => True) ?_ ?_)
     ·refine A4 ?_
      refine sP (O1 rfl rfl zR0) rfl rfl ?_
      refine A8 ?_
      refine O7 true (I6 zC0 zV) ?_
      trivial
     ·(rintro x _; clear hmark)
      (show L3 _ _ (.cond (.tmp 40) _ _) _ _; refine A0V (fun (x : Ty × Option Addr × Nat × Nat × IM) => ⟨[(7, .int .i64 k), (8, .pointer (some ⟨b69, 0, none⟩)), (6, .pointer (some ⟨b3, 0, none⟩)), (0, .pointer (some ⟨br, 0, none⟩)), (1, .string s'), (2, .int .i64 ((d1 + 1 + 1 : Nat) : Int))], [.blk b69 [.int .i64 k, .string nm, .int .i64 0, .int .i64 x.1.k, .slice x.2.1 x.1.ks.length x.2.2.1, .int .i64 0, .slice none 0 0, .int .i64 0, .slice none 0 0], .blk b3 [.int .i64 0, .string ⟨⟨[]⟩⟩, .int .i64 0, .int .i64 0, .slice none 0 0, .int .i64 0, .slice none 0 0, .int .i64 0, .slice none 0 0], rd br pb nb cb x.2.2.2.1], x.2.2.2.2⟩) (fun x => B9 G1 x.2.2.2.2 ∧ C7 x.2.2.2.2 x.1 [.int .i64 x.1.k, .slice x.2.1 x.1.ks.length x.2.2.1] ∧ M4 x.1 ≤ 14 ∧ p1 ≤ x.2.2.2.1 ∧ x.2.2.2.1 ≤ p1 + 15) (A5r rfl (fun hxt => ?_) (fun hxf => ?_)) ?_)
      ·refine C1 ?_
       (refine J8 (D1 rfl rfl rfl zR0 zL0 rfl) rfl ?_; rintro _ ⟨b119, rfl⟩)
       (refine X9 zD0 (fun Gf hlef3 hslf _ => ?_); refine L5 rfl (A08 Gf br pb nb cb p1 bs _ _ _ _ (hb.mono hlef3) hnb zR0 hslf zQ0) (Pk.perm zD0) rfl rfl (fun v Gn outs hlen hh => ?_); obtain ⟨rfl, rfl, hv⟩ := hh; replace hb := hb.mono hlef3; obtain ⟨dd, rfl, hdd⟩ : ∃ d : Nat, v = .int .i64 ((d + 1 : Nat) : Int) ∧ d ≤ 2 := (by simp only [List.mem_cons, List.not_mem_nil, or_false] at hv; rcases hv with rfl | rfl | rfl | rfl <;> first | exact ⟨0, rfl, by decide⟩ | exact ⟨1, rfl, by decide⟩ | exact ⟨2, rfl, by decide⟩))
       (have hdB := A7x hdd; refine L5 rfl (A9x br pb nb cb bs hnb dd (p1 + 1) _ zR0 hb zR0) (Pk.perm zD0) rfl rfl (fun v G3 outs hle3 hh => ?_); obtain ⟨p3, hp31, hp32, rfl, t3, cells3, rfl, hr3, hs3⟩ := hh; obtain ⟨q3, c3, es3, rfl, _⟩ := hr3.open)
       refine C1 ?_
       refine O7 (t3, q3, c3, p3, G3) (I6 zC0 zV) ?_
       (dsimp only; exact ⟨hlef3.trans hle3, hr3, by omega, by omega, by omega⟩)
      ·refine tK ?_
       refine O7 (B4, none, 0, p1, G1) (I6 zC0 zV) ?_
       (dsimp only; exact ⟨B9.refl _, A25 _, by decide, by omega, by omega⟩)
      ·(rintro ⟨(t' : Ty), q', c', p2, G2⟩ ⟨hleB, hrB, hsB, hpC, hpD⟩; simp only [] at hleB hrB hsB hpC hpD ⊢; replace hb := hb.mono hleB; have hop := A27 k; have hK := A7e k)
       refine A9 ?_
       refine C2 ?_
       (refine X1 28 9 ?_; refine L8 (fun (x : Nat × Option Addr × Nat × List Tm × List (List Value) × Nat × IM) => ⟨[(9, .int .i64 x.1), (7, .int .i64 k), (8, .pointer (some ⟨b69, 0, none⟩)), (6, .pointer (some ⟨b3, 0, none⟩)), (0, .pointer (some ⟨br, 0, none⟩)), (1, .string s'), (2, .int .i64 ((d1 + 1 + 1 : Nat) : Int))], [.blk b69 [.int .i64 k, .string nm, .int .i64 0, .int .i64 t'.k, .slice q' t'.ks.length c', .int .i64 0, .slice none 0 0, .int .i64 0, .slice x.2.1 x.1 x.2.2.1], .slc x.2.1 x.2.2.1 28 9 x.1 x.2.2.2.2.1.flatten, rd br pb nb cb x.2.2.2.2.2.1, .blk b3 [.int .i64 0, .string ⟨⟨[]⟩⟩, .int .i64 0, .int .i64 0, .slice none 0 0, .int .i64 0, .slice none 0 0, .int .i64 0, .slice none 0 0]], x.2.2.2.2.2.2⟩) (fun x => ((x.1 : Int) ≤ E8 k ∨ x.1 = 0) ∧ B9 G2 x.2.2.2.2.2.2 ∧ x.2.2.2.1.length = x.1 ∧ F9 x.2.2.2.2.2.2 x.2.2.2.1 x.2.2.2.2.1 ∧ A0u x.2.2.2.1 ≤ ((x.1 * tB d1 : Nat) : Int) ∧ p2 ≤ x.2.2.2.2.2.1 ∧ x.2.2.2.2.2.1 ≤ p2 + x.1 * tB d1) (fun x => (E8 k).toNat - x.1) (0, none, 0, [], [], p2, G2) ?_ ?_ ?_)
       ·(simp only [I9]; exact F8)
       ·(exact ⟨.inr rfl, B9.refl _, rfl, by simp [F9], by simp [A0u], by dsimp only; omega, by dsimp only; omega⟩)
       ·(rintro ⟨i, pn, cn, ts, es', p', Gi⟩ ⟨hi, hle, hlt, hst, hsum, hq1, hq2⟩; simp only [] at hi hle hlt hst hsum hq1 hq2 ⊢; have hid : i * tB d1 ≤ 3 * tB d1 := Nat.mul_le_mul_right _ zR0)
        refine A8 ?_
        refine H4 rfl ((hK _)) rfl rfl ?_
        refine sB (N5 rfl rfl) rfl rfl (fun h148 => ?_) (fun h148 => ?_)
        ·refine A9 ?_
         refine C2 ?_
         (have hih := ih d1 zR0 p' Gi s' zR0 zR0 (hb.mono hle) (by have := Nat.mul_le_mul_right (tB d1) (show i + 1 ≤ 3 by omega); rw [Nat.succ_mul] at this; omega); refine D3 D4 rfl ?_)
         refine J4 (i := 0) (l' := [tt,ff,ff,ff,ff,ff,ff,ff,ff,ff,ff]) rfl C8 (C3 rfl) rfl zP0 rfl rfl ?_
         refine aL 1 rfl (F0 rfl rfl) rfl ?_
         refine aP 2 rfl (qM rfl) rfl ?_
         refine aP 3 rfl (qM rfl) rfl ?_
         refine aP 4 rfl (qM rfl) rfl ?_
         refine aP 5 rfl (A5N rfl rfl zR0) rfl ?_
         refine A2 6 ?_
         (refine A0M (l' := [tt,tt,tt,tt,tt,tt,tt,ff,ff,ff,ff]) rfl rfl hih (Pk.perm zD0) rfl rfl rfl zR (fun v G3 outs hle3 hh => ?_); obtain ⟨p3, hp31, hp32, rfl, t3, cells3, rfl, hr3, hs3⟩ := hh; obtain ⟨qt, dt, et, qf, df, ef, q3, d3, es3, rfl, _⟩ := hr3.open)
         refine A2 7 ?_
         (refine D2 rfl (D1 rfl rfl rfl zR0 zL0 rfl) rfl rfl ?_; rintro _ ⟨b166, rfl⟩)
         refine A2 8 ?_
         refine P0 rfl rfl rfl rfl rfl rfl (fun _ _ => by repeat (first | exact Sw.here | apply Sw.there)) (K4 zI0) rfl zK0 zL0 zR0 rfl rfl zR (fun pn' cn' => ?_)
         refine aP 9 rfl (C3 rfl) rfl ?_
         refine A2 10 ?_
         refine T7 rfl rfl rfl rfl rfl rfl rfl rfl zP0 zF0 (by rfl) ?_
         refine A8 ?_
         refine sP (K0 rfl rfl zR0 zR0) rfl rfl ?_
         refine A4 ?_
         refine J7 (i + 1, pn', cn', ts ++ [t3], es' ++ [[.int .i64 t3.k, .string t3.nm, .int .i64 t3.num, .int .i64 t3.ty.k, .slice qt t3.ty.ks.length dt, .int .i64 t3.fr.k, .slice qf t3.fr.ks.length df, .int .i64 t3.lb, .slice q3 t3.ks.length d3]], p3, G3) ?_ ?_ ?_
         ·(simp only [I9]; exact F8)
         ·(dsimp only; have e1 : (i + 1) * tB d1 = i * tB d1 + tB d1 := Nat.succ_mul _ _; have e2 := A7w ts t3; exact ⟨.inl zR0, hle.trans hle3, by simp [hlt], F9.snoc (hst.mono hle3) hr3, by omega, by omega, by omega⟩)
         ·(show (E8 k).toNat - (i + 1) < (E8 k).toNat - i; omega)
        ·refine M8 ?_
         (refine J6 zD0 (fun G5 hle5 hsl5 hno5 => ?_))
         refine tT ?_
         refine H8 (outs := [rd br pb nb cb p']) (rC rfl (A3 rfl rfl)) zS ?_
         (refine ⟨p', by omega, by omega, rfl, .mk k nm 0 t' B4 0 ts, _, rfl, (hst.mono hle5).tm hlt hsl5 ⟨by omega, by omega⟩ ⟨by omega, by omega⟩ (hrB.mono (hle.trans hle5)), ?_⟩; rw [A00, A7v]; omega)
   ·refine A4 ?_
    (show L3 _ _ (.cond (.tmp 26) _ _) _ _; refine A0V (fun (x : ByteArray × ByteArray × Nat × IM) => ⟨[(7, .int .i64 k), (8, .pointer (some ⟨b69, 0, none⟩)), (6, .pointer (some ⟨b3, 0, none⟩)), (0, .pointer (some ⟨br, 0, none⟩)), (1, .string x.2.1), (2, .int .i64 ((d1 + 1 + 1 : Nat) : Int))], [.blk b69 [.int .i64 k, .string x.1, .int .i64 0, .int .i64 0, .slice none 0 0, .int .i64 0, .slice none 0 0, .int .i64 0, .slice none 0 0], .blk b3 [.int .i64 0, .string ⟨⟨[]⟩⟩, .int .i64 0, .int .i64 0, .slice none 0 0, .int .i64 0, .slice none 0 0, .int .i64 0, .slice none 0 0], rd br pb nb cb x.2.2.1], x.2.2.2⟩) (fun x => B9 Gk x.2.2.2 ∧ x.1.size ≤ 1 ∧ x.2.1.size ≤ s.size + 1 ∧ p + 2 ≤ x.2.2.1 ∧ x.2.2.1 ≤ p + 3) ?_ ?_)
    ·refine A4 ?_
     refine O7 (⟨⟨[]⟩⟩, s, p + 1 + 1, Gk) (I6 zC0 zV) ?_
     (dsimp only; exact ⟨B9.refl _, by decide, by omega, by omega, by omega⟩)
    ·(rintro ⟨(nm : ByteArray), s', p1, G1⟩ ⟨hleA, hnm, hss, hpA, hpB⟩; simp only [] at hleA hnm hss hpA hpB ⊢; replace hb := hb.mono hleA; have hmark := hleA)
     refine A4 ?_
     (have hm' := hmark; refine A0V (fun (x : Bool) => ⟨(40, .bool x) :: [(7, .int .i64 k), (8, .pointer (some ⟨b69, 0, none⟩)), (6, .pointer (some ⟨b3, 0, none⟩)), (0, .pointer (some ⟨br, 0, none⟩)), (1, .string s'), (2, .int .i64 ((d1 + 1 + 1 : Nat) : Int))], [.blk b69 [.int .i64 k, .string nm, .int .i64 0, .int .i64 0, .slice none 0 0, .int .i64 0, .slice none 0 0, .int .i64 0, .slice none 0 0], .blk b3 [.int .i64 0, .string ⟨⟨[]⟩⟩, .int .i64 0, .int .i64 0, .slice none 0 0, .int .i64 0, .slice none 0 0, .int .i64 0, .slice none 0 0], rd br pb nb cb p1], G1⟩) (fun x => True) ?_ ?_)
     ·refine A4 ?_
      refine sP (D0 rfl rfl zR0) rfl rfl ?_
      refine A4 ?_
      refine sB (qE rfl rfl) rfl rfl (fun h218 => ?_) (fun h218 => ?_)
      ·refine A4 ?_
       refine O7 true (I6 zC0 zV) ?_
       trivial
      ·refine A4 ?_
       refine O7 false (I6 zC0 zV) ?_
       trivial
     ·(rintro x _; clear hmark)
      (show L3 _ _ (.cond (.tmp 40) _ _) _ _; refine A0V (fun (x : Ty × Option Addr × Nat × Nat × IM) => ⟨[(7, .int .i64 k), (8, .pointer (some ⟨b69, 0, none⟩)), (6, .pointer (some ⟨b3, 0, none⟩)), (0, .pointer (some ⟨br, 0, none⟩)), (1, .string s'), (2, .int .i64 ((d1 + 1 + 1 : Nat) : Int))], [.blk b69 [.int .i64 k, .string nm, .int .i64 0, .int .i64 x.1.k, .slice x.2.1 x.1.ks.length x.2.2.1, .int .i64 0, .slice none 0 0, .int .i64 0, .slice none 0 0], .blk b3 [.int .i64 0, .string ⟨⟨[]⟩⟩, .int .i64 0, .int .i64 0, .slice none 0 0, .int .i64 0, .slice none 0 0, .int .i64 0, .slice none 0 0], rd br pb nb cb x.2.2.2.1], x.2.2.2.2⟩) (fun x => B9 G1 x.2.2.2.2 ∧ C7 x.2.2.2.2 x.1 [.int .i64 x.1.k, .slice x.2.1 x.1.ks.length x.2.2.1] ∧ M4 x.1 ≤ 14 ∧ p1 ≤ x.2.2.2.1 ∧ x.2.2.2.1 ≤ p1 + 15) (A5r rfl (fun hxt => ?_) (fun hxf => ?_)) ?_)
      ·refine C1 ?_
       (refine J8 (D1 rfl rfl rfl zR0 zL0 rfl) rfl ?_; rintro _ ⟨b232, rfl⟩)
       (refine X9 zD0 (fun Gf hlef3 hslf _ => ?_); refine L5 rfl (A08 Gf br pb nb cb p1 bs _ _ _ _ (hb.mono hlef3) hnb zR0 hslf zQ0) (Pk.perm zD0) rfl rfl (fun v Gn outs hlen hh => ?_); obtain ⟨rfl, rfl, hv⟩ := hh; replace hb := hb.mono hlef3; obtain ⟨dd, rfl, hdd⟩ : ∃ d : Nat, v = .int .i64 ((d + 1 : Nat) : Int) ∧ d ≤ 2 := (by simp only [List.mem_cons, List.not_mem_nil, or_false] at hv; rcases hv with rfl | rfl | rfl | rfl <;> first | exact ⟨0, rfl, by decide⟩ | exact ⟨1, rfl, by decide⟩ | exact ⟨2, rfl, by decide⟩))
       (have hdB := A7x hdd; refine L5 rfl (A9x br pb nb cb bs hnb dd (p1 + 1) _ zR0 hb zR0) (Pk.perm zD0) rfl rfl (fun v G3 outs hle3 hh => ?_); obtain ⟨p3, hp31, hp32, rfl, t3, cells3, rfl, hr3, hs3⟩ := hh; obtain ⟨q3, c3, es3, rfl, _⟩ := hr3.open)
       refine C1 ?_
       refine O7 (t3, q3, c3, p3, G3) (I6 zC0 zV) ?_
       (dsimp only; exact ⟨hlef3.trans hle3, hr3, by omega, by omega, by omega⟩)
      ·refine tK ?_
       refine O7 (B4, none, 0, p1, G1) (I6 zC0 zV) ?_
       (dsimp only; exact ⟨B9.refl _, A25 _, by decide, by omega, by omega⟩)
      ·(rintro ⟨(t' : Ty), q', c', p2, G2⟩ ⟨hleB, hrB, hsB, hpC, hpD⟩; simp only [] at hleB hrB hsB hpC hpD ⊢; replace hb := hb.mono hleB; have hop := A27 k; have hK := A7e k)
       refine A9 ?_
       refine C2 ?_
       (refine X1 28 9 ?_; refine L8 (fun (x : Nat × Option Addr × Nat × List Tm × List (List Value) × Nat × IM) => ⟨[(9, .int .i64 x.1), (7, .int .i64 k), (8, .pointer (some ⟨b69, 0, none⟩)), (6, .pointer (some ⟨b3, 0, none⟩)), (0, .pointer (some ⟨br, 0, none⟩)), (1, .string s'), (2, .int .i64 ((d1 + 1 + 1 : Nat) : Int))], [.blk b69 [.int .i64 k, .string nm, .int .i64 0, .int .i64 t'.k, .slice q' t'.ks.length c', .int .i64 0, .slice none 0 0, .int .i64 0, .slice x.2.1 x.1 x.2.2.1], .slc x.2.1 x.2.2.1 28 9 x.1 x.2.2.2.2.1.flatten, rd br pb nb cb x.2.2.2.2.2.1, .blk b3 [.int .i64 0, .string ⟨⟨[]⟩⟩, .int .i64 0, .int .i64 0, .slice none 0 0, .int .i64 0, .slice none 0 0, .int .i64 0, .slice none 0 0]], x.2.2.2.2.2.2⟩) (fun x => ((x.1 : Int) ≤ E8 k ∨ x.1 = 0) ∧ B9 G2 x.2.2.2.2.2.2 ∧ x.2.2.2.1.length = x.1 ∧ F9 x.2.2.2.2.2.2 x.2.2.2.1 x.2.2.2.2.1 ∧ A0u x.2.2.2.1 ≤ ((x.1 * tB d1 : Nat) : Int) ∧ p2 ≤ x.2.2.2.2.2.1 ∧ x.2.2.2.2.2.1 ≤ p2 + x.1 * tB d1) (fun x => (E8 k).toNat - x.1) (0, none, 0, [], [], p2, G2) ?_ ?_ ?_)
       ·(simp only [I9]; exact F8)
       ·(exact ⟨.inr rfl, B9.refl _, rfl, by simp [F9], by simp [A0u], by dsimp only; omega, by dsimp only; omega⟩)
       ·(rintro ⟨i, pn, cn, ts, es', p', Gi⟩ ⟨hi, hle, hlt, hst, hsum, hq1, hq2⟩; simp only [] at hi hle hlt hst hsum hq1 hq2 ⊢; have hid : i * tB d1 ≤ 3 * tB d1 := Nat.mul_le_mul_right _ zR0)
        refine A8 ?_
        refine H4 rfl ((hK _)) rfl rfl ?_
        refine sB (N5 rfl rfl) rfl rfl (fun h261 => ?_) (fun h261 => ?_)
        ·refine A9 ?_
         refine C2 ?_
         (have hih := ih d1 zR0 p' Gi s' zR0 zR0 (hb.mono hle) (by have := Nat.mul_le_mul_right (tB d1) (show i + 1 ≤ 3 by omega); rw [Nat.succ_mul] at this; omega); refine D3 D4 rfl ?_)
         refine J4 (i := 0) (l' := [tt,ff,ff,ff,ff,ff,ff,ff,ff,ff,ff]) rfl C8 (C3 rfl) rfl zP0 rfl rfl ?_
         refine aL 1 rfl (F0 rfl rfl) rfl ?_
         refine aP 2 rfl (qM rfl) rfl ?_
         refine aP 3 rfl (qM rfl) rfl ?_
         refine aP 4 rfl (qM rfl) rfl ?_
         refine aP 5 rfl (A5N rfl rfl zR0) rfl ?_
         refine A2 6 ?_
         (refine A0M (l' := [tt,tt,tt,tt,tt,tt,tt,ff,ff,ff,ff]) rfl rfl hih (Pk.perm zD0) rfl rfl rfl zR (fun v G3 outs hle3 hh => ?_); obtain ⟨p3, hp31, hp32, rfl, t3, cells3, rfl, hr3, hs3⟩ := hh; obtain ⟨qt, dt, et, qf, df, ef, q3, d3, es3, rfl, _⟩ := hr3.open)
         refine A2 7 ?_
         (refine D2 rfl (D1 rfl rfl rfl zR0 zL0 rfl) rfl rfl ?_; rintro _ ⟨b279, rfl⟩)
         refine A2 8 ?_
         refine P0 rfl rfl rfl rfl rfl rfl (fun _ _ => by repeat (first | exact Sw.here | apply Sw.there)) (K4 zI0) rfl zK0 zL0 zR0 rfl rfl zR (fun pn' cn' => ?_)
         refine aP 9 rfl (C3 rfl) rfl ?_
         refine A2 10 ?_
         refine T7 rfl rfl rfl rfl rfl rfl rfl rfl zP0 zF0 (by rfl) ?_
         refine A8 ?_
         refine sP (K0 rfl rfl zR0 zR0) rfl rfl ?_
         refine A4 ?_
         refine J7 (i + 1, pn', cn', ts ++ [t3], es' ++ [[.int .i64 t3.k, .string t3.nm, .int .i64 t3.num, .int .i64 t3.ty.k, .slice qt t3.ty.ks.length dt, .int .i64 t3.fr.k, .slice qf t3.fr.ks.length df, .int .i64 t3.lb, .slice q3 t3.ks.length d3]], p3, G3) ?_ ?_ ?_
         ·(simp only [I9]; exact F8)
         ·(dsimp only; have e1 : (i + 1) * tB d1 = i * tB d1 + tB d1 := Nat.succ_mul _ _; have e2 := A7w ts t3; exact ⟨.inl zR0, hle.trans hle3, by simp [hlt], F9.snoc (hst.mono hle3) hr3, by omega, by omega, by omega⟩)
         ·(show (E8 k).toNat - (i + 1) < (E8 k).toNat - i; omega)
        ·refine M8 ?_
         (refine J6 zD0 (fun G5 hle5 hsl5 hno5 => ?_))
         refine tT ?_
         refine H8 (outs := [rd br pb nb cb p']) (rC rfl (A3 rfl rfl)) zS ?_
         (refine ⟨p', by omega, by omega, rfl, .mk k nm 0 t' B4 0 ts, _, rfl, (hst.mono hle5).tm hlt hsl5 ⟨by omega, by omega⟩ ⟨by omega, by omega⟩ (hrB.mono (hle.trans hle5)), ?_⟩; rw [A00, A7v]; omega)
theorem Sl.pre {G : IM} {p : Option Addr} {n c m : Nat} {cs : List Value} (h : Sl G p n c 1 cs) (hm : m ≤ n) : Sl G p m c 1 (cs.take m) := by
 obtain ⟨h1, h2, h3, h4⟩ := h
 refine ⟨by rw [List.length_take]; omega, by omega, h3, ?_⟩
 rcases h4 with h4 | ⟨b, o, full, e1, e2, e3⟩
 ·exact .inl zR0
 ·refine .inr ⟨b, o, full, e1, e2, fun j v hj => e3 j v ?_⟩
  rw [List.getElem?_take] at hj
  split at hj
  ·exact hj
  ·cases hj
theorem B4J (bs : List UInt8) (m : Nat) : R4 (bs.take m) = (R4 bs).take m := by unfold R4; rw [List.map_take]
theorem B4K {d : Nat} (h : d ≤ 4) : tB d ≤ 1043 := by
 have : d = 0 ∨ d = 1 ∨ d = 2 ∨ d = 3 ∨ d = 4 := by omega
 rcases this with rfl | rfl | rfl | rfl | rfl <;> decide
def A4W (G : IM) : IM → Value → List A7 → Prop := fun G' v outs => G' = G ∧ ∃ br pb nb cb bs, v = .pointer (some ⟨br, 0, none⟩) ∧ outs = [rd br pb nb cb 0] ∧ nb ≤ 2000 ∧ Sl G pb nb cb 1 (R4 bs)
theorem A4W.mk {G : IM} {b : Nat} {pb : Option Addr} {nb cb : Nat} {bs : List UInt8} (h : nb ≤ 2000) (hb : Sl G pb nb cb 1 (R4 bs)) : A4W G G (.pointer (some ⟨b, 0, none⟩)) [.blk b [.slice pb nb cb, .int .i64 0]] := ⟨rfl, _, _, _, _, bs, rfl, rfl, h, hb⟩
theorem B4L (G : IM) (q : Option Addr) (n c : Nat) (bs : List UInt8) (hb : Sl G q n c 1 (R4 bs)) :
  Fn Tryz.prog 37 [.slice q n c] [] G (A4W G) := by
 have hn := hb.le
 have hnc := hb.2.1
 have hpre := fun h : 2000 ≤ n => hb.pre h
 refine C0 Tryz.func37 rfl Tryz.ntmps37 Tryz.results37 rfl ?_
 intro w0
 refine J2 ?_
 refine sB (A0K rfl rfl) rfl rfl (fun h11 => ?_) (fun h11 => ?_)
 refine A8 ?_
 refine sP (A68 (l := 2000) rfl rfl rfl zR0) rfl rfl ?_
 refine B0 ?_
 refine sE (B6 rfl rfl) rfl (fun b25 => ?_)
 refine B5 ?_
 refine H8 (rT rfl) A0.refl ?_
 exact A4W.mk (Nat.le_refl _) (by rw [B4J]; exact hpre zR0)
 refine E7 ?_
 refine sE (B6 rfl rfl) rfl (fun b41 => ?_)
 refine B5 ?_
 refine H8 (rT rfl) A0.refl ?_
 exact A4W.mk zR0 hb
theorem A90 (br : Nat) (pb : Option Addr) (nb cb : Nat) (bs : List UInt8) (hnb : nb ≤ 2000) (p : Nat) (G : IM) (hb : Sl G pb nb cb 1 (R4 bs)) (hp : p + 1100 < 1099511627776) :
  Fn Tryz.prog 78 [.pointer (some ⟨br, 0, none⟩)] [rd br pb nb cb p] G
   (A1o br pb nb cb p 1100 (fun G' v => ∃ t cells, v = .agg ⟨cells⟩ ∧ B7 G' t cells ∧ A00 t ≤ 1043)) := by
 refine C0 Tryz.func78 rfl Tryz.ntmps78 Tryz.results78 rfl ?_
 intro w0
 refine A4 ?_
 refine sE (A6 rfl) rfl (fun b3 => ?_)
 refine A9 ?_
 (refine J8 (D1 rfl rfl rfl zR0 zL0 rfl) rfl ?_; rintro _ ⟨b10, rfl⟩)
 (refine X9 zD0 (fun Gf hlef hslf _ => ?_); refine L5 rfl (A08 Gf br pb nb cb p bs _ _ _ _ (hb.mono hlef) hnb zR0 hslf zQ0) (Pk.perm zD0) rfl rfl (fun v Gn outs hlen hh => ?_); obtain ⟨rfl, rfl, hv⟩ := hh; replace hb := hb.mono hlef; obtain ⟨dd, rfl, hdd⟩ : ∃ d : Nat, v = .int .i64 ((d + 1 : Nat) : Int) ∧ d ≤ 4 := (by simp only [List.mem_cons, List.not_mem_nil, or_false] at hv; rcases hv with rfl | rfl | rfl | rfl | rfl <;> first | exact ⟨3, rfl, by decide⟩ | exact ⟨2, rfl, by decide⟩ | exact ⟨4, rfl, by decide⟩ | exact ⟨1, rfl, by decide⟩); have htB := B4K hdd)
 (refine L5 rfl (B4I br pb nb cb bs hnb dd (p + 1) Gn ⟨⟨[]⟩⟩ zR0 (by have hz : (⟨⟨[]⟩⟩ : ByteArray).size ≤ 2 := zQ0; omega) hb zR0) (Pk.perm zD0) rfl rfl (fun v G3 outs hle3 hh => ?_); obtain ⟨p3, hp31, hp32, rfl, t3, cells3, rfl, hr3, hs3⟩ := hh; have hl3 := hr3.len; have ho3 := hr3.one; have hc3 := A5P t3; have hv3 := A4S t3 G3 cells3 zR0 hr3)
 refine sE (A6 rfl) rfl (fun b13 => ?_)
 refine sS rfl rfl rfl hl3 ho3 rfl ?_ (hu := by exact C6 hl3.symm)
 refine A8 ?_
 refine sL (A5 rfl rfl (B3 zI0) hl3) rfl rfl ?_
 refine J5 rfl (hv3) rfl rfl (fun h21 => ?_) (fun h21 => ?_)
 refine A8 ?_
 refine sL (A5 rfl rfl (B3 zI0) hl3) rfl rfl ?_
 refine sS rfl rfl rfl hl3 ho3 rfl ?_ (hu := by exact C6 hl3.symm)
 refine B5 ?_
 refine H8 (outs := [rd br pb nb cb p3]) (rC rfl (A5 rfl rfl (B3 zI0) hl3)) zS ?_
 (exact ⟨p3, by omega, by omega, rfl, t3, cells3, rfl, hr3, by omega⟩)
 refine B0 ?_
 refine H4 rfl ((A35 _ _)) rfl rfl ?_
 refine B5 ?_
 refine H8 (outs := [rd br pb nb cb p3]) (rC rfl (A3 rfl rfl)) zS ?_
 (exact ⟨p3, by omega, by omega, rfl, _, _, rfl, A2P ⟨by omega, by omega⟩ ⟨by omega, by omega⟩, by rw [A26]; decide⟩)
theorem A1I (G : IM) : Fn Tryz.prog 56 [] [] G (K7 (.agg ⟨[.int .i64 2, .slice none 0 0]⟩) G) := by
 refine C0 Tryz.func56 rfl Tryz.ntmps56 Tryz.results56 rfl ?_
 intro w0
 refine A4 ?_
 refine sE (A6 rfl) rfl (fun b3 => ?_)
 refine E7 ?_
 refine P5 (rC rfl (A3 rfl rfl)) ?_
 exact ⟨rfl, rfl, rfl⟩
theorem A4X (G : IM) : Fn Tryz.prog 107 [] [] G (K7 (.agg ⟨[.int .i64 3, .slice none 0 0]⟩) G) := by
 refine C0 Tryz.func107 rfl Tryz.ntmps107 Tryz.results107 rfl ?_
 intro w0
 refine A4 ?_
 refine sE (A6 rfl) rfl (fun b3 => ?_)
 refine E7 ?_
 refine P5 (rC rfl (A3 rfl rfl)) ?_
 exact ⟨rfl, rfl, rfl⟩
theorem A3C (G : IM) (k : Int) (p : Option Addr) (n c : Nat) : Fn Tryz.prog 106 [.int .i64 k, .slice p n c] [] G (K7 (.agg ⟨[.int .i64 k, .string ⟨⟨[]⟩⟩, .int .i64 0, .int .i64 0, .slice none 0 0, .int .i64 0, .slice none 0 0, .int .i64 0, .slice p n c]⟩) G) := by
 refine C0 Tryz.func106 rfl Tryz.ntmps106 Tryz.results106 rfl ?_
 intro w0
 refine A4 ?_
 refine sE (A6 rfl) rfl (fun b3 => ?_)
 refine M7 ?_
 refine P5 (rC rfl (A3 rfl rfl)) ?_
 exact ⟨rfl, rfl, rfl⟩
theorem L9 (G : IM) {k : Int} (hk : H6 k) : C7 G (.mk k []) [.int .i64 k, .slice none 0 0] := by
 simp only [C7]
 exact ⟨none, 0, [], rfl, hk, D7.of (Sl.nil _ _) rfl zS0 zS0, by simp [D9]⟩
theorem A91 (k : Int) : M4 (.mk k []) = 0 := rfl
def TyB (B : Int) (G : IM) : IM → Value → List A7 → Prop := N8 fun G' v => ∃ t cells b, v = .tuple ⟨[.agg ⟨cells⟩, .bool b]⟩ ∧ C7 G' t cells ∧ I4 t ∧ M4 t ≤ B
theorem A5Z {k : Int} {a b : Ty} (hk : k = 4 ∨ k = 5) (ha : I4 a) (hb : I4 b) : I4 (.mk k [a, b]) := by
 rw [I4]
 exact ⟨fun _ => rfl, fun h4 h5 => by omega, by simp [A1C, ha, hb]⟩
theorem X6 {k : Int} (h4 : k ≠ 4) (h5 : k ≠ 5) : I4 (.mk k []) := (A31 0 h4 h5).ar
theorem I4.kid {k : Int} {ks : List Ty} (h : I4 (.mk k ks)) : ∀ t ∈ ks, I4 t := by
 rw [I4] at h; exact A4L.1 h.2.2
theorem I4.two {k : Int} {ks : List Ty} (h : I4 (.mk k ks)) : ks.length ≤ 2 := by
 rw [I4] at h
 have h1 := h.1
 have h2 := h.2.1
 omega
theorem A92 : ∀ {ks : List Ty} {t : Ty}, t ∈ ks → M4 t ≤ Q8 ks
 | [], t, h => by simp at h
 | t' :: ts, t, h => by
  rw [Q8]
  have := A1X t'
  have := A2L ts
  rcases List.mem_cons.1 h with rfl | h
  ·omega
  ·have := A92 h; omega
theorem B4M {k : Int} {ks : List Ty} {t : Ty} (h : t ∈ ks) : M4 t ≤ M4 (.mk k ks) := by
 have := A92 h
 rw [M4]; omega
def B9x (B : Int) (G : IM) : IM → Value → List A7 → Prop := N8 fun G' v => ∃ a ca b cb x, v = .tuple ⟨[.agg ⟨ca⟩, .agg ⟨cb⟩, .bool x]⟩ ∧ C7 G' a ca ∧ I4 a ∧ M4 a ≤ B ∧ C7 G' b cb ∧ I4 b ∧ M4 b ≤ B
def TyP (B : Int) (Q : Ty → Prop) (G : IM) : IM → Value → List A7 → Prop := N8 fun G' v => ∃ t cells, v = .agg ⟨cells⟩ ∧ C7 G' t cells ∧ I4 t ∧ M4 t ≤ B ∧ Q t
theorem A93 {k : Int} {ks us : List Ty} (h : I4 (.mk k ks)) (hl : us.length = ks.length) (hu : ∀ u ∈ us, I4 u) : I4 (.mk k us) := by
 rw [I4] at h ⊢
 exact ⟨fun hk => by rw [hl]; exact h.1 hk, fun a b => by rw [hl]; exact h.2.1 a b, A4L.2 hu⟩
theorem A36 {P : Ty → Prop} {us : List Ty} {u : Ty} (h : ∀ x ∈ us, P x) (hu : P u) : ∀ x ∈ us ++ [u], P x := by
 simp only [List.forall_mem_append, List.forall_mem_singleton]; exact ⟨h, hu⟩
theorem A2Q : ∀ (t t' : Ty) (G : IM) (cells cells' : List Value), I4 t → I4 t' → C7 G t cells → C7 G t' cells' →
  Fn Tryz.prog 104 [.agg ⟨cells⟩, .agg ⟨cells'⟩] [] G (K7 (.bool (N6 t t')) G) := by
 refine Ty.ind fun k ks ih t' G cells cells' ha ha' hr hr' => ?_
 obtain ⟨k', ks'⟩ := t'
 obtain ⟨p, c, es, rfl, hk, hsl, hkl⟩ := hr.open
 obtain ⟨p', c', es', rfl, hk', hsl', hkl'⟩ := hr'.open
 simp only [Ty.k, Ty.ks] at hk hsl hkl hk' hsl' hkl' ⊢
 have hn := hsl.le
 have hn' := hsl'.le
 have hv2 := ha.kid
 have hv2' := ha'.kid
 rw [I4] at ha ha'
 have hle : k = k' → ks.length = ks'.length := by
  rintro rfl
  have h1 := ha.1
  have h2 := ha.2.1
  have h3 := ha'.1
  have h4 := ha'.2.1
  omega
 refine C0 Tryz.func104 rfl Tryz.ntmps104 Tryz.results104 rfl ?_
 intro w0
 refine A4 ?_
 refine sE (B6 rfl rfl) rfl (fun b3 => ?_)
 refine sE (B6 rfl rfl) rfl (fun b4 => ?_)
 refine E1 ?_
 refine sB (qE rfl rfl) rfl rfl (fun h13 => ?_) (fun h13 => ?_)
 refine N3 ?_
 (rw [A9K zR0]; exact ⟨rfl, rfl, rfl⟩)
 refine C1 ?_
 refine sB (qE rfl rfl) rfl rfl (fun h34 => ?_) (fun h34 => ?_)
 refine O3 ?_
 (rw [A9K zR0]; exact ⟨rfl, rfl, rfl⟩)
 refine N0 ?_
 refine sB (U3 rfl rfl) rfl rfl (fun h61 => ?_) (fun h61 => ?_)
 refine M7 ?_
 (rw [B4q zR0 zR0 zR0]; exact ⟨rfl, rfl, rfl⟩)
 refine M7 ?_
 refine C2 ?_
 (have hll : ks.length = ks'.length := hle zR0; refine L8 (fun (i : Nat) => ⟨[(5, .int .i64 i), (3, .pointer (some ⟨b4, 0, none⟩)), (2, .pointer (some ⟨b3, 0, none⟩))], [.blk b3 [.int .i64 k, .slice p ks.length c], .blk b4 [.int .i64 k', .slice p' ks'.length c']], G⟩) (fun i => i ≤ ks.length ∧ ∀ j (h : j < ks.length) (h' : j < ks'.length), j < i → N6 ks[j] ks'[j] = true) (fun i => ks.length - i) 0 ?_ ?_ ?_)
 exact F8
 exact ⟨by omega, by omega⟩
 (rintro i ⟨hi, hf⟩)
 refine B0 ?_
 refine sB (N5 rfl rfl) rfl rfl (fun h97 => ?_) (fun h97 => ?_)
 refine A9 ?_
 refine C2 ?_
 refine tS ?_
 (obtain ⟨b, o, p2, c2, rfl, hat, hre, hgb⟩ := hsl.kidTy hkl (i := i) zR0 zR0; obtain ⟨b', o', p2', c2', rfl, hat', hre', hgb'⟩ := hsl'.kidTy hkl' (i := i) zR0 zR0; refine D3 D4 rfl ?_)
 refine J4 (i := 0) (l' := [tt,ff,ff,ff,ff,ff,ff,ff,ff,ff,ff,ff]) rfl C8 (C3 rfl) rfl zP0 rfl rfl ?_
 refine aL 1 rfl (F0 rfl rfl) rfl ?_
 refine aP 2 rfl (qM rfl) rfl ?_
 refine aP 3 rfl (B8 rfl rfl rfl zR0) rfl ?_
 refine aL 4 rfl (A5 rfl rfl (hat _) rfl) rfl ?_
 refine aP 5 rfl (C3 rfl) rfl ?_
 refine aL 6 rfl (F0 rfl rfl) rfl ?_
 refine aP 7 rfl (qM rfl) rfl ?_
 refine aP 8 rfl (B8 rfl rfl rfl zR0) rfl ?_
 refine aL 9 rfl (A5 rfl rfl (hat' _) rfl) rfl ?_
 refine A2 10 ?_
 refine A0g rfl rfl (ih ks[i] (List.getElem_mem zR0) ks'[i] G _ _ (hv2 _ (List.getElem_mem zR0)) (hv2' _ (List.getElem_mem zR0)) hre hre') rfl rfl rfl (fun h118 => ?_) (fun h118 => ?_)
 refine aP 11 rfl (pNt rfl) rfl ?_
 refine E1 ?_
 refine sP (K0 rfl rfl zR0 zR0) rfl rfl ?_
 refine A4 ?_
 refine J7 (i + 1) ?_ ?_ ?_
 exact F8
 exact ⟨by omega, fun j hj hj' hji => by (by_cases he : j = i; (subst he; assumption); exact hf j hj hj' zR0)⟩
 omega
 refine aP 11 rfl (pNf rfl) rfl ?_
 refine J0 ?_
 (rw [A9L zR0 zR0 zR0, B4r (i := i) zR0 zR0 zO0]; exact ⟨rfl, rfl, rfl⟩)
 refine J0 ?_
 (rw [A9L zR0 zR0 zR0, (A3v ks _).2 ⟨hll, fun j hj hj' => hf j hj hj' zR0⟩]; exact ⟨rfl, rfl, rfl⟩)
theorem A7y (br : Nat) (pb : Option Addr) (nb cb : Nat) (bs : List UInt8) (hnb : nb ≤ 2000) : ∀ (t : Ty) (p : Nat) (G : IM) (cells : List Value), I4 t → C7 G t cells → Sl G pb nb cb 1 (R4 bs) → p + (M4 t).toNat + 1 < 1099511627776 →
  Fn Tryz.prog 105 [.pointer (some ⟨br, 0, none⟩), .agg ⟨cells⟩] [rd br pb nb cb p] G
   (A1o br pb nb cb p ((M4 t).toNat + 1) (fun G' v => ∃ u cells, v = .agg ⟨cells⟩ ∧ C7 G' u cells ∧ I4 u ∧ M4 u ≤ M4 t ∧ ∀ n, T8 n t → T8 n u)) := by
 refine Ty.ind fun k ks ih p G cells ha hr hb hp => ?_
 have hkid := ha.kid
 have hnn := A2L ks
 have hz : M4 (.mk k ks) = ks.length + Q8 ks := by rw [M4]
 rw [hz] at hp ⊢
 obtain ⟨q, c, es, rfl, hk, hsl, hkl⟩ := hr.open
 simp only [Ty.k, Ty.ks] at hk hsl hkl ⊢
 have hn := hsl.le
 have hl2 := ha.two
 refine C0 Tryz.func105 rfl Tryz.ntmps105 Tryz.results105 rfl ?_
 intro w0
 refine A4 ?_
 refine sE (B6 rfl rfl) rfl (fun b3 => ?_)
 refine sE (A6 rfl) rfl (fun b4 => ?_)
 refine A9 ?_
 (refine L5 rfl (A0C _ br pb nb cb p bs _ hb hnb zR0) (Pk.perm zD0) rfl rfl (fun v11 G11 outs11 hle11 hh => ?_); obtain ⟨rfl, rfl, j11, rfl, hj11, hk11⟩ := hh; have hm := hle11)
 replace hb := hb.mono hle11
 replace hr := hr.mono hle11
 replace hsl := hsl.mono hle11
 replace hkl := hkl.mono hle11
 refine sB (qE rfl rfl) rfl rfl (fun h12 => ?_) (fun h12 => ?_)
 refine A8 ?_
 refine H4 rfl ((A2M _)) rfl rfl ?_
 refine A8 ?_
 refine H8 (outs := [rd br pb nb cb (p + 1)]) (rC rfl (A3 rfl rfl)) zS ?_
 (exact ⟨p + 1, by omega, by omega, rfl, S0, _, rfl, A1G _, A4M, by rw [A7o]; omega, fun n _ => A9w n⟩)
 refine J2 ?_
 refine sE (A6 rfl) rfl (fun b36 => ?_)
 refine E7 ?_
 refine C2 ?_
 (refine X1 25 2 ?_; refine L8 (fun (x : Nat × Option Addr × Nat × List Ty × List (List Value) × Nat × IM) => ⟨[(6, .int .i64 x.1), (5, .pointer (some ⟨b36, 0, none⟩)), (4, .pointer (some ⟨b4, 0, none⟩)), (0, .pointer (some ⟨br, 0, none⟩)), (3, .pointer (some ⟨b3, 0, none⟩))], [.blk b36 [.int .i64 k, .slice x.2.1 x.1 x.2.2.1], .slc x.2.1 x.2.2.1 25 2 x.1 x.2.2.2.2.1.flatten, rd br pb nb cb x.2.2.2.2.2.1, .blk b4 [.int .i64 0, .slice none 0 0], .blk b3 [.int .i64 k, .slice q ks.length c]], x.2.2.2.2.2.2⟩) (fun x => x.1 ≤ ks.length ∧ B9 G11 x.2.2.2.2.2.2 ∧ x.2.2.2.1.length = x.1 ∧ D9 x.2.2.2.2.2.2 x.2.2.2.1 x.2.2.2.2.1 ∧ (∀ u ∈ x.2.2.2.1, I4 u) ∧ (∀ n, T8 n (.mk k ks) → ∀ u ∈ x.2.2.2.1, T8 (n - 1) u) ∧ Q8 x.2.2.2.1 ≤ Q8 (ks.take x.1) ∧ p + 1 ≤ x.2.2.2.2.2.1 ∧ (x.2.2.2.2.2.1 : Int) ≤ p + 1 + x.1 + Q8 (ks.take x.1)) (fun x => ks.length - x.1) (0, none, 0, [], [], p + 1, G11) ?_ ?_ ?_)
 (simp only [I9]; exact F8)
 (exact ⟨by simp, B9.refl _, rfl, by simp [D9], by simp, by simp, by simp [Q8], by dsimp only; omega, by simp [Q8]⟩)
 (rintro ⟨i, pn, cn, us, es', p', Gi⟩ ⟨hi, hle, hlu, hst, hau, hhu, hsu, hp1, hp2⟩; simp only [] at hi hle hlu hst hau hhu hsu hp1 hp2 ⊢; replace hsl := hsl.mono hle; replace hkl := hkl.mono hle; have htk := A9i ks i)
 refine B0 ?_
 refine sB (N5 rfl rfl) rfl rfl (fun h58 => ?_) (fun h58 => ?_)
 refine A9 ?_
 refine C2 ?_
 (obtain ⟨b, o, q0, d0, hp0, hat0, hre0, hg0⟩ := hsl.kidTy hkl (i := i) zR0 zR0; subst hp0; have e1 := B3K (ks := ks) (i := i) zR0; have e2 := A9i ks (i + 1); have e3 := A1X ks[i]; have hih := ih ks[i] (List.getElem_mem zR0) p' Gi _ (hkid _ (List.getElem_mem zR0)) hre0 (hb.mono hle) zR0; refine D3 D4 rfl ?_)
 refine J4 (i := 0) (l' := [tt,ff,ff,ff,ff,ff,ff,ff,ff,ff,ff,ff,ff]) rfl C8 (C3 rfl) rfl zP0 rfl rfl ?_
 refine aL 1 rfl (F0 rfl rfl) rfl ?_
 refine aP 2 rfl (qM rfl) rfl ?_
 refine aP 3 rfl (C3 rfl) rfl ?_
 refine aL 4 rfl (F0 rfl rfl) rfl ?_
 refine aP 5 rfl (qM rfl) rfl ?_
 refine aP 6 rfl (B8 rfl rfl rfl zR0) rfl ?_
 refine aL 7 rfl (A5 rfl rfl (hat0 _) rfl) rfl ?_
 refine A2 8 ?_
 (refine A0M (l' := [tt,tt,tt,tt,tt,tt,tt,tt,tt,ff,ff,ff,ff]) rfl rfl hih (Pk.perm zD0) rfl rfl rfl (by repeat (first | exact A1.nil | apply A1.dep zM0 | apply A1.blk zM0 zD0 zI0 | apply A1.im zM0 hg0 zI0)) (fun v G3 outs hle3 hh => ?_); obtain ⟨p3, hp31, hp32, rfl, u, cells3, rfl, hru, hua, hus, huh⟩ := hh; obtain ⟨q3, c3, es3, rfl, _⟩ := hru.open)
 refine A2 9 ?_
 (refine D2 rfl (D1 rfl rfl rfl zR0 zL0 rfl) rfl rfl ?_; rintro _ ⟨b78, rfl⟩)
 refine A2 10 ?_
 refine P0 rfl rfl rfl rfl rfl rfl (fun _ _ => by repeat (first | exact Sw.here | apply Sw.there)) (K4 zI0) rfl zK0 zL0 zR0 rfl rfl zR (fun pn' cn' => ?_)
 refine aP 11 rfl (C3 rfl) rfl ?_
 refine A2 12 ?_
 refine T7 rfl rfl rfl rfl rfl rfl rfl rfl zP0 zF0 (by rfl) ?_
 refine A8 ?_
 refine sP (K0 rfl rfl zR0 zR0) rfl rfl ?_
 refine A4 ?_
 refine J7 (i + 1, pn', cn', us ++ [u], es' ++ [[.int .i64 u.k, .slice q3 u.ks.length c3]], p3, G3) ?_ ?_ ?_
 (simp only [I9]; exact F8)
 (dsimp only; exact ⟨by omega, hle.trans hle3, by simp [hlu], D9.snoc (hst.mono hle3) hru, A36 hau hua, fun n hn => A36 (hhu n hn) (huh _ (A7g hn (List.getElem_mem _))), by rw [A5U]; omega, by omega, by omega⟩)
 (show ks.length - (i + 1) < ks.length - i; omega)
 refine M8 ?_
 (refine J6 zD0 (fun G5 hle5 hsl5 hno5 => ?_); obtain rfl : i = ks.length := zR0)
 refine tT ?_
 refine H8 (outs := [rd br pb nb cb p']) (rC rfl (A3 rfl rfl)) zS ?_
 (rw [List.take_length] at hsu hp2; refine ⟨p', by omega, by omega, rfl, .mk k us, _, rfl, (hst.mono hle5).ty hlu hsl5 hk, A93 ha hlu hau, by rw [M4]; omega, fun n hn => B4d hn hlu (hhu n hn)⟩)
theorem B4N {nm : ByteArray} (h : A0B nm = true) : nm.size = 1 := by
 unfold A0B at h
 simp at h
 omega
theorem A94 {k : Int} {nm : ByteArray} {num : Int} {ty fr : Ty} {lb : Int} {n : Nat} (h : Z2 k nm num ty fr lb n = true) : nm.size ≤ 1 := by
 obtain ⟨_, h2, h3, _⟩ := X5.1 h
 by_cases hk : k = 1 ∨ k = 5
 ·rw [B4N (h2 hk)]; omega
 ·rw [h3 hk]; decide
def RBd (G : IM) (e : List Value) : Prop := ∃ nm t q d, e = [.string nm, .int .i64 t.k, .slice q t.ks.length d] ∧ C7 G t [.int .i64 t.k, .slice q t.ks.length d] ∧ I4 t ∧ M4 t ≤ 30 ∧ nm.size ≤ 1
def GCx (G : IM) (p : Option Addr) (n c : Nat) : Prop := ∃ es, es.length = n ∧ D7 G p n c 3 es ∧ ∀ e ∈ es, RBd G e
theorem RBd.mono {G G' : IM} {e : List Value} (h : RBd G e) (hg : B9 G G') : RBd G' e := by
 obtain ⟨nm, t, q, d, h1, h2, h3, h4⟩ := h
 exact ⟨nm, t, q, d, h1, h2.mono hg, h3, h4⟩
theorem GCx.mono {G G' : IM} {p : Option Addr} {n c : Nat} (h : GCx G p n c) (hg : B9 G G') : GCx G' p n c := by
 obtain ⟨es, h1, h2, h3⟩ := h
 exact ⟨es, h1, h2.mono hg, fun e he => (h3 e he).mono hg⟩
theorem GCx.nil (G : IM) : GCx G none 0 0 := ⟨[], rfl, D7.nil _ _, by simp⟩
theorem At.drop {hp : List A7} {G : IM} {b o : Nat} {v : Value} {vs : List Value} (h : At hp G b o (v :: vs)) : At hp G b (o + 1) vs := by
 have key : ∀ {cs : List Value}, (∀ i u, (v :: vs)[i]? = some u → cs[o + i]? = some u) → ∀ i u, vs[i]? = some u → cs[o + 1 + i]? = some u := by
  intro cs hc i u hu
  have := hc (i + 1) u (by simpa using hu)
  rwa [show o + 1 + i = o + (i + 1) by omega]
 rcases h with ⟨cs, hm, hv⟩ | ⟨n, c, el, sz, cs, hm, hv⟩ | ⟨full, hg, hv⟩
 ·exact .inl ⟨cs, hm, key hv⟩
 ·exact .inr (.inl ⟨n, c, el, sz, cs, hm, key hv⟩)
 ·exact .inr (.inr ⟨full, hg, key hv⟩)
theorem GCx.get {G : IM} {p : Option Addr} {n c : Nat} (h : GCx G p n c) {i : Nat} (hi : i < n) :
  ∃ b o nm t q d, p = some ⟨b, o, none⟩ ∧ (∀ hp, At hp G b (o + i * 3) [.string nm, .int .i64 t.k, .slice q t.ks.length d]) ∧ C7 G t [.int .i64 t.k, .slice q t.ks.length d] ∧ I4 t ∧ M4 t ≤ 30 ∧ G b ≠ none ∧ nm.size ≤ 1 := by
 obtain ⟨es, h1, h2, h3⟩ := h
 obtain ⟨e, b, o, he, rfl, hl, _, hat, hgb⟩ := h2.get (i := i) zR0
 obtain ⟨nm, t, q, d, rfl, h5, h6, h7, h8⟩ := h3 e (List.mem_of_getElem? he)
 exact ⟨b, o, nm, t, q, d, rfl, hat, h5, h6, h7, hgb, h8⟩
theorem GCx.le {G : IM} {p : Option Addr} {n c : Nat} (h : GCx G p n c) : n ≤ 9223372036854775807 := by
 obtain ⟨es, h1, h2, h3⟩ := h
 exact h2.le
theorem B4O (G : IM) (p : Option Addr) (n c : Nat) (nm : ByteArray) (hx : GCx G p n c) :
  Fn Tryz.prog 103 [.slice p n c, .string nm] [] G (TyB 30 G) := by
 have hn := hx.le
 refine C0 Tryz.func103 rfl Tryz.ntmps103 Tryz.results103 rfl ?_
 intro w0
 refine A4 ?_
 refine sE (A6 rfl) rfl (fun b3 => ?_)
 refine E1 ?_
 refine sP (Q7 rfl rfl zR0 zR0) rfl rfl ?_
 refine C1 ?_
 refine C2 ?_
 (refine L8 (fun (i : Nat) => ⟨[(6, .int .i64 ((i : Int) - 1)), (0, .slice p n c), (1, .string nm), (4, .pointer (some ⟨b3, 0, none⟩))], [.blk b3 [.int .i64 0, .slice none 0 0]], G⟩) (fun i => i ≤ n) (fun i => i) n ?_ ?_ ?_)
 exact F8
 exact Nat.le_refl _
 (rintro i hi)
 refine B5 ?_
 refine sB (A1w rfl rfl) rfl rfl (fun h25 => ?_) (fun h25 => ?_)
 refine A9 ?_
 (show L3 _ _ (.block 1 _) _ _; obtain ⟨j, rfl⟩ : ∃ j, i = j + 1 := ⟨i - 1, by omega⟩; rw [show ((j + 1 : Nat) : Int) - 1 = (j : Int) from by omega]; obtain ⟨b, o, nm1, t1, q1, d1, rfl, hat, hr1, ha1, hs1, hgb, hns1⟩ := hx.get (i := j) zR0; refine C2 ?_)
 refine B5 ?_
 refine sP (B8 rfl rfl rfl zR0) rfl rfl ?_
 refine D8 ?_
 refine sL (I7 rfl rfl ((hat _).sub (j := 0) rfl)) rfl rfl ?_
 refine D8 ?_
 refine sB (A2F rfl rfl) rfl rfl (fun h41 => ?_) (fun h41 => ?_)
 refine B0 ?_
 refine sP (B8 rfl rfl rfl zR0) rfl rfl ?_
 refine D8 ?_
 refine sL (A5 rfl rfl (hat _).drop rfl) rfl rfl ?_
 (refine F4 rfl (Z9 _ G _ ha1.small hr1) rfl rfl (fun v G1 hle1 hh => ?_); obtain ⟨cs1, F1, rfl, hs1', hn1⟩ := hh; obtain ⟨p1, c1, rfl, _⟩ := hs1'.open; have hrr := hs1'.R.mono (E0.le G1 G))
 refine J2 ?_
 refine H3 (rC rfl (A3 rfl rfl)) (rT rfl) ?_
 (exact ⟨rfl, _, _, _, rfl, hrr, ha1, hs1⟩)
 refine E1 ?_
 refine sP (Q7 rfl rfl zR0 zR0) rfl rfl ?_
 refine A4 ?_
 refine J7 j ?_ ?_ ?_
 exact F8
 (show _ ≤ n; omega)
 exact Nat.le_refl _
 refine N3 ?_
 refine H3 (rC rfl (A3 rfl rfl)) (rT rfl) ?_
 (exact ⟨rfl, _, _, _, rfl, L9 _ ⟨by omega, by omega⟩, X6 zR0 zR0, by rw [A91]; omega⟩)
theorem A7z {G : IM} {nm : ByteArray} {k : Int} {ks : List Ty} {q : Option Addr} {d : Nat} (hr : C7 G (.mk k ks) [.int .i64 k, .slice q ks.length d]) (ha : I4 (.mk k ks)) (hs : M4 (.mk k ks) ≤ 30) (hn : nm.size ≤ 1) : RBd G [.string nm, .int .i64 k, .slice q ks.length d] := ⟨nm, .mk k ks, q, d, rfl, hr, ha, hs, hn⟩
theorem GCx.snoc {G G' : IM} {p p' : Option Addr} {n c c' : Nat} {es : List (List Value)} {e : List Value} (h1 : es.length = n) (h2 : D7 G p n c 3 es) (h3 : ∀ e ∈ es, RBd G e) (hg : B9 G G') (he : RBd G' e) (hs : Sl G' p' (n + 1) c' 3 (es.flatten ++ e)) : GCx G' p' (n + 1) c' := by
 refine ⟨es ++ [e], by simp [h1], D7.of (by simpa using hs) (by simp [h1]) ?_ ?_, ?_⟩
 ·intro x hx
  rcases List.mem_append.1 hx with hx | hx
  ·obtain ⟨_, _, _, _, rfl, _⟩ := h3 x hx; rfl
  ·obtain ⟨_, _, _, _, rfl, _⟩ := he
   simp only [List.mem_singleton] at hx; subst hx; rfl
 ·intro x hx
  rcases List.mem_append.1 hx with hx | hx
  ·obtain ⟨_, _, _, _, rfl, _⟩ := h3 x hx; simp [Value.oneCell']
  ·obtain ⟨_, _, _, _, rfl, _⟩ := he
   simp only [List.mem_singleton] at hx; subst hx; simp [Value.oneCell']
 ·intro x hx
  rcases List.mem_append.1 hx with hx | hx
  ·exact (h3 x hx).mono hg
  ·simp only [List.mem_singleton] at hx; subst hx; exact he
theorem B4P (G : IM) (p : Option Addr) (n c : Nat) (nm : ByteArray) (t : Ty) (cells : List Value) (hx : GCx G p n c) (hn : n ≤ 1000) (hr : C7 G t cells) (ha : I4 t) (hs : M4 t ≤ 30) (hnm : nm.size ≤ 1) :
  Fn Tryz.prog 123 [.slice p n c, .string nm, .agg ⟨cells⟩] [] G (N8 fun G' v => ∃ p' c', v = .slice p' (n + 1) c' ∧ GCx G' p' (n + 1) c') := by
 obtain ⟨k, ks⟩ := t
 obtain ⟨q, d, es0, rfl, _⟩ := hr.open
 simp only [Ty.k, Ty.ks] at hr ⊢
 obtain ⟨es, h1, h2, h3⟩ := hx
 have hSl : Sl G p n c 3 es.flatten := h2.1
 have h1c : ∀ u ∈ es.flatten, u.oneCell' = true := by
  intro u hu
  obtain ⟨e, he, hue⟩ := List.mem_flatten.1 hu
  obtain ⟨_, _, _, _, rfl, _⟩ := h3 e he
  simp only [List.mem_cons, List.not_mem_nil, or_false] at hue
  rcases hue with rfl | rfl | rfl <;> rfl
 refine C0 Tryz.func123 rfl Tryz.ntmps123 Tryz.results123 rfl ?_
 intro w0
 refine A4 ?_
 refine sE (B6 rfl rfl) rfl (fun b3 => ?_)
 refine B5 ?_
 refine D3 D4 rfl ?_
 refine J4 (i := 1) (l' := [ff,tt,ff,ff,ff,ff,ff,ff,ff]) rfl C8 (qM rfl) rfl zP0 rfl rfl ?_
 refine aP 3 rfl (qM rfl) rfl ?_
 refine aL 4 rfl (A3 rfl rfl) rfl ?_
 refine aP 5 rfl (pBd rfl rfl) rfl ?_
 refine P6 (j := 0) (j' := 6) zP0 ?_ ?_
 (refine D2 rfl (D1 rfl rfl rfl zR0 zL0 rfl) rfl rfl ?_; rintro _ ⟨b14, rfl⟩)
 refine P6 (j := 2) (j' := 6) zP0 ?_ ?_
 (refine Z3 rfl rfl rfl rfl rfl rfl (fun _ _ => by repeat (first | exact Sw.here | apply Sw.there)) hSl h1c (Nat.zero_le _) zL0 zR0 rfl rfl zR (fun p4 c4 => ?_); simp only [Nat.zero_add, List.nil_append])
 refine A2 6 ?_
 (refine D2 rfl (D1 rfl rfl rfl zR0 zL0 rfl) rfl rfl ?_; rintro _ ⟨b18, rfl⟩)
 exact y100
 (refine D2 rfl (D1 rfl rfl rfl zR0 zL0 rfl) rfl rfl ?_; rintro _ ⟨b28, rfl⟩)
 refine A2 2 ?_
 (refine Z3 rfl rfl rfl rfl rfl rfl (fun _ _ => by repeat (first | exact Sw.here | apply Sw.there)) hSl h1c (Nat.zero_le _) zL0 zR0 rfl rfl zR (fun p4 c4 => ?_); simp only [Nat.zero_add, List.nil_append])
 exact y100
 (refine D2 rfl (D1 rfl rfl rfl zR0 zL0 rfl) rfl rfl ?_; rintro _ ⟨b40, rfl⟩)
 refine A2 0 ?_
 (refine D2 rfl (D1 rfl rfl rfl zR0 zL0 rfl) rfl rfl ?_; rintro _ ⟨b42, rfl⟩)
 refine A2 2 ?_
 (refine Z3 rfl rfl rfl rfl rfl rfl (fun _ _ => by repeat (first | exact Sw.here | apply Sw.there)) hSl h1c (Nat.zero_le _) zL0 zR0 rfl rfl zR (fun p4 c4 => ?_); simp only [Nat.zero_add, List.nil_append])
 exact y100
theorem B4Q (G : IM) : Fn Tryz.prog 90 [.slice none 0 0] [] G (K7 (.bool true) G) := by
 refine C0 Tryz.func90 rfl Tryz.ntmps90 Tryz.results90 rfl ?_
 intro w0
 refine M7 ?_
 refine C2 ?_
 (refine L8 (fun (_ : Nat) => ⟨[(3, .int .i64 0), (0, .slice none 0 0)], [], G⟩) (fun _ => True) (fun i => i) 0 ?_ ?_ ?_)
 ·exact F8
 ·trivial
 ·(rintro i _)
  refine A9 ?_
  refine sP (A1U rfl rfl zR0) rfl rfl ?_
  refine O3 ?_
  refine sP (A8M rfl rfl zR0) rfl rfl ?_
  refine A8 ?_
  trivial
theorem A50 {k : Int} {n : Nat} (h : E8 k = n) : (k = 6 ∨ k = 7 ∨ k = 8 ∨ k = 10 → n = 2) ∧ (k = 9 → n = 3) ∧ (k = 5 ∨ k = 11 ∨ k = 12 ∨ k = 13 → n = 1) := by
 refine ⟨?_, ?_, ?_⟩
 ·rintro (rfl | rfl | rfl | rfl)
  ·rw [show E8 6 = 2 from rfl] at h; omega
  ·rw [show E8 7 = 2 from rfl] at h; omega
  ·rw [show E8 8 = 2 from rfl] at h; omega
  ·rw [show E8 10 = 2 from rfl] at h; omega
 ·rintro rfl
  rw [show E8 9 = 3 from rfl] at h; omega
 ·rintro (rfl | rfl | rfl | rfl)
  ·rw [show E8 5 = 1 from rfl] at h; omega
  ·rw [show E8 11 = 1 from rfl] at h; omega
  ·rw [show E8 12 = 1 from rfl] at h; omega
  ·rw [show E8 13 = 1 from rfl] at h; omega
theorem B4R : ∀ (t : Ty) (d : Int), M9 t d = true → I4 t := by
 refine Ty.ind fun k ks ih d h => ?_
 obtain ⟨h1, h2⟩ := A7l h
 rw [I4]
 refine ⟨fun hk => ?_, fun h4 h5 => ?_, A4L.2 fun t ht => ?_⟩
 ·have := (Q0 k).2.1 hk
  omega
 ·have h5' := Q0 k
  have h6 := h5'.1
  have h7 := h5'.2.2
  omega
 ·obtain ⟨i, hi, rfl⟩ := List.getElem_of_mem ht
  exact ih _ ht _ (h2 i hi)
theorem B4S : ∀ (n : Nat) (t : Ty) (d : Int), M9 t d = true → 4 - d ≤ n → T8 n t := by
 intro n
 induction n with
 | zero =>
  rintro ⟨k, ks⟩ d h hd
  obtain ⟨h1, h2⟩ := A7l h
  have hks : ks.length = 0 := by
   rcases Nat.eq_zero_or_pos ks.length with h0 | h0
   ·exact h0
   ·have h3 := h2 0 h0
    obtain ⟨k', ks'⟩ : Ty := ks[0]
    have h4 : ∀ (u : Ty) (d : Int), M9 u d = true → d ≤ 4 := by
     rintro ⟨a, b⟩ d hu
     rw [M9] at hu
     simp only [Bool.and_eq_true, decide_eq_true_eq] at hu
     exact hu.1.1
    have := h4 _ _ h3
    omega
  have h5 := Q0 k
  have h6 := h5.2.1
  exact ⟨List.length_eq_zero_iff.1 hks, by intro h; have := h6 (.inl h); omega, by intro h; have := h6 (.inr h); omega⟩
 | succ n ih =>
  rintro ⟨k, ks⟩ d h hd
  have ha := B4R _ _ h
  rw [I4] at ha
  obtain ⟨h1, h2⟩ := A7l h
  refine ⟨ha.1, ha.2.1, fun t ht => ?_⟩
  obtain ⟨i, hi, rfl⟩ := List.getElem_of_mem ht
  exact ih _ _ (h2 i hi) zR0
theorem A2R {t : Ty} (h : H9 t = true) : I4 t ∧ M4 t ≤ 30 := by
 have h1 := B4S 3 t 1 h zR0
 have h2 := A5T h1
 have h3 : ((2 ^ (3 + 1) - 2 : Nat) : Int) = 14 := rfl
 exact ⟨h1.ar, by omega⟩
theorem B4T {t : Ty} (h : A0A t = true) : I4 t ∧ M4 t ≤ 30 := by
 rw [A2O h]
 exact ⟨X6 zQ0 zQ0, by rw [B4, A91]; omega⟩
theorem A51 {k : Int} {nm : ByteArray} {num : Int} {ty fr : Ty} {lb : Int} {n : Nat} (h : Z2 k nm num ty fr lb n = true) : I4 ty ∧ M4 ty ≤ 30 := by
 have hn := X5.1 h
 by_cases hk : k = 5 ∨ k = 13 ∨ k = 14
 ·exact A2R (hn.2.2.2.2.2.1 hk)
 ·exact B4T (hn.2.2.2.2.2.2.1 hk)
theorem B7.of9 {G : IM} {k : Int} {nm : ByteArray} {num tk fk : Int} {tks fks : List Ty} {lb : Int} {ks : List Tm} {q1 q2 q3 : Option Addr} {c1 c2 c3 : Nat} {es : List (List Value)} (hk : H6 k) (hnum : H6 num) (hlb : H6 lb) (hty : C7 G (.mk tk tks) [.int .i64 tk, .slice q1 tks.length c1])
  (hfr : C7 G (.mk fk fks) [.int .i64 fk, .slice q2 fks.length c2]) (hsl : D7 G q3 ks.length c3 9 es) (hkl : F9 G ks es) :
  B7 G (.mk k nm num (.mk tk tks) (.mk fk fks) lb ks) [.int .i64 k, .string nm, .int .i64 num, .int .i64 tk, .slice q1 tks.length c1, .int .i64 fk, .slice q2 fks.length c2, .int .i64 lb, .slice q3 ks.length c3] := by
 simp only [B7]
 exact ⟨_, _, q3, c3, es, rfl, hk, hnum, hlb, hty, hfr, hsl, hkl⟩
theorem A3D {k k' : Int} {nm nm' : ByteArray} {num num' : Int} {ty fr ty' fr' : Ty} {lb lb' : Int} {ks : List Tm} (h : (Tm.mk k nm num ty fr lb ks).small) (h1 : nm'.size ≤ 4294967296) (h2 : ty'.small) (h3 : fr'.small) : (Tm.mk k' nm' num' ty' fr' lb' ks).small := by
 simp only [Tm.small] at h ⊢
 exact ⟨h1, h2, h3, h.2.2.2⟩
def Tm.fit (t : Tm) (N : Nat) : Prop := t.small ∧ E4 t ≤ N
theorem B4U (br : Nat) (pb : Option Addr) (nb cb : Nat) (bs : List UInt8) (hnb : nb ≤ 2000) (p : Nat) (G : IM) (hb : Sl G pb nb cb 1 (R4 bs)) (hp : p + 100 < 1099511627776) (t : Tm) (cells : List Value) (N : Nat) (hfit : t.fit N) (hr : B7 G t cells) :
  Fn Tryz.prog 38 [.pointer (some ⟨br, 0, none⟩), .agg ⟨cells⟩] [rd br pb nb cb p] G
   (A1o br pb nb cb p 40 (fun G' v => ∃ t cells, v = .agg ⟨cells⟩ ∧ B7 G' t cells ∧ t.fit N)) := by
 have hl := hr.len
 have hone := hr.one
 obtain ⟨k, nm, num, ⟨tk, tks⟩, ⟨fk, fks⟩, lb, ks⟩ := t
 have hfit0 := hfit
 obtain ⟨hsm, hcn⟩ := hfit0
 replace hfit : (Tm.mk k nm num (.mk tk tks) (.mk fk fks) lb ks).small ∧ E4 (Tm.mk k nm num (.mk tk tks) (.mk fk fks) lb ks) ≤ N := hfit
 rw [show (Tm.mk k nm num (.mk tk tks) (.mk fk fks) lb ks).small = (nm.size ≤ 4294967296 ∧ (Ty.mk tk tks).small ∧ (Ty.mk fk fks).small ∧ ks.length ≤ 4294967296 ∧ Tm.smallL ks) from by rw [Tm.small]] at hfit
 refine C0 Tryz.func38 rfl Tryz.ntmps38 Tryz.results38 rfl ?_
 intro w0
 refine A4 ?_
 refine sE (B6 rfl rfl) rfl (fun b3 => ?_)
 refine sE (A6 rfl) rfl (fun b4 => ?_)
 refine B5 ?_
 refine sL (A5 rfl rfl (B3 zI0) zO0) rfl rfl ?_
 (refine F4 rfl (B4b _ G cells hsm hr) rfl rfl (fun v G1 hle1 hh => ?_); obtain ⟨cells1, F1, rfl, hs1, hn1⟩ := hh; have hr1 := hs1.R.mono (E0.le G1 G); obtain ⟨q1, c1, q2, c2, q3, c3, es, rfl, hk, hnum, hlb, hty, hfr, hsl, hkl⟩ := hr1.open9)
 refine sE (A6 rfl) rfl (fun b11 => ?_)
 refine B0 ?_
 (refine L5 rfl (A0C _ br pb nb cb p bs 50 (hb.mono hle1) hnb zR0) (Pk.perm zD0) rfl rfl (fun v G2 outs hle2 hh => ?_); obtain ⟨rfl, rfl, j, rfl, hj0, hj1⟩ := hh; replace hb := hb.mono hle1)
 refine A4 ?_
 (show L3 _ _ (.block 0 _) _ _; refine A0V (fun (x : List Value × Nat × IM) => ⟨[(5, .pointer (some ⟨b11, 0, none⟩)), (4, .pointer (some ⟨b4, 0, none⟩))], [.blk b11 x.1, .blk b4 [.int .i64 0, .string ⟨⟨[]⟩⟩, .int .i64 0, .int .i64 0, .slice none 0 0, .int .i64 0, .slice none 0 0, .int .i64 0, .slice none 0 0], rd br pb nb cb x.2.1], x.2.2⟩) (fun x => B9 G2 x.2.2 ∧ p ≤ x.2.1 ∧ x.2.1 ≤ p + 40 ∧ ∃ t, B7 x.2.2 t x.1 ∧ t.small ∧ E4 t = E4 (.mk k nm num (.mk tk tks) (.mk fk fks) lb ks)) ?_ ?_)
 refine C2 (tS (tR (sB (qE rfl rfl) rfl rfl (fun h26 => ?_) (fun h26 => ?_))))
 refine A9 ?_
 (refine J8 (D1 rfl rfl rfl zR0 zL0 rfl) rfl ?_; rintro _ ⟨b33, rfl⟩)
 (refine X9 zD0 (fun G4 hle4 hsl4 _ => ?_); refine L5 rfl (A08 G4 br pb nb cb (p + 1) bs _ _ _ _ (hb.mono hle4) hnb zR0 hsl4 zQ0) (Pk.perm zD0) rfl rfl (fun v G5 outs hle5 hh => ?_); obtain ⟨rfl, rfl, hv⟩ := hh; obtain ⟨k', rfl, hk'⟩ : ∃ k', v = .int .i64 k' ∧ H6 k' := zU)
 refine B5 ?_
 refine O7 ([.int .i64 k', .string nm, .int .i64 num, .int .i64 tk, .slice q1 tks.length c1, .int .i64 fk, .slice q2 fks.length c2, .int .i64 lb, .slice q3 ks.length c3], p + 1 + 1, G5) (I6 zC0 zV) ?_
 (dsimp only; exact ⟨hle4, by omega, by omega, _, B7.of9 hk' hnum hlb (hty.mono hle4) (hfr.mono hle4) (hsl.mono hle4) (hkl.mono hle4), A3D hsm hfit.1.1 hfit.1.2.1 hfit.1.2.2.1, rfl⟩)
 refine A9 ?_
 refine sB (qE rfl rfl) rfl rfl (fun h47 => ?_) (fun h47 => ?_)
 refine A9 ?_
 (refine J8 (D1 rfl rfl rfl zR0 zL0 rfl) rfl ?_; rintro _ ⟨b54, rfl⟩)
 (refine X9 zD0 (fun G4 hle4 hsl4 _ => ?_); refine L5 rfl (A7h G4 br pb nb cb (p + 1) bs _ _ _ _ (hb.mono hle4) hnb zR0 hsl4 zQ0) (Pk.perm zD0) rfl rfl (fun v G5 outs hle5 hh => ?_); obtain ⟨rfl, rfl, hv⟩ := hh; obtain ⟨nm', rfl, hnm'⟩ : ∃ nm', v = .string nm' ∧ nm'.size ≤ 2 := (by simp only [List.mem_cons, List.not_mem_nil, or_false] at hv; rcases hv with rfl | rfl | rfl | rfl <;> exact ⟨_, rfl, by decide⟩))
 refine B5 ?_
 refine O7 ([.int .i64 k, .string nm', .int .i64 num, .int .i64 tk, .slice q1 tks.length c1, .int .i64 fk, .slice q2 fks.length c2, .int .i64 lb, .slice q3 ks.length c3], p + 1 + 1, G5) (I6 zC0 zV) ?_
 (dsimp only; exact ⟨hle4, by omega, by omega, _, B7.of9 hk hnum hlb (hty.mono hle4) (hfr.mono hle4) (hsl.mono hle4) (hkl.mono hle4), A3D hsm zR0 hfit.1.2.1 hfit.1.2.2.1, rfl⟩)
 refine A9 ?_
 refine sB (qE rfl rfl) rfl rfl (fun h68 => ?_) (fun h68 => ?_)
 refine A9 ?_
 (refine J8 (D1 rfl rfl rfl zR0 zL0 rfl) rfl ?_; rintro _ ⟨b75, rfl⟩)
 (refine X9 zD0 (fun G4 hle4 hsl4 _ => ?_); refine L5 rfl (A08 G4 br pb nb cb (p + 1) bs _ _ _ _ (hb.mono hle4) hnb zR0 hsl4 zQ0) (Pk.perm zD0) rfl rfl (fun v G5 outs hle5 hh => ?_); obtain ⟨rfl, rfl, hv⟩ := hh; obtain ⟨k', rfl, hk'⟩ : ∃ k', v = .int .i64 k' ∧ H6 k' := zU)
 refine B5 ?_
 refine O7 ([.int .i64 k, .string nm, .int .i64 k', .int .i64 tk, .slice q1 tks.length c1, .int .i64 fk, .slice q2 fks.length c2, .int .i64 lb, .slice q3 ks.length c3], p + 1 + 1, G5) (I6 zC0 zV) ?_
 (dsimp only; exact ⟨hle4, by omega, by omega, _, B7.of9 hk hk' hlb (hty.mono hle4) (hfr.mono hle4) (hsl.mono hle4) (hkl.mono hle4), A3D hsm hfit.1.1 hfit.1.2.1 hfit.1.2.2.1, rfl⟩)
 refine A9 ?_
 refine sB (qE rfl rfl) rfl rfl (fun h89 => ?_) (fun h89 => ?_)
 refine B0 ?_
 (refine L5 rfl (B4z br pb nb cb bs hnb (p + 1) _ hb zR0) (Pk.perm zD0) rfl rfl (fun v G3 outs hle3 hh => ?_); obtain ⟨p3, hp31, hp32, rfl, t3, cells3, rfl, hr3, hs3⟩ := hh)
 (refine L5 rfl (B4B br pb nb cb bs hnb p3 _ (hb.mono hle3) zR0 t3 cells3 hr3 hs3) (Pk.perm zD0) rfl rfl (fun v G4 outs hle4 hh => ?_); obtain ⟨p4, hp41, hp42, rfl, t4, cells4, rfl, hr4, hs4⟩ := hh; have hts4 := A4G t4 zR0; obtain ⟨t4k, t4s⟩ := t4; obtain ⟨q4, c4, es4, rfl, _⟩ := hr4.open; have hle24 := hle3.trans hle4)
 refine B5 ?_
 refine O7 ([.int .i64 k, .string nm, .int .i64 num, .int .i64 t4k, .slice q4 t4s.length c4, .int .i64 fk, .slice q2 fks.length c2, .int .i64 lb, .slice q3 ks.length c3], p4, G4) (I6 zC0 zV) ?_
 (dsimp only; exact ⟨hle24, by omega, by omega, _, B7.of9 hk hnum hlb hr4 (hfr.mono hle24) (hsl.mono hle24) (hkl.mono hle24), A3D hsm hfit.1.1 hts4 hfit.1.2.2.1, rfl⟩)
 refine A9 ?_
 refine sB (qE rfl rfl) rfl rfl (fun h111 => ?_) (fun h111 => ?_)
 refine E7 ?_
 refine O7 ([.int .i64 k, .string nm, .int .i64 num, .int .i64 tk, .slice q1 tks.length c1, .int .i64 fk, .slice q2 fks.length c2, .int .i64 1, .slice q3 ks.length c3], p + 1, G2) (I6 zC0 zV) ?_
 (dsimp only; exact ⟨B9.refl _, by omega, by omega, _, B7.of9 hk hnum ⟨by omega, by omega⟩ hty hfr hsl hkl, A3D hsm hfit.1.1 hfit.1.2.1 hfit.1.2.2.1, rfl⟩)
 refine A9 ?_
 refine sB (qE rfl rfl) rfl rfl (fun h129 => ?_) (fun h129 => ?_)
 refine A8 ?_
 refine H4 rfl ((A2M _)) rfl rfl ?_
 refine B5 ?_
 refine O7 ([.int .i64 k, .string nm, .int .i64 num, .int .i64 tk, .slice q1 tks.length c1, .int .i64 1, .slice none 0 0, .int .i64 lb, .slice q3 ks.length c3], p + 1, G2) (I6 zC0 zV) ?_
 (dsimp only; exact ⟨B9.refl _, by omega, by omega, _, B7.of9 hk hnum hlb hty (A1G _) hsl hkl, A3D hsm hfit.1.1 hfit.1.2.1 (by simp [Ty.small, Ty.smallL]), rfl⟩)
 refine A9 ?_
 refine O7 ([.int .i64 k, .string nm, .int .i64 num, .int .i64 tk, .slice q1 tks.length c1, .int .i64 fk, .slice q2 fks.length c2, .int .i64 lb, .slice q3 ks.length c3], p + 1, G2) (I6 zC0 zV) ?_
 (dsimp only; exact ⟨B9.refl _, by omega, by omega, _, B7.of9 hk hnum hlb hty hfr hsl hkl, A3D hsm hfit.1.1 hfit.1.2.1 hfit.1.2.2.1, rfl⟩)
 (rintro ⟨cells9, p9, G9⟩ ⟨hle9, hp9, hp9', t9, hr9, hs9, hc9⟩; simp only [] at hle9 hp9 hp9' hr9 hs9 hc9 ⊢; have hl9 := hr9.len; have ho9 := hr9.one)
 refine A4 ?_
 refine sL (A5 rfl rfl (B3 zI0) hl9) rfl rfl ?_
 refine sS rfl rfl rfl hl9 ho9 rfl ?_ (hu := by exact C6 hl9.symm)
 refine C1 ?_
 refine H8 (outs := [rd br pb nb cb p9]) (rC rfl (A5 rfl rfl (B3 zI0) hl9)) zS ?_
 (exact ⟨p9, by omega, by omega, rfl, t9, cells9, rfl, hr9, hs9, by omega⟩)
def TyV (e : Tm) (G : IM) : IM → Value → List A7 → Prop := N8 fun G' v => ∃ t cells b, v = .tuple ⟨[.agg ⟨cells⟩, .bool b]⟩ ∧ C7 G' t cells ∧ I4 t ∧ M4 t ≤ 960 ∧ (b = true → M3 e = true)
theorem B4V {G : IM} {e : Tm} {ce : List Value} {p : Option Addr} {c : Nat} (hr : B7 G e ce) (hs : Sl G p 1 c 9 ce) : D7 G p [e].length c 9 [ce] ∧ F9 G [e] [ce] := by
 refine ⟨D7.of (by simpa using hs) rfl (fun x hx => by simp only [List.mem_singleton] at hx; subst hx; exact hr.len) (fun x hx => by simp only [List.mem_singleton] at hx; subst hx; exact hr.one), ?_⟩
 simp only [F9]
 exact ⟨ce, [], rfl, hr, rfl⟩
def B9y (e : Tm) (label : Int) (G : IM) : IM → Value → List A7 → Prop := N8 fun G' v => ∃ u cu l', v = .tuple ⟨[.agg ⟨cu⟩, .int .i64 l']⟩ ∧ B7 G' u cu ∧ (e.small → u.small) ∧ E4 u ≤ E4 e + 1 ∧ label ≤ l' ∧ l' ≤ label + 1
def B9z (n : Nat) (G : IM) : IM → Value → List A7 → Prop := N8 fun G' v => ∃ p c es ws, v = .slice p n c ∧ ws.length = n ∧ D7 G' p n c 2 es ∧ D9 G' ws es ∧ ∀ w ∈ ws, I4 w
theorem F9.at2 {G : IM} {ts : List Tm} {es : List (List Value)} {i : Nat} (h : F9 G ts es) (h1 : i < ts.length) (h2 : i < es.length) : i < es.length ∧ B7 G ts[i] es[i] := by
 have := (h.inv (List.getElem?_eq_getElem h2) I8).2
 rw [List.getD_eq_getElem?_getD, List.getElem?_eq_getElem h1] at this
 exact ⟨h2, this⟩
theorem A95 {hp : List A7} {G : IM} {b sz i : Nat} {es : List (List Value)} {C : List Value} (hm : A7.blk b (es.flatten ++ C) ∈ hp) (hi : i < es.length) (ha : ∀ e ∈ es, e.length = sz) : At hp G b (0 + i * sz) es[i] := by
 refine .inl ⟨_, hm, fun j u hu => ?_⟩
 rw [A9S hi, List.append_assoc, List.append_assoc]
 have hl : (es.take i).flatten.length = i * sz := by
  rw [A1y (fun e he => ha e (List.mem_of_mem_take he)), List.length_take, Nat.min_eq_left zR0]
 have hj : j < es[i].length := (List.getElem?_eq_some_iff.1 hu).1
 rw [List.getElem?_append_right zR0, show 0 + i * sz + j - (es.take i).flatten.length = j by omega, List.getElem?_append_left hj]
 exact hu
def B9A (e : Tm) (label : Int) (G : IM) : IM → Value → List A7 → Prop := N8 fun G' v => ∃ u cu t ct l', v = .tuple ⟨[.agg ⟨cu⟩, .agg ⟨ct⟩, .int .i64 l']⟩ ∧ B7 G' u cu ∧ u.small ∧ E4 u + 1 ≤ 2 * E4 e ∧ C7 G' t ct ∧ I4 t ∧ M4 t ≤ 32 * (E4 e : Int) ∧ label ≤ l' ∧ l' + 1 ≤ label + 2 * (E4 e : Int)
def A1J (t : Ty) : Ty := if t.k = 4 ∨ t.k = 5 then .mk t.k [S0, S0] else .mk t.k []
def A0h (t : Ty) : Bool := decide (t.k ≠ 1) && T3 t (A1J t)
def prx (t : Tm) : Bool := decide (t.k = 14 ∧ t.fr.k = t.ty.k ∧ (t.ty.k = 4 ∨ t.ty.k = 5))
def inj (t : Tm) : Bool := decide (t.k = 14 ∧ t.ty.k = 1) && A0h t.fr
mutual
def H7 : Tm → Bool
 | .mk k nm num ty fr lb ks => if k = 10 ∨ (k = 14 ∧ fr.k = ty.k ∧ (ty.k = 4 ∨ ty.k = 5)) ∨ (k = 14 ∧ ty.k = 1 ∧ A0h fr = true) then A11 ks else decide (k = 2 ∨ k = 3 ∨ k = 4 ∨ k = 5)
def A11 : List Tm → Bool
 | [] => true
 | t :: ts => H7 t && A11 ts
end
mutual
def A0o (x : ByteArray) (v : Tm) : Tm → Tm
 | .mk k nm num ty fr lb ks => if k = 1 ∧ nm = x then v else if k = 5 ∧ nm = x then .mk k nm num ty fr lb ks else .mk k nm num ty fr lb (A0i x v ks)
def A0i (x : ByteArray) (v : Tm) : List Tm → List Tm
 | [] => []
 | t :: ts => A0o x v t :: A0i x v ts
end
theorem A7A (x : ByteArray) (v : Tm) : ∀ ks, A0i x v ks = ks.map (A0o x v)
 | [] => rfl
 | t :: ts => by rw [A0i, A7A x v ts, List.map_cons]
def S5 (e : Tm) (fr to : Ty) (lb : Int) : Tm := .mk 14 ⟨#[]⟩ 0 to fr lb [e]
def A1K (k : Int) (ks : List Tm) : Tm := .mk k ⟨#[]⟩ 0 B4 B4 0 ks
def A52 (n : Int) : Tm := .mk 2 ⟨#[]⟩ n B4 B4 0 []
def A1L (b : Prop) [Decidable b] : Tm := A1K (if b then 3 else 4) []
abbrev Stp := Tm × Int × Int
def Z6 : Stp := (I8, 3, 0)
def kd (ks : List Tm) (i : Nat) : Tm := ks.getD i I8
def kt (ks : List Ty) (i : Nat) : Ty := ks.getD i B4
def A0w (k : Int) (ty fr : Ty) (lb : Int) (ks : List Tm) : Stp :=
 if k = 6 then
  (if (kd ks 0).k = 5 then (A0o (kd ks 0).nm (kd ks 1) (kd (kd ks 0).ks 0), 1, 0)
   else if prx (kd ks 0) = true ∧ (kd ks 0).ty.k = 4 then (S5 (A1K 6 [kd (kd ks 0).ks 0, S5 (kd ks 1) (kt (kd ks 0).ty.ks 0) (kt (kd ks 0).fr.ks 0) (-(kd ks 0).lb)]) (kt (kd ks 0).fr.ks 1) (kt (kd ks 0).ty.ks 1) (kd ks 0).lb, 1, 0)
   else Z6)
 else if k = 7 ∨ k = 8 then
  (if (kd ks 0).k = 2 ∧ (kd ks 1).k = 2 then (if k = 7 then A52 (((kd ks 0).num + (kd ks 1).num) % 1000) else A1L ((kd ks 0).num < (kd ks 1).num), 1, 0) else Z6)
 else if k = 9 then (if (kd ks 0).k = 3 then (kd ks 1, 1, 0) else if (kd ks 0).k = 4 then (kd ks 2, 1, 0) else Z6)
 else if k = 11 ∨ k = 12 then
  (if (kd ks 0).k = 10 then (kd (kd ks 0).ks (k - 11).toNat, 1, 0)
   else if prx (kd ks 0) = true ∧ (kd ks 0).ty.k = 5 then (S5 (A1K k [kd (kd ks 0).ks 0]) (kt (kd ks 0).fr.ks (k - 11).toNat) (kt (kd ks 0).ty.ks (k - 11).toNat) (kd ks 0).lb, 1, 0)
   else Z6)
 else if k = 14 then
  (if fr.k = ty.k then (kd ks 0, 1, 0)
   else if ty.k = 1 then (S5 (S5 (kd ks 0) fr (A1J fr) lb) (A1J fr) ty lb, 1, 0)
   else if A0h ty = false then (S5 (S5 (kd ks 0) fr (A1J ty) lb) (A1J ty) ty lb, 1, 0)
   else if inj (kd ks 0) = false then Z6
   else if (kd ks 0).fr.k = ty.k then (kd (kd ks 0).ks 0, 1, 0)
   else (I8, 2, lb))
 else Z6
mutual
def K3 : Tm → Stp
 | .mk k nm num ty fr lb ks => match Y8 (if k = 9 then 1 else ks.length) ks with
  | some (ks', c, l) => if c = 1 then (.mk k nm num ty fr lb ks', 1, 0) else (I8, c, l)
  | none => A0w k ty fr lb ks
def Y8 : Nat → List Tm → Option (List Tm × Int × Int)
 | _, [] => none
 | n, t :: ts => match n with
  | 0 => none
  | n + 1 => if H7 t = true then (match Y8 n ts with
    | some (us, c, l) => some (t :: us, c, l)
    | none => none)
   else some ((K3 t).1 :: ts, (K3 t).2.1, (K3 t).2.2)
end
def L7 (e : Tm) : Stp :=
 if O9 e = false then Z6 else if H7 e = true then (e, 0, 0)
 else if (K3 e).2.1 ≠ 1 then (I8, (K3 e).2.1, (K3 e).2.2)
 else if O9 (K3 e).1 = false then (I8, 4, 0) else ((K3 e).1, 1, 0)
def T4 : Nat → Tm → Tm × Int × Int × Nat
 | 0, e => if (L7 e).2.1 = 1 then (I8, 5, 0, 0) else ((L7 e).1, (L7 e).2.1, (L7 e).2.2, 0)
 | n + 1, e => if (L7 e).2.1 = 1 then ((T4 n (L7 e).1).1, (T4 n (L7 e).1).2.1, (T4 n (L7 e).1).2.2.1, (T4 n (L7 e).1).2.2.2 + 1)
  else ((L7 e).1, (L7 e).2.1, (L7 e).2.2, 0)
def Y3 (e : Tm) (fuel : Int) : Stp := if 0 ≤ fuel ∧ fuel ≤ 300 then ((T4 fuel.toNat e).1, (T4 fuel.toNat e).2.1, (T4 fuel.toNat e).2.2.1) else Z6
def B9B (e : Tm) (fuel : Int) : Int := if 0 ≤ fuel ∧ fuel ≤ 300 then ((T4 fuel.toNat e).2.2.2 : Int) else 0
structure CvN (k : Int) (nm : ByteArray) (num : Int) (ty fr : Ty) (lb : Int) (ks : List Tm) : Prop where
 ops : E8 k = ks.length
 ne : k ≠ 13
 nm1 : nm.size ≤ 1
 num0 : 0 ≤ num ∧ num ≤ 999
 tyA : I4 ty
 frA : I4 fr
 lbB : -99 ≤ lb ∧ lb ≤ 99
 c14 : k = 14 → N6 fr ty = true ∧ H9 ty = true ∧ H9 fr = true
 ty5 : ¬(k = 5 ∨ k = 14) → ty = B4
 fr14 : k ≠ 14 → fr = B4 ∧ lb = 0
def cv (t : Tm) : Prop := ∃ d, L6 40 13 t d = true
theorem A4Y {n lo hi : Int} : V1 n lo hi = true ↔ lo ≤ n ∧ n ≤ hi := by unfold V1; rw [decide_eq_true_eq]
theorem cv.node {k : Int} {nm : ByteArray} {num : Int} {ty fr : Ty} {lb : Int} {ks : List Tm} (h : cv (.mk k nm num ty fr lb ks)) : CvN k nm num ty fr lb ks ∧ ∀ t ∈ ks, cv t := by
 obtain ⟨d, h⟩ := h
 obtain ⟨_, h2, h3, h4⟩ := A0b h
 obtain ⟨n1, n2, n3, n4, n5, n6, n7, n8, n9⟩ := X5.1 h3
 refine ⟨⟨n1, h2, A94 h3, ?_, (A51 h3).1, ?_, ?_, ?_, ?_, ?_⟩, fun t ht => ?_⟩
 ·by_cases hk : k = 2
  ·exact A4Y.1 (n4 hk)
  ·have := A4Y.1 (n5 hk); omega
 ·by_cases hk : k = 14
  ·have := (n8 hk).1
   simp only [A2f, Bool.and_eq_true] at this
   exact (A2R this.1.1).1
  ·rw [A2O (n9 hk).1]; exact X6 zQ0 zQ0
 ·by_cases hk : k = 14
  ·have := (n8 hk).2
   simp only [A2K, Bool.or_eq_true, A4Y] at this
   omega
  ·have := (n9 hk).2; omega
 ·intro hk
  have := (n8 hk).1
  simp only [A2f, Bool.and_eq_true] at this
  exact ⟨this.2, this.1.2, this.1.1⟩
 ·intro hk
  exact A2O (n7 zR0)
 ·intro hk
  exact ⟨A2O (n9 hk).1, (n9 hk).2⟩
 ·obtain ⟨i, hi, rfl⟩ := List.mem_iff_getElem.1 ht
  exact ⟨_, (A2N 40 13 ks _).1 h4 i hi⟩
theorem A3E {t : Tm} (h : O9 t = true) : cv t ∧ E4 t ≤ 200 := by
 obtain ⟨h1, h2⟩ := (A33 t).1 h
 exact ⟨⟨1, h1⟩, h2⟩
mutual
theorem A4Z : ∀ (t : Tm), cv t → t.small
 | .mk k nm num ty fr lb ks, h => by
  obtain ⟨hn, hk⟩ := h.node
  rw [Tm.small]
  refine ⟨by have := hn.nm1; omega, hn.tyA.small, hn.frA.small, ?_, A96 ks hk⟩
  have := A27 k
  have := hn.ops
  omega
theorem A96 : ∀ (ts : List Tm), (∀ t ∈ ts, cv t) → Tm.smallL ts
 | [], _ => by rw [Tm.smallL]; trivial
 | t :: ts, h => by
  rw [Tm.smallL]
  exact ⟨A4Z t (h t List.mem_cons_self), A96 ts fun u hu => h u (List.mem_cons_of_mem _ hu)⟩
end
theorem A0p (k : Int) (nm : ByteArray) (num : Int) (ty fr : Ty) (lb : Int) (ks : List Tm) : E4 (.mk k nm num ty fr lb ks) = H0 ks + 1 := by rw [E4]
theorem A37 {k : Int} {nm : ByteArray} {num : Int} {ty fr : Ty} {lb : Int} {ks : List Tm} : (Tm.mk k nm num ty fr lb ks).small ↔ nm.size ≤ 4294967296 ∧ ty.small ∧ fr.small ∧ ks.length ≤ 4294967296 ∧ Tm.smallL ks := by rw [Tm.small]
theorem B4W : I8.small := by simp [I8, Tm.small, Ty.small, Ty.smallL, Tm.smallL, ByteArray.size]
theorem A97 : B4.small := by simp [B4, Ty.small, Ty.smallL]
mutual
def K8 : Tm → List Ty
 | .mk k _ _ ty _ _ ks => (if k = 5 ∨ k = 13 then [ty] else []) ++ J1 ks
def J1 : List Tm → List Ty
 | [] => []
 | t :: ts => K8 t ++ J1 ts
end
theorem A7B : ∀ (a b : List Tm), J1 (a ++ b) = J1 a ++ J1 b
 | [], b => by simp [J1]
 | t :: a, b => by simp [J1, A7B a b]
theorem A0X {ks : List Tm} {i : Nat} (hi : i < ks.length) : J1 (ks.take (i + 1)) = J1 (ks.take i) ++ K8 ks[i] := by
 rw [List.take_succ_eq_append_getElem hi, A7B, J1, J1, List.append_nil]
mutual
theorem A7C : ∀ t : Tm, (K8 t).length ≤ E4 t
 | .mk k nm num ty fr lb ks => by
  have := A28 ks
  rw [K8, E4, List.length_append]
  split <;> simp <;> omega
theorem A28 : ∀ ts : List Tm, (J1 ts).length ≤ H0 ts
 | [] => by simp [J1]
 | t :: ts => by
  have := A7C t
  have := A28 ts
  rw [J1, H0, List.length_append]; omega
end
mutual
def S6 : Tm → List Ty → Tm
 | .mk k nm num ty fr lb ks, l => .mk k nm num (if k = 5 ∨ k = 13 then l.getD 0 B4 else ty) fr lb (R6 ks (if k = 5 ∨ k = 13 then l.drop 1 else l))
def R6 : List Tm → List Ty → List Tm
 | [], _ => []
 | t :: ts, l => S6 t l :: R6 ts (l.drop (K8 t).length)
end
theorem A29 : ∀ (ts : List Tm) (l : List Ty), (R6 ts l).length = ts.length
 | [], _ => rfl
 | t :: ts, l => by rw [R6, List.length_cons, A29 ts, List.length_cons]
theorem A98 : ∀ (a b : List Tm) (l : List Ty), R6 (a ++ b) l = R6 a l ++ R6 b (l.drop (J1 a).length)
 | [], b, l => by simp [R6, J1]
 | t :: a, b, l => by simp [R6, J1, A98 a b, List.drop_drop]
theorem A40 {ks : List Tm} {i : Nat} (hi : i < ks.length) (l : List Ty) : R6 (ks.take (i + 1)) l = R6 (ks.take i) l ++ [S6 ks[i] (l.drop (J1 (ks.take i)).length)] := by
 rw [List.take_succ_eq_append_getElem hi, A98, R6, R6]
def A99 (mask : Nat) : Nat → List Ty → List Ty
 | _, [] => []
 | i, t :: ts => (if (mask / 2 ^ i) % 2 = 1 then .mk 1 [] else t) :: A99 mask (i + 1) ts
def B4X (e : Tm) (mask : Nat) : Tm := S6 e (A99 mask 0 (K8 e))
def B4Y (e : Tm) : List Tm := (List.range (2 ^ (K8 e).length)).map (B4X e)
theorem A41 {ks : List Tm} {i : Nat} (hi : i < ks.length) : (J1 (ks.take i)).length + (K8 ks[i]).length ≤ (J1 ks).length := by
 have h : ks = ks.take (i + 1) ++ ks.drop (i + 1) := (List.take_append_drop _ _).symm
 conv => rhs; rw [h]
 rw [A7B, A0X hi]
 simp only [List.length_append]; omega
def A3F (k : Int) : Bool := decide (k = 5 ∨ k = 13)
theorem B4Z (t : Tm) (G : IM) (cells : List Value) (hr : B7 G t cells) : Fn Tryz.prog 30 [.agg ⟨cells⟩] [] G (K7 (.bool (A3F t.k)) G) := by
 obtain ⟨k, nm, num, ⟨tk, tks⟩, ⟨fk, fks⟩, lb, ks⟩ := t
 obtain ⟨pt, ct, pf, cf, p, c, es, rfl, hk, hnum, hlb, hty, hfr, hsl, hkl⟩ := hr.open9
 refine C0 Tryz.func30 rfl Tryz.ntmps30 Tryz.results30 rfl ?_
 intro w0
 refine A4 ?_
 refine sE (B6 rfl rfl) rfl (fun b3 => ?_)
 refine B0 ?_
 refine sB (qE rfl rfl) rfl rfl (fun h11 => ?_) (fun h11 => ?_)
 refine J2 ?_
 exact ⟨rfl, by (show _ = Value.bool (decide (k = 5 ∨ k = 13)); first | rw [decide_eq_true zR0] | rw [decide_eq_false zR0]), rfl⟩
 refine C1 ?_
 refine sB (qE rfl rfl) rfl rfl (fun h26 => ?_) (fun h26 => ?_)
 refine A9 ?_
 exact ⟨rfl, by (show _ = Value.bool (decide (k = 5 ∨ k = 13)); first | rw [decide_eq_true zR0] | rw [decide_eq_false zR0]), rfl⟩
 refine A9 ?_
 exact ⟨rfl, by (show _ = Value.bool (decide (k = 5 ∨ k = 13)); first | rw [decide_eq_true zR0] | rw [decide_eq_false zR0]), rfl⟩
section cap
variable {P : Program} {Γ : N7} {env : O6} {hp : List A7} {G : IM} {K : Po} {ops : Array Oper} {rest : List Oper}
end cap
theorem D9.append {G : IM} : ∀ {a b : List Ty} {es fs : List (List Value)}, D9 G a es → D9 G b fs → D9 G (a ++ b) (es ++ fs)
 | [], b, es, fs, h, h2 => by simp only [D9] at h; subst h; simpa using h2
 | t :: a, b, es, fs, h, h2 => by
  simp only [D9] at h
  obtain ⟨x, r, rfl, h3, h4⟩ := h
  simp only [List.cons_append, D9]
  exact ⟨x, r ++ fs, rfl, h3, D9.append h4 h2⟩
theorem D9.one1 {G : IM} {t : Ty} {c : List Value} (h : C7 G t c) : D9 G [t] [c] := by
 simp only [D9]; exact ⟨c, [], rfl, h, rfl⟩
def A03 (ts : List Ty) : IM → Value → List A7 → Prop := fun G' v outs => ∃ p c es, v = .slice p ts.length c ∧ outs = [.slc p c 25 2 ts.length es.flatten] ∧ D9 G' ts es
theorem A03.mk {ts : List Ty} {n : Nat} {G' : IM} {p : Option Addr} {c : Nat} {es : List (List Value)} (hn : ts.length = n) (hr : D9 G' ts es) : A03 ts G' (.slice p n c) [.slc p c 25 2 n es.flatten] := by
 subst hn
 exact ⟨p, c, es, rfl, rfl, hr⟩
theorem B0a {sz : Nat} : ∀ {es : List (List Value)} (l : Nat), (∀ e ∈ es, e.length = sz) → es.flatten.drop (l * sz) = (es.drop l).flatten
 | [], l, _ => by simp
 | e :: es, 0, _ => by simp
 | e :: es, l + 1, h => by
  rw [List.flatten_cons, List.drop_succ_cons, ← B0a l (fun x hx => h x (List.mem_cons_of_mem _ hx)), Nat.add_mul, Nat.one_mul]
  have he := h e List.mem_cons_self
  rw [List.drop_append, List.drop_eq_nil_of_le zR0, List.nil_append]
  congr 1; omega
theorem D7.from2 {G : IM} {b o n c l sz : Nat} {es : List (List Value)} (h : D7 G (some ⟨b, o, none⟩) n c sz es) (hl : l ≤ n) : D7 G (some ⟨b, if c = l then o else o + l * sz, none⟩) (n - l) (c - l) sz (es.drop l) := by
 have h1 := h.sl.from hl
 rw [B0a l h.all] at h1
 exact D7.of h1 (by rw [List.length_drop, h.len]) (fun e he => h.all e (List.mem_of_mem_drop he)) (fun e he => h.one e (List.mem_of_mem_drop he))
theorem D9.drop {G : IM} : ∀ {l : List Ty} {es : List (List Value)} (n : Nat), D9 G l es → D9 G (l.drop n) (es.drop n)
 | [], es, n, h => by simp only [D9] at h; subst h; simp [D9]
 | t :: l, es, 0, h => by simpa using h
 | t :: l, es, n + 1, h => by
  simp only [D9] at h
  obtain ⟨a, r, rfl, h1, h2⟩ := h
  simpa using D9.drop n h2
def RtP (u : Tm) (l : List Ty) : IM → Value → List A7 → Prop := fun G' v outs => outs = [] ∧ ∃ cu p c el, v = .tuple ⟨[.agg ⟨cu⟩, .slice p l.length c]⟩ ∧ B7 G' u cu ∧ D7 G' p l.length c 2 el ∧ D9 G' l el
theorem RtP.mk {G' : IM} {k : Int} {nm : ByteArray} {num : Int} {ty fr : Ty} {lb : Int} {ks : List Tm} {tk fk : Int} {pt pf : Option Addr} {nt ct nf cf : Nat} {p q : Option Addr} {m c cq n : Nat} {es el : List (List Value)} {l : List Ty}
  (hk : H6 k) (hnum : H6 num) (hlb : H6 lb) (hty : C7 G' ty [.int .i64 tk, .slice pt nt ct]) (hfr : C7 G' fr [.int .i64 fk, .slice pf nf cf]) (hm : m = ks.length) (hs : Sl G' p m c 9 es.flatten) (hr : F9 G' ks es)
  (hn : n = l.length) (hq : D7 G' q n cq 2 el) (hl : D9 G' l el) :
  RtP (.mk k nm num ty fr lb ks) l G' (.tuple ⟨[.agg ⟨[.int .i64 k, .string nm, .int .i64 num, .int .i64 tk, .slice pt nt ct, .int .i64 fk, .slice pf nf cf, .int .i64 lb, .slice p m c]⟩, .slice q n cq]⟩) [] := by
 subst hm hn
 refine ⟨rfl, _, q, cq, el, rfl, ?_, hq, hl⟩
 simp only [B7]
 exact ⟨_, _, p, c, es, rfl, hk, hnum, hlb, hty, hfr, D7.of hs hr.len hr.all (fun e he => by obtain ⟨j, hj⟩ := List.getElem?_of_mem he; exact (hr.inv hj I8).2.one), hr⟩
theorem B40 : ∀ (t : Tm) (l : List Ty) (G : IM) (cells : List Value) (p : Option Addr) (c : Nat) (el : List (List Value)), (K8 t).length ≤ l.length → (∀ u ∈ l, u.small) → E4 t ≤ 4000000 → B7 G t cells → D7 G p l.length c 2 el → D9 G l el →
  Fn Tryz.prog 16 [.agg ⟨cells⟩, .slice p l.length c] [] G (RtP (S6 t l) (l.drop (K8 t).length)) := by
 refine Tm.ind fun k nm num ty fr lb ks ih l G cells p c el hlen hsm hcnt hr hse hel => ?_
 have hT := B4Z _ G cells hr
 have hone := hr.one
 have hcy : A3F k = true → K8 (.mk k nm num ty fr lb ks) = [ty] ++ J1 ks := fun h => by rw [K8, if_pos (of_decide_eq_true h)]
 have hcn : A3F k = false → K8 (.mk k nm num ty fr lb ks) = [] ++ J1 ks := fun h => by rw [K8, if_neg (of_decide_eq_false h)]
 have hwy : A3F k = true → S6 (.mk k nm num ty fr lb ks) l = .mk k nm num (l.getD 0 B4) fr lb (R6 ks (l.drop 1)) := fun h => by rw [S6, if_pos (of_decide_eq_true h), if_pos (of_decide_eq_true h)]
 have hwn : A3F k = false → S6 (.mk k nm num ty fr lb ks) l = .mk k nm num ty fr lb (R6 ks l) := fun h => by rw [S6, if_neg (of_decide_eq_false h), if_neg (of_decide_eq_false h)]
 rw [E4] at hcnt
 obtain ⟨tk, tks⟩ := ty
 obtain ⟨fk, fks⟩ := fr
 have hT' : Fn Tryz.prog 30 _ [] G (K7 (.bool (A3F k)) G) := hT
 obtain ⟨pt, ct, pf, cf, q, cq, ek, rfl, hk, hnum, hlb, hty, hfr, hsl, hkl⟩ := hr.open9
 have hn := hsl.le
 have hkn := A30 ks
 refine C0 Tryz.func16 rfl Tryz.ntmps16 Tryz.results16 rfl ?_
 intro w0
 refine A4 ?_
 refine sE (B6 rfl rfl) rfl (fun b3 => ?_)
 refine sE (A6 rfl) rfl (fun b4 => ?_)
 refine A9 ?_
 refine sE (A6 rfl) rfl (fun b11 => ?_)
 refine N0 ?_
 refine J5 rfl (hT') rfl rfl (fun h25 => ?_) (fun h25 => ?_)
 refine C1 ?_
 (have hL1 := hcy zO0; have h1 : 1 + (J1 ks).length ≤ l.length := (by rw [hL1] at hlen; simp only [List.length_append, List.length_singleton] at hlen; omega); obtain ⟨b0, o0, p20, c20, rfl, hat0, hre0, hgb0⟩ := hse.kidTy hel (i := 0) zR0 zR0; obtain ⟨T0, hT0⟩ : ∃ T, T = l[0]'zR0 := ⟨_, rfl⟩; have hs0 := hsm _ (List.getElem_mem (show 0 < l.length by omega)); rw [← hT0] at hre0 hat0 hs0; have hO := A21 T0 G _ hs0 hre0; refine D3 D4 rfl ?_)
 refine J4 (i := 0) (l' := [tt,ff,ff,ff,ff,ff,ff,ff,ff]) rfl C8 (qM rfl) rfl zP0 rfl rfl ?_
 refine aP 1 rfl (B8 (j := 0) rfl rfl rfl zR0) rfl ?_
 refine aL 2 rfl (A5 rfl rfl (hat0 _) rfl) rfl ?_
 refine aP 4 rfl (qM rfl) rfl ?_
 refine aP 5 rfl (B4E (l := 1) rfl rfl rfl zR0) rfl ?_
 refine A2 3 ?_
 (refine H1 rfl rfl hO rfl rfl rfl (fun v G1 hle1 hh => ?_); obtain ⟨cs1, F1, rfl, hs1, hn1⟩ := hh; have hr1 := hs1.R.mono (E0.le _ _); obtain ⟨p1, c1, rfl, _⟩ := hs1.open)
 refine aP 6 rfl (C3 rfl) rfl ?_
 refine A2 7 ?_
 refine C9 rfl ?_
 refine aP 8 rfl (qA rfl) rfl ?_
 refine M7 ?_
 refine C2 ?_
 (have hL2 := hcy zO0; have hW2 := hwy zO0; have hse1 := (hse.from2 (l := 1) zR0).mono hle1; have hel1 := (hel.drop 1).mono hle1; refine X1 28 9 ?_; refine L8 (fun (x : Nat × Option Addr × Nat × List (List Value) × Option Addr × Nat × Nat × List (List Value) × IM) => ⟨[(25, .int .i64 x.1), (24, .int .i64 ks.length), (23, .slice q ks.length cq), (1, .slice x.2.2.2.2.1 x.2.2.2.2.2.1 x.2.2.2.2.2.2.1), (6, .pointer (some ⟨b11, 0, none⟩)), (4, .pointer (some ⟨b4, 0, none⟩))], [.blk b11 [.int .i64 k, .string nm, .int .i64 num, .int .i64 T0.k, .slice p1 T0.ks.length c1, .int .i64 fk, .slice pf fks.length cf, .int .i64 lb, .slice x.2.1 x.1 x.2.2.1], .slc x.2.1 x.2.2.1 28 9 x.1 x.2.2.2.1.flatten, .blk b4 [.int .i64 0, .string ⟨⟨[]⟩⟩, .int .i64 0, .int .i64 0, .slice none 0 0, .int .i64 0, .slice none 0 0, .int .i64 0, .slice none 0 0]], x.2.2.2.2.2.2.2.2⟩) (fun x => x.1 ≤ ks.length ∧ B9 G1 x.2.2.2.2.2.2.2.2 ∧ F9 x.2.2.2.2.2.2.2.2 (R6 (ks.take x.1) (l.drop 1)) x.2.2.2.1 ∧ x.2.2.2.2.2.1 = ((l.drop 1).drop (J1 (ks.take x.1)).length).length ∧ D7 x.2.2.2.2.2.2.2.2 x.2.2.2.2.1 x.2.2.2.2.2.1 x.2.2.2.2.2.2.1 2 x.2.2.2.2.2.2.2.1 ∧ D9 x.2.2.2.2.2.2.2.2 ((l.drop 1).drop (J1 (ks.take x.1)).length) x.2.2.2.2.2.2.2.1) (fun x => ks.length - x.1) (0, none, 0, [], some ⟨b0, if c = 1 then o0 else o0 + 1 * 2, none⟩, l.length - 1, c - 1, el.drop 1, G1) ?_ ?_ ?_)
 (simp only [I9]; exact F8)
 (exact ⟨Nat.zero_le _, B9.refl _, by simp [R6, F9], by simp [J1], by simpa using hse1, by simpa [J1] using hel1⟩)
 (rintro ⟨(i : Nat), pn, cn, es, pl, nl, cl, eL, Gi⟩ ⟨hi, hle, hst, hnl, hsL, heL⟩; simp only [] at hi hle hst hnl hsL heL ⊢)
 refine A4 ?_
 refine sB (N5 rfl rfl) rfl rfl (fun h59 => ?_) (fun h59 => ?_)
 refine B0 ?_
 refine C2 ?_
 refine A4 ?_
 (obtain ⟨b, o, e, rfl, hl, hat, hre, hgb⟩ := (hsl.mono (by first | exact hle | exact hle1.trans hle)).kidTm (hkl.mono (by first | exact hle | exact hle1.trans hle)) (i := i) zR0 zR0; have hone9 := hre.one; have hsc := A1A (ks := ks) (i := i) zR0; have hsk := A1z (ks := ks) (i := i) zR0; have hts1 := A41 (ks := ks) (i := i) zR0; refine sP (B8 rfl rfl rfl zR0) rfl rfl ?_)
 refine sL (A5 rfl rfl (hat _) hl) rfl rfl ?_
 refine sE (A6 rfl) rfl (fun b72 => ?_)
 refine sS rfl rfl rfl hl hone9 rfl ?_ (hu := by exact C6 hl.symm)
 refine B5 ?_
 refine sL (A5 rfl rfl (B3 zI0) hl) rfl rfl ?_
 refine D8 ?_
 (subst hnl; refine A1l rfl (ih ks[i] (List.getElem_mem zR0) _ _ _ _ _ _ (by simp only [List.length_drop]; rw [hL2] at hlen; simp only [List.length_append, List.length_singleton, List.length_nil] at hlen; omega) (fun u hu => hsm u (by first | exact List.mem_of_mem_drop hu | exact List.mem_of_mem_drop (List.mem_of_mem_drop hu))) zR0 hre hsL heL) rfl rfl (fun v G3 outs hle3 hh => ?_); obtain ⟨rfl, cu, p3, c3, e3, rfl, hru, hs3, hr3⟩ := hh; have hsn := F9.snoc (hst.mono hle3) hru; obtain ⟨u1, u2, u3, u4, u5, u6, u7, u8, u9, rfl⟩ : ∃ u1 u2 u3 u4 u5 u6 u7 u8 u9, cu = [u1, u2, u3, u4, u5, u6, u7, u8, u9] := (by obtain ⟨_, _, _, _, _, _, _, _, _, rfl, _⟩ := hru.open; exact ⟨_, _, _, _, _, _, _, _, _, rfl⟩); have huo := hru.one)
 refine C1 ?_
 refine sE (A6 rfl) rfl (fun b84 => ?_)
 refine sS rfl rfl rfl rfl huo rfl ?_
 refine B0 ?_
 (refine J8 (D1 rfl rfl rfl zR0 zL0 rfl) rfl ?_; rintro _ ⟨b93, rfl⟩)
 (refine Y0 rfl rfl rfl rfl rfl (fun _ _ => by repeat (first | exact Sw.here | apply Sw.there)) (K4 zI0) rfl (fun u hu => List.all_eq_true.1 huo u hu) zL0 zR0 rfl (fun p4 c4 => ?_))
 refine E1 ?_
 refine sP (K0 rfl rfl zR0 zR0) rfl rfl ?_
 refine A4 ?_
 (rw [← A40 zR0] at hsn; refine J7 (i + 1, p4, c4, es ++ [[u1, u2, u3, u4, u5, u6, u7, u8, u9]], p3, _, c3, e3, G3) zJ ?_ ?_)
 (dsimp only; exact ⟨by omega, hle.trans hle3, hsn, by rw [A0X zR0, List.length_append]; simp only [List.length_drop]; omega, by simpa only [A0X (show i < ks.length by omega), List.length_append, List.drop_drop] using hs3, by simpa only [A0X (show i < ks.length by omega), List.length_append, List.drop_drop, Nat.add_assoc] using hr3⟩)
 (show ks.length - (i + 1) < ks.length - i; omega)
 refine V0 ?_
 (refine J6 (cs := es.flatten) zD0 (fun G5 hle5 hsl5 hno5 => ?_); obtain rfl : i = ks.length := zR0; rw [List.take_length] at hst hnl heL)
 exact y102
 refine M8 ?_
 refine C2 ?_
 (have hL2 := hcn zO0; have hW2 := hwn zO0; refine X1 28 9 ?_; refine L8 (fun (x : Nat × Option Addr × Nat × List (List Value) × Option Addr × Nat × Nat × List (List Value) × IM) => ⟨[(25, .int .i64 x.1), (24, .int .i64 ks.length), (23, .slice q ks.length cq), (1, .slice x.2.2.2.2.1 x.2.2.2.2.2.1 x.2.2.2.2.2.2.1), (6, .pointer (some ⟨b11, 0, none⟩)), (4, .pointer (some ⟨b4, 0, none⟩))], [.blk b11 [.int .i64 k, .string nm, .int .i64 num, .int .i64 tk, .slice pt tks.length ct, .int .i64 fk, .slice pf fks.length cf, .int .i64 lb, .slice x.2.1 x.1 x.2.2.1], .slc x.2.1 x.2.2.1 28 9 x.1 x.2.2.2.1.flatten, .blk b4 [.int .i64 0, .string ⟨⟨[]⟩⟩, .int .i64 0, .int .i64 0, .slice none 0 0, .int .i64 0, .slice none 0 0, .int .i64 0, .slice none 0 0]], x.2.2.2.2.2.2.2.2⟩) (fun x => x.1 ≤ ks.length ∧ B9 G x.2.2.2.2.2.2.2.2 ∧ F9 x.2.2.2.2.2.2.2.2 (R6 (ks.take x.1) l) x.2.2.2.1 ∧ x.2.2.2.2.2.1 = (l.drop (J1 (ks.take x.1)).length).length ∧ D7 x.2.2.2.2.2.2.2.2 x.2.2.2.2.1 x.2.2.2.2.2.1 x.2.2.2.2.2.2.1 2 x.2.2.2.2.2.2.2.1 ∧ D9 x.2.2.2.2.2.2.2.2 (l.drop (J1 (ks.take x.1)).length) x.2.2.2.2.2.2.2.1) (fun x => ks.length - x.1) (0, none, 0, [], p, l.length, c, el, G) ?_ ?_ ?_)
 (simp only [I9]; exact F8)
 (exact ⟨Nat.zero_le _, B9.refl _, by simp [R6, F9], by simp [J1], hse, by simpa [J1] using hel⟩)
 (rintro ⟨(i : Nat), pn, cn, es, pl, nl, cl, eL, Gi⟩ ⟨hi, hle, hst, hnl, hsL, heL⟩; simp only [] at hi hle hst hnl hsL heL ⊢)
 refine A4 ?_
 refine sB (N5 rfl rfl) rfl rfl (fun h151 => ?_) (fun h151 => ?_)
 refine B0 ?_
 refine C2 ?_
 refine A4 ?_
 (obtain ⟨b, o, e, rfl, hl, hat, hre, hgb⟩ := (hsl.mono (by first | exact hle | exact hle1.trans hle)).kidTm (hkl.mono (by first | exact hle | exact hle1.trans hle)) (i := i) zR0 zR0; have hone9 := hre.one; have hsc := A1A (ks := ks) (i := i) zR0; have hsk := A1z (ks := ks) (i := i) zR0; have hts1 := A41 (ks := ks) (i := i) zR0; refine sP (B8 rfl rfl rfl zR0) rfl rfl ?_)
 refine sL (A5 rfl rfl (hat _) hl) rfl rfl ?_
 refine sE (A6 rfl) rfl (fun b164 => ?_)
 refine sS rfl rfl rfl hl hone9 rfl ?_ (hu := by exact C6 hl.symm)
 refine B5 ?_
 refine sL (A5 rfl rfl (B3 zI0) hl) rfl rfl ?_
 refine D8 ?_
 (subst hnl; refine A1l rfl (ih ks[i] (List.getElem_mem zR0) _ _ _ _ _ _ (by simp only [List.length_drop]; rw [hL2] at hlen; simp only [List.length_append, List.length_singleton, List.length_nil] at hlen; omega) (fun u hu => hsm u (by first | exact List.mem_of_mem_drop hu | exact List.mem_of_mem_drop (List.mem_of_mem_drop hu))) zR0 hre hsL heL) rfl rfl (fun v G3 outs hle3 hh => ?_); obtain ⟨rfl, cu, p3, c3, e3, rfl, hru, hs3, hr3⟩ := hh; have hsn := F9.snoc (hst.mono hle3) hru; obtain ⟨u1, u2, u3, u4, u5, u6, u7, u8, u9, rfl⟩ : ∃ u1 u2 u3 u4 u5 u6 u7 u8 u9, cu = [u1, u2, u3, u4, u5, u6, u7, u8, u9] := (by obtain ⟨_, _, _, _, _, _, _, _, _, rfl, _⟩ := hru.open; exact ⟨_, _, _, _, _, _, _, _, _, rfl⟩); have huo := hru.one)
 refine C1 ?_
 refine sE (A6 rfl) rfl (fun b176 => ?_)
 refine sS rfl rfl rfl rfl huo rfl ?_
 refine B0 ?_
 (refine J8 (D1 rfl rfl rfl zR0 zL0 rfl) rfl ?_; rintro _ ⟨b185, rfl⟩)
 (refine Y0 rfl rfl rfl rfl rfl (fun _ _ => by repeat (first | exact Sw.here | apply Sw.there)) (K4 zI0) rfl (fun u hu => List.all_eq_true.1 huo u hu) zL0 zR0 rfl (fun p4 c4 => ?_))
 refine E1 ?_
 refine sP (K0 rfl rfl zR0 zR0) rfl rfl ?_
 refine A4 ?_
 (rw [← A40 zR0] at hsn; refine J7 (i + 1, p4, c4, es ++ [[u1, u2, u3, u4, u5, u6, u7, u8, u9]], p3, _, c3, e3, G3) zJ ?_ ?_)
 (dsimp only; exact ⟨by omega, hle.trans hle3, hsn, by rw [A0X zR0, List.length_append]; simp only [List.length_drop]; omega, by simpa only [A0X (show i < ks.length by omega), List.length_append, List.drop_drop] using hs3, by simpa only [A0X (show i < ks.length by omega), List.length_append, List.drop_drop, Nat.add_assoc] using hr3⟩)
 (show ks.length - (i + 1) < ks.length - i; omega)
 refine V0 ?_
 (refine J6 (cs := es.flatten) zD0 (fun G5 hle5 hsl5 hno5 => ?_); obtain rfl : i = ks.length := zR0; rw [List.take_length] at hst hnl heL)
 exact y102
section bits
variable {P : Program} {Γ : N7} {env : O6} {hp : List A7} {G : IM} {ty : TypeId}
end bits
theorem B41 {cs vs cs' C : List Value} {o : Nat} (h : V8 cs o vs = some cs') : cs' ++ C = (cs ++ C).take o ++ vs ++ (cs ++ C).drop (o + vs.length) := by
 obtain ⟨h1, h2⟩ := A3Q h
 rw [h1, List.take_append_of_le_length zR0, List.drop_append_of_le_length zR0]
 simp
section wr
variable {P : Program} {Γ : N7} {env : O6} {hp : List A7} {G : IM} {ty : TypeId} {K : Po} {ops : Array Oper} {rest : List Oper}
theorem B42 {d : Option Nat} {x y : Operand} {t : TypeId} {i : M6} [hI : I3 P t i] {b o c el sz n : Nat} {v : Value} {vs cs cs' : List Value} {hp' : List A7}
  (hx : evo env x = some (.pointer (some ⟨b, o, none⟩))) (hy : evo env y = some v) (hv : v.cells = ⟨vs⟩) (hsz : vs.length = i.size) (h1 : vs.all (·.oneCell') = true)
  (hu : V8 cs o vs = some cs') (hm : Sw hp (.slc (some ⟨b, 0, none⟩) c el sz n cs) (.slc (some ⟨b, 0, none⟩) c el sz n cs') hp') (hd : dok Γ.n d = true) :
  A0f P Γ ⟨env, hp, G⟩ d (.store t x y) ty [b] (fun σ' => σ' = ⟨dpu d undef env, hp', G⟩) := by
 refine ⟨fun a w hs pos af gd Q next hn => ?_⟩
 obtain ⟨rest, p1, p2⟩ := hm.perm
 have hown : X0 [.slc (some ⟨b, 0, none⟩) c el sz n cs] G w := hs.res.own.of_mem p1
 obtain ⟨hl, h⟩ := hown.ok _ List.mem_cons_self
 rcases h with ⟨hv', _⟩ | ⟨g, cap, cur, hv', hbg, hg, hnc, hcm, hcs, ht⟩
 ·cases hv'
 cases hv'
 obtain ⟨u1, u2⟩ := A3Q hu
 have hcur : cur.toList = cs ++ cur.toList.drop (n * sz) := by
  conv => lhs; rw [← List.take_append_drop (n * sz) cur.toList, ht]
 have hlen : cs.length ≤ cur.size := by
  rw [hl, hcs]; exact Nat.mul_le_mul_right _ hnc
 have hst := run_storeCells_at P b o el vs 0 cur w hg zR0 (by simpa using h1)
 obtain ⟨cur', hcur'⟩ : ∃ l : List Value, l = cs' ++ cur.toList.drop (n * sz) := ⟨_, rfl⟩
 have hcc : cur.toList.take (o + 0) ++ vs ++ cur.toList.drop (o + 0 + vs.length) = cur' := by
  rw [hcur', Nat.add_zero, B41 hu, ← hcur]
 rw [hcc] at hst
 have hl' : cs'.length = cs.length := by rw [u1]; simp; omega
 have hsz' : cur'.length = cur.size := by
  have := congrArg List.length hcur
  rw [hcur', List.length_append, hl']
  simpa using this.symm
 obtain ⟨inf, g1, g2, _⟩ := hI.info
 have hrun : (execOp a.eval ⟨d, .store t x y, ty, pos, af, gd⟩).run P w = .ok .skip (w.setRow b cur'.toArray) := by
  simp [execOp, Instr.storeAt, Instr.sureAddr, (hs.evo hx : a.eval x = _), (hs.evo hy : a.eval y = _), storeVar, sizeOf, typeInfo, g1, g2, hv, hsz, hst]
 simp only [Oper.wp, hrun, Oper.upon]
 have hr' : U8 [.slc (some ⟨b, 0, none⟩) c el sz n cs] G w [.slc (some ⟨b, 0, none⟩) c el sz n cs'] G (w.setRow b cur'.toArray) := by
  refine ⟨⟨?_, ?_, by simp [Fp, A7.fp, K5], ?_⟩, ⟨rfl, rfl, rfl, by simp [World.setRow], fun k _ hk => setRow_other w b k _ (by rintro rfl; simp [Fp, A7.fp, K5] at hk)⟩, B9.refl _, fun _ _ h => .inl h, ?_, fun b l h h0 => absurd h (by rw [h0]; simp)⟩
  ·intro k l hg'
   obtain ⟨e', f', h'⟩ := hown.inn k l hg'
   refine ⟨e', f', ?_⟩
   rw [setRow_other w b k _ ?_]
   ·exact h'
   ·rintro rfl
    have := hown.disj k (by simp [Fp, A7.fp, K5])
    rw [this] at hg'; cases hg'
  ·intro x hx
   simp at hx; subst hx
   refine ⟨by rw [hl', hl], .inr ⟨b, _, cur'.toArray, rfl, hbg, setRow_heap w b cur cur'.toArray el (0, 0) hg, hnc, hcm, by rw [List.size_toArray, hsz', hcs], ?_⟩⟩
   rw [hcur', List.take_left' (by rw [hl', hl])]
  ·intro k hk
   exact hown.disj k (by simpa [Fp, A7.fp, K5] using hk)
  ·intro k hk
   exact .inr (by simpa [Fp, A7.fp, K5] using hk)
 exact hn _ _ _ (hs.step p1 hr' p2 hd) (by simpa [Fp, A7.fp, K5] using hr'.ext) rfl
variable {pos : String} {af : Array Edge} {gd : Option (Nat × Bool)}
theorem B43 {c el sz n : Nat} {cs vs : List Value} {x y : Operand} {t : TypeId} {i : M6} [hI : I3 P t i] {bb o : Nat} {v : Value} {cs' : List Value} {hp' : List A7}
  (hx : evo env x = some (.pointer (some ⟨bb, o, none⟩))) (hy : evo env y = some v) (hv : v.cells = ⟨vs⟩) (hsz : vs.length = i.size) (h1 : vs.all (·.oneCell') = true)
  (hw : O2 ops env gd = some true) (hsw : Sw hp (.slc (some ⟨bb, 0, none⟩) c el sz n cs) (.slc (some ⟨bb, 0, none⟩) c el sz n cs') hp') (hu : V8 cs o vs = some cs')
  (k : I1 P Γ ops rest K ⟨env, hp', G⟩) : I1 P Γ ops (⟨none, .store t x y, ty, pos, af, gd⟩ :: rest) K ⟨env, hp, G⟩ :=
 J8 (B42 hx hy hv hsz h1 hu hsw rfl) hw (by rintro _ rfl; exact k)
theorem St.slc_ptT {p : Option Addr} {c el sz n : Nat} {cs : List Value} {a : Act} {w : World} (hs : St Γ ⟨env, hp, G⟩ a w) (hm : A7.slc p c el sz n cs ∈ hp) :
  (p = none ∧ n = 0 ∧ c = 0) ∨ ∃ g, p = some ⟨g, 0, none⟩ ∧ n ≤ c := by
 obtain ⟨_, h⟩ := hs.res.own.ok _ hm
 rcases h with ⟨hv, hn⟩ | ⟨g, cap, cur, hv, _, _, hnc, _⟩
 ·cases hv; exact .inl ⟨rfl, hn, rfl⟩
 ·cases hv; exact .inr ⟨g, rfl, hnc⟩
end wr
theorem B44 {es : List (List Value)} {i sz : Nat} {vs : List Value} (hi : i < es.length) (ha : ∀ e ∈ es, e.length = sz) (hv : vs.length = sz) : V8 es.flatten (0 + i * sz) vs = some (es.set i vs).flatten := by
 have h1 : es.flatten = (es.take i).flatten ++ (es[i] ++ (es.drop (i + 1)).flatten) := by
  conv => lhs; rw [← List.take_append_drop i es, List.drop_eq_getElem_cons hi]
  rw [List.flatten_append, List.flatten_cons]
 have h2 : (es.set i vs).flatten = (es.take i).flatten ++ (vs ++ (es.drop (i + 1)).flatten) := by rw [List.set_eq_take_append_cons_drop, if_pos hi, List.flatten_append, List.flatten_cons]
 have hA : ((es.take i).flatten).length = 0 + i * sz := by rw [A1y (fun e he => ha e (List.mem_of_mem_take he)), List.length_take, Nat.min_eq_left zR0]; omega
 rw [h1, h2]
 exact A6Z hA (by rw [ha _ (List.getElem_mem hi), hv])
theorem D9.set {G : IM} : ∀ {l : List Ty} {es : List (List Value)} (i : Nat) {u : Ty} {c : List Value}, D9 G l es → C7 G u c → D9 G (l.set i u) (es.set i c)
 | [], es, i, u, c, h, _ => by simp only [D9] at h; subst h; simp [D9]
 | t :: l, es, 0, u, c, h, h2 => by
  simp only [D9] at h
  obtain ⟨a, r, rfl, _, h3⟩ := h
  simp only [List.set_cons_zero, D9]
  exact ⟨c, r, rfl, h2, h3⟩
 | t :: l, es, i + 1, u, c, h, h2 => by
  simp only [D9] at h
  obtain ⟨a, r, rfl, h4, h3⟩ := h
  simp only [List.set_cons_succ, D9]
  exact ⟨a, _, rfl, h4, D9.set i h3 h2⟩
theorem B45 (e : Tm) (a b : Ty) (l : Int) : E4 (S5 e a b l) = E4 e + 1 := by rw [S5, A0p, H0, H0]
theorem B46 : E4 I8 = 1 := by simp [I8, E4, H0]
variable {P : Program} {G : IM}
theorem Fn.forget {f : FuncId} {args : List Value} {v0 : Value} {post : IM → Value → List A7 → Prop} (h : Fn P f args [] G post) (hv : ∀ G' v outs, post G' v outs → v = v0) : Fn P f args [] G (K7 v0 G) := by
 refine ⟨fun w hw => (h.run w hw).mono ?_⟩
 rintro e w' ⟨u, G', outs, rfl, hres, hp⟩
 refine ⟨u, G, [], rfl, ⟨⟨fun b l hb => hres.own.inn b l (hres.le b l hb), by simp, by simp [Fp], by simp [Fp]⟩, hres.ext, B9.refl _, fun _ _ h => .inl h, by simp [Fp], fun b l h h0 => absurd h (by rw [h0]; simp)⟩, rfl, hv _ _ _ hp, rfl⟩
end Gw
end Go.Proofs.YtbdacdnffkhgeaaGreatDoor
