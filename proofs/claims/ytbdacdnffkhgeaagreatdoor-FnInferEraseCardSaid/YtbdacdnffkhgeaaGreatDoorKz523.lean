/-
  The reference model's drawn types, changed at random.
-/
import Derived.Test.YtbdacdnffkhgeaaGreatDoorKz522
import Derived.Test.YtbdacdnffkhgeaaGreatDoorKz521
import Derived.Laws.Slices
import Derived.Test.YtbdacdnffkhgeaaGreatDoorKz520
set_option linter.unusedVariables false
set_option linter.unusedSimpArgs false
set_option maxHeartbeats 0
set_option maxRecDepth 100000
set_option synthInstance.maxSize 4000
set_option synthInstance.maxHeartbeats 0
namespace Go.Proofs.YtbdacdnffkhgeaaGreatDoor
open Go Go.RowKit
namespace Gw
theorem B3P (br : Nat) (pb : Option Addr) (nb cb : Nat) (bs : List UInt8) (hnb : nb ≤ 2000) (p : Nat) (G : IM) (hb : Sl G pb nb cb 1 (R2 bs)) (hp : p + 31 < 1099511627776) :
  Fn Tryz.prog 75 [.pointer (some ⟨br, 0, none⟩)] [rd br pb nb cb p] G
   (A1b br pb nb cb p 31 (fun G' v => ∃ t cells, v = .agg ⟨cells⟩ ∧ C6 G' t cells ∧ L8 t ≤ 30 ∧ T4 3 t)) := by
 refine C0 Tryz.func75 rfl Tryz.ntmps75 Tryz.results75 rfl ?_
 intro w0
 refine A4 ?_
 refine sE (A6 rfl) rfl (fun b3 => ?_)
 refine A9 ?_
 (refine J2 (D1 rfl rfl rfl zZ zU rfl) rfl ?_; rintro _ ⟨b10, rfl⟩)
 (refine W9 zP (fun G1 hle1 hsl1 _ => ?_); refine K9 rfl (A0X G1 br pb nb cb p bs _ _ _ _ (hb.mono hle1) hnb zZ hsl1 zY) (Pk.perm zP) rfl rfl (fun v G2 outs hle2 hh => ?_); obtain ⟨rfl, rfl, hv⟩ := hh; replace hb := hb.mono hle1; obtain ⟨d, rfl, hd⟩ : ∃ d : Nat, v = .int .i64 ((d + 1 : Nat) : Int) ∧ d ≤ 3 := (by simp only [List.mem_cons, List.not_mem_nil, or_false] at hv; rcases hv with rfl | rfl | rfl | rfl | rfl <;> first | exact ⟨0, rfl, by decide⟩ | exact ⟨1, rfl, by decide⟩ | exact ⟨2, rfl, by decide⟩ | exact ⟨3, rfl, by decide⟩))
 (have hdB := B3v hd; refine K9 rfl (A4q br pb nb cb bs hnb d (p + 1) G2 zZ hb zZ) (Pk.perm zP) rfl rfl (fun v G3 outs hle3 hh => ?_); obtain ⟨p3, hp31, hp32, rfl, t3, cells3, rfl, hr3, hs3, ha3⟩ := hh; obtain ⟨q3, c3, es3, rfl, _⟩ := hr3.open)
 refine B4 ?_
 refine H6 (outs := [rd br pb nb cb p3]) (rC rfl (A3 rfl rfl)) zM ?_
 exact ⟨p3, by omega, by omega, rfl, t3, _, rfl, hr3, by omega, ha3.le hd⟩
theorem B3Q (br : Nat) (pb : Option Addr) (nb cb : Nat) (bs : List UInt8) (hnb : nb ≤ 2000) (p : Nat) (G : IM) (hb : Sl G pb nb cb 1 (R2 bs)) (hp : p + 31 < 1099511627776) :
  Fn Tryz.prog 75 [.pointer (some ⟨br, 0, none⟩)] [rd br pb nb cb p] G
   (A1b br pb nb cb p 31 (fun G' v => ∃ t cells, v = .agg ⟨cells⟩ ∧ C6 G' t cells ∧ L8 t ≤ 30)) :=
 (B3P br pb nb cb bs hnb p G hb hp).mono fun G' v outs _ ⟨p', h1, h2, h3, t, cells, h4, h5, h6, _⟩ => ⟨p', h1, h2, h3, t, cells, h4, h5, h6⟩
theorem B3R (k : Int) (ks : List Ty) (G : IM) (p : Option Addr) (c : Nat) (hts : (Ty.mk k ks).small) (hr : C6 G (.mk k ks) [.int .i64 k, .slice p ks.length c]) : Fn Tryz.prog 89 [.agg ⟨[.int .i64 k, .slice p ks.length c]⟩] [] G
  (fun G' v outs => ∃ p c es, v = .agg ⟨[.int .i64 k, .slice p ks.length c]⟩ ∧ outs = [.slc p c 25 2 ks.length es.flatten] ∧ D8 G' ks es) := by
 simp only [Ty.small] at hts
 obtain ⟨hsm, hks⟩ := hts
 obtain ⟨p', c', es, he, hk, hsl, hkl⟩ := hr.open
 simp only [Ty.k, Ty.ks, List.cons.injEq, Value.slice.injEq, true_and, and_true] at he hk hsl hkl
 obtain ⟨rfl, rfl⟩ := he
 have hn := hsl.le
 refine C0 Tryz.func89 rfl Tryz.ntmps89 Tryz.results89 rfl ?_
 intro w0
 refine A4 ?_
 refine sE (B5 rfl rfl) rfl (fun b3 => ?_)
 refine sE (A6 rfl) rfl (fun b4 => ?_)
 refine B0 ?_
 refine sE (A6 rfl) rfl (fun b12 => ?_)
 refine E8 ?_
 refine C2 ?_
 (refine W4 25 2 ?_; refine L4 (fun (x : Nat × Option Addr × Nat × List (List Value) × IM) => ⟨[(4, .int .i64 x.1), (3, .pointer (some ⟨b12, 0, none⟩)), (1, .pointer (some ⟨b3, 0, none⟩)), (2, .pointer (some ⟨b4, 0, none⟩))], [.blk b12 [.int .i64 k, .slice x.2.1 x.1 x.2.2.1], .slc x.2.1 x.2.2.1 25 2 x.1 x.2.2.2.1.flatten, .blk b4 [.int .i64 0, .slice none 0 0], .blk b3 [.int .i64 k, .slice p ks.length c]], x.2.2.2.2⟩) (fun x => x.1 ≤ ks.length ∧ B9 G x.2.2.2.2 ∧ D8 x.2.2.2.2 (ks.take x.1) x.2.2.2.1) (fun x => ks.length - x.1) (0, none, 0, [], G) ?_ ?_ ?_)
 (simp only [I6]; exact F9)
 exact ⟨by simp, B9.refl _, by simp [D8]⟩
 (rintro ⟨i, pn, cn, es', Gi⟩ ⟨hi, hle, hst⟩; simp only [] at hi hle hst ⊢; replace hsl := hsl.mono hle; replace hkl := hkl.mono hle)
 refine B0 ?_
 refine sB (N0 rfl rfl) rfl rfl (fun h34 => ?_) (fun h34 => ?_)
 refine A9 ?_
 refine C2 ?_
 (obtain ⟨b, o, p2, c2, rfl, hat, hre, hgb⟩ := hsl.kidTy hkl (i := i) zZ zZ; refine D3 D4 rfl ?_)
 refine I9 (i := 0) (l' := [tt,ff,ff,ff,ff,ff,ff,ff,ff,ff,ff,ff]) rfl C8 (C3 rfl) rfl zX rfl rfl ?_
 refine aL 1 rfl (E9 rfl rfl) rfl ?_
 refine aP 2 rfl (C3 rfl) rfl ?_
 refine aL 3 rfl (E9 rfl rfl) rfl ?_
 refine aP 4 rfl (qM rfl) rfl ?_
 refine aP 5 rfl (B6 rfl rfl rfl zZ) rfl ?_
 refine aL 6 rfl (A5 rfl rfl (hat _) rfl) rfl ?_
 refine A2 7 ?_
 (refine H0 rfl rfl (Y8 ks[i] _ _ (Ty.smallL_mem hks _ (List.getElem_mem zZ)) hre) rfl rfl rfl (fun v G1 hle1 hh => ?_); obtain ⟨cells', F', rfl, hs', hnd'⟩ := hh; have hr' := hs'.R.mono (D9.le _ _); obtain ⟨p3, c3, es3, rfl, _⟩ := hr'.open)
 refine A2 8 ?_
 (refine D2 rfl (D1 rfl rfl rfl zZ zU rfl) rfl rfl ?_; rintro _ ⟨b53, rfl⟩)
 refine A2 9 ?_
 refine O8 rfl rfl rfl rfl rfl rfl (fun _ _ => by repeat (first | exact Sw.here | apply Sw.there)) (J7 zS) rfl zT zU zZ rfl rfl zH (fun pn' cn' => ?_)
 refine aP 10 rfl (C3 rfl) rfl ?_
 refine A2 11 ?_
 refine T3 rfl rfl rfl rfl rfl rfl rfl rfl zX zR (by rfl) ?_
 refine A8 ?_
 refine sP (J9 rfl rfl zZ zZ) rfl rfl ?_
 refine A4 ?_
 refine J6 (i + 1, pn', cn', es' ++ [[.int .i64 ks[i].k, .slice p3 ks[i].ks.length c3]], G1) ?_ ?_ ?_
 (simp only [I6]; exact F9)
 (dsimp only; exact ⟨by omega, hle.trans hle1, by rw [List.take_succ_eq_append_getElem zZ]; exact D8.snoc (hst.mono hle1) hr'⟩)
 (show ks.length - (i + 1) < ks.length - i; omega)
 refine I5 ?_
 (obtain rfl : i = ks.length := zZ; refine H6 (outs := [.slc pn cn 25 2 ks.length es'.flatten]) (rC rfl (A3 rfl rfl)) zM ?_)
 (rw [List.take_length] at hst; exact ⟨pn, cn, es', rfl, rfl, hst⟩)
theorem A1t (G : IM) : C6 G R6 [.int .i64 1, .slice none 0 0] := by
 simp only [R6, C6]
 exact ⟨none, 0, [], rfl, ⟨by omega, by omega⟩, D6.of (Sl.nil _ _) rfl zA0 zA0, by simp [D8]⟩
theorem A6T : L8 R6 = 0 := rfl
theorem B3S (br : Nat) (pb : Option Addr) (nb cb : Nat) (bs : List UInt8) (hnb : nb ≤ 2000) (p : Nat) (G : IM) (hb : Sl G pb nb cb 1 (R2 bs)) (hp : p + 31 < 1099511627776) (t : Ty) (cells : List Value) (hr : C6 G t cells) (hsz : L8 t ≤ 30) :
  Fn Tryz.prog 74 [.pointer (some ⟨br, 0, none⟩), .agg ⟨cells⟩] [rd br pb nb cb p] G
   (A1b br pb nb cb p 2 (fun G' v => ∃ t cells, v = .agg ⟨cells⟩ ∧ C6 G' t cells ∧ L8 t ≤ 38)) := by
 have hts := A4j t zZ
 obtain ⟨k, ks⟩ := t
 rw [L8] at hsz
 have hsn := A2L ks
 obtain ⟨q0, c0, es0, rfl, hk, _⟩ := hr.open
 simp only [Ty.k, Ty.ks] at hk hr ⊢
 refine C0 Tryz.func74 rfl Tryz.ntmps74 Tryz.results74 rfl ?_
 intro w0
 refine A4 ?_
 refine sE (B5 rfl rfl) rfl (fun b3 => ?_)
 refine sE (A6 rfl) rfl (fun b4 => ?_)
 refine A8 ?_
 (refine A1l rfl (B3R k ks G q0 c0 hts hr) rfl rfl (fun v G1 outs hle1 hh => ?_); obtain ⟨q, c, es, rfl, rfl, hst⟩ := hh)
 refine sE (A6 rfl) rfl (fun b11 => ?_)
 refine B0 ?_
 (refine K9 rfl (A0p G1 br pb nb cb p bs 40 (hb.mono hle1) hnb zZ) (Pk.perm zP) rfl rfl (fun v G2 outs hle2 hh => ?_); obtain ⟨rfl, rfl, j, rfl, hj0, hj1⟩ := hh; replace hb := hb.mono hle1)
 refine A4 ?_
 (show K7 _ _ (.block 0 _) _ _; refine A0H (fun (x : Ty × Option Addr × Nat × Nat × IM) => ⟨[(5, .pointer (some ⟨b11, 0, none⟩)), (4, .pointer (some ⟨b4, 0, none⟩))], [.blk b11 [.int .i64 x.1.k, .slice x.2.1 x.1.ks.length x.2.2.1], .blk b4 [.int .i64 0, .slice none 0 0], rd br pb nb cb x.2.2.2.1], x.2.2.2.2⟩) (fun x => B9 G2 x.2.2.2.2 ∧ C6 x.2.2.2.2 x.1 [.int .i64 x.1.k, .slice x.2.1 x.1.ks.length x.2.2.1] ∧ L8 x.1 ≤ 38 ∧ p ≤ x.2.2.2.1 ∧ x.2.2.2.1 ≤ p + 2) ?_ ?_)
 refine C2 (tS (tR (sB (qE rfl rfl) rfl rfl (fun h26 => ?_) (fun h26 => ?_))))
 refine A9 ?_
 (refine J2 (D1 rfl rfl rfl zZ zU rfl) rfl ?_; rintro _ ⟨b33, rfl⟩)
 (refine W9 zP (fun G3 hle3 hsl3 _ => ?_); refine W9 zP (fun G4 hle4 hsl4 _ => ?_); refine K9 rfl (A0X G4 br pb nb cb (p + 1) bs _ _ _ _ (hb.mono (hle3.trans hle4)) hnb zZ (hsl3.mono hle4) zY) (Pk.perm zP) rfl rfl (fun v G5 outs hle5 hh => ?_); obtain ⟨rfl, rfl, hv⟩ := hh; obtain ⟨k', rfl, hk'⟩ : ∃ k', v = .int .i64 k' ∧ H5 k' := (by simp only [List.mem_cons, List.not_mem_nil, or_false] at hv; rcases hv with rfl | rfl | rfl | rfl | rfl <;> exact ⟨_, rfl, by unfold H5; omega⟩))
 refine B4 ?_
 refine O4 (.mk k' ks, q, c, p + 2, G5) ?_ ?_
 (simp only [I6]; exact F9)
 (dsimp only; exact ⟨hle3.trans hle4, (hst.mono (hle3.trans hle4)).ty rfl hsl4 hk', by (rw [L8]; omega), by omega, by omega⟩)
 refine A9 ?_
 refine sB (qE rfl rfl) rfl rfl (fun h48 => ?_) (fun h48 => ?_)
 refine B4 ?_
 refine D3 D4 rfl ?_
 refine I9 (i := 0) (l' := [tt,ff,ff,ff,ff,ff,ff]) rfl C8 (C3 rfl) rfl zX rfl rfl ?_
 refine aL 1 rfl (E9 rfl rfl) rfl ?_
 refine A2 2 ?_
 refine T2 rfl rfl ((A2y _)) rfl rfl rfl ?_
 refine A2 3 ?_
 (refine D2 rfl (D1 rfl rfl rfl zZ zU rfl) rfl rfl ?_; rintro _ ⟨b59, rfl⟩)
 refine A2 4 ?_
 refine O8 rfl rfl rfl rfl rfl rfl (fun _ _ => by repeat (first | exact Sw.here | apply Sw.there)) (J7 zS) rfl zT zU zZ rfl rfl zH (fun qn cn => ?_)
 (refine A0g (cs := es.flatten ++ [.int .i64 1, .slice none 0 0]) zP (fun G6 hle6 hsl6 _ => ?_))
 refine aP 5 rfl (C3 rfl) rfl ?_
 refine A2 6 ?_
 refine T3 rfl rfl rfl rfl rfl rfl rfl rfl zX zR (by rfl) ?_
 refine A4 ?_
 refine O4 (.mk k (ks ++ [R6]), qn, cn, p + 1, G6) (by rw [show (Ty.mk k (ks ++ [R6])).ks.length = ks.length + 1 from by simp [Ty.ks]]; exact F9) ?_
 (dsimp only; refine ⟨hle6, D8.ty (ts := ks ++ [R6]) (es := es ++ [[.int .i64 1, .slice none 0 0]]) (D8.snoc (hst.mono hle6) (A1t _)) rfl (by simpa [Ty.ks] using hsl6) hk, ?_, by omega, by omega⟩; rw [L8, A5p, A6T, List.length_append]; simp only [List.length_singleton]; omega)
 refine A9 ?_
 refine sB (qE rfl rfl) rfl rfl (fun h76 => ?_) (fun h76 => ?_)
 refine E8 ?_
 refine C2 ?_
 (refine A11 zP (fun G3 hle3 hsl3 _ => ?_); refine L4 (fun (x : Nat × Ty × Option Addr × Nat × IM) => ⟨[(6, .int .i64 x.1), (5, .pointer (some ⟨b11, 0, none⟩)), (4, .pointer (some ⟨b4, 0, none⟩))], [.blk b11 [.int .i64 x.2.1.k, .slice x.2.2.1 x.2.1.ks.length x.2.2.2.1], .blk b4 [.int .i64 0, .slice none 0 0], rd br pb nb cb (p + 1)], x.2.2.2.2⟩) (fun x => x.1 ≤ 4 ∧ B9 G3 x.2.2.2.2 ∧ C6 x.2.2.2.2 x.2.1 [.int .i64 x.2.1.k, .slice x.2.2.1 x.2.1.ks.length x.2.2.2.1] ∧ L8 x.2.1 ≤ 30 + 2 * x.1) (fun x => 4 - x.1) (0, .mk k ks, q, c, G3) ?_ ?_ ?_)
 (simp only [I6]; exact F9)
 (dsimp only; exact ⟨by omega, B9.refl _, (hst.mono hle3).ty rfl hsl3 hk, by (rw [L8]; omega)⟩)
 (rintro ⟨i, ⟨tk, tks⟩, qi, ci, Gi⟩ ⟨hi, hlei, hri, hsi⟩; simp only [Ty.k, Ty.ks] at hi hlei hri hsi ⊢)
 refine B4 ?_
 refine sB (N0 rfl rfl) rfl rfl (fun h95 => ?_) (fun h95 => ?_)
 refine A9 ?_
 refine C2 ?_
 refine D3 D4 rfl ?_
 refine I7 (i := 1) (l' := [ff,tt,ff,ff,ff]) rfl C8 (A3 rfl rfl) rfl zX rfl rfl ?_
 refine A2 0 ?_
 refine T2 rfl rfl ((A2y _)) rfl rfl rfl ?_
 refine A2 2 ?_
 (refine D2 rfl (D1 rfl rfl rfl zZ zU rfl) rfl rfl ?_; rintro _ ⟨b108, rfl⟩)
 (refine A0g (cs := [.int .i64 1, .slice none 0 0, .int .i64 tk, .slice qi tks.length ci]) zP (fun G7 hle7 hsl7 _ => ?_))
 refine aP 3 rfl (pBd rfl rfl) rfl ?_
 refine A2 4 ?_
 refine T3 rfl rfl rfl rfl rfl rfl rfl rfl zX zR (by rfl) ?_
 refine A8 ?_
 refine sP (J9 rfl rfl zZ zZ) rfl rfl ?_
 refine A4 ?_
 refine J6 (i + 1, .mk 4 [R6, .mk tk tks], some ⟨b108, 0, none⟩, 2, G7) ?_ ?_ ?_
 (simp only [I6]; exact F9)
 (dsimp only; refine ⟨by omega, hlei.trans hle7, D8.ty (ts := [R6, .mk tk tks]) (es := [[.int .i64 1, .slice none 0 0], [.int .i64 tk, .slice qi tks.length ci]]) ⟨_, _, rfl, A1t _, _, _, rfl, hri.mono hle7, rfl⟩ rfl hsl7 ⟨by omega, by omega⟩, ?_⟩; rw [L8, R5, R5, R5, A6T]; simp only [List.length_cons, List.length_nil]; omega)
 (show 4 - (i + 1) < 4 - i; omega)
 refine E4 ?_
 refine O4 (.mk tk tks, qi, ci, p + 1, Gi) ?_ ?_
 (simp only [I6]; exact F9)
 (dsimp only; exact ⟨hle3.trans hlei, hri, by omega, by omega, by omega⟩)
 refine B4 ?_
 (refine A11 zP (fun G8 hle8 hsl8 _ => ?_); refine tK ?_)
 refine E0 ?_
 refine O4 (.mk k ks, q, c, p + 1, G8) ?_ ?_
 (simp only [I6]; exact F9)
 (dsimp only; exact ⟨hle8, (hst.mono hle8).ty rfl hsl8 hk, by (rw [L8]; omega), by omega, by omega⟩)
 (rintro ⟨t', q', c', p', G'⟩ ⟨hle9, hr9, hs9, hp9, hp9'⟩; simp only [] at hle9 hr9 hs9 hp9 hp9' ⊢)
 refine B0 ?_
 refine H6 (outs := [rd br pb nb cb p']) (rC rfl (A3 rfl rfl)) zM ?_
 (exact ⟨p', by omega, by omega, rfl, t', _, rfl, hr9, by omega⟩)
mutual
def K8 : Tm → Tm
 | .mk k nm num ty fr lb ks => if k = 13 ∨ k = 14 then (M6 ks).headD K4 else .mk k nm num (if k = 5 then R6 else B3) B3 0 (M6 ks)
def M6 : List Tm → List Tm
 | [] => []
 | t :: ts => K8 t :: M6 ts
end
theorem A3k : ∀ ks, M6 ks = ks.map K8
 | [] => rfl
 | t :: ts => by rw [M6, A3k ts, List.map_cons]
def A0Z : Tm → Tm
 | .mk k nm num ty fr lb ks => if k = 13 ∨ k = 14 then ks.headD K4 else if k = 5 then .mk k nm num R6 fr lb ks else .mk k nm num ty fr lb ks
def A3l : Tm → Prop
 | .mk k _ _ _ _ _ ks => k = 13 ∨ k = 14 → ks ≠ []
theorem A2A {t : Ty} (h : A0n t = true) : t = B3 := by
 obtain ⟨k, ks⟩ := t
 obtain ⟨h1, h2⟩ : (Ty.mk k ks).k = 0 ∧ (Ty.mk k ks).ks.length = 0 := of_decide_eq_true h
 simp only [Ty.k, Ty.ks] at h1 h2
 have h3 : ks = [] := List.length_eq_zero_iff.1 zZ
 rw [h3, B3]
 congr
theorem A0O {D N : Int} {k : Int} {nm : ByteArray} {num : Int} {ty fr : Ty} {lb : Int} {ks : List Tm} {d : Int} (h : P4 D N (.mk k nm num ty fr lb ks) d = true) : d ≤ D ∧ k ≠ N ∧ Z8 k nm num ty fr lb ks.length = true ∧ O0 D N ks (d + 1) = true := by
 rw [P4] at h
 simp only [Bool.and_eq_true, decide_eq_true_eq] at h
 exact ⟨h.1.1.1, h.1.1.2, h.1.2, h.2⟩
mutual
theorem A9h (D N : Int) : ∀ (t : Tm) (d : Int), P4 D N t d = true → A1s A0Z t = K8 t ∧ mOk A3l A0Z t
 | .mk k nm num ty fr lb ks, d, h => by
  obtain ⟨h1, h2, h3, h4⟩ := A0O h
  obtain ⟨e1, e2⟩ := A9i D N ks _ h4
  have hn := X7.1 h3
  rw [A1s, K8, mOk, e1]
  refine ⟨?_, e2, ?_⟩
  ·rw [A0Z]
   by_cases hk : k = 13 ∨ k = 14
   ·rw [if_pos hk, if_pos hk]
   ·rw [if_neg hk, if_neg hk]
    obtain ⟨hf, hl⟩ := hn.2.2.2.2.2.2.2.2 zZ
    rw [A2A hf, hl]
    by_cases hk5 : k = 5
    ·rw [if_pos hk5, if_pos hk5]
    ·rw [if_neg hk5, if_neg hk5, A2A (hn.2.2.2.2.2.2.1 zZ)]
  ·rw [A3l]
   intro hk he
   have ha := hn.1
   have : ks.length = 0 := by
    have := congrArg List.length he
    rw [A3k, List.length_map] at this
    simpa using this
   rcases hk with rfl | rfl <;> (rw [this] at ha; revert ha; decide)
theorem A9i (D N : Int) : ∀ (ts : List Tm) (d : Int), O0 D N ts d = true → A0z A0Z ts = M6 ts ∧ A17 A3l A0Z ts
 | [], d, h => by rw [A0z, M6, A17]; exact ⟨rfl, trivial⟩
 | t :: ts, d, h => by
  rw [O0, Bool.and_eq_true] at h
  obtain ⟨a1, a2⟩ := A9h D N t d h.1
  obtain ⟨b1, b2⟩ := A9i D N ts d h.2
  rw [A0z, M6, A17, a1, b1]
  exact ⟨rfl, a2, b2⟩
end
mutual
theorem A2P : ∀ t : Tm, t.small → (K8 t).small ∧ E1 (K8 t) ≤ E1 t
 | .mk k nm num ty fr lb ks, h => by
  simp only [Tm.small] at h
  obtain ⟨h1, h2, h3, h4, h5⟩ := h
  obtain ⟨b1, b2⟩ := A9j ks h5
  rw [K8]
  by_cases hk : k = 13 ∨ k = 14
  ·rw [if_pos hk]
   cases ks with
   | nil => exact ⟨by simp [M6, K4, Tm.small, Ty.small, Ty.smallL, Tm.smallL, ByteArray.size], by rw [E1]; simp [M6, K4, E1, H3]⟩
   | cons x xs =>
    simp only [Tm.smallL] at h5
    obtain ⟨c1, c2⟩ := A2P x h5.1
    rw [M6, E1, H3]
    exact ⟨c1, by show E1 (K8 x) ≤ _; omega⟩
  ·rw [if_neg hk]
   simp only [Tm.small, E1]
   refine ⟨⟨h1, ?_, by simp [B3, Ty.small, Ty.smallL], by rw [A3k, List.length_map]; exact h4, b1⟩, by omega⟩
   by_cases hk5 : k = 5
   ·rw [if_pos hk5]; simp [R6, Ty.small, Ty.smallL]
   ·rw [if_neg hk5]; simp [B3, Ty.small, Ty.smallL]
theorem A9j : ∀ ts : List Tm, Tm.smallL ts → Tm.smallL (M6 ts) ∧ H3 (M6 ts) ≤ H3 ts
 | [], h => by rw [M6]; simp [Tm.smallL]
 | t :: ts, h => by
  simp only [Tm.smallL] at h
  obtain ⟨a1, a2⟩ := A2P t h.1
  obtain ⟨b1, b2⟩ := A9j ts h.2
  rw [M6, H3, H3]
  simp only [Tm.smallL]
  exact ⟨⟨a1, b1⟩, by omega⟩
end
structure IS where
 B : BV
 c : Nat
 L : List SV
def A00 : List (ByteArray × SV) → ByteArray → Option SV
 | [], _ => none
 | (x, s) :: Γ, nm => if x = nm then some s else A00 Γ nm
inductive Nod : Int → List SV → IS → IS → Option SV → Prop
 | num {S} : Nod 2 [] S S (some (.b false))
 | tru {k S} : k = 3 ∨ k = 4 → Nod k [] S S (some (.b true))
 | pair {x y S} : Nod 10 [x, y] S S (some (.t true x y))
 | app {x y S B' ok} : S.B S.c = none → Q2 S.B x (.t false y (.v S.c)) B' ok → Nod 6 [x, y] S ⟨B', S.c + 2, S.L⟩ (if ok = true then some (.v S.c) else none)
 | ar0 {k x y S B'} : k = 7 ∨ k = 8 → Q2 S.B x (.b false) B' false → Nod k [x, y] S ⟨B', S.c, S.L⟩ none
 | ar {k x y S B1 B' ok} : k = 7 ∨ k = 8 → Q2 S.B x (.b false) B1 true → Q2 B1 y (.b false) B' ok → Nod k [x, y] S ⟨B', S.c, S.L⟩ (if ok = true then some (.b (decide (k = 8))) else none)
 | ite0 {x y z S B'} : Q2 S.B x (.b true) B' false → Nod 9 [x, y, z] S ⟨B', S.c, S.L⟩ none
 | ite {x y z S B1 B' ok} : Q2 S.B x (.b true) B1 true → Q2 B1 y z B' ok → Nod 9 [x, y, z] S ⟨B', S.c, S.L⟩ (if ok = true then some y else none)
 | part {k x S B' ok} : k = 11 ∨ k = 12 → S.B S.c = none → S.B (S.c + 1) = none → Q2 S.B x (.t true (.v S.c) (.v (S.c + 1))) B' ok → Nod k [x] S ⟨B', S.c + 2, S.L⟩ (if ok = true then some (.v (if k = 12 then S.c + 1 else S.c)) else none)
mutual
inductive U2 : List (ByteArray × SV) → Tm → IS → IS → Option SV → Prop
 | var {Γ nm num ty fr lb ks S} : U2 Γ (.mk 1 nm num ty fr lb ks) S S (A00 Γ nm)
 | lam {Γ nm num ty fr lb e S S' o} : S.B S.c = none → U2 ((nm, .v S.c) :: Γ) e ⟨S.B, S.c + 1, S.L ++ [.v S.c]⟩ S' o → U2 Γ (.mk 5 nm num ty fr lb [e]) S S' (o.map fun t => .t false (.v S.c) t)
 | no {Γ k nm num ty fr lb ks S S'} : k ≠ 1 → k ≠ 5 → A0I Γ ks S S' none → U2 Γ (.mk k nm num ty fr lb ks) S S' none
 | node {Γ k nm num ty fr lb ks S S1 S2 ss o} : k ≠ 1 → k ≠ 5 → A0I Γ ks S S1 (some ss) → Nod k ss S1 S2 o → U2 Γ (.mk k nm num ty fr lb ks) S S2 o
inductive A0I : List (ByteArray × SV) → List Tm → IS → IS → Option (List SV) → Prop
 | nil {Γ S} : A0I Γ [] S S (some [])
 | no {Γ e es S S'} : U2 Γ e S S' none → A0I Γ (e :: es) S S' none
 | cons {Γ e es S S1 S2 s os} : U2 Γ e S S1 (some s) → A0I Γ es S1 S2 os → A0I Γ (e :: es) S S2 (os.map (s :: ·))
end
mutual
def mBr : Tm → Prop
 | .mk k nm _ _ _ _ ks => E7 k = ks.length ∧ 1 ≤ k ∧ k ≤ 12 ∧ (k = 1 ∨ k = 5 → nm.size = 1) ∧ A1e ks
def A1e : List Tm → Prop
 | [] => True
 | t :: ts => mBr t ∧ A1e ts
end
theorem SV.lt.mono {s : SV} {c c' : Nat} (h : s.lt c) (hc : c ≤ c') : s.lt c' := fun m hm => Nat.lt_of_lt_of_le (h m hm) hc
theorem WB.mono {B : BV} {c c' : Nat} (h : WB B c) (hc : c ≤ c') : WB B c' := ⟨fun n hn => h.hi n zZ, by
 obtain ⟨r, hr⟩ := h.rk
 exact ⟨r, fun n s hs m hm => ⟨(hr n s hs m hm).1, Nat.lt_of_lt_of_le (hr n s hs m hm).2 hc⟩⟩⟩
structure IS.ok (S : IS) : Prop where
 wb : WB S.B S.c
 ls : ∀ s ∈ S.L, s.lt S.c
def A1f (Γ : List (ByteArray × SV)) (c : Nat) : Prop := ∀ p ∈ Γ, p.2.lt c
theorem A1f.mono {Γ : List (ByteArray × SV)} {c c' : Nat} (h : A1f Γ c) (hc : c ≤ c') : A1f Γ c' := fun p hp => (h p hp).mono hc
theorem A6U {c : Nat} : ∀ {Γ : List (ByteArray × SV)} {nm : ByteArray} {s : SV}, A1f Γ c → A00 Γ nm = some s → s.lt c
 | [], _, _, _, h => by cases h
 | (x, t) :: Γ, nm, s, hc, h => by
  rw [A00] at h
  split at h
  ·cases h; exact hc _ List.mem_cons_self
  ·exact A6U (fun p hp => hc p (List.mem_cons_of_mem _ hp)) h
theorem B3T {S : IS} (h : S.ok) {a b : SV} (ha : a.lt S.c) (hb : b.lt S.c) : ∃ B' ok, Q2 S.B a b B' ok ∧ WB B' S.c := by
 obtain ⟨r, hr⟩ := h.wb.den a
 obtain ⟨B', ok, h1, h2, _⟩ := B3g (nfr S.B S.c) r.sz S.B S.c a b r h.wb (Nat.le_refl _) ha hb hr (Nat.le_refl _)
 exact ⟨B', ok, h1, h2⟩
theorem A3N {B : BV} {c : Nat} (h : WB B c) {a b : SV} (ha : a.lt c) (hb : b.lt c) : ∃ B' ok, Q2 B a b B' ok ∧ WB B' c :=
 B3T (S := ⟨B, c, []⟩) ⟨h, fun s hs => (by cases hs)⟩ ha hb
theorem X8 (b : Bool) (c : Nat) : (SV.b b).lt c := fun m h => (by cases h)
theorem Y4 {n c : Nat} (h : n < c) : (SV.v n).lt c := fun m hm => by cases hm; exact h
theorem A18 {b : Bool} {x y : SV} {c : Nat} (hx : x.lt c) (hy : y.lt c) : (SV.t b x y).lt c := fun m hm => hm.elim (hx m) (hy m)
structure A5t (S S' : IS) (n : Nat) (k : Nat) : Prop where
 ok : S'.ok
 le : S.c ≤ S'.c
 ub : S'.c ≤ S.c + 2 * n
 ln : S'.L.length ≤ S.L.length + k
theorem B3U {k : Int} {ss : List SV} {S : IS} (hS : S.ok) (hs : ∀ s ∈ ss, s.lt S.c) (h : E7 k = ss.length) (h1 : 1 ≤ k) (h12 : k ≤ 12) (n1 : k ≠ 1) (n5 : k ≠ 5) :
  ∃ S' o, Nod k ss S S' o ∧ S'.ok ∧ S.c ≤ S'.c ∧ S'.c ≤ S.c + 2 ∧ S'.L = S.L ∧ ∀ s, o = some s → s.lt S'.c := by
 have hW2 : WB S.B (S.c + 2) := hS.wb.mono zZ
 have hL2 : ∀ s ∈ S.L, s.lt (S.c + 2) := fun s h => (hS.ls s h).mono zZ
 have hc : k = 2 ∨ (k = 3 ∨ k = 4) ∨ k = 6 ∨ (k = 7 ∨ k = 8) ∨ k = 9 ∨ k = 10 ∨ (k = 11 ∨ k = 12) := by omega
 rcases hc with rfl | hk | rfl | hk | rfl | rfl | hk
 ·obtain rfl : ss = [] := List.length_eq_zero_iff.1 (by have : E7 2 = 0 := rfl; omega)
  exact ⟨S, _, .num, hS, Nat.le_refl _, by omega, rfl, fun s h => by cases h; exact X8 _ _⟩
 ·obtain rfl : ss = [] := List.length_eq_zero_iff.1 (by have : E7 k = 0 := (by rcases hk with rfl | rfl <;> rfl); omega)
  exact ⟨S, _, .tru hk, hS, Nat.le_refl _, by omega, rfl, fun s h => by cases h; exact X8 _ _⟩
 ·obtain ⟨x, y, rfl⟩ : ∃ x y, ss = [x, y] := by
   have : ss.length = 2 := by have : E7 6 = 2 := rfl; omega
   match ss, this with | [x, y], _ => exact ⟨x, y, rfl⟩
  have hx := (hs x zA0).mono (show S.c ≤ S.c + 2 by omega)
  have hy := (hs y zA0).mono (show S.c ≤ S.c + 2 by omega)
  obtain ⟨B', ok, hu, hB⟩ := A3N hW2 hx (A18 (b := false) hy (Y4 (show S.c < S.c + 2 by omega)))
  exact ⟨_, _, .app (hS.wb.hi _ (Nat.le_refl _)) hu, ⟨hB, hL2⟩, by simp, by simp, rfl, fun s h => by split at h <;> cases h; exact Y4 zA0⟩
 ·obtain ⟨x, y, rfl⟩ : ∃ x y, ss = [x, y] := by
   have : ss.length = 2 := by have : E7 k = 2 := (by rcases hk with rfl | rfl <;> rfl); omega
   match ss, this with | [x, y], _ => exact ⟨x, y, rfl⟩
  obtain ⟨B1, ok, hu, hB⟩ := A3N hS.wb (hs x zA0) (X8 false _)
  cases ok with
  | false => exact ⟨_, _, .ar0 hk hu, ⟨hB, hS.ls⟩, Nat.le_refl _, by simp, rfl, fun s h => by cases h⟩
  | true =>
   obtain ⟨B2, ok2, hu2, hB2⟩ := A3N hB (hs y zA0) (X8 false _)
   exact ⟨_, _, .ar hk hu hu2, ⟨hB2, hS.ls⟩, Nat.le_refl _, by simp, rfl, fun s h => by split at h <;> cases h; exact X8 _ _⟩
 ·obtain ⟨x, y, z, rfl⟩ : ∃ x y z, ss = [x, y, z] := by
   have : ss.length = 3 := by have : E7 9 = 3 := rfl; omega
   match ss, this with | [x, y, z], _ => exact ⟨x, y, z, rfl⟩
  obtain ⟨B1, ok, hu, hB⟩ := A3N hS.wb (hs x zA0) (X8 true _)
  cases ok with
  | false => exact ⟨_, _, .ite0 hu, ⟨hB, hS.ls⟩, Nat.le_refl _, by simp, rfl, fun s h => by cases h⟩
  | true =>
   obtain ⟨B2, ok2, hu2, hB2⟩ := A3N hB (hs y zA0) (hs z zA0)
   exact ⟨_, _, .ite hu hu2, ⟨hB2, hS.ls⟩, Nat.le_refl _, by simp, rfl, fun s h => by split at h <;> cases h; exact hs _ zA0⟩
 ·obtain ⟨x, y, rfl⟩ : ∃ x y, ss = [x, y] := by
   have : ss.length = 2 := by have : E7 10 = 2 := rfl; omega
   match ss, this with | [x, y], _ => exact ⟨x, y, rfl⟩
  exact ⟨S, _, .pair, hS, Nat.le_refl _, by omega, rfl, fun s h => by cases h; exact A18 (hs x zA0) (hs y zA0)⟩
 ·obtain ⟨x, rfl⟩ : ∃ x, ss = [x] := by
   have : ss.length = 1 := by have : E7 k = 1 := (by rcases hk with rfl | rfl <;> rfl); omega
   match ss, this with | [x], _ => exact ⟨x, rfl⟩
  have hx := (hs x zA0).mono (show S.c ≤ S.c + 2 by omega)
  obtain ⟨B', ok, hu, hB⟩ := A3N hW2 hx (A18 (b := true) (Y4 (show S.c < S.c + 2 by omega)) (Y4 (show S.c + 1 < S.c + 2 by omega)))
  exact ⟨_, _, .part hk (hS.wb.hi _ (Nat.le_refl _)) (hS.wb.hi _ zZ) hu, ⟨hB, hL2⟩, by simp, by simp, rfl, fun s h => by split at h <;> cases h; exact Y4 (by dsimp only; split <;> omega)⟩
mutual
def A0P : Tm → Nat
 | .mk k _ _ _ _ _ ks => (if k = 5 then 1 else 0) + A01 ks
def A01 : List Tm → Nat
 | [] => 0
 | t :: ts => A0P t + A01 ts
end
mutual
theorem A6V : ∀ (e : Tm) (Γ : List (ByteArray × SV)) (S : IS), mBr e → S.ok → A1f Γ S.c → ∃ S' o, U2 Γ e S S' o ∧ A5t S S' (E1 e) (A0P e) ∧ (∀ s, o = some s → s.lt S'.c) ∧ (o.isSome = true → S'.L.length = S.L.length + A0P e)
 | .mk k nm num ty fr lb ks, Γ, S, h, hS, hΓ => by
  simp only [mBr] at h
  obtain ⟨ha, h1, h12, hnm, hb⟩ := h
  by_cases n1 : k = 1
  ·subst n1
   have hk0 : ks = [] := List.length_eq_zero_iff.1 (by have : E7 1 = 0 := rfl; omega)
   subst hk0
   exact ⟨S, _, .var, ⟨hS, Nat.le_refl _, by omega, by omega⟩, fun s hs => A6U hΓ hs, fun _ => by simp [A0P, A01]⟩
  ·by_cases n5 : k = 5
   ·subst n5
    have hlen : ks.length = 1 := by have : E7 5 = 1 := rfl; omega
    match ks, hlen, hb with
    | [e], _, hb =>
     simp only [A1e] at hb
     have hS1 : IS.ok ⟨S.B, S.c + 1, S.L ++ [.v S.c]⟩ := ⟨hS.wb.mono zA0, fun s hs => by
      rcases List.mem_append.1 hs with hs | hs
      ·exact (hS.ls s hs).mono zA0
      ·simp only [List.mem_singleton] at hs; subst hs; exact Y4 zA0⟩
     have hΓ1 : A1f ((nm, .v S.c) :: Γ) (S.c + 1) := fun p hp => by
      rcases List.mem_cons.1 hp with rfl | hp
      ·exact Y4 zA0
      ·exact (hΓ p hp).mono zZ
     obtain ⟨S', o, h3, h4, h5, h6⟩ := A6V e _ _ hb.1 hS1 hΓ1
     have q1 := h4.le
     have q2 := h4.ub
     have q3 := h4.ln
     simp only [List.length_append, List.length_singleton] at q1 q2 q3 h6
     have hl : A0P (.mk 5 nm num ty fr lb [e]) = 1 + A0P e := by simp [A0P, A01]
     have ht : E1 (.mk 5 nm num ty fr lb [e]) = 1 + E1 e := by simp [E1, H3]; try omega
     refine ⟨S', _, .lam (hS.wb.hi _ (Nat.le_refl _)) h3, ⟨h4.ok, by omega, by rw [ht]; omega, by rw [hl]; omega⟩, fun s hs => ?_, fun hs => ?_⟩
     ·cases o with
      | none => cases hs
      | some t => cases hs; exact A18 (Y4 zZ) (h5 t rfl)
     ·cases o with
      | none => cases hs
      | some t => have := h6 rfl; rw [hl]; omega
   ·obtain ⟨S1, os, h3, h4, h5, h6⟩ := A9k ks Γ S hb hS hΓ
    have hl : A0P (.mk k nm num ty fr lb ks) = A01 ks := by simp [A0P, n5]
    have ht : E1 (.mk k nm num ty fr lb ks) = 1 + H3 ks := by simp [E1]; try omega
    have q1 := h4.le
    have q2 := h4.ub
    have q3 := h4.ln
    cases os with
    | none => exact ⟨S1, none, .no n1 n5 h3, ⟨h4.ok, q1, by rw [ht]; omega, by rw [hl]; omega⟩, fun s hs => (by cases hs), fun hs => (by cases hs)⟩
    | some ss =>
     obtain ⟨g1, g2⟩ := h5 ss rfl
     obtain ⟨S2, o, h7, h8, h9, h10, h11, h12'⟩ := B3U h4.ok g1 (by rw [g2]; exact ha) h1 h12 n1 n5
     have := h6 rfl
     exact ⟨S2, o, .node n1 n5 h3 h7, ⟨h8, by omega, by rw [ht]; omega, by rw [h11, hl]; omega⟩, h12', fun _ => by rw [h11, hl]; omega⟩
theorem A9k : ∀ (es : List Tm) (Γ : List (ByteArray × SV)) (S : IS), A1e es → S.ok → A1f Γ S.c → ∃ S' os, A0I Γ es S S' os ∧ A5t S S' (H3 es) (A01 es) ∧ (∀ ss, os = some ss → (∀ s ∈ ss, s.lt S'.c) ∧ ss.length = es.length) ∧ (os.isSome = true → S'.L.length = S.L.length + A01 es)
 | [], Γ, S, _, hS, _ => ⟨S, _, .nil, ⟨hS, Nat.le_refl _, by omega, by omega⟩, fun ss h => by cases h; exact ⟨by simp, rfl⟩, fun _ => by simp [A01]⟩
 | e :: es, Γ, S, h, hS, hΓ => by
  simp only [A1e] at h
  obtain ⟨S1, o, h1, h2, h3, h4⟩ := A6V e Γ S h.1 hS hΓ
  have hl : A01 (e :: es) = A0P e + A01 es := by simp [A01]
  have ht : H3 (e :: es) = E1 e + H3 es := by simp [H3]; try omega
  have q1 := h2.le
  have q2 := h2.ub
  have q3 := h2.ln
  cases o with
  | none => exact ⟨S1, none, .no h1, ⟨h2.ok, q1, by rw [ht]; omega, by rw [hl]; omega⟩, fun ss hs => (by cases hs), fun hs => (by cases hs)⟩
  | some s =>
   obtain ⟨S2, os, h5, h6, h7, h8⟩ := A9k es Γ S1 h.2 h2.ok (hΓ.mono q1)
   have p1 := h6.le
   have p2 := h6.ub
   have p3 := h6.ln
   have hs1 := h4 rfl
   refine ⟨S2, _, .cons h1 h5, ⟨h6.ok, by omega, by rw [ht]; omega, by rw [hl]; omega⟩, fun ss hs => ?_, fun hs => ?_⟩
   ·cases os with
    | none => cases hs
    | some r =>
     cases hs
     obtain ⟨g1, g2⟩ := h7 r rfl
     refine ⟨fun t ht => ?_, by simp [g2]⟩
     rcases List.mem_cons.1 ht with rfl | ht
     ·exact (h3 _ rfl).mono p1
     ·exact g1 t ht
   ·cases os with
    | none => cases hs
    | some r => have := h8 rfl; rw [hl]; omega
end
def S3 : Nat → SV → Option Ty
 | 0, _ => none
 | _ + 1, .v _ => some (.mk 2 [])
 | _ + 1, .b c => some (.mk (if c = true then 3 else 2) [])
 | d + 1, .t c x y => match S3 d x with
  | none => none
  | some a => match S3 d y with
   | none => none
   | some b => some (.mk (if c = true then 5 else 4) [a, b])
def Z9 : List SV → Option (List Ty)
 | [] => some []
 | s :: ss => match S3 4 s with
  | none => none
  | some t => match Z9 ss with
   | none => none
   | some ts => some (t :: ts)
section slaw
variable {P : Program} {Γ : M9} {env : O2} {hp : List A7} {G : IM} {ty : TypeId} {K : Po} {ops : Array Oper} {rest : List Oper}
theorem B3V {x y : Operand} {t el : TypeId} {i : L7} {sz by' : Nat} {zs : List Value} [hI : H9 P t i] (hd' : i.desc = .slice el) [hE : Y6 P el sz by' zs] {b o n c l : Nat}
  (hx : evo env x = some (.slice (some ⟨b, o, none⟩) n c)) (hy : evo env y = some (.int .i64 (l : Int))) (hl : l ≤ n) :
  J3 P Γ ⟨env, hp, G⟩ (.slice t x (some y) none none) ty (.slice (some ⟨b, if c = l then o else o + l * sz, none⟩) (n - l) (c - l)) := by
 refine ⟨fun a _ hs _ _ _ _ w => ?_⟩
 have hu := hI.und
 rw [hd'] at hu
 obtain ⟨d, hE⟩ := hE.ok
 obtain ⟨inf, z, t1, t2, t3, _⟩ := A3F (P := P) (t := el)
 have e1 : a.eval x = _ := hs.evo hx
 have e2 : a.eval y = _ := hs.evo hy
 have hb : ∀ code, (Instr.sliceBound (.int .i64 (l : Int)) n code).run P w = .ok l w := fun code => by
  have := run_sliceBound (P := P) w .i64 (l : Int) n code zZ zZ
  simpa using this
 simp only [execOp, Option.map, e1, e2, Instr.sliceAt, Sem.run_bind, run_underlying hu, Result.andThen_ok, Instr.slice, Instr.sliceBounds, Sem.run_pure, hb, t3]
 by_cases h : c = l
 ·simp [h]
 ·simp [h, A29]
theorem Sl.from {G : IM} {b o n c l sz : Nat} {cs : List Value} (h : Sl G (some ⟨b, o, none⟩) n c sz cs) (hl : l ≤ n) : Sl G (some ⟨b, if c = l then o else o + l * sz, none⟩) (n - l) (c - l) sz (cs.drop (l * sz)) := by
 obtain ⟨h1, h2, h3, h4⟩ := h
 refine ⟨by rw [List.length_drop, h1, Nat.sub_mul], by omega, by omega, ?_⟩
 by_cases h : c = l
 ·left; omega
 ·rcases h4 with h0 | ⟨b', o', full, he, hg, hv⟩
  ·left; omega
  ·right
   cases he
   rw [if_neg h]
   refine ⟨b, _, full, rfl, hg, fun j v hj => ?_⟩
   rw [List.getElem?_drop] at hj
   have := hv _ v hj
   rw [Nat.add_assoc]; exact this
theorem St.slc_open {a : Act} {w : World} {p : Option Addr} {c el sz n : Nat} {cs : List Value} {hp' : List A7} (hs : St Γ ⟨env, hp, G⟩ a w) (hk : Pk hp (.slc p c el sz n cs) hp') (h0 : 0 < n) :
  ∃ b C, p = some ⟨b, 0, none⟩ ∧ n ≤ c ∧ c ≤ maxLen ∧ St Γ ⟨env, .blk b (cs ++ C) :: hp', G⟩ a w := by
 have hown : W3 [.slc p c el sz n cs] G w := hs.res.own.of_mem hk.perm
 obtain ⟨hl, h⟩ := hown.ok _ List.mem_cons_self
 rcases h with ⟨hv, hn⟩ | ⟨g, cap, cur, hv, _, hg, hnc, hcm, hsz, ht⟩
 ·omega
 ·cases hv
  refine ⟨g, cur.toList.drop cs.length, rfl, hnc, hcm, ?_⟩
  have hcur : cur.toList = cs ++ cur.toList.drop cs.length := by
   have e : cs.length = n * sz := hl
   rw [e]
   conv => lhs; rw [← List.take_append_drop (n * sz) cur.toList, ht]
  have hr : T8 [.slc (some ⟨g, 0, none⟩) c el sz n cs] G w [.blk g (cs ++ cur.toList.drop cs.length)] G w := by
   refine ⟨⟨hown.inn, ?_, by simp [Fp, A7.fp], ?_⟩, Ext.refl _ _, B9.refl _, fun _ _ h => .inl h, ?_, fun b l h h0 => absurd h (by rw [h0]; simp)⟩
   ·intro e he
    simp at he; subst he
    refine ⟨el, ?_⟩
    rw [← hcur]; simpa using hg
   ·intro b' hb; exact hown.disj b' (by simpa [Fp, A7.fp, J5] using hb)
   ·intro b' hb; exact .inr (by simpa [Fp, A7.fp, J5] using hb)
  exact ⟨hs.size, hs.nod, hs.env, by have := (hs.res.perm hk.perm).frame hr; simpa using this⟩
theorem A5u {p : Option Addr} {c el sz n : Nat} {cs : List Value} {hp' : List A7} (hk : Pk hp (.slc p c el sz n cs) hp') (h0 : 0 < n)
  (h : ∀ b C, p = some ⟨b, 0, none⟩ → n ≤ c → c ≤ maxLen → H8 P Γ ops rest K ⟨env, .blk b (cs ++ C) :: hp', G⟩) : H8 P Γ ops rest K ⟨env, hp, G⟩ :=
 ⟨fun a w hs => let ⟨b, C, h1, h2, h3, h4⟩ := hs.slc_open hk h0; (h b C h1 h2 h3).run a w h4⟩
end slaw
theorem B3W {es : List (List Value)} {j : Nat} {vs : List Value} (hj : j < es.length) : (es.set j vs).flatten = (es.take j).flatten ++ (vs ++ (es.drop (j + 1)).flatten) := by
 rw [List.set_eq_take_append_cons_drop, if_pos hj]; simp
theorem A9l {es : List (List Value)} {j : Nat} (hj : j < es.length) : es.flatten = (es.take j).flatten ++ (es[j] ++ (es.drop (j + 1)).flatten) := by
 have h := congrArg List.flatten (List.take_append_drop j es).symm
 rw [List.drop_eq_getElem_cons hj, List.flatten_append, List.flatten_cons] at h
 exact h
theorem A5v {es : List (List Value)} {C vs : List Value} {j sz : Nat} (hj : j < es.length) (ha : ∀ e ∈ es, e.length = sz) (hv : vs.length = sz) : V1 (es.flatten ++ C) (0 + j * sz) vs = some ((es.set j vs).flatten ++ C) := by
 have := A6u (A := (es.take j).flatten) (B := es[j]) (C := (es.drop (j + 1)).flatten ++ C) (V := vs) (o := 0 + j * sz)
  (by rw [A1L (fun e he => ha e (List.mem_of_mem_take he)), List.length_take]; rw [Nat.min_eq_left zZ]; omega) (by rw [ha _ (List.getElem_mem hj), hv])
 rw [A9l hj, B3W hj]
 simp only [List.append_assoc] at this ⊢
 exact this
theorem F8.set {G : IM} : ∀ {ks : List Tm} {es : List (List Value)} {j : Nat} {y : Tm} {v : List Value}, F8 G ks es → B8 G y v → F8 G (ks.set j y) (es.set j v)
 | [], es, j, y, v, h, h2 => by simp only [F8] at h; subst h; simp [F8]
 | t :: ts, es, 0, y, v, h, h2 => by
  simp only [F8] at h
  obtain ⟨a, r, rfl, h3, h4⟩ := h
  simp only [List.set_cons_zero, F8]
  exact ⟨v, r, rfl, h2, h4⟩
 | t :: ts, es, j + 1, y, v, h, h2 => by
  simp only [F8] at h
  obtain ⟨a, r, rfl, h3, h4⟩ := h
  simp only [List.set_cons_succ, F8]
  exact ⟨a, r.set j v, rfl, h3, F8.set h4 h2⟩
def A9m : Tm → List Int → Tm → Tm
 | _, [], x => x
 | .mk k nm num ty fr lb ks, i :: is, x => if h : 0 ≤ i ∧ i < ks.length then .mk k nm num ty fr lb (ks.set i.toNat (A9m (ks[i.toNat]'zZ) is x)) else .mk k nm num ty fr lb ks
def W0 : Ty := .mk 2 []
def A0i : Ty := .mk 3 []
mutual
def S7 : Ty → Ty → Bool
 | .mk k ks, t => decide (k = t.k) && A02 ks t.ks
def A02 : List Ty → List Ty → Bool
 | [], [] => true
 | a :: xs, b :: ys => S7 a b && A02 xs ys
 | _, _ => false
end
theorem A6W (k k' : Int) (ks ks' : List Ty) : S7 (.mk k ks) (.mk k' ks') = (decide (k = k') && A02 ks ks') := by rw [S7]; rfl
mutual
theorem A19 : ∀ (a b : Ty), S7 a b = true ↔ a = b
 | .mk k ks, .mk k' ks' => by
  rw [A6W, Bool.and_eq_true, decide_eq_true_eq, A9n ks ks', Ty.mk.injEq]
theorem A9n : ∀ (xs ys : List Ty), A02 xs ys = true ↔ xs = ys
 | [], [] => by simp [A02]
 | [], b :: ys => by simp [A02]
 | a :: xs, [] => by simp [A02]
 | a :: xs, b :: ys => by
  rw [A02, Bool.and_eq_true, A19 a b, A9n xs ys, List.cons.injEq]
end
theorem A9o (a : Ty) : S7 a a = true := (A19 a a).2 rfl
theorem A9p : ∀ (xs ys : List Ty), A02 xs ys = true ↔ xs.length = ys.length ∧ ∀ i, (h : i < xs.length) → (h' : i < ys.length) → S7 xs[i] ys[i] = true
 | [], [] => by simp [A02]
 | [], b :: ys => by simp [A02]
 | a :: xs, [] => by simp [A02]
 | a :: xs, b :: ys => by
  simp only [A02, Bool.and_eq_true, A9p xs ys, List.length_cons]
  constructor
  ·rintro ⟨h1, h2, h3⟩
   refine ⟨by omega, fun i hi hi' => ?_⟩
   cases i with
   | zero => exact h1
   | succ i => exact h3 i (by simpa using hi) (by simpa using hi')
  ·rintro ⟨h1, h2⟩
   exact ⟨h2 0 zA0 zA0, by omega, fun i hi hi' => h2 (i + 1) (by simpa using hi) (by simpa using hi')⟩

abbrev Cx := List (ByteArray × Ty)
def A0j (cx : Cx) (nm : ByteArray) : Nat → Option Ty
 | 0 => none
 | n + 1 => match cx[n]? with
  | some b => if b.1 = nm then some b.2 else A0j cx nm n
  | none => A0j cx nm n
def A0J (cx : Cx) (nm : ByteArray) : Option Ty := A0j cx nm cx.length
theorem A6X {cx : Cx} {nm x : ByteArray} {n : Nat} {t : Ty} (h : cx[n]? = some (x, t)) (he : x = nm) : A0j cx nm (n + 1) = some t := by
 rw [A0j, h]; simp only [he, if_true]
theorem A6Y {cx : Cx} {nm x : ByteArray} {n : Nat} {t : Ty} (h : cx[n]? = some (x, t)) (he : ¬x = nm) : A0j cx nm (n + 1) = A0j cx nm n := by
 rw [A0j, h]; simp only [he, if_false]

mutual
def X3 : Ty → Ty → Ty
 | .mk k ks, b => if k = 1 then b else if b.k = 1 then .mk k ks else .mk k (V4 ks b.ks)
def V4 : List Ty → List Ty → List Ty
 | a :: xs, b :: ys => X3 a b :: V4 xs ys
 | _, _ => []
end
theorem A1Q (k k' : Int) (ks ks' : List Ty) : X3 (.mk k ks) (.mk k' ks') = if k = 1 then .mk k' ks' else if k' = 1 then .mk k ks else .mk k (V4 ks ks') := by rw [X3]; rfl
def U8 (kind : Int) (t : Ty) : Option (Ty × Ty) :=
 if t.k = kind then some (t.ks.getD 0 B3, t.ks.getD 1 B3) else if t.k = 1 then some (R6, R6) else none
def P9 (cx : Cx) (k : Int) (nm : ByteArray) (ty : Ty) (h : List Ty) : Option (List Ty × Ty) :=
 if k = 1 then (match A0J cx nm with | some t => some ([], t) | none => none)
 else if k = 2 then some ([], W0)
 else if k = 3 ∨ k = 4 then some ([], A0i)
 else if k = 5 then some ([], .mk 4 [ty, h.getD 0 B3])
 else if k = 6 then (match U8 4 (h.getD 0 B3) with | some (a, b) => if N3 (h.getD 1 B3) a = true then some ([.mk 4 [a, b], a], b) else none | none => none)
 else if k = 7 ∨ k = 8 then (if N3 (h.getD 0 B3) W0 = true ∧ N3 (h.getD 1 B3) W0 = true then some ([W0, W0], if k = 8 then A0i else W0) else none)
 else if k = 9 then (if N3 (h.getD 0 B3) A0i = true ∧ N3 (h.getD 1 B3) (h.getD 2 B3) = true then some ([A0i, X3 (h.getD 1 B3) (h.getD 2 B3), X3 (h.getD 1 B3) (h.getD 2 B3)], X3 (h.getD 1 B3) (h.getD 2 B3)) else none)
 else if k = 10 then some ([], .mk 5 [h.getD 0 B3, h.getD 1 B3])
 else if k = 13 then (if N3 (h.getD 0 B3) ty = true then some ([ty], ty) else none)
 else (match U8 5 (h.getD 0 B3) with | some (a, b) => some ([.mk 5 [a, b]], if k = 12 then b else a) | none => none)
def A0A (cx : Cx) (k : Int) (nm : ByteArray) (ty : Ty) (h : List Ty) : Option (List Ty × Ty) := match P9 cx k nm ty h with
 | some (w, t) => if H7 t = true then some (w, t) else none
 | none => none
def A4w : List Ty → List Ty → Bool
 | [], _ => true
 | a :: xs, b :: ys => S7 a b && A4w xs ys
 | _ :: _, [] => false
def S4 (cx : Cx) (k : Int) (nm : ByteArray) (ty : Ty) : Cx := if k = 5 then cx ++ [(nm, ty)] else cx
mutual
def A1u (cx : Cx) : Tm → Option Ty
 | .mk k nm num ty fr lb ks => match A0q (S4 cx k nm ty) ks with
  | none => none
  | some h => if k = 14 then (if S7 (h.getD 0 B3) fr = true then some ty else none)
   else match A0A cx k nm ty h with
    | none => none
    | some (w, t) => if A4w w h = true then some t else none
def A0q (cx : Cx) : List Tm → Option (List Ty)
 | [] => some []
 | t :: ts => match A1u cx t with
  | none => none
  | some u => match A0q cx ts with
   | none => none
   | some us => some (u :: us)
end
def B8k (e : Tm) : Option Ty := if S0 e = true then A1u [] e else none
section slaws
variable {P : Program} {Γ : M9} {env : O2} {hp : List A7} {G : IM} {ty : TypeId}
theorem A5w {P : Program} {w : World} {l c : Nat} (hl : l ≤ c) (code : BoundsCode) : (Instr.sliceBound (.int .i64 (l : Int)) c code).run P w = .ok l w := by
 unfold Instr.sliceBound
 simp only [asIntOf, Sem.run_bind, Sem.run_pure, Result.andThen_ok]
 rw [if_pos ⟨by omega, by omega⟩]
 simp
theorem A5x {x y z : Operand} {t : TypeId} {i : L7} [hI : H9 P t i] (hd' : i.desc = .string) {s : ByteArray} {l h : Nat}
  (hx : evo env x = some (.string s)) (hy : evo env y = some (.int .i64 (l : Int))) (hz : evo env z = some (.int .i64 (h : Int))) (hl : l ≤ h) (hh : h ≤ s.size) :
  J3 P Γ ⟨env, hp, G⟩ (.slice t x (some y) (some z) none) ty (.string (s.extract l h)) := by
 refine ⟨fun a _ hs _ _ _ _ w => ?_⟩
 have hu := hI.und
 rw [hd'] at hu
 simp [execOp, (hs.evo hx : a.eval x = _), (hs.evo hy : a.eval y = _), (hs.evo hz : a.eval z = _), Instr.sliceAt, Sem.run_bind, run_underlying hu, Instr.slice, Instr.sliceBounds, A5w hl, A5w hh]
theorem A9q {x z : Operand} {t : TypeId} {i : L7} [hI : H9 P t i] (hd' : i.desc = .string) {s : ByteArray} {h : Nat}
  (hx : evo env x = some (.string s)) (hz : evo env z = some (.int .i64 (h : Int))) (hh : h ≤ s.size) :
  J3 P Γ ⟨env, hp, G⟩ (.slice t x none (some z) none) ty (.string (s.extract 0 h)) := by
 refine ⟨fun a _ hs _ _ _ _ w => ?_⟩
 have hu := hI.und
 rw [hd'] at hu
 simp [execOp, (hs.evo hx : a.eval x = _), (hs.evo hz : a.eval z = _), Instr.sliceAt, Sem.run_bind, run_underlying hu, Instr.slice, Instr.sliceBounds, A5w hh]
theorem A9r {x y : Operand} {t : TypeId} {i : L7} [hI : H9 P t i] (hd' : i.desc = .string) {s : ByteArray} {l : Nat}
  (hx : evo env x = some (.string s)) (hy : evo env y = some (.int .i64 (l : Int))) (hl : l ≤ s.size) :
  J3 P Γ ⟨env, hp, G⟩ (.slice t x (some y) none none) ty (.string (s.extract l s.size)) := by
 refine ⟨fun a _ hs _ _ _ _ w => ?_⟩
 have hu := hI.und
 rw [hd'] at hu
 simp [execOp, (hs.evo hx : a.eval x = _), (hs.evo hy : a.eval y = _), Instr.sliceAt, Sem.run_bind, run_underlying hu, Instr.slice, Instr.sliceBounds, A5w hl]
theorem B3X {x y : Operand} {t t' : TypeId} {r s : ByteArray} (hx : evo env x = some (.string r)) (hy : evo env y = some (.string s)) :
  J3 P Γ ⟨env, hp, G⟩ (.binOp .lss t x y t') ty (.bool (decide (Op.bytesLess r.toList s.toList = true))) := by
 refine ⟨fun a _ hs _ _ _ _ w => ?_⟩
 simp only [execOp, eqGuard, binOp, Op.stringOp, (hs.evo hx : a.eval x = _), (hs.evo hy : a.eval y = _)]
 simp
end slaws
theorem B3Y (s nm : ByteArray) (G : IM) (hs : s.size ≤ 1000) (hn : nm.size ≤ 1000) :
  Fn Tryz.prog 138 [.string s, .string nm] [] G (fun G' v outs => G' = G ∧ outs = [] ∧ ∃ r, v = .string r ∧ r.size ≤ s.size + nm.size) := by
 refine C0 Tryz.func138 rfl Tryz.ntmps138 Tryz.results138 rfl ?_
 intro w0
 refine M3 ?_
 refine C2 ?_
 (refine L4 (fun (i : Nat) => ⟨[(5, .int .i64 (i : Int)), (0, .string s), (1, .string nm)], [], G⟩) (fun i => i ≤ s.size) (fun i => s.size - i) 0 ?_ ?_ ?_)
 exact F9
 exact Nat.zero_le _
 (intro i hi)
 refine A8 ?_
 refine sQ (A2t rfl rfl) rfl (sB (N0 rfl rfl) rfl rfl (fun h23 => ?_) (fun h23 => ?_))
 refine B4 ?_
 refine sP (A15 (n := 1) rfl rfl zZ) rfl rfl ?_
 refine sP (A5x (h := i + 1) rfl rfl rfl rfl zZ zZ) rfl rfl ?_
 refine E0 ?_
 refine sB (B3X rfl rfl) rfl rfl (fun h31 => ?_) (fun h31 => ?_)
 refine A9 ?_
 refine C2 ?_
 refine A4 ?_
 refine sP (A15 (n := 1) rfl rfl zZ) rfl rfl ?_
 refine C1 ?_
 refine J6 (i + 1) ?_ ?_ ?_
 exact F9
 (show _ ≤ s.size; omega)
 (show s.size - _ < s.size - _; omega)
 refine M8 ?_
 refine sQ (A2t rfl rfl) rfl ?_
 refine sP (A1Z rfl rfl zZ) rfl rfl ?_
 refine B4 ?_
 refine sP (A15 (n := 1) rfl rfl zZ) rfl rfl ?_
 refine sP (A5x (h := i + 1) rfl rfl rfl rfl zZ zZ) rfl rfl ?_
 refine E0 ?_
 refine sB (A2u rfl rfl) rfl rfl (fun h72 => ?_) (fun h72 => ?_)
 refine O3 ?_
 refine H6 (outs := []) (rT rfl) A0.nil ?_
 (exact ⟨rfl, rfl, _, rfl, Nat.le_add_right _ _⟩)
 refine B0 ?_
 refine D3 D4 rfl ?_
 refine I9 (i := 0) (l' := [tt,ff,ff,ff,ff,ff,ff,ff,ff,ff]) rfl C8 (qM rfl) rfl zX rfl rfl ?_
 refine aP 1 rfl (qM rfl) rfl ?_
 refine aP 2 rfl (A9q rfl rfl rfl zZ) rfl ?_
 refine aP 3 rfl (qM rfl) rfl ?_
 refine aP 4 rfl (A4d rfl rfl (by simp only [ByteArray.size_extract, ByteArray.size_append]; omega)) rfl ?_
 refine aP 5 rfl (qM rfl) rfl ?_
 refine aP 6 rfl (qM rfl) rfl ?_
 refine aP 7 rfl (A9r rfl rfl rfl zZ) rfl ?_
 refine aP 8 rfl (A4d rfl rfl (by simp only [ByteArray.size_extract, ByteArray.size_append]; omega)) rfl ?_
 refine aP 9 rfl (qA rfl) rfl ?_
 refine C1 ?_
 refine H6 (outs := []) (rT rfl) A0.nil ?_
 (exact ⟨rfl, rfl, _, rfl, by simp only [ByteArray.size_extract, ByteArray.size_append]; omega⟩)
 refine A6p ?_
 refine sQ (A2t rfl rfl) rfl ?_
 refine sP (A1J rfl rfl zZ) rfl rfl ?_
 refine I5 ?_
 refine D3 D4 rfl ?_
 refine I9 (i := 0) (l' := [tt,ff,ff,ff,ff,ff,ff,ff,ff,ff]) rfl C8 (qM rfl) rfl zX rfl rfl ?_
 refine aP 1 rfl (qM rfl) rfl ?_
 refine aP 2 rfl (A9q rfl rfl rfl zZ) rfl ?_
 refine aP 3 rfl (qM rfl) rfl ?_
 refine aP 4 rfl (A4d rfl rfl (by simp only [ByteArray.size_extract, ByteArray.size_append]; omega)) rfl ?_
 refine aP 5 rfl (qM rfl) rfl ?_
 refine aP 6 rfl (qM rfl) rfl ?_
 refine aP 7 rfl (A9r rfl rfl rfl zZ) rfl ?_
 refine aP 8 rfl (A4d rfl rfl (by simp only [ByteArray.size_extract, ByteArray.size_append]; omega)) rfl ?_
 refine aP 9 rfl (qA rfl) rfl ?_
 refine C1 ?_
 refine H6 (outs := []) (rT rfl) A0.nil ?_
 (exact ⟨rfl, rfl, _, rfl, by simp only [ByteArray.size_extract, ByteArray.size_append]; omega⟩)
theorem A2Q (G : IM) : C6 G B3 [.int .i64 0, .slice none 0 0] := by
 simp only [B3, C6]
 exact ⟨none, 0, [], rfl, ⟨by omega, by omega⟩, D6.of (Sl.nil _ _) rfl zA0 zA0, by simp [D8]⟩
theorem A6Z : L8 B3 = 0 := rfl
theorem F8.tm {G : IM} {k : Int} {nm : ByteArray} {num : Int} {t : Ty} {q : Option Addr} {d : Nat} {ts : List Tm} {es : List (List Value)} {p : Option Addr} {n c : Nat} (h : F8 G ts es) (hn : ts.length = n) (hs : Sl G p n c 9 es.flatten) (hk : H5 k) (hm : H5 num)
  (ht : C6 G t [.int .i64 t.k, .slice q t.ks.length d]) : B8 G (.mk k nm num t B3 0 ts) [.int .i64 k, .string nm, .int .i64 num, .int .i64 t.k, .slice q t.ks.length d, .int .i64 0, .slice none 0 0, .int .i64 0, .slice p n c] := by
 subst hn
 simp only [B8]
 exact ⟨_, _, p, c, es, rfl, hk, hm, ⟨by omega, by omega⟩, ht, A2Q G, D6.of hs h.len h.all (fun e he => (h.each e he).2), h⟩
theorem A2B {G : IM} {k : Int} {nm : ByteArray} {num : Int} (hk : H5 k) (hm : H5 num) :
  B8 G (.mk k nm num B3 B3 0 []) [.int .i64 k, .string nm, .int .i64 num, .int .i64 0, .slice none 0 0, .int .i64 0, .slice none 0 0, .int .i64 0, .slice none 0 0] :=
 F8.tm (ts := []) (es := []) (t := B3) (by simp [F8]) rfl (Sl.nil _ _) hk hm (A2Q G)
theorem A2R (k : Int) (nm : ByteArray) (num : Int) : A0M (.mk k nm num B3 B3 0 []) = nm.size := by
 rw [A0M, A6Z, A0h]; simp
theorem A60 : ∀ (ts : List Tm) (t : Tm), A0h (ts ++ [t]) = A0h ts + A0M t
 | [], t => by simp [A0h]
 | a :: ts, t => by simp only [List.cons_append, A0h, A60 ts t]; omega
theorem A3m (k : Int) : E7 k ≤ 3 := by
 unfold E7; repeat (split; omega)
 omega
theorem A61 {d : Nat} (h : d ≤ 2) : dB (d + 1) ≤ 14 := by
 have : d = 0 ∨ d = 1 ∨ d = 2 := by omega
 rcases this with rfl | rfl | rfl <;> decide
theorem A3O (n : Int) (G : IM) : Fn Tryz.prog 109 [.int .i64 n] [] G (K5 (.agg ⟨[.int .i64 2, .string ⟨⟨[]⟩⟩, .int .i64 n, .int .i64 0, .slice none 0 0, .int .i64 0, .slice none 0 0, .int .i64 0, .slice none 0 0]⟩) G) := by
 refine C0 Tryz.func109 rfl Tryz.ntmps109 Tryz.results109 rfl ?_
 intro w0
 refine A4 ?_
 refine sE (A6 rfl) rfl (fun b3 => ?_)
 refine J4 ?_
 refine O7 (rC rfl (A3 rfl rfl)) ?_
 exact ⟨rfl, rfl, rfl⟩
theorem A9s (br : Nat) (pb : Option Addr) (nb cb : Nat) (bs : List UInt8) (hnb : nb ≤ 2000) (p : Nat) (G : IM) (hb : Sl G pb nb cb 1 (R2 bs)) (hp : p + 3 < 1099511627776) (s : ByteArray) (hs : s.size ≤ 1000) :
  Fn Tryz.prog 137 [.pointer (some ⟨br, 0, none⟩), .string s] [rd br pb nb cb p] G
   (A1b br pb nb cb p 3 (fun G' v => ∃ t cells, v = .agg ⟨cells⟩ ∧ B8 G' t cells ∧ A0M t ≤ 1)) := by
 refine C0 Tryz.func137 rfl Tryz.ntmps137 Tryz.results137 rfl ?_
 intro w0
 refine A4 ?_
 refine sE (A6 rfl) rfl (fun b3 => ?_)
 refine A9 ?_
 refine sQ (A2t rfl rfl) rfl ?_
 refine sB (A0w rfl rfl) rfl rfl (fun h11 => ?_) (fun h11 => ?_)
 refine A4 ?_
 (refine K9 rfl (A0p _ br pb nb cb p bs _ hb hnb zZ) (Pk.perm zP) rfl rfl (fun v14 G14 outs14 hle14 hh => ?_); obtain ⟨rfl, rfl, j14, rfl, hj14, hk14⟩ := hh; obtain ⟨i14, rfl⟩ := Int.eq_ofNat_of_zero_le hj14)
 replace hb := hb.mono hle14
 refine sB (A0w rfl rfl) rfl rfl (fun h15 => ?_) (fun h15 => ?_)
 refine E4 ?_
 refine sQ (A2t rfl rfl) rfl ?_
 (refine K9 rfl (A0p _ br pb nb cb (p + 1) bs _ hb hnb zZ) (Pk.perm zP) rfl rfl (fun v25 G25 outs25 hle25 hh => ?_); obtain ⟨rfl, rfl, j25, rfl, hj25, hk25⟩ := hh; obtain ⟨i25, rfl⟩ := Int.eq_ofNat_of_zero_le hj25)
 replace hb := hb.mono hle25
 refine E4 ?_
 refine sP (A15 (n := 1) rfl rfl zZ) rfl rfl ?_
 refine sP (A5x rfl rfl rfl rfl zZ zZ) rfl rfl ?_
 refine A9 ?_
 refine H6 (outs := [rd br pb nb cb (p + 1 + 1)]) (rC rfl (A3 rfl rfl)) zI ?_
 focus (refine ⟨_, ?_, ?_, rfl, _, _, rfl, A2B ⟨by omega, by omega⟩ ⟨by omega, by omega⟩, ?_⟩; all_goals (try rw [A2R]); all_goals (first | omega | (simp only [ByteArray.size_extract]; omega) | decide))
 refine J4 ?_
 (refine K9 rfl (A0p _ br pb nb cb (p + 1) bs _ hb hnb zZ) (Pk.perm zP) rfl rfl (fun v54 G54 outs54 hle54 hh => ?_); obtain ⟨rfl, rfl, j54, rfl, hj54, hk54⟩ := hh; obtain ⟨i54, rfl⟩ := Int.eq_ofNat_of_zero_le hj54)
 replace hb := hb.mono hle54
 refine A4 ?_
 refine C2 (tS (tR (sB (qE rfl rfl) rfl rfl (fun h60 => ?_) (fun h60 => ?_))))
 refine O5 ?_
 refine H6 (outs := [rd br pb nb cb (p + 1 + 1)]) (rC rfl (A3 rfl rfl)) zI ?_
 focus (refine ⟨_, ?_, ?_, rfl, _, _, rfl, A2B ⟨by omega, by omega⟩ ⟨by omega, by omega⟩, ?_⟩; all_goals (try rw [A2R]); all_goals (first | omega | (simp only [ByteArray.size_extract]; omega) | decide))
 refine A9 ?_
 refine sB (qE rfl rfl) rfl rfl (fun h82 => ?_) (fun h82 => ?_)
 refine O5 ?_
 refine H6 (outs := [rd br pb nb cb (p + 1 + 1)]) (rC rfl (A3 rfl rfl)) zI ?_
 focus (refine ⟨_, ?_, ?_, rfl, _, _, rfl, A2B ⟨by omega, by omega⟩ ⟨by omega, by omega⟩, ?_⟩; all_goals (try rw [A2R]); all_goals (first | omega | (simp only [ByteArray.size_extract]; omega) | decide))
 refine J4 ?_
 (refine J2 (D1 rfl rfl rfl zZ zU rfl) rfl ?_; rintro _ ⟨b108, rfl⟩)
 (refine W9 zP (fun Gf hlef hslf _ => ?_); refine K9 rfl (A0X Gf br pb nb cb (p + 1 + 1) bs _ _ _ _ (hb.mono hlef) hnb zZ hslf zY) (Pk.perm zP) rfl rfl (fun v Gn outs hlen hh => ?_); obtain ⟨rfl, rfl, hv⟩ := hh; obtain ⟨kn, rfl, hkn⟩ : ∃ k, v = .int .i64 k ∧ H5 k := (by simp only [List.mem_cons, List.not_mem_nil, or_false] at hv; rcases hv with rfl | rfl | rfl | rfl | rfl | rfl <;> exact ⟨_, rfl, by unfold H5; omega⟩))
 refine H1 rfl ((A3O _ _)) rfl rfl ?_
 refine B4 ?_
 refine H6 (outs := [rd br pb nb cb (p + 1 + 1 + 1)]) (rC rfl (A3 rfl rfl)) zI ?_
 focus (refine ⟨_, ?_, ?_, rfl, _, _, rfl, A2B ⟨by omega, by omega⟩ hkn, ?_⟩; all_goals (try rw [A2R]); all_goals (first | omega | decide))
 refine M8 ?_
 (refine K9 rfl (A0p _ br pb nb cb p bs _ hb hnb zZ) (Pk.perm zP) rfl rfl (fun v131 G131 outs131 hle131 hh => ?_); obtain ⟨rfl, rfl, j131, rfl, hj131, hk131⟩ := hh; obtain ⟨i131, rfl⟩ := Int.eq_ofNat_of_zero_le hj131)
 replace hb := hb.mono hle131
 refine A4 ?_
 refine C2 (tS (tR (sB (qE rfl rfl) rfl rfl (fun h137 => ?_) (fun h137 => ?_))))
 refine O5 ?_
 refine H6 (outs := [rd br pb nb cb (p + 1)]) (rC rfl (A3 rfl rfl)) zI ?_
 focus (refine ⟨_, ?_, ?_, rfl, _, _, rfl, A2B ⟨by omega, by omega⟩ ⟨by omega, by omega⟩, ?_⟩; all_goals (try rw [A2R]); all_goals (first | omega | (simp only [ByteArray.size_extract]; omega) | decide))
 refine A9 ?_
 refine sB (qE rfl rfl) rfl rfl (fun h159 => ?_) (fun h159 => ?_)
 refine O5 ?_
 refine H6 (outs := [rd br pb nb cb (p + 1)]) (rC rfl (A3 rfl rfl)) zI ?_
 focus (refine ⟨_, ?_, ?_, rfl, _, _, rfl, A2B ⟨by omega, by omega⟩ ⟨by omega, by omega⟩, ?_⟩; all_goals (try rw [A2R]); all_goals (first | omega | (simp only [ByteArray.size_extract]; omega) | decide))
 refine J4 ?_
 (refine J2 (D1 rfl rfl rfl zZ zU rfl) rfl ?_; rintro _ ⟨b185, rfl⟩)
 (refine W9 zP (fun Gf hlef hslf _ => ?_); refine K9 rfl (A0X Gf br pb nb cb (p + 1) bs _ _ _ _ (hb.mono hlef) hnb zZ hslf zY) (Pk.perm zP) rfl rfl (fun v Gn outs hlen hh => ?_); obtain ⟨rfl, rfl, hv⟩ := hh; obtain ⟨kn, rfl, hkn⟩ : ∃ k, v = .int .i64 k ∧ H5 k := (by simp only [List.mem_cons, List.not_mem_nil, or_false] at hv; rcases hv with rfl | rfl | rfl | rfl | rfl | rfl <;> exact ⟨_, rfl, by unfold H5; omega⟩))
 refine H1 rfl ((A3O _ _)) rfl rfl ?_
 refine B4 ?_
 refine H6 (outs := [rd br pb nb cb (p + 1 + 1)]) (rC rfl (A3 rfl rfl)) zI ?_
 focus (refine ⟨_, ?_, ?_, rfl, _, _, rfl, A2B ⟨by omega, by omega⟩ hkn, ?_⟩; all_goals (try rw [A2R]); all_goals (first | omega | decide))
def tB : Nat → Nat
 | 0 => 3
 | d + 1 => 3 * tB d + 20
theorem A9t (d : Nat) : 3 ≤ tB d := by cases d <;> simp only [tB] <;> omega
theorem B3Z (br : Nat) (pb : Option Addr) (nb cb : Nat) (bs : List UInt8) (hnb : nb ≤ 2000) : ∀ (d p : Nat) (G : IM) (s : ByteArray), d ≤ 900 → s.size + d ≤ 950 → Sl G pb nb cb 1 (R2 bs) → p + tB d < 1099511627776 →
  Fn Tryz.prog 111 [.pointer (some ⟨br, 0, none⟩), .string s, .int .i64 ((d + 1 : Nat) : Int)] [rd br pb nb cb p] G
   (A1b br pb nb cb p (tB d) (fun G' v => ∃ t cells, v = .agg ⟨cells⟩ ∧ B8 G' t cells ∧ A0M t ≤ ((tB d : Nat) : Int))) := by
 refine fun d => Nat.strongRecOn d fun d ih p G s hd hs hb hp => ?_
 have hge := A9t d
 refine C0 Tryz.func111 rfl Tryz.ntmps111 Tryz.results111 rfl ?_
 intro w0
 refine A4 ?_
 refine sE (A6 rfl) rfl (fun b3 => ?_)
 refine A9 ?_
 refine sB (N0 rfl rfl) rfl rfl (fun h10 => ?_) (fun h10 => ?_)
 ·refine O3 ?_
  (refine K9 rfl (A9s br pb nb cb bs hnb p _ hb zZ s zZ) (Pk.perm zP) rfl rfl (fun v Ga outs hlea hh => ?_); obtain ⟨pa, hpa1, hpa2, rfl, ta, cellsa, rfl, hra, hsa⟩ := hh; have hl9 := hra.len; have ho9 := hra.one)
  refine sS rfl rfl rfl hl9 ho9 rfl ?_ (hu := by exact C7 hl9.symm)
  refine B4 ?_
  refine H6 (outs := [rd br pb nb cb pa]) (rC rfl (A5 rfl rfl (B7 zS) hl9)) zI ?_
  (exact ⟨pa, by omega, by omega, rfl, ta, cellsa, rfl, hra, by omega⟩)
 ·refine A4 ?_
  (have hB4 : 4 ≤ tB d := (by obtain ⟨d1, rfl⟩ : ∃ d1, d = d1 + 1 := ⟨d - 1, by omega⟩; simp only [tB]; have := A9t d1; omega); refine K9 rfl (A0p _ br pb nb cb p bs _ hb hnb zZ) (Pk.perm zP) rfl rfl (fun v33 G33 outs33 hle33 hh => ?_); obtain ⟨rfl, rfl, j33, rfl, hj33, hk33⟩ := hh)
  replace hb := hb.mono hle33
  refine sB (qE rfl rfl) rfl rfl (fun h34 => ?_) (fun h34 => ?_)
  ·refine E4 ?_
   (refine K9 rfl (A9s br pb nb cb bs hnb (p + 1) _ hb zZ s zZ) (Pk.perm zP) rfl rfl (fun v Ga outs hlea hh => ?_); obtain ⟨pa, hpa1, hpa2, rfl, ta, cellsa, rfl, hra, hsa⟩ := hh; have hl9 := hra.len; have ho9 := hra.one)
   refine sS rfl rfl rfl hl9 ho9 rfl ?_ (hu := by exact C7 hl9.symm)
   refine B4 ?_
   refine H6 (outs := [rd br pb nb cb pa]) (rC rfl (A5 rfl rfl (B7 zS) hl9)) zI ?_
   (exact ⟨pa, by omega, by omega, rfl, ta, cellsa, rfl, hra, by omega⟩)
  ·refine E8 ?_
   (refine J2 (D1 rfl rfl rfl zZ zU rfl) rfl ?_; rintro _ ⟨b60, rfl⟩)
   (refine W9 zP (fun Gf hlef hslf _ => ?_); refine K9 rfl (A0X Gf br pb nb cb (p + 1) bs _ _ _ _ (hb.mono hlef) hnb zZ hslf zY) (Pk.perm zP) rfl rfl (fun v Gk outs hlek hh => ?_); obtain ⟨rfl, rfl, hv⟩ := hh; replace hb := hb.mono hlef; obtain ⟨k, rfl, hk1, hk2⟩ : ∃ k, v = .int .i64 k ∧ 5 ≤ k ∧ k ≤ 13 := (by simp only [List.mem_cons, List.not_mem_nil, or_false] at hv; rcases hv with rfl | rfl | rfl | rfl | rfl | rfl | rfl | rfl | rfl | rfl | rfl <;> exact ⟨_, rfl, by decide, by decide⟩); obtain ⟨d1, rfl⟩ : ∃ d1, d = d1 + 1 := ⟨d - 1, by omega⟩; have hB : tB (d1 + 1) = 3 * tB d1 + 20 := rfl)
   refine B0 ?_
   refine sE (A6 rfl) rfl (fun b69 => ?_)
   refine B0 ?_
   refine sB (qE rfl rfl) rfl rfl (fun h77 => ?_) (fun h77 => ?_)
   ·refine A4 ?_
    (show K7 _ _ (.cond (.tmp 26) _ _) _ _; refine A0H (fun (x : ByteArray × ByteArray × Nat × IM) => ⟨[(7, .int .i64 k), (8, .pointer (some ⟨b69, 0, none⟩)), (6, .pointer (some ⟨b3, 0, none⟩)), (0, .pointer (some ⟨br, 0, none⟩)), (1, .string x.2.1), (2, .int .i64 ((d1 + 1 + 1 : Nat) : Int))], [.blk b69 [.int .i64 k, .string x.1, .int .i64 0, .int .i64 0, .slice none 0 0, .int .i64 0, .slice none 0 0, .int .i64 0, .slice none 0 0], .blk b3 [.int .i64 0, .string ⟨⟨[]⟩⟩, .int .i64 0, .int .i64 0, .slice none 0 0, .int .i64 0, .slice none 0 0, .int .i64 0, .slice none 0 0], rd br pb nb cb x.2.2.1], x.2.2.2⟩) (fun x => B9 Gk x.2.2.2 ∧ x.1.size ≤ 1 ∧ x.2.1.size ≤ s.size + 1 ∧ p + 2 ≤ x.2.2.1 ∧ x.2.2.1 ≤ p + 3) ?_ ?_)
    ·refine B4 ?_
     (refine J2 (D1 rfl rfl rfl zZ zU rfl) rfl ?_; rintro _ ⟨b85, rfl⟩)
     (refine W9 zP (fun Gf2 hlef2 hslf2 _ => ?_); refine K9 rfl (A6L Gf2 br pb nb cb (p + 1 + 1) bs _ _ _ _ (hb.mono hlef2) hnb zZ hslf2 zY) (Pk.perm zP) rfl rfl (fun v Go outs hleo hh => ?_); obtain ⟨rfl, rfl, hv2⟩ := hh; obtain ⟨nmA, rfl, hnA⟩ : ∃ nm, v = .string nm ∧ nm.size ≤ 1 := (by simp only [List.mem_cons, List.not_mem_nil, or_false] at hv2; rcases hv2 with rfl | rfl | rfl | rfl <;> exact ⟨_, rfl, by decide⟩))
     refine E4 ?_
     (refine A1l rfl (B3Y s nmA _ zZ zZ) rfl rfl (fun v Ga outs hlea hh => ?_); obtain ⟨rfl, rfl, sA, rfl, hsA⟩ := hh)
     refine A4 ?_
     refine O4 (nmA, sA, p + 1 + 1 + 1, Ga) (I1 zO zJ) ?_
     (dsimp only; exact ⟨hlef2, hnA, by omega, by omega, by omega⟩)
    ·(rintro ⟨(nm : ByteArray), s', p1, G1⟩ ⟨hleA, hnm, hss, hpA, hpB⟩; simp only [] at hleA hnm hss hpA hpB ⊢; replace hb := hb.mono hleA; have hmark := hleA)
     refine A4 ?_
     (have hm' := hmark; refine A0H (fun (x : Bool) => ⟨(40, .bool x) :: [(7, .int .i64 k), (8, .pointer (some ⟨b69, 0, none⟩)), (6, .pointer (some ⟨b3, 0, none⟩)), (0, .pointer (some ⟨br, 0, none⟩)), (1, .string s'), (2, .int .i64 ((d1 + 1 + 1 : Nat) : Int))], [.blk b69 [.int .i64 k, .string nm, .int .i64 0, .int .i64 0, .slice none 0 0, .int .i64 0, .slice none 0 0, .int .i64 0, .slice none 0 0], .blk b3 [.int .i64 0, .string ⟨⟨[]⟩⟩, .int .i64 0, .int .i64 0, .slice none 0 0, .int .i64 0, .slice none 0 0, .int .i64 0, .slice none 0 0], rd br pb nb cb p1], G1⟩) (fun x => True) ?_ ?_)
     ·refine A4 ?_
      refine sP (N6 rfl rfl zZ) rfl rfl ?_
      refine A8 ?_
      refine O4 true (I1 zO zJ) ?_
      trivial
     ·(rintro x _; clear hmark)
      (show K7 _ _ (.cond (.tmp 40) _ _) _ _; refine A0H (fun (x : Ty × Option Addr × Nat × Nat × IM) => ⟨[(7, .int .i64 k), (8, .pointer (some ⟨b69, 0, none⟩)), (6, .pointer (some ⟨b3, 0, none⟩)), (0, .pointer (some ⟨br, 0, none⟩)), (1, .string s'), (2, .int .i64 ((d1 + 1 + 1 : Nat) : Int))], [.blk b69 [.int .i64 k, .string nm, .int .i64 0, .int .i64 x.1.k, .slice x.2.1 x.1.ks.length x.2.2.1, .int .i64 0, .slice none 0 0, .int .i64 0, .slice none 0 0], .blk b3 [.int .i64 0, .string ⟨⟨[]⟩⟩, .int .i64 0, .int .i64 0, .slice none 0 0, .int .i64 0, .slice none 0 0, .int .i64 0, .slice none 0 0], rd br pb nb cb x.2.2.2.1], x.2.2.2.2⟩) (fun x => B9 G1 x.2.2.2.2 ∧ C6 x.2.2.2.2 x.1 [.int .i64 x.1.k, .slice x.2.1 x.1.ks.length x.2.2.1] ∧ L8 x.1 ≤ 14 ∧ p1 ≤ x.2.2.2.1 ∧ x.2.2.2.1 ≤ p1 + 15) (A4Y rfl (fun hxt => ?_) (fun hxf => ?_)) ?_)
      ·refine C1 ?_
       (refine J2 (D1 rfl rfl rfl zZ zU rfl) rfl ?_; rintro _ ⟨b119, rfl⟩)
       (refine W9 zP (fun Gf hlef3 hslf _ => ?_); refine K9 rfl (A0X Gf br pb nb cb p1 bs _ _ _ _ (hb.mono hlef3) hnb zZ hslf zY) (Pk.perm zP) rfl rfl (fun v Gn outs hlen hh => ?_); obtain ⟨rfl, rfl, hv⟩ := hh; replace hb := hb.mono hlef3; obtain ⟨dd, rfl, hdd⟩ : ∃ d : Nat, v = .int .i64 ((d + 1 : Nat) : Int) ∧ d ≤ 2 := (by simp only [List.mem_cons, List.not_mem_nil, or_false] at hv; rcases hv with rfl | rfl | rfl | rfl <;> first | exact ⟨0, rfl, by decide⟩ | exact ⟨1, rfl, by decide⟩ | exact ⟨2, rfl, by decide⟩))
       (have hdB := A61 hdd; refine K9 rfl (A81 br pb nb cb bs hnb dd (p1 + 1) _ zZ hb zZ) (Pk.perm zP) rfl rfl (fun v G3 outs hle3 hh => ?_); obtain ⟨p3, hp31, hp32, rfl, t3, cells3, rfl, hr3, hs3⟩ := hh; obtain ⟨q3, c3, es3, rfl, _⟩ := hr3.open)
       refine C1 ?_
       refine O4 (t3, q3, c3, p3, G3) (I1 zO zJ) ?_
       (dsimp only; exact ⟨hlef3.trans hle3, hr3, by omega, by omega, by omega⟩)
      ·refine tK ?_
       refine O4 (B3, none, 0, p1, G1) (I1 zO zJ) ?_
       (dsimp only; exact ⟨B9.refl _, A2Q _, by decide, by omega, by omega⟩)
      ·(rintro ⟨(t' : Ty), q', c', p2, G2⟩ ⟨hleB, hrB, hsB, hpC, hpD⟩; simp only [] at hleB hrB hsB hpC hpD ⊢; replace hb := hb.mono hleB; have hop := A3m k; have hK := A6I k)
       refine A9 ?_
       refine C2 ?_
       (refine W4 28 9 ?_; refine L4 (fun (x : Nat × Option Addr × Nat × List Tm × List (List Value) × Nat × IM) => ⟨[(9, .int .i64 x.1), (7, .int .i64 k), (8, .pointer (some ⟨b69, 0, none⟩)), (6, .pointer (some ⟨b3, 0, none⟩)), (0, .pointer (some ⟨br, 0, none⟩)), (1, .string s'), (2, .int .i64 ((d1 + 1 + 1 : Nat) : Int))], [.blk b69 [.int .i64 k, .string nm, .int .i64 0, .int .i64 t'.k, .slice q' t'.ks.length c', .int .i64 0, .slice none 0 0, .int .i64 0, .slice x.2.1 x.1 x.2.2.1], .slc x.2.1 x.2.2.1 28 9 x.1 x.2.2.2.2.1.flatten, rd br pb nb cb x.2.2.2.2.2.1, .blk b3 [.int .i64 0, .string ⟨⟨[]⟩⟩, .int .i64 0, .int .i64 0, .slice none 0 0, .int .i64 0, .slice none 0 0, .int .i64 0, .slice none 0 0]], x.2.2.2.2.2.2⟩) (fun x => ((x.1 : Int) ≤ E7 k ∨ x.1 = 0) ∧ B9 G2 x.2.2.2.2.2.2 ∧ x.2.2.2.1.length = x.1 ∧ F8 x.2.2.2.2.2.2 x.2.2.2.1 x.2.2.2.2.1 ∧ A0h x.2.2.2.1 ≤ ((x.1 * tB d1 : Nat) : Int) ∧ p2 ≤ x.2.2.2.2.2.1 ∧ x.2.2.2.2.2.1 ≤ p2 + x.1 * tB d1) (fun x => (E7 k).toNat - x.1) (0, none, 0, [], [], p2, G2) ?_ ?_ ?_)
       ·(simp only [I6]; exact F9)
       ·(exact ⟨.inr rfl, B9.refl _, rfl, by simp [F8], by simp [A0h], by dsimp only; omega, by dsimp only; omega⟩)
       ·(rintro ⟨i, pn, cn, ts, es', p', Gi⟩ ⟨hi, hle, hlt, hst, hsum, hq1, hq2⟩; simp only [] at hi hle hlt hst hsum hq1 hq2 ⊢; have hid : i * tB d1 ≤ 3 * tB d1 := Nat.mul_le_mul_right _ zZ)
        refine A8 ?_
        refine H1 rfl ((hK _)) rfl rfl ?_
        refine sB (N0 rfl rfl) rfl rfl (fun h148 => ?_) (fun h148 => ?_)
        ·refine A9 ?_
         refine C2 ?_
         (have hih := ih d1 zZ p' Gi s' zZ zZ (hb.mono hle) (by have := Nat.mul_le_mul_right (tB d1) (show i + 1 ≤ 3 by omega); rw [Nat.succ_mul] at this; omega); refine D3 D4 rfl ?_)
         refine I9 (i := 0) (l' := [tt,ff,ff,ff,ff,ff,ff,ff,ff,ff,ff]) rfl C8 (C3 rfl) rfl zX rfl rfl ?_
         refine aL 1 rfl (E9 rfl rfl) rfl ?_
         refine aP 2 rfl (qM rfl) rfl ?_
         refine aP 3 rfl (qM rfl) rfl ?_
         refine aP 4 rfl (qM rfl) rfl ?_
         refine aP 5 rfl (A5j rfl rfl zZ) rfl ?_
         refine A2 6 ?_
         (refine A0y (l' := [tt,tt,tt,tt,tt,tt,tt,ff,ff,ff,ff]) rfl rfl hih (Pk.perm zP) rfl rfl rfl zH (fun v G3 outs hle3 hh => ?_); obtain ⟨p3, hp31, hp32, rfl, t3, cells3, rfl, hr3, hs3⟩ := hh; obtain ⟨qt, dt, et, qf, df, ef, q3, d3, es3, rfl, _⟩ := hr3.open)
         refine A2 7 ?_
         (refine D2 rfl (D1 rfl rfl rfl zZ zU rfl) rfl rfl ?_; rintro _ ⟨b166, rfl⟩)
         refine A2 8 ?_
         refine O8 rfl rfl rfl rfl rfl rfl (fun _ _ => by repeat (first | exact Sw.here | apply Sw.there)) (J7 zS) rfl zT zU zZ rfl rfl zH (fun pn' cn' => ?_)
         refine aP 9 rfl (C3 rfl) rfl ?_
         refine A2 10 ?_
         refine T3 rfl rfl rfl rfl rfl rfl rfl rfl zX zR (by rfl) ?_
         refine A8 ?_
         refine sP (J9 rfl rfl zZ zZ) rfl rfl ?_
         refine A4 ?_
         refine J6 (i + 1, pn', cn', ts ++ [t3], es' ++ [[.int .i64 t3.k, .string t3.nm, .int .i64 t3.num, .int .i64 t3.ty.k, .slice qt t3.ty.ks.length dt, .int .i64 t3.fr.k, .slice qf t3.fr.ks.length df, .int .i64 t3.lb, .slice q3 t3.ks.length d3]], p3, G3) ?_ ?_ ?_
         ·(simp only [I6]; exact F9)
         ·(dsimp only; have e1 : (i + 1) * tB d1 = i * tB d1 + tB d1 := Nat.succ_mul _ _; have e2 := A60 ts t3; exact ⟨.inl zZ, hle.trans hle3, by simp [hlt], F8.snoc (hst.mono hle3) hr3, by omega, by omega, by omega⟩)
         ·(show (E7 k).toNat - (i + 1) < (E7 k).toNat - i; omega)
        ·refine M8 ?_
         (refine J0 zP (fun G5 hle5 hsl5 hno5 => ?_))
         refine tT ?_
         refine H6 (outs := [rd br pb nb cb p']) (rC rfl (A3 rfl rfl)) zI ?_
         (refine ⟨p', by omega, by omega, rfl, .mk k nm 0 t' B3 0 ts, _, rfl, (hst.mono hle5).tm hlt hsl5 ⟨by omega, by omega⟩ ⟨by omega, by omega⟩ (hrB.mono (hle.trans hle5)), ?_⟩; rw [A0M, A6Z]; omega)
   ·refine A4 ?_
    (show K7 _ _ (.cond (.tmp 26) _ _) _ _; refine A0H (fun (x : ByteArray × ByteArray × Nat × IM) => ⟨[(7, .int .i64 k), (8, .pointer (some ⟨b69, 0, none⟩)), (6, .pointer (some ⟨b3, 0, none⟩)), (0, .pointer (some ⟨br, 0, none⟩)), (1, .string x.2.1), (2, .int .i64 ((d1 + 1 + 1 : Nat) : Int))], [.blk b69 [.int .i64 k, .string x.1, .int .i64 0, .int .i64 0, .slice none 0 0, .int .i64 0, .slice none 0 0, .int .i64 0, .slice none 0 0], .blk b3 [.int .i64 0, .string ⟨⟨[]⟩⟩, .int .i64 0, .int .i64 0, .slice none 0 0, .int .i64 0, .slice none 0 0, .int .i64 0, .slice none 0 0], rd br pb nb cb x.2.2.1], x.2.2.2⟩) (fun x => B9 Gk x.2.2.2 ∧ x.1.size ≤ 1 ∧ x.2.1.size ≤ s.size + 1 ∧ p + 2 ≤ x.2.2.1 ∧ x.2.2.1 ≤ p + 3) ?_ ?_)
    ·refine A4 ?_
     refine O4 (⟨⟨[]⟩⟩, s, p + 1 + 1, Gk) (I1 zO zJ) ?_
     (dsimp only; exact ⟨B9.refl _, by decide, by omega, by omega, by omega⟩)
    ·(rintro ⟨(nm : ByteArray), s', p1, G1⟩ ⟨hleA, hnm, hss, hpA, hpB⟩; simp only [] at hleA hnm hss hpA hpB ⊢; replace hb := hb.mono hleA; have hmark := hleA)
     refine A4 ?_
     (have hm' := hmark; refine A0H (fun (x : Bool) => ⟨(40, .bool x) :: [(7, .int .i64 k), (8, .pointer (some ⟨b69, 0, none⟩)), (6, .pointer (some ⟨b3, 0, none⟩)), (0, .pointer (some ⟨br, 0, none⟩)), (1, .string s'), (2, .int .i64 ((d1 + 1 + 1 : Nat) : Int))], [.blk b69 [.int .i64 k, .string nm, .int .i64 0, .int .i64 0, .slice none 0 0, .int .i64 0, .slice none 0 0, .int .i64 0, .slice none 0 0], .blk b3 [.int .i64 0, .string ⟨⟨[]⟩⟩, .int .i64 0, .int .i64 0, .slice none 0 0, .int .i64 0, .slice none 0 0, .int .i64 0, .slice none 0 0], rd br pb nb cb p1], G1⟩) (fun x => True) ?_ ?_)
     ·refine A4 ?_
      refine sP (D0 rfl rfl zZ) rfl rfl ?_
      refine A4 ?_
      refine sB (qE rfl rfl) rfl rfl (fun h218 => ?_) (fun h218 => ?_)
      ·refine A4 ?_
       refine O4 true (I1 zO zJ) ?_
       trivial
      ·refine A4 ?_
       refine O4 false (I1 zO zJ) ?_
       trivial
     ·(rintro x _; clear hmark)
      (show K7 _ _ (.cond (.tmp 40) _ _) _ _; refine A0H (fun (x : Ty × Option Addr × Nat × Nat × IM) => ⟨[(7, .int .i64 k), (8, .pointer (some ⟨b69, 0, none⟩)), (6, .pointer (some ⟨b3, 0, none⟩)), (0, .pointer (some ⟨br, 0, none⟩)), (1, .string s'), (2, .int .i64 ((d1 + 1 + 1 : Nat) : Int))], [.blk b69 [.int .i64 k, .string nm, .int .i64 0, .int .i64 x.1.k, .slice x.2.1 x.1.ks.length x.2.2.1, .int .i64 0, .slice none 0 0, .int .i64 0, .slice none 0 0], .blk b3 [.int .i64 0, .string ⟨⟨[]⟩⟩, .int .i64 0, .int .i64 0, .slice none 0 0, .int .i64 0, .slice none 0 0, .int .i64 0, .slice none 0 0], rd br pb nb cb x.2.2.2.1], x.2.2.2.2⟩) (fun x => B9 G1 x.2.2.2.2 ∧ C6 x.2.2.2.2 x.1 [.int .i64 x.1.k, .slice x.2.1 x.1.ks.length x.2.2.1] ∧ L8 x.1 ≤ 14 ∧ p1 ≤ x.2.2.2.1 ∧ x.2.2.2.1 ≤ p1 + 15) (A4Y rfl (fun hxt => ?_) (fun hxf => ?_)) ?_)
      ·refine C1 ?_
       (refine J2 (D1 rfl rfl rfl zZ zU rfl) rfl ?_; rintro _ ⟨b232, rfl⟩)
       (refine W9 zP (fun Gf hlef3 hslf _ => ?_); refine K9 rfl (A0X Gf br pb nb cb p1 bs _ _ _ _ (hb.mono hlef3) hnb zZ hslf zY) (Pk.perm zP) rfl rfl (fun v Gn outs hlen hh => ?_); obtain ⟨rfl, rfl, hv⟩ := hh; replace hb := hb.mono hlef3; obtain ⟨dd, rfl, hdd⟩ : ∃ d : Nat, v = .int .i64 ((d + 1 : Nat) : Int) ∧ d ≤ 2 := (by simp only [List.mem_cons, List.not_mem_nil, or_false] at hv; rcases hv with rfl | rfl | rfl | rfl <;> first | exact ⟨0, rfl, by decide⟩ | exact ⟨1, rfl, by decide⟩ | exact ⟨2, rfl, by decide⟩))
       (have hdB := A61 hdd; refine K9 rfl (A81 br pb nb cb bs hnb dd (p1 + 1) _ zZ hb zZ) (Pk.perm zP) rfl rfl (fun v G3 outs hle3 hh => ?_); obtain ⟨p3, hp31, hp32, rfl, t3, cells3, rfl, hr3, hs3⟩ := hh; obtain ⟨q3, c3, es3, rfl, _⟩ := hr3.open)
       refine C1 ?_
       refine O4 (t3, q3, c3, p3, G3) (I1 zO zJ) ?_
       (dsimp only; exact ⟨hlef3.trans hle3, hr3, by omega, by omega, by omega⟩)
      ·refine tK ?_
       refine O4 (B3, none, 0, p1, G1) (I1 zO zJ) ?_
       (dsimp only; exact ⟨B9.refl _, A2Q _, by decide, by omega, by omega⟩)
      ·(rintro ⟨(t' : Ty), q', c', p2, G2⟩ ⟨hleB, hrB, hsB, hpC, hpD⟩; simp only [] at hleB hrB hsB hpC hpD ⊢; replace hb := hb.mono hleB; have hop := A3m k; have hK := A6I k)
       refine A9 ?_
       refine C2 ?_
       (refine W4 28 9 ?_; refine L4 (fun (x : Nat × Option Addr × Nat × List Tm × List (List Value) × Nat × IM) => ⟨[(9, .int .i64 x.1), (7, .int .i64 k), (8, .pointer (some ⟨b69, 0, none⟩)), (6, .pointer (some ⟨b3, 0, none⟩)), (0, .pointer (some ⟨br, 0, none⟩)), (1, .string s'), (2, .int .i64 ((d1 + 1 + 1 : Nat) : Int))], [.blk b69 [.int .i64 k, .string nm, .int .i64 0, .int .i64 t'.k, .slice q' t'.ks.length c', .int .i64 0, .slice none 0 0, .int .i64 0, .slice x.2.1 x.1 x.2.2.1], .slc x.2.1 x.2.2.1 28 9 x.1 x.2.2.2.2.1.flatten, rd br pb nb cb x.2.2.2.2.2.1, .blk b3 [.int .i64 0, .string ⟨⟨[]⟩⟩, .int .i64 0, .int .i64 0, .slice none 0 0, .int .i64 0, .slice none 0 0, .int .i64 0, .slice none 0 0]], x.2.2.2.2.2.2⟩) (fun x => ((x.1 : Int) ≤ E7 k ∨ x.1 = 0) ∧ B9 G2 x.2.2.2.2.2.2 ∧ x.2.2.2.1.length = x.1 ∧ F8 x.2.2.2.2.2.2 x.2.2.2.1 x.2.2.2.2.1 ∧ A0h x.2.2.2.1 ≤ ((x.1 * tB d1 : Nat) : Int) ∧ p2 ≤ x.2.2.2.2.2.1 ∧ x.2.2.2.2.2.1 ≤ p2 + x.1 * tB d1) (fun x => (E7 k).toNat - x.1) (0, none, 0, [], [], p2, G2) ?_ ?_ ?_)
       ·(simp only [I6]; exact F9)
       ·(exact ⟨.inr rfl, B9.refl _, rfl, by simp [F8], by simp [A0h], by dsimp only; omega, by dsimp only; omega⟩)
       ·(rintro ⟨i, pn, cn, ts, es', p', Gi⟩ ⟨hi, hle, hlt, hst, hsum, hq1, hq2⟩; simp only [] at hi hle hlt hst hsum hq1 hq2 ⊢; have hid : i * tB d1 ≤ 3 * tB d1 := Nat.mul_le_mul_right _ zZ)
        refine A8 ?_
        refine H1 rfl ((hK _)) rfl rfl ?_
        refine sB (N0 rfl rfl) rfl rfl (fun h261 => ?_) (fun h261 => ?_)
        ·refine A9 ?_
         refine C2 ?_
         (have hih := ih d1 zZ p' Gi s' zZ zZ (hb.mono hle) (by have := Nat.mul_le_mul_right (tB d1) (show i + 1 ≤ 3 by omega); rw [Nat.succ_mul] at this; omega); refine D3 D4 rfl ?_)
         refine I9 (i := 0) (l' := [tt,ff,ff,ff,ff,ff,ff,ff,ff,ff,ff]) rfl C8 (C3 rfl) rfl zX rfl rfl ?_
         refine aL 1 rfl (E9 rfl rfl) rfl ?_
         refine aP 2 rfl (qM rfl) rfl ?_
         refine aP 3 rfl (qM rfl) rfl ?_
         refine aP 4 rfl (qM rfl) rfl ?_
         refine aP 5 rfl (A5j rfl rfl zZ) rfl ?_
         refine A2 6 ?_
         (refine A0y (l' := [tt,tt,tt,tt,tt,tt,tt,ff,ff,ff,ff]) rfl rfl hih (Pk.perm zP) rfl rfl rfl zH (fun v G3 outs hle3 hh => ?_); obtain ⟨p3, hp31, hp32, rfl, t3, cells3, rfl, hr3, hs3⟩ := hh; obtain ⟨qt, dt, et, qf, df, ef, q3, d3, es3, rfl, _⟩ := hr3.open)
         refine A2 7 ?_
         (refine D2 rfl (D1 rfl rfl rfl zZ zU rfl) rfl rfl ?_; rintro _ ⟨b279, rfl⟩)
         refine A2 8 ?_
         refine O8 rfl rfl rfl rfl rfl rfl (fun _ _ => by repeat (first | exact Sw.here | apply Sw.there)) (J7 zS) rfl zT zU zZ rfl rfl zH (fun pn' cn' => ?_)
         refine aP 9 rfl (C3 rfl) rfl ?_
         refine A2 10 ?_
         refine T3 rfl rfl rfl rfl rfl rfl rfl rfl zX zR (by rfl) ?_
         refine A8 ?_
         refine sP (J9 rfl rfl zZ zZ) rfl rfl ?_
         refine A4 ?_
         refine J6 (i + 1, pn', cn', ts ++ [t3], es' ++ [[.int .i64 t3.k, .string t3.nm, .int .i64 t3.num, .int .i64 t3.ty.k, .slice qt t3.ty.ks.length dt, .int .i64 t3.fr.k, .slice qf t3.fr.ks.length df, .int .i64 t3.lb, .slice q3 t3.ks.length d3]], p3, G3) ?_ ?_ ?_
         ·(simp only [I6]; exact F9)
         ·(dsimp only; have e1 : (i + 1) * tB d1 = i * tB d1 + tB d1 := Nat.succ_mul _ _; have e2 := A60 ts t3; exact ⟨.inl zZ, hle.trans hle3, by simp [hlt], F8.snoc (hst.mono hle3) hr3, by omega, by omega, by omega⟩)
         ·(show (E7 k).toNat - (i + 1) < (E7 k).toNat - i; omega)
        ·refine M8 ?_
         (refine J0 zP (fun G5 hle5 hsl5 hno5 => ?_))
         refine tT ?_
         refine H6 (outs := [rd br pb nb cb p']) (rC rfl (A3 rfl rfl)) zI ?_
         (refine ⟨p', by omega, by omega, rfl, .mk k nm 0 t' B3 0 ts, _, rfl, (hst.mono hle5).tm hlt hsl5 ⟨by omega, by omega⟩ ⟨by omega, by omega⟩ (hrB.mono (hle.trans hle5)), ?_⟩; rw [A0M, A6Z]; omega)
theorem Sl.pre {G : IM} {p : Option Addr} {n c m : Nat} {cs : List Value} (h : Sl G p n c 1 cs) (hm : m ≤ n) : Sl G p m c 1 (cs.take m) := by
 obtain ⟨h1, h2, h3, h4⟩ := h
 refine ⟨by rw [List.length_take]; omega, by omega, h3, ?_⟩
 rcases h4 with h4 | ⟨b, o, full, e1, e2, e3⟩
 ·exact .inl zZ
 ·refine .inr ⟨b, o, full, e1, e2, fun j v hj => e3 j v ?_⟩
  rw [List.getElem?_take] at hj
  split at hj
  ·exact hj
  ·cases hj
theorem B30 (bs : List UInt8) (m : Nat) : R2 (bs.take m) = (R2 bs).take m := by unfold R2; rw [List.map_take]
theorem B31 {d : Nat} (h : d ≤ 4) : tB d ≤ 1043 := by
 have : d = 0 ∨ d = 1 ∨ d = 2 ∨ d = 3 ∨ d = 4 := by omega
 rcases this with rfl | rfl | rfl | rfl | rfl <;> decide
def A4x (G : IM) : IM → Value → List A7 → Prop := fun G' v outs => G' = G ∧ ∃ br pb nb cb bs, v = .pointer (some ⟨br, 0, none⟩) ∧ outs = [rd br pb nb cb 0] ∧ nb ≤ 2000 ∧ Sl G pb nb cb 1 (R2 bs)
theorem A4x.mk {G : IM} {b : Nat} {pb : Option Addr} {nb cb : Nat} {bs : List UInt8} (h : nb ≤ 2000) (hb : Sl G pb nb cb 1 (R2 bs)) : A4x G G (.pointer (some ⟨b, 0, none⟩)) [.blk b [.slice pb nb cb, .int .i64 0]] := ⟨rfl, _, _, _, _, bs, rfl, rfl, h, hb⟩
theorem B32 (G : IM) (q : Option Addr) (n c : Nat) (bs : List UInt8) (hb : Sl G q n c 1 (R2 bs)) :
  Fn Tryz.prog 37 [.slice q n c] [] G (A4x G) := by
 have hn := hb.le
 have hnc := hb.2.1
 have hpre := fun h : 2000 ≤ n => hb.pre h
 refine C0 Tryz.func37 rfl Tryz.ntmps37 Tryz.results37 rfl ?_
 intro w0
 refine J4 ?_
 refine sB (A0w rfl rfl) rfl rfl (fun h11 => ?_) (fun h11 => ?_)
 refine A8 ?_
 refine sP (A8O (l := 2000) rfl rfl rfl zZ) rfl rfl ?_
 refine B0 ?_
 refine sE (B5 rfl rfl) rfl (fun b25 => ?_)
 refine B4 ?_
 refine H6 (rT rfl) A0.refl ?_
 exact A4x.mk (Nat.le_refl _) (by rw [B30]; exact hpre zZ)
 refine E8 ?_
 refine sE (B5 rfl rfl) rfl (fun b41 => ?_)
 refine B4 ?_
 refine H6 (rT rfl) A0.refl ?_
 exact A4x.mk zZ hb
theorem A9u (br : Nat) (pb : Option Addr) (nb cb : Nat) (bs : List UInt8) (hnb : nb ≤ 2000) (p : Nat) (G : IM) (hb : Sl G pb nb cb 1 (R2 bs)) (hp : p + 1100 < 1099511627776) :
  Fn Tryz.prog 78 [.pointer (some ⟨br, 0, none⟩)] [rd br pb nb cb p] G
   (A1b br pb nb cb p 1100 (fun G' v => ∃ t cells, v = .agg ⟨cells⟩ ∧ B8 G' t cells ∧ A0M t ≤ 1043)) := by
 refine C0 Tryz.func78 rfl Tryz.ntmps78 Tryz.results78 rfl ?_
 intro w0
 refine A4 ?_
 refine sE (A6 rfl) rfl (fun b3 => ?_)
 refine A9 ?_
 (refine J2 (D1 rfl rfl rfl zZ zU rfl) rfl ?_; rintro _ ⟨b10, rfl⟩)
 (refine W9 zP (fun Gf hlef hslf _ => ?_); refine K9 rfl (A0X Gf br pb nb cb p bs _ _ _ _ (hb.mono hlef) hnb zZ hslf zY) (Pk.perm zP) rfl rfl (fun v Gn outs hlen hh => ?_); obtain ⟨rfl, rfl, hv⟩ := hh; replace hb := hb.mono hlef; obtain ⟨dd, rfl, hdd⟩ : ∃ d : Nat, v = .int .i64 ((d + 1 : Nat) : Int) ∧ d ≤ 4 := (by simp only [List.mem_cons, List.not_mem_nil, or_false] at hv; rcases hv with rfl | rfl | rfl | rfl | rfl <;> first | exact ⟨3, rfl, by decide⟩ | exact ⟨2, rfl, by decide⟩ | exact ⟨4, rfl, by decide⟩ | exact ⟨1, rfl, by decide⟩); have htB := B31 hdd)
 (refine K9 rfl (B3Z br pb nb cb bs hnb dd (p + 1) Gn ⟨⟨[]⟩⟩ zZ (by have hz : (⟨⟨[]⟩⟩ : ByteArray).size ≤ 2 := zY; omega) hb zZ) (Pk.perm zP) rfl rfl (fun v G3 outs hle3 hh => ?_); obtain ⟨p3, hp31, hp32, rfl, t3, cells3, rfl, hr3, hs3⟩ := hh; have hl3 := hr3.len; have ho3 := hr3.one; have hc3 := A5l t3; have hv3 := A4v t3 G3 cells3 zZ hr3)
 refine sE (A6 rfl) rfl (fun b13 => ?_)
 refine sS rfl rfl rfl hl3 ho3 rfl ?_ (hu := by exact C7 hl3.symm)
 refine A8 ?_
 refine sL (A5 rfl rfl (B7 zS) hl3) rfl rfl ?_
 refine K3 rfl (hv3) rfl rfl (fun h21 => ?_) (fun h21 => ?_)
 refine A8 ?_
 refine sL (A5 rfl rfl (B7 zS) hl3) rfl rfl ?_
 refine sS rfl rfl rfl hl3 ho3 rfl ?_ (hu := by exact C7 hl3.symm)
 refine B4 ?_
 refine H6 (outs := [rd br pb nb cb p3]) (rC rfl (A5 rfl rfl (B7 zS) hl3)) zI ?_
 (exact ⟨p3, by omega, by omega, rfl, t3, cells3, rfl, hr3, by omega⟩)
 refine B0 ?_
 refine H1 rfl ((A3O _ _)) rfl rfl ?_
 refine B4 ?_
 refine H6 (outs := [rd br pb nb cb p3]) (rC rfl (A3 rfl rfl)) zI ?_
 (exact ⟨p3, by omega, by omega, rfl, _, _, rfl, A2B ⟨by omega, by omega⟩ ⟨by omega, by omega⟩, by rw [A2R]; decide⟩)
theorem A1v (G : IM) : Fn Tryz.prog 56 [] [] G (K5 (.agg ⟨[.int .i64 2, .slice none 0 0]⟩) G) := by
 refine C0 Tryz.func56 rfl Tryz.ntmps56 Tryz.results56 rfl ?_
 intro w0
 refine A4 ?_
 refine sE (A6 rfl) rfl (fun b3 => ?_)
 refine E8 ?_
 refine O7 (rC rfl (A3 rfl rfl)) ?_
 exact ⟨rfl, rfl, rfl⟩
theorem A4y (G : IM) : Fn Tryz.prog 107 [] [] G (K5 (.agg ⟨[.int .i64 3, .slice none 0 0]⟩) G) := by
 refine C0 Tryz.func107 rfl Tryz.ntmps107 Tryz.results107 rfl ?_
 intro w0
 refine A4 ?_
 refine sE (A6 rfl) rfl (fun b3 => ?_)
 refine E8 ?_
 refine O7 (rC rfl (A3 rfl rfl)) ?_
 exact ⟨rfl, rfl, rfl⟩
theorem A3n (G : IM) (k : Int) (p : Option Addr) (n c : Nat) : Fn Tryz.prog 106 [.int .i64 k, .slice p n c] [] G (K5 (.agg ⟨[.int .i64 k, .string ⟨⟨[]⟩⟩, .int .i64 0, .int .i64 0, .slice none 0 0, .int .i64 0, .slice none 0 0, .int .i64 0, .slice p n c]⟩) G) := by
 refine C0 Tryz.func106 rfl Tryz.ntmps106 Tryz.results106 rfl ?_
 intro w0
 refine A4 ?_
 refine sE (A6 rfl) rfl (fun b3 => ?_)
 refine M3 ?_
 refine O7 (rC rfl (A3 rfl rfl)) ?_
 exact ⟨rfl, rfl, rfl⟩
theorem L5 (G : IM) {k : Int} (hk : H5 k) : C6 G (.mk k []) [.int .i64 k, .slice none 0 0] := by
 simp only [C6]
 exact ⟨none, 0, [], rfl, hk, D6.of (Sl.nil _ _) rfl zA0 zA0, by simp [D8]⟩
theorem A9v (k : Int) : L8 (.mk k []) = 0 := rfl
def TyB (B : Int) (G : IM) : IM → Value → List A7 → Prop := M5 fun G' v => ∃ t cells b, v = .tuple ⟨[.agg ⟨cells⟩, .bool b]⟩ ∧ C6 G' t cells ∧ I0 t ∧ L8 t ≤ B
theorem A5y {k : Int} {a b : Ty} (hk : k = 4 ∨ k = 5) (ha : I0 a) (hb : I0 b) : I0 (.mk k [a, b]) := by
 rw [I0]
 exact ⟨fun _ => rfl, fun h4 h5 => by omega, by simp [A1o, ha, hb]⟩
theorem W8 {k : Int} (h4 : k ≠ 4) (h5 : k ≠ 5) : I0 (.mk k []) := (A3M 0 h4 h5).ar
theorem I0.kid {k : Int} {ks : List Ty} (h : I0 (.mk k ks)) : ∀ t ∈ ks, I0 t := by
 rw [I0] at h; exact A4o.1 h.2.2
theorem I0.two {k : Int} {ks : List Ty} (h : I0 (.mk k ks)) : ks.length ≤ 2 := by
 rw [I0] at h
 have h1 := h.1
 have h2 := h.2.1
 omega
theorem A9w : ∀ {ks : List Ty} {t : Ty}, t ∈ ks → L8 t ≤ R5 ks
 | [], t, h => by simp at h
 | t' :: ts, t, h => by
  rw [R5]
  have := A1O t'
  have := A2L ts
  rcases List.mem_cons.1 h with rfl | h
  ·omega
  ·have := A9w h; omega
theorem B33 {k : Int} {ks : List Ty} {t : Ty} (h : t ∈ ks) : L8 t ≤ L8 (.mk k ks) := by
 have := A9w h
 rw [L8]; omega
def B8l (B : Int) (G : IM) : IM → Value → List A7 → Prop := M5 fun G' v => ∃ a ca b cb x, v = .tuple ⟨[.agg ⟨ca⟩, .agg ⟨cb⟩, .bool x]⟩ ∧ C6 G' a ca ∧ I0 a ∧ L8 a ≤ B ∧ C6 G' b cb ∧ I0 b ∧ L8 b ≤ B
def TyP (B : Int) (Q : Ty → Prop) (G : IM) : IM → Value → List A7 → Prop := M5 fun G' v => ∃ t cells, v = .agg ⟨cells⟩ ∧ C6 G' t cells ∧ I0 t ∧ L8 t ≤ B ∧ Q t
theorem A9x {k : Int} {ks us : List Ty} (h : I0 (.mk k ks)) (hl : us.length = ks.length) (hu : ∀ u ∈ us, I0 u) : I0 (.mk k us) := by
 rw [I0] at h ⊢
 exact ⟨fun hk => by rw [hl]; exact h.1 hk, fun a b => by rw [hl]; exact h.2.1 a b, A4o.2 hu⟩
theorem A3P {P : Ty → Prop} {us : List Ty} {u : Ty} (h : ∀ x ∈ us, P x) (hu : P u) : ∀ x ∈ us ++ [u], P x := by
 simp only [List.forall_mem_append, List.forall_mem_singleton]; exact ⟨h, hu⟩
theorem A2C : ∀ (t t' : Ty) (G : IM) (cells cells' : List Value), I0 t → I0 t' → C6 G t cells → C6 G t' cells' →
  Fn Tryz.prog 104 [.agg ⟨cells⟩, .agg ⟨cells'⟩] [] G (K5 (.bool (N3 t t')) G) := by
 refine Ty.ind fun k ks ih t' G cells cells' ha ha' hr hr' => ?_
 obtain ⟨k', ks'⟩ := t'
 obtain ⟨p, c, es, rfl, hk, hsl, hkl⟩ := hr.open
 obtain ⟨p', c', es', rfl, hk', hsl', hkl'⟩ := hr'.open
 simp only [Ty.k, Ty.ks] at hk hsl hkl hk' hsl' hkl' ⊢
 have hn := hsl.le
 have hn' := hsl'.le
 have hv2 := ha.kid
 have hv2' := ha'.kid
 rw [I0] at ha ha'
 have hle : k = k' → ks.length = ks'.length := by
  rintro rfl
  have h1 := ha.1
  have h2 := ha.2.1
  have h3 := ha'.1
  have h4 := ha'.2.1
  omega
 refine C0 Tryz.func104 rfl Tryz.ntmps104 Tryz.results104 rfl ?_
 intro w0
 refine A4 ?_
 refine sE (B5 rfl rfl) rfl (fun b3 => ?_)
 refine sE (B5 rfl rfl) rfl (fun b4 => ?_)
 refine E4 ?_
 refine sB (qE rfl rfl) rfl rfl (fun h13 => ?_) (fun h13 => ?_)
 refine N7 ?_
 (rw [A9c zZ]; exact ⟨rfl, rfl, rfl⟩)
 refine C1 ?_
 refine sB (qE rfl rfl) rfl rfl (fun h34 => ?_) (fun h34 => ?_)
 refine O3 ?_
 (rw [A9c zZ]; exact ⟨rfl, rfl, rfl⟩)
 refine O5 ?_
 refine sB (V0 rfl rfl) rfl rfl (fun h61 => ?_) (fun h61 => ?_)
 refine M3 ?_
 (rw [B3H zZ zZ zZ]; exact ⟨rfl, rfl, rfl⟩)
 refine M3 ?_
 refine C2 ?_
 (have hll : ks.length = ks'.length := hle zZ; refine L4 (fun (i : Nat) => ⟨[(5, .int .i64 i), (3, .pointer (some ⟨b4, 0, none⟩)), (2, .pointer (some ⟨b3, 0, none⟩))], [.blk b3 [.int .i64 k, .slice p ks.length c], .blk b4 [.int .i64 k', .slice p' ks'.length c']], G⟩) (fun i => i ≤ ks.length ∧ ∀ j (h : j < ks.length) (h' : j < ks'.length), j < i → N3 ks[j] ks'[j] = true) (fun i => ks.length - i) 0 ?_ ?_ ?_)
 exact F9
 exact ⟨by omega, by omega⟩
 (rintro i ⟨hi, hf⟩)
 refine B0 ?_
 refine sB (N0 rfl rfl) rfl rfl (fun h97 => ?_) (fun h97 => ?_)
 refine A9 ?_
 refine C2 ?_
 refine tS ?_
 (obtain ⟨b, o, p2, c2, rfl, hat, hre, hgb⟩ := hsl.kidTy hkl (i := i) zZ zZ; obtain ⟨b', o', p2', c2', rfl, hat', hre', hgb'⟩ := hsl'.kidTy hkl' (i := i) zZ zZ; refine D3 D4 rfl ?_)
 refine I9 (i := 0) (l' := [tt,ff,ff,ff,ff,ff,ff,ff,ff,ff,ff,ff]) rfl C8 (C3 rfl) rfl zX rfl rfl ?_
 refine aL 1 rfl (E9 rfl rfl) rfl ?_
 refine aP 2 rfl (qM rfl) rfl ?_
 refine aP 3 rfl (B6 rfl rfl rfl zZ) rfl ?_
 refine aL 4 rfl (A5 rfl rfl (hat _) rfl) rfl ?_
 refine aP 5 rfl (C3 rfl) rfl ?_
 refine aL 6 rfl (E9 rfl rfl) rfl ?_
 refine aP 7 rfl (qM rfl) rfl ?_
 refine aP 8 rfl (B6 rfl rfl rfl zZ) rfl ?_
 refine aL 9 rfl (A5 rfl rfl (hat' _) rfl) rfl ?_
 refine A2 10 ?_
 refine Z2 rfl rfl (ih ks[i] (List.getElem_mem zZ) ks'[i] G _ _ (hv2 _ (List.getElem_mem zZ)) (hv2' _ (List.getElem_mem zZ)) hre hre') rfl rfl rfl (fun h118 => ?_) (fun h118 => ?_)
 refine aP 11 rfl (pNt rfl) rfl ?_
 refine E4 ?_
 refine sP (J9 rfl rfl zZ zZ) rfl rfl ?_
 refine A4 ?_
 refine J6 (i + 1) ?_ ?_ ?_
 exact F9
 exact ⟨by omega, fun j hj hj' hji => by (by_cases he : j = i; (subst he; assumption); exact hf j hj hj' zZ)⟩
 omega
 refine aP 11 rfl (pNf rfl) rfl ?_
 refine I5 ?_
 (rw [A9d zZ zZ zZ, B3I (i := i) zZ zZ zW]; exact ⟨rfl, rfl, rfl⟩)
 refine I5 ?_
 (rw [A9d zZ zZ zZ, (A3f ks _).2 ⟨hll, fun j hj hj' => hf j hj hj' zZ⟩]; exact ⟨rfl, rfl, rfl⟩)
theorem A62 (br : Nat) (pb : Option Addr) (nb cb : Nat) (bs : List UInt8) (hnb : nb ≤ 2000) : ∀ (t : Ty) (p : Nat) (G : IM) (cells : List Value), I0 t → C6 G t cells → Sl G pb nb cb 1 (R2 bs) → p + (L8 t).toNat + 1 < 1099511627776 →
  Fn Tryz.prog 105 [.pointer (some ⟨br, 0, none⟩), .agg ⟨cells⟩] [rd br pb nb cb p] G
   (A1b br pb nb cb p ((L8 t).toNat + 1) (fun G' v => ∃ u cells, v = .agg ⟨cells⟩ ∧ C6 G' u cells ∧ I0 u ∧ L8 u ≤ L8 t ∧ ∀ n, T4 n t → T4 n u)) := by
 refine Ty.ind fun k ks ih p G cells ha hr hb hp => ?_
 have hkid := ha.kid
 have hnn := A2L ks
 have hz : L8 (.mk k ks) = ks.length + R5 ks := by rw [L8]
 rw [hz] at hp ⊢
 obtain ⟨q, c, es, rfl, hk, hsl, hkl⟩ := hr.open
 simp only [Ty.k, Ty.ks] at hk hsl hkl ⊢
 have hn := hsl.le
 have hl2 := ha.two
 refine C0 Tryz.func105 rfl Tryz.ntmps105 Tryz.results105 rfl ?_
 intro w0
 refine A4 ?_
 refine sE (B5 rfl rfl) rfl (fun b3 => ?_)
 refine sE (A6 rfl) rfl (fun b4 => ?_)
 refine A9 ?_
 (refine K9 rfl (A0p _ br pb nb cb p bs _ hb hnb zZ) (Pk.perm zP) rfl rfl (fun v11 G11 outs11 hle11 hh => ?_); obtain ⟨rfl, rfl, j11, rfl, hj11, hk11⟩ := hh; have hm := hle11)
 replace hb := hb.mono hle11
 replace hr := hr.mono hle11
 replace hsl := hsl.mono hle11
 replace hkl := hkl.mono hle11
 refine sB (qE rfl rfl) rfl rfl (fun h12 => ?_) (fun h12 => ?_)
 refine A8 ?_
 refine H1 rfl ((A2y _)) rfl rfl ?_
 refine A8 ?_
 refine H6 (outs := [rd br pb nb cb (p + 1)]) (rC rfl (A3 rfl rfl)) zI ?_
 (exact ⟨p + 1, by omega, by omega, rfl, R6, _, rfl, A1t _, A4p, by rw [A6T]; omega, fun n _ => A80 n⟩)
 refine J4 ?_
 refine sE (A6 rfl) rfl (fun b36 => ?_)
 refine E8 ?_
 refine C2 ?_
 (refine W4 25 2 ?_; refine L4 (fun (x : Nat × Option Addr × Nat × List Ty × List (List Value) × Nat × IM) => ⟨[(6, .int .i64 x.1), (5, .pointer (some ⟨b36, 0, none⟩)), (4, .pointer (some ⟨b4, 0, none⟩)), (0, .pointer (some ⟨br, 0, none⟩)), (3, .pointer (some ⟨b3, 0, none⟩))], [.blk b36 [.int .i64 k, .slice x.2.1 x.1 x.2.2.1], .slc x.2.1 x.2.2.1 25 2 x.1 x.2.2.2.2.1.flatten, rd br pb nb cb x.2.2.2.2.2.1, .blk b4 [.int .i64 0, .slice none 0 0], .blk b3 [.int .i64 k, .slice q ks.length c]], x.2.2.2.2.2.2⟩) (fun x => x.1 ≤ ks.length ∧ B9 G11 x.2.2.2.2.2.2 ∧ x.2.2.2.1.length = x.1 ∧ D8 x.2.2.2.2.2.2 x.2.2.2.1 x.2.2.2.2.1 ∧ (∀ u ∈ x.2.2.2.1, I0 u) ∧ (∀ n, T4 n (.mk k ks) → ∀ u ∈ x.2.2.2.1, T4 (n - 1) u) ∧ R5 x.2.2.2.1 ≤ R5 (ks.take x.1) ∧ p + 1 ≤ x.2.2.2.2.2.1 ∧ (x.2.2.2.2.2.1 : Int) ≤ p + 1 + x.1 + R5 (ks.take x.1)) (fun x => ks.length - x.1) (0, none, 0, [], [], p + 1, G11) ?_ ?_ ?_)
 (simp only [I6]; exact F9)
 (exact ⟨by simp, B9.refl _, rfl, by simp [D8], by simp, by simp, by simp [R5], by dsimp only; omega, by simp [R5]⟩)
 (rintro ⟨i, pn, cn, us, es', p', Gi⟩ ⟨hi, hle, hlu, hst, hau, hhu, hsu, hp1, hp2⟩; simp only [] at hi hle hlu hst hau hhu hsu hp1 hp2 ⊢; replace hsl := hsl.mono hle; replace hkl := hkl.mono hle; have htk := A8K ks i)
 refine B0 ?_
 refine sB (N0 rfl rfl) rfl rfl (fun h58 => ?_) (fun h58 => ?_)
 refine A9 ?_
 refine C2 ?_
 (obtain ⟨b, o, q0, d0, hp0, hat0, hre0, hg0⟩ := hsl.kidTy hkl (i := i) zZ zZ; subst hp0; have e1 := B21 (ks := ks) (i := i) zZ; have e2 := A8K ks (i + 1); have e3 := A1O ks[i]; have hih := ih ks[i] (List.getElem_mem zZ) p' Gi _ (hkid _ (List.getElem_mem zZ)) hre0 (hb.mono hle) zZ; refine D3 D4 rfl ?_)
 refine I9 (i := 0) (l' := [tt,ff,ff,ff,ff,ff,ff,ff,ff,ff,ff,ff,ff]) rfl C8 (C3 rfl) rfl zX rfl rfl ?_
 refine aL 1 rfl (E9 rfl rfl) rfl ?_
 refine aP 2 rfl (qM rfl) rfl ?_
 refine aP 3 rfl (C3 rfl) rfl ?_
 refine aL 4 rfl (E9 rfl rfl) rfl ?_
 refine aP 5 rfl (qM rfl) rfl ?_
 refine aP 6 rfl (B6 rfl rfl rfl zZ) rfl ?_
 refine aL 7 rfl (A5 rfl rfl (hat0 _) rfl) rfl ?_
 refine A2 8 ?_
 (refine A0y (l' := [tt,tt,tt,tt,tt,tt,tt,tt,tt,ff,ff,ff,ff]) rfl rfl hih (Pk.perm zP) rfl rfl rfl (by repeat (first | exact A1.nil | apply A1.dep zV | apply A1.blk zV zP zS | apply A1.im zV hg0 zS)) (fun v G3 outs hle3 hh => ?_); obtain ⟨p3, hp31, hp32, rfl, u, cells3, rfl, hru, hua, hus, huh⟩ := hh; obtain ⟨q3, c3, es3, rfl, _⟩ := hru.open)
 refine A2 9 ?_
 (refine D2 rfl (D1 rfl rfl rfl zZ zU rfl) rfl rfl ?_; rintro _ ⟨b78, rfl⟩)
 refine A2 10 ?_
 refine O8 rfl rfl rfl rfl rfl rfl (fun _ _ => by repeat (first | exact Sw.here | apply Sw.there)) (J7 zS) rfl zT zU zZ rfl rfl zH (fun pn' cn' => ?_)
 refine aP 11 rfl (C3 rfl) rfl ?_
 refine A2 12 ?_
 refine T3 rfl rfl rfl rfl rfl rfl rfl rfl zX zR (by rfl) ?_
 refine A8 ?_
 refine sP (J9 rfl rfl zZ zZ) rfl rfl ?_
 refine A4 ?_
 refine J6 (i + 1, pn', cn', us ++ [u], es' ++ [[.int .i64 u.k, .slice q3 u.ks.length c3]], p3, G3) ?_ ?_ ?_
 (simp only [I6]; exact F9)
 (dsimp only; exact ⟨by omega, hle.trans hle3, by simp [hlu], D8.snoc (hst.mono hle3) hru, A3P hau hua, fun n hn => A3P (hhu n hn) (huh _ (A6K hn (List.getElem_mem _))), by rw [A5p]; omega, by omega, by omega⟩)
 (show ks.length - (i + 1) < ks.length - i; omega)
 refine M8 ?_
 (refine J0 zP (fun G5 hle5 hsl5 hno5 => ?_); obtain rfl : i = ks.length := zZ)
 refine tT ?_
 refine H6 (outs := [rd br pb nb cb p']) (rC rfl (A3 rfl rfl)) zI ?_
 (rw [List.take_length] at hsu hp2; refine ⟨p', by omega, by omega, rfl, .mk k us, _, rfl, (hst.mono hle5).ty hlu hsl5 hk, A9x ha hlu hau, by rw [L8]; omega, fun n hn => B3u hn hlu (hhu n hn)⟩)
theorem B34 {nm : ByteArray} (h : A0o nm = true) : nm.size = 1 := by
 unfold A0o at h
 simp at h
 omega
theorem A9y {k : Int} {nm : ByteArray} {num : Int} {ty fr : Ty} {lb : Int} {n : Nat} (h : Z8 k nm num ty fr lb n = true) : nm.size ≤ 1 := by
 obtain ⟨_, h2, h3, _⟩ := X7.1 h
 by_cases hk : k = 1 ∨ k = 5
 ·rw [B34 (h2 hk)]; omega
 ·rw [h3 hk]; decide
def RBd (G : IM) (e : List Value) : Prop := ∃ nm t q d, e = [.string nm, .int .i64 t.k, .slice q t.ks.length d] ∧ C6 G t [.int .i64 t.k, .slice q t.ks.length d] ∧ I0 t ∧ L8 t ≤ 30 ∧ nm.size ≤ 1
def GCx (G : IM) (p : Option Addr) (n c : Nat) : Prop := ∃ es, es.length = n ∧ D6 G p n c 3 es ∧ ∀ e ∈ es, RBd G e
theorem RBd.mono {G G' : IM} {e : List Value} (h : RBd G e) (hg : B9 G G') : RBd G' e := by
 obtain ⟨nm, t, q, d, h1, h2, h3, h4⟩ := h
 exact ⟨nm, t, q, d, h1, h2.mono hg, h3, h4⟩
theorem GCx.mono {G G' : IM} {p : Option Addr} {n c : Nat} (h : GCx G p n c) (hg : B9 G G') : GCx G' p n c := by
 obtain ⟨es, h1, h2, h3⟩ := h
 exact ⟨es, h1, h2.mono hg, fun e he => (h3 e he).mono hg⟩
theorem GCx.nil (G : IM) : GCx G none 0 0 := ⟨[], rfl, D6.nil _ _, by simp⟩
theorem At.drop {hp : List A7} {G : IM} {b o : Nat} {v : Value} {vs : List Value} (h : At hp G b o (v :: vs)) : At hp G b (o + 1) vs := by
 have key : ∀ {cs : List Value}, (∀ i u, (v :: vs)[i]? = some u → cs[o + i]? = some u) → ∀ i u, vs[i]? = some u → cs[o + 1 + i]? = some u := by
  intro cs hc i u hu
  have := hc (i + 1) u (by simpa using hu)
  rwa [show o + 1 + i = o + (i + 1) by omega]
 rcases h with ⟨cs, hm, hv⟩ | ⟨n, c, el, sz, cs, hm, hv⟩ | ⟨full, hg, hv⟩
 ·exact .inl ⟨cs, hm, key hv⟩
 ·exact .inr (.inl ⟨n, c, el, sz, cs, hm, key hv⟩)
 ·exact .inr (.inr ⟨full, hg, key hv⟩)
theorem GCx.get {G : IM} {p : Option Addr} {n c : Nat} (h : GCx G p n c) {i : Nat} (hi : i < n) :
  ∃ b o nm t q d, p = some ⟨b, o, none⟩ ∧ (∀ hp, At hp G b (o + i * 3) [.string nm, .int .i64 t.k, .slice q t.ks.length d]) ∧ C6 G t [.int .i64 t.k, .slice q t.ks.length d] ∧ I0 t ∧ L8 t ≤ 30 ∧ G b ≠ none ∧ nm.size ≤ 1 := by
 obtain ⟨es, h1, h2, h3⟩ := h
 obtain ⟨e, b, o, he, rfl, hl, _, hat, hgb⟩ := h2.get (i := i) zZ
 obtain ⟨nm, t, q, d, rfl, h5, h6, h7, h8⟩ := h3 e (List.mem_of_getElem? he)
 exact ⟨b, o, nm, t, q, d, rfl, hat, h5, h6, h7, hgb, h8⟩
theorem GCx.le {G : IM} {p : Option Addr} {n c : Nat} (h : GCx G p n c) : n ≤ 9223372036854775807 := by
 obtain ⟨es, h1, h2, h3⟩ := h
 exact h2.le
theorem B35 (G : IM) (p : Option Addr) (n c : Nat) (nm : ByteArray) (hx : GCx G p n c) :
  Fn Tryz.prog 103 [.slice p n c, .string nm] [] G (TyB 30 G) := by
 have hn := hx.le
 refine C0 Tryz.func103 rfl Tryz.ntmps103 Tryz.results103 rfl ?_
 intro w0
 refine A4 ?_
 refine sE (A6 rfl) rfl (fun b3 => ?_)
 refine E4 ?_
 refine sP (Q7 rfl rfl zZ zZ) rfl rfl ?_
 refine C1 ?_
 refine C2 ?_
 (refine L4 (fun (i : Nat) => ⟨[(6, .int .i64 ((i : Int) - 1)), (0, .slice p n c), (1, .string nm), (4, .pointer (some ⟨b3, 0, none⟩))], [.blk b3 [.int .i64 0, .slice none 0 0]], G⟩) (fun i => i ≤ n) (fun i => i) n ?_ ?_ ?_)
 exact F9
 exact Nat.le_refl _
 (rintro i hi)
 refine B4 ?_
 refine sB (A1j rfl rfl) rfl rfl (fun h25 => ?_) (fun h25 => ?_)
 refine A9 ?_
 (show K7 _ _ (.block 1 _) _ _; obtain ⟨j, rfl⟩ : ∃ j, i = j + 1 := ⟨i - 1, by omega⟩; rw [show ((j + 1 : Nat) : Int) - 1 = (j : Int) from by omega]; obtain ⟨b, o, nm1, t1, q1, d1, rfl, hat, hr1, ha1, hs1, hgb, hns1⟩ := hx.get (i := j) zZ; refine C2 ?_)
 refine B4 ?_
 refine sP (B6 rfl rfl rfl zZ) rfl rfl ?_
 refine E0 ?_
 refine sL (I2 rfl rfl ((hat _).sub (j := 0) rfl)) rfl rfl ?_
 refine E0 ?_
 refine sB (A2u rfl rfl) rfl rfl (fun h41 => ?_) (fun h41 => ?_)
 refine B0 ?_
 refine sP (B6 rfl rfl rfl zZ) rfl rfl ?_
 refine E0 ?_
 refine sL (A5 rfl rfl (hat _).drop rfl) rfl rfl ?_
 (refine F4 rfl (Y8 _ G _ ha1.small hr1) rfl rfl (fun v G1 hle1 hh => ?_); obtain ⟨cs1, F1, rfl, hs1', hn1⟩ := hh; obtain ⟨p1, c1, rfl, _⟩ := hs1'.open; have hrr := hs1'.R.mono (D9.le G1 G))
 refine J4 ?_
 refine H2 (rC rfl (A3 rfl rfl)) (rT rfl) ?_
 (exact ⟨rfl, _, _, _, rfl, hrr, ha1, hs1⟩)
 refine E4 ?_
 refine sP (Q7 rfl rfl zZ zZ) rfl rfl ?_
 refine A4 ?_
 refine J6 j ?_ ?_ ?_
 exact F9
 (show _ ≤ n; omega)
 exact Nat.le_refl _
 refine N7 ?_
 refine H2 (rC rfl (A3 rfl rfl)) (rT rfl) ?_
 (exact ⟨rfl, _, _, _, rfl, L5 _ ⟨by omega, by omega⟩, W8 zZ zZ, by rw [A9v]; omega⟩)
theorem A63 {G : IM} {nm : ByteArray} {k : Int} {ks : List Ty} {q : Option Addr} {d : Nat} (hr : C6 G (.mk k ks) [.int .i64 k, .slice q ks.length d]) (ha : I0 (.mk k ks)) (hs : L8 (.mk k ks) ≤ 30) (hn : nm.size ≤ 1) : RBd G [.string nm, .int .i64 k, .slice q ks.length d] := ⟨nm, .mk k ks, q, d, rfl, hr, ha, hs, hn⟩
theorem GCx.snoc {G G' : IM} {p p' : Option Addr} {n c c' : Nat} {es : List (List Value)} {e : List Value} (h1 : es.length = n) (h2 : D6 G p n c 3 es) (h3 : ∀ e ∈ es, RBd G e) (hg : B9 G G') (he : RBd G' e) (hs : Sl G' p' (n + 1) c' 3 (es.flatten ++ e)) : GCx G' p' (n + 1) c' := by
 refine ⟨es ++ [e], by simp [h1], D6.of (by simpa using hs) (by simp [h1]) ?_ ?_, ?_⟩
 ·intro x hx
  rcases List.mem_append.1 hx with hx | hx
  ·obtain ⟨_, _, _, _, rfl, _⟩ := h3 x hx; rfl
  ·obtain ⟨_, _, _, _, rfl, _⟩ := he
   simp only [List.mem_singleton] at hx; subst hx; rfl
 ·intro x hx
  rcases List.mem_append.1 hx with hx | hx
  ·obtain ⟨_, _, _, _, rfl, _⟩ := h3 x hx; simp [Value.oneCell']
  ·obtain ⟨_, _, _, _, rfl, _⟩ := he
   simp only [List.mem_singleton] at hx; subst hx; simp [Value.oneCell']
 ·intro x hx
  rcases List.mem_append.1 hx with hx | hx
  ·exact (h3 x hx).mono hg
  ·simp only [List.mem_singleton] at hx; subst hx; exact he
theorem B36 (G : IM) (p : Option Addr) (n c : Nat) (nm : ByteArray) (t : Ty) (cells : List Value) (hx : GCx G p n c) (hn : n ≤ 1000) (hr : C6 G t cells) (ha : I0 t) (hs : L8 t ≤ 30) (hnm : nm.size ≤ 1) :
  Fn Tryz.prog 123 [.slice p n c, .string nm, .agg ⟨cells⟩] [] G (M5 fun G' v => ∃ p' c', v = .slice p' (n + 1) c' ∧ GCx G' p' (n + 1) c') := by
 obtain ⟨k, ks⟩ := t
 obtain ⟨q, d, es0, rfl, _⟩ := hr.open
 simp only [Ty.k, Ty.ks] at hr ⊢
 obtain ⟨es, h1, h2, h3⟩ := hx
 have hSl : Sl G p n c 3 es.flatten := h2.1
 have h1c : ∀ u ∈ es.flatten, u.oneCell' = true := by
  intro u hu
  obtain ⟨e, he, hue⟩ := List.mem_flatten.1 hu
  obtain ⟨_, _, _, _, rfl, _⟩ := h3 e he
  simp only [List.mem_cons, List.not_mem_nil, or_false] at hue
  rcases hue with rfl | rfl | rfl <;> rfl
 refine C0 Tryz.func123 rfl Tryz.ntmps123 Tryz.results123 rfl ?_
 intro w0
 refine A4 ?_
 refine sE (B5 rfl rfl) rfl (fun b3 => ?_)
 refine B4 ?_
 refine D3 D4 rfl ?_
 refine I9 (i := 1) (l' := [ff,tt,ff,ff,ff,ff,ff,ff,ff]) rfl C8 (qM rfl) rfl zX rfl rfl ?_
 refine aP 3 rfl (qM rfl) rfl ?_
 refine aL 4 rfl (A3 rfl rfl) rfl ?_
 refine aP 5 rfl (pBd rfl rfl) rfl ?_
 refine P2 (j := 0) (j' := 6) zX ?_ ?_
 (refine D2 rfl (D1 rfl rfl rfl zZ zU rfl) rfl rfl ?_; rintro _ ⟨b14, rfl⟩)
 refine P2 (j := 2) (j' := 6) zX ?_ ?_
 (refine Y3 rfl rfl rfl rfl rfl rfl (fun _ _ => by repeat (first | exact Sw.here | apply Sw.there)) hSl h1c (Nat.zero_le _) zU zZ rfl rfl zH (fun p4 c4 => ?_); simp only [Nat.zero_add, List.nil_append])
 refine A2 6 ?_
 (refine D2 rfl (D1 rfl rfl rfl zZ zU rfl) rfl rfl ?_; rintro _ ⟨b18, rfl⟩)
 refine A2 7 ?_
 (refine O8 rfl rfl rfl rfl rfl rfl (fun _ _ => by repeat (first | exact Sw.here | apply Sw.there)) (J7 zS) rfl zT zU zZ rfl rfl zH (fun p5 c5 => ?_))
 refine aP 8 rfl (qA rfl) rfl ?_
 refine A4 ?_
 (refine J0 (cs := es.flatten ++ [.string nm, .int .i64 k, .slice q ks.length d]) zP (fun G5 hle5 hsl5 hno5 => ?_))
 refine A4 ?_
 (exact ⟨rfl, _, _, rfl, GCx.snoc h1 h2 h3 hle5 (A63 (hr.mono hle5) ha hs hnm) hsl5⟩)
 (refine D2 rfl (D1 rfl rfl rfl zZ zU rfl) rfl rfl ?_; rintro _ ⟨b28, rfl⟩)
 refine A2 2 ?_
 (refine Y3 rfl rfl rfl rfl rfl rfl (fun _ _ => by repeat (first | exact Sw.here | apply Sw.there)) hSl h1c (Nat.zero_le _) zU zZ rfl rfl zH (fun p4 c4 => ?_); simp only [Nat.zero_add, List.nil_append])
 refine A2 7 ?_
 (refine O8 rfl rfl rfl rfl rfl rfl (fun _ _ => by repeat (first | exact Sw.here | apply Sw.there)) (J7 zS) rfl zT zU zZ rfl rfl zH (fun p5 c5 => ?_))
 refine aP 8 rfl (qA rfl) rfl ?_
 refine A4 ?_
 (refine J0 (cs := es.flatten ++ [.string nm, .int .i64 k, .slice q ks.length d]) zP (fun G5 hle5 hsl5 hno5 => ?_))
 refine A4 ?_
 (exact ⟨rfl, _, _, rfl, GCx.snoc h1 h2 h3 hle5 (A63 (hr.mono hle5) ha hs hnm) hsl5⟩)
 (refine D2 rfl (D1 rfl rfl rfl zZ zU rfl) rfl rfl ?_; rintro _ ⟨b40, rfl⟩)
 refine A2 0 ?_
 (refine D2 rfl (D1 rfl rfl rfl zZ zU rfl) rfl rfl ?_; rintro _ ⟨b42, rfl⟩)
 refine A2 2 ?_
 (refine Y3 rfl rfl rfl rfl rfl rfl (fun _ _ => by repeat (first | exact Sw.here | apply Sw.there)) hSl h1c (Nat.zero_le _) zU zZ rfl rfl zH (fun p4 c4 => ?_); simp only [Nat.zero_add, List.nil_append])
 refine A2 7 ?_
 (refine O8 rfl rfl rfl rfl rfl rfl (fun _ _ => by repeat (first | exact Sw.here | apply Sw.there)) (J7 zS) rfl zT zU zZ rfl rfl zH (fun p5 c5 => ?_))
 refine aP 8 rfl (qA rfl) rfl ?_
 refine A4 ?_
 (refine J0 (cs := es.flatten ++ [.string nm, .int .i64 k, .slice q ks.length d]) zP (fun G5 hle5 hsl5 hno5 => ?_))
 refine A4 ?_
 (exact ⟨rfl, _, _, rfl, GCx.snoc h1 h2 h3 hle5 (A63 (hr.mono hle5) ha hs hnm) hsl5⟩)
theorem B37 (G : IM) : Fn Tryz.prog 90 [.slice none 0 0] [] G (K5 (.bool true) G) := by
 refine C0 Tryz.func90 rfl Tryz.ntmps90 Tryz.results90 rfl ?_
 intro w0
 refine M3 ?_
 refine C2 ?_
 (refine L4 (fun (_ : Nat) => ⟨[(3, .int .i64 0), (0, .slice none 0 0)], [], G⟩) (fun _ => True) (fun i => i) 0 ?_ ?_ ?_)
 ·exact F9
 ·trivial
 ·(rintro i _)
  refine A9 ?_
  refine sP (A1J rfl rfl zZ) rfl rfl ?_
  refine O3 ?_
  refine sP (A8d rfl rfl zZ) rfl rfl ?_
  refine A8 ?_
  trivial
theorem A5z {k : Int} {n : Nat} (h : E7 k = n) : (k = 6 ∨ k = 7 ∨ k = 8 ∨ k = 10 → n = 2) ∧ (k = 9 → n = 3) ∧ (k = 5 ∨ k = 11 ∨ k = 12 ∨ k = 13 → n = 1) := by
 refine ⟨?_, ?_, ?_⟩
 ·rintro (rfl | rfl | rfl | rfl)
  ·rw [show E7 6 = 2 from rfl] at h; omega
  ·rw [show E7 7 = 2 from rfl] at h; omega
  ·rw [show E7 8 = 2 from rfl] at h; omega
  ·rw [show E7 10 = 2 from rfl] at h; omega
 ·rintro rfl
  rw [show E7 9 = 3 from rfl] at h; omega
 ·rintro (rfl | rfl | rfl | rfl)
  ·rw [show E7 5 = 1 from rfl] at h; omega
  ·rw [show E7 11 = 1 from rfl] at h; omega
  ·rw [show E7 12 = 1 from rfl] at h; omega
  ·rw [show E7 13 = 1 from rfl] at h; omega
theorem B38 : ∀ (t : Ty) (d : Int), M4 t d = true → I0 t := by
 refine Ty.ind fun k ks ih d h => ?_
 obtain ⟨h1, h2⟩ := A6Q h
 rw [I0]
 refine ⟨fun hk => ?_, fun h4 h5 => ?_, A4o.2 fun t ht => ?_⟩
 ·have := (P6 k).2.1 hk
  omega
 ·have h5' := P6 k
  have h6 := h5'.1
  have h7 := h5'.2.2
  omega
 ·obtain ⟨i, hi, rfl⟩ := List.getElem_of_mem ht
  exact ih _ ht _ (h2 i hi)
theorem B39 : ∀ (n : Nat) (t : Ty) (d : Int), M4 t d = true → 4 - d ≤ n → T4 n t := by
 intro n
 induction n with
 | zero =>
  rintro ⟨k, ks⟩ d h hd
  obtain ⟨h1, h2⟩ := A6Q h
  have hks : ks.length = 0 := by
   rcases Nat.eq_zero_or_pos ks.length with h0 | h0
   ·exact h0
   ·have h3 := h2 0 h0
    obtain ⟨k', ks'⟩ : Ty := ks[0]
    have h4 : ∀ (u : Ty) (d : Int), M4 u d = true → d ≤ 4 := by
     rintro ⟨a, b⟩ d hu
     rw [M4] at hu
     simp only [Bool.and_eq_true, decide_eq_true_eq] at hu
     exact hu.1.1
    have := h4 _ _ h3
    omega
  have h5 := P6 k
  have h6 := h5.2.1
  exact ⟨List.length_eq_zero_iff.1 hks, by intro h; have := h6 (.inl h); omega, by intro h; have := h6 (.inr h); omega⟩
 | succ n ih =>
  rintro ⟨k, ks⟩ d h hd
  have ha := B38 _ _ h
  rw [I0] at ha
  obtain ⟨h1, h2⟩ := A6Q h
  refine ⟨ha.1, ha.2.1, fun t ht => ?_⟩
  obtain ⟨i, hi, rfl⟩ := List.getElem_of_mem ht
  exact ih _ _ (h2 i hi) zZ
theorem A2a {t : Ty} (h : H7 t = true) : I0 t ∧ L8 t ≤ 30 := by
 have h1 := B39 3 t 1 h zZ
 have h2 := A5o h1
 have h3 : ((2 ^ (3 + 1) - 2 : Nat) : Int) = 14 := rfl
 exact ⟨h1.ar, by omega⟩
theorem B4a {t : Ty} (h : A0n t = true) : I0 t ∧ L8 t ≤ 30 := by
 rw [A2A h]
 exact ⟨W8 zY zY, by rw [B3, A9v]; omega⟩
theorem A5A {k : Int} {nm : ByteArray} {num : Int} {ty fr : Ty} {lb : Int} {n : Nat} (h : Z8 k nm num ty fr lb n = true) : I0 ty ∧ L8 ty ≤ 30 := by
 have hn := X7.1 h
 by_cases hk : k = 5 ∨ k = 13 ∨ k = 14
 ·exact A2a (hn.2.2.2.2.2.1 hk)
 ·exact B4a (hn.2.2.2.2.2.2.1 hk)
theorem B8.of9 {G : IM} {k : Int} {nm : ByteArray} {num tk fk : Int} {tks fks : List Ty} {lb : Int} {ks : List Tm} {q1 q2 q3 : Option Addr} {c1 c2 c3 : Nat} {es : List (List Value)} (hk : H5 k) (hnum : H5 num) (hlb : H5 lb) (hty : C6 G (.mk tk tks) [.int .i64 tk, .slice q1 tks.length c1])
  (hfr : C6 G (.mk fk fks) [.int .i64 fk, .slice q2 fks.length c2]) (hsl : D6 G q3 ks.length c3 9 es) (hkl : F8 G ks es) :
  B8 G (.mk k nm num (.mk tk tks) (.mk fk fks) lb ks) [.int .i64 k, .string nm, .int .i64 num, .int .i64 tk, .slice q1 tks.length c1, .int .i64 fk, .slice q2 fks.length c2, .int .i64 lb, .slice q3 ks.length c3] := by
 simp only [B8]
 exact ⟨_, _, q3, c3, es, rfl, hk, hnum, hlb, hty, hfr, hsl, hkl⟩
theorem A3o {k k' : Int} {nm nm' : ByteArray} {num num' : Int} {ty fr ty' fr' : Ty} {lb lb' : Int} {ks : List Tm} (h : (Tm.mk k nm num ty fr lb ks).small) (h1 : nm'.size ≤ 4294967296) (h2 : ty'.small) (h3 : fr'.small) : (Tm.mk k' nm' num' ty' fr' lb' ks).small := by
 simp only [Tm.small] at h ⊢
 exact ⟨h1, h2, h3, h.2.2.2⟩
def Tm.fit (t : Tm) (N : Nat) : Prop := t.small ∧ E1 t ≤ N
theorem B4b (br : Nat) (pb : Option Addr) (nb cb : Nat) (bs : List UInt8) (hnb : nb ≤ 2000) (p : Nat) (G : IM) (hb : Sl G pb nb cb 1 (R2 bs)) (hp : p + 100 < 1099511627776) (t : Tm) (cells : List Value) (N : Nat) (hfit : t.fit N) (hr : B8 G t cells) :
  Fn Tryz.prog 38 [.pointer (some ⟨br, 0, none⟩), .agg ⟨cells⟩] [rd br pb nb cb p] G
   (A1b br pb nb cb p 40 (fun G' v => ∃ t cells, v = .agg ⟨cells⟩ ∧ B8 G' t cells ∧ t.fit N)) := by
 have hl := hr.len
 have hone := hr.one
 obtain ⟨k, nm, num, ⟨tk, tks⟩, ⟨fk, fks⟩, lb, ks⟩ := t
 have hfit0 := hfit
 obtain ⟨hsm, hcn⟩ := hfit0
 replace hfit : (Tm.mk k nm num (.mk tk tks) (.mk fk fks) lb ks).small ∧ E1 (Tm.mk k nm num (.mk tk tks) (.mk fk fks) lb ks) ≤ N := hfit
 rw [show (Tm.mk k nm num (.mk tk tks) (.mk fk fks) lb ks).small = (nm.size ≤ 4294967296 ∧ (Ty.mk tk tks).small ∧ (Ty.mk fk fks).small ∧ ks.length ≤ 4294967296 ∧ Tm.smallL ks) from by rw [Tm.small]] at hfit
 refine C0 Tryz.func38 rfl Tryz.ntmps38 Tryz.results38 rfl ?_
 intro w0
 refine A4 ?_
 refine sE (B5 rfl rfl) rfl (fun b3 => ?_)
 refine sE (A6 rfl) rfl (fun b4 => ?_)
 refine B4 ?_
 refine sL (A5 rfl rfl (B7 zS) zW) rfl rfl ?_
 (refine F4 rfl (B3s _ G cells hsm hr) rfl rfl (fun v G1 hle1 hh => ?_); obtain ⟨cells1, F1, rfl, hs1, hn1⟩ := hh; have hr1 := hs1.R.mono (D9.le G1 G); obtain ⟨q1, c1, q2, c2, q3, c3, es, rfl, hk, hnum, hlb, hty, hfr, hsl, hkl⟩ := hr1.open9)
 refine sE (A6 rfl) rfl (fun b11 => ?_)
 refine B0 ?_
 (refine K9 rfl (A0p _ br pb nb cb p bs 50 (hb.mono hle1) hnb zZ) (Pk.perm zP) rfl rfl (fun v G2 outs hle2 hh => ?_); obtain ⟨rfl, rfl, j, rfl, hj0, hj1⟩ := hh; replace hb := hb.mono hle1)
 refine A4 ?_
 (show K7 _ _ (.block 0 _) _ _; refine A0H (fun (x : List Value × Nat × IM) => ⟨[(5, .pointer (some ⟨b11, 0, none⟩)), (4, .pointer (some ⟨b4, 0, none⟩))], [.blk b11 x.1, .blk b4 [.int .i64 0, .string ⟨⟨[]⟩⟩, .int .i64 0, .int .i64 0, .slice none 0 0, .int .i64 0, .slice none 0 0, .int .i64 0, .slice none 0 0], rd br pb nb cb x.2.1], x.2.2⟩) (fun x => B9 G2 x.2.2 ∧ p ≤ x.2.1 ∧ x.2.1 ≤ p + 40 ∧ ∃ t, B8 x.2.2 t x.1 ∧ t.small ∧ E1 t = E1 (.mk k nm num (.mk tk tks) (.mk fk fks) lb ks)) ?_ ?_)
 refine C2 (tS (tR (sB (qE rfl rfl) rfl rfl (fun h26 => ?_) (fun h26 => ?_))))
 refine A9 ?_
 (refine J2 (D1 rfl rfl rfl zZ zU rfl) rfl ?_; rintro _ ⟨b33, rfl⟩)
 (refine W9 zP (fun G4 hle4 hsl4 _ => ?_); refine K9 rfl (A0X G4 br pb nb cb (p + 1) bs _ _ _ _ (hb.mono hle4) hnb zZ hsl4 zY) (Pk.perm zP) rfl rfl (fun v G5 outs hle5 hh => ?_); obtain ⟨rfl, rfl, hv⟩ := hh; obtain ⟨k', rfl, hk'⟩ : ∃ k', v = .int .i64 k' ∧ H5 k' := (by simp only [List.mem_cons, List.not_mem_nil, or_false] at hv; rcases hv with rfl | rfl | rfl | rfl | rfl | rfl <;> exact ⟨_, rfl, by unfold H5; omega⟩))
 refine B4 ?_
 refine O4 ([.int .i64 k', .string nm, .int .i64 num, .int .i64 tk, .slice q1 tks.length c1, .int .i64 fk, .slice q2 fks.length c2, .int .i64 lb, .slice q3 ks.length c3], p + 1 + 1, G5) (I1 zO zJ) ?_
 (dsimp only; exact ⟨hle4, by omega, by omega, _, B8.of9 hk' hnum hlb (hty.mono hle4) (hfr.mono hle4) (hsl.mono hle4) (hkl.mono hle4), A3o hsm hfit.1.1 hfit.1.2.1 hfit.1.2.2.1, rfl⟩)
 refine A9 ?_
 refine sB (qE rfl rfl) rfl rfl (fun h47 => ?_) (fun h47 => ?_)
 refine A9 ?_
 (refine J2 (D1 rfl rfl rfl zZ zU rfl) rfl ?_; rintro _ ⟨b54, rfl⟩)
 (refine W9 zP (fun G4 hle4 hsl4 _ => ?_); refine K9 rfl (A6L G4 br pb nb cb (p + 1) bs _ _ _ _ (hb.mono hle4) hnb zZ hsl4 zY) (Pk.perm zP) rfl rfl (fun v G5 outs hle5 hh => ?_); obtain ⟨rfl, rfl, hv⟩ := hh; obtain ⟨nm', rfl, hnm'⟩ : ∃ nm', v = .string nm' ∧ nm'.size ≤ 2 := (by simp only [List.mem_cons, List.not_mem_nil, or_false] at hv; rcases hv with rfl | rfl | rfl | rfl <;> exact ⟨_, rfl, by decide⟩))
 refine B4 ?_
 refine O4 ([.int .i64 k, .string nm', .int .i64 num, .int .i64 tk, .slice q1 tks.length c1, .int .i64 fk, .slice q2 fks.length c2, .int .i64 lb, .slice q3 ks.length c3], p + 1 + 1, G5) (I1 zO zJ) ?_
 (dsimp only; exact ⟨hle4, by omega, by omega, _, B8.of9 hk hnum hlb (hty.mono hle4) (hfr.mono hle4) (hsl.mono hle4) (hkl.mono hle4), A3o hsm zZ hfit.1.2.1 hfit.1.2.2.1, rfl⟩)
 refine A9 ?_
 refine sB (qE rfl rfl) rfl rfl (fun h68 => ?_) (fun h68 => ?_)
 refine A9 ?_
 (refine J2 (D1 rfl rfl rfl zZ zU rfl) rfl ?_; rintro _ ⟨b75, rfl⟩)
 (refine W9 zP (fun G4 hle4 hsl4 _ => ?_); refine K9 rfl (A0X G4 br pb nb cb (p + 1) bs _ _ _ _ (hb.mono hle4) hnb zZ hsl4 zY) (Pk.perm zP) rfl rfl (fun v G5 outs hle5 hh => ?_); obtain ⟨rfl, rfl, hv⟩ := hh; obtain ⟨k', rfl, hk'⟩ : ∃ k', v = .int .i64 k' ∧ H5 k' := (by simp only [List.mem_cons, List.not_mem_nil, or_false] at hv; rcases hv with rfl | rfl | rfl | rfl | rfl | rfl <;> exact ⟨_, rfl, by unfold H5; omega⟩))
 refine B4 ?_
 refine O4 ([.int .i64 k, .string nm, .int .i64 k', .int .i64 tk, .slice q1 tks.length c1, .int .i64 fk, .slice q2 fks.length c2, .int .i64 lb, .slice q3 ks.length c3], p + 1 + 1, G5) (I1 zO zJ) ?_
 (dsimp only; exact ⟨hle4, by omega, by omega, _, B8.of9 hk hk' hlb (hty.mono hle4) (hfr.mono hle4) (hsl.mono hle4) (hkl.mono hle4), A3o hsm hfit.1.1 hfit.1.2.1 hfit.1.2.2.1, rfl⟩)
 refine A9 ?_
 refine sB (qE rfl rfl) rfl rfl (fun h89 => ?_) (fun h89 => ?_)
 refine B0 ?_
 (refine K9 rfl (B3Q br pb nb cb bs hnb (p + 1) _ hb zZ) (Pk.perm zP) rfl rfl (fun v G3 outs hle3 hh => ?_); obtain ⟨p3, hp31, hp32, rfl, t3, cells3, rfl, hr3, hs3⟩ := hh)
 (refine K9 rfl (B3S br pb nb cb bs hnb p3 _ (hb.mono hle3) zZ t3 cells3 hr3 hs3) (Pk.perm zP) rfl rfl (fun v G4 outs hle4 hh => ?_); obtain ⟨p4, hp41, hp42, rfl, t4, cells4, rfl, hr4, hs4⟩ := hh; have hts4 := A4j t4 zZ; obtain ⟨t4k, t4s⟩ := t4; obtain ⟨q4, c4, es4, rfl, _⟩ := hr4.open; have hle24 := hle3.trans hle4)
 refine B4 ?_
 refine O4 ([.int .i64 k, .string nm, .int .i64 num, .int .i64 t4k, .slice q4 t4s.length c4, .int .i64 fk, .slice q2 fks.length c2, .int .i64 lb, .slice q3 ks.length c3], p4, G4) (I1 zO zJ) ?_
 (dsimp only; exact ⟨hle24, by omega, by omega, _, B8.of9 hk hnum hlb hr4 (hfr.mono hle24) (hsl.mono hle24) (hkl.mono hle24), A3o hsm hfit.1.1 hts4 hfit.1.2.2.1, rfl⟩)
 refine A9 ?_
 refine sB (qE rfl rfl) rfl rfl (fun h111 => ?_) (fun h111 => ?_)
 refine E8 ?_
 refine O4 ([.int .i64 k, .string nm, .int .i64 num, .int .i64 tk, .slice q1 tks.length c1, .int .i64 fk, .slice q2 fks.length c2, .int .i64 1, .slice q3 ks.length c3], p + 1, G2) (I1 zO zJ) ?_
 (dsimp only; exact ⟨B9.refl _, by omega, by omega, _, B8.of9 hk hnum ⟨by omega, by omega⟩ hty hfr hsl hkl, A3o hsm hfit.1.1 hfit.1.2.1 hfit.1.2.2.1, rfl⟩)
 refine A9 ?_
 refine sB (qE rfl rfl) rfl rfl (fun h129 => ?_) (fun h129 => ?_)
 refine A8 ?_
 refine H1 rfl ((A2y _)) rfl rfl ?_
 refine B4 ?_
 refine O4 ([.int .i64 k, .string nm, .int .i64 num, .int .i64 tk, .slice q1 tks.length c1, .int .i64 1, .slice none 0 0, .int .i64 lb, .slice q3 ks.length c3], p + 1, G2) (I1 zO zJ) ?_
 (dsimp only; exact ⟨B9.refl _, by omega, by omega, _, B8.of9 hk hnum hlb hty (A1t _) hsl hkl, A3o hsm hfit.1.1 hfit.1.2.1 (by simp [Ty.small, Ty.smallL]), rfl⟩)
 refine A9 ?_
 refine O4 ([.int .i64 k, .string nm, .int .i64 num, .int .i64 tk, .slice q1 tks.length c1, .int .i64 fk, .slice q2 fks.length c2, .int .i64 lb, .slice q3 ks.length c3], p + 1, G2) (I1 zO zJ) ?_
 (dsimp only; exact ⟨B9.refl _, by omega, by omega, _, B8.of9 hk hnum hlb hty hfr hsl hkl, A3o hsm hfit.1.1 hfit.1.2.1 hfit.1.2.2.1, rfl⟩)
 (rintro ⟨cells9, p9, G9⟩ ⟨hle9, hp9, hp9', t9, hr9, hs9, hc9⟩; simp only [] at hle9 hp9 hp9' hr9 hs9 hc9 ⊢; have hl9 := hr9.len; have ho9 := hr9.one)
 refine A4 ?_
 refine sL (A5 rfl rfl (B7 zS) hl9) rfl rfl ?_
 refine sS rfl rfl rfl hl9 ho9 rfl ?_ (hu := by exact C7 hl9.symm)
 refine C1 ?_
 refine H6 (outs := [rd br pb nb cb p9]) (rC rfl (A5 rfl rfl (B7 zS) hl9)) zI ?_
 (exact ⟨p9, by omega, by omega, rfl, t9, cells9, rfl, hr9, hs9, by omega⟩)
def TyV (e : Tm) (G : IM) : IM → Value → List A7 → Prop := M5 fun G' v => ∃ t cells b, v = .tuple ⟨[.agg ⟨cells⟩, .bool b]⟩ ∧ C6 G' t cells ∧ I0 t ∧ L8 t ≤ 960 ∧ (b = true → N8 e = true)
theorem B4c {G : IM} {e : Tm} {ce : List Value} {p : Option Addr} {c : Nat} (hr : B8 G e ce) (hs : Sl G p 1 c 9 ce) : D6 G p [e].length c 9 [ce] ∧ F8 G [e] [ce] := by
 refine ⟨D6.of (by simpa using hs) rfl (fun x hx => by simp only [List.mem_singleton] at hx; subst hx; exact hr.len) (fun x hx => by simp only [List.mem_singleton] at hx; subst hx; exact hr.one), ?_⟩
 simp only [F8]
 exact ⟨ce, [], rfl, hr, rfl⟩
def B8m (e : Tm) (label : Int) (G : IM) : IM → Value → List A7 → Prop := M5 fun G' v => ∃ u cu l', v = .tuple ⟨[.agg ⟨cu⟩, .int .i64 l']⟩ ∧ B8 G' u cu ∧ (e.small → u.small) ∧ E1 u ≤ E1 e + 1 ∧ label ≤ l' ∧ l' ≤ label + 1
def B8n (n : Nat) (G : IM) : IM → Value → List A7 → Prop := M5 fun G' v => ∃ p c es ws, v = .slice p n c ∧ ws.length = n ∧ D6 G' p n c 2 es ∧ D8 G' ws es ∧ ∀ w ∈ ws, I0 w
theorem F8.at2 {G : IM} {ts : List Tm} {es : List (List Value)} {i : Nat} (h : F8 G ts es) (h1 : i < ts.length) (h2 : i < es.length) : i < es.length ∧ B8 G ts[i] es[i] := by
 have := (h.inv (List.getElem?_eq_getElem h2) K4).2
 rw [List.getD_eq_getElem?_getD, List.getElem?_eq_getElem h1] at this
 exact ⟨h2, this⟩
theorem A9z {hp : List A7} {G : IM} {b sz i : Nat} {es : List (List Value)} {C : List Value} (hm : A7.blk b (es.flatten ++ C) ∈ hp) (hi : i < es.length) (ha : ∀ e ∈ es, e.length = sz) : At hp G b (0 + i * sz) es[i] := by
 refine .inl ⟨_, hm, fun j u hu => ?_⟩
 rw [A9l hi, List.append_assoc, List.append_assoc]
 have hl : (es.take i).flatten.length = i * sz := by
  rw [A1L (fun e he => ha e (List.mem_of_mem_take he)), List.length_take, Nat.min_eq_left zZ]
 have hj : j < es[i].length := (List.getElem?_eq_some_iff.1 hu).1
 rw [List.getElem?_append_right zZ, show 0 + i * sz + j - (es.take i).flatten.length = j by omega, List.getElem?_append_left hj]
 exact hu
def B8o (e : Tm) (label : Int) (G : IM) : IM → Value → List A7 → Prop := M5 fun G' v => ∃ u cu t ct l', v = .tuple ⟨[.agg ⟨cu⟩, .agg ⟨ct⟩, .int .i64 l']⟩ ∧ B8 G' u cu ∧ u.small ∧ E1 u + 1 ≤ 2 * E1 e ∧ C6 G' t ct ∧ I0 t ∧ L8 t ≤ 32 * (E1 e : Int) ∧ label ≤ l' ∧ l' + 1 ≤ label + 2 * (E1 e : Int)
def A1w (t : Ty) : Ty := if t.k = 4 ∨ t.k = 5 then .mk t.k [R6, R6] else .mk t.k []
def A0a (t : Ty) : Bool := decide (t.k ≠ 1) && S7 t (A1w t)
def prx (t : Tm) : Bool := decide (t.k = 14 ∧ t.fr.k = t.ty.k ∧ (t.ty.k = 4 ∨ t.ty.k = 5))
def inj (t : Tm) : Bool := decide (t.k = 14 ∧ t.ty.k = 1) && A0a t.fr
mutual
def J8 : Tm → Bool
 | .mk k nm num ty fr lb ks => if k = 10 ∨ (k = 14 ∧ fr.k = ty.k ∧ (ty.k = 4 ∨ ty.k = 5)) ∨ (k = 14 ∧ ty.k = 1 ∧ A0a fr = true) then A1R ks else decide (k = 2 ∨ k = 3 ∨ k = 4 ∨ k = 5)
def A1R : List Tm → Bool
 | [] => true
 | t :: ts => J8 t && A1R ts
end
mutual
def A0b (x : ByteArray) (v : Tm) : Tm → Tm
 | .mk k nm num ty fr lb ks => if k = 1 ∧ nm = x then v else if k = 5 ∧ nm = x then .mk k nm num ty fr lb ks else .mk k nm num ty fr lb (Z3 x v ks)
def Z3 (x : ByteArray) (v : Tm) : List Tm → List Tm
 | [] => []
 | t :: ts => A0b x v t :: Z3 x v ts
end
theorem A64 (x : ByteArray) (v : Tm) : ∀ ks, Z3 x v ks = ks.map (A0b x v)
 | [] => rfl
 | t :: ts => by rw [Z3, A64 x v ts, List.map_cons]
def S5 (e : Tm) (fr to : Ty) (lb : Int) : Tm := .mk 14 ⟨#[]⟩ 0 to fr lb [e]
def A2b (k : Int) (ks : List Tm) : Tm := .mk k ⟨#[]⟩ 0 B3 B3 0 ks
def A5B (n : Int) : Tm := .mk 2 ⟨#[]⟩ n B3 B3 0 []
def A2c (b : Prop) [Decidable b] : Tm := A2b (if b then 3 else 4) []
abbrev Stp := Tm × Int × Int
def Z4 : Stp := (K4, 3, 0)
def kd (ks : List Tm) (i : Nat) : Tm := ks.getD i K4
def kt (ks : List Ty) (i : Nat) : Ty := ks.getD i B3
def A03 (k : Int) (ty fr : Ty) (lb : Int) (ks : List Tm) : Stp :=
 if k = 6 then
  (if (kd ks 0).k = 5 then (A0b (kd ks 0).nm (kd ks 1) (kd (kd ks 0).ks 0), 1, 0)
   else if prx (kd ks 0) = true ∧ (kd ks 0).ty.k = 4 then (S5 (A2b 6 [kd (kd ks 0).ks 0, S5 (kd ks 1) (kt (kd ks 0).ty.ks 0) (kt (kd ks 0).fr.ks 0) (-(kd ks 0).lb)]) (kt (kd ks 0).fr.ks 1) (kt (kd ks 0).ty.ks 1) (kd ks 0).lb, 1, 0)
   else Z4)
 else if k = 7 ∨ k = 8 then
  (if (kd ks 0).k = 2 ∧ (kd ks 1).k = 2 then (if k = 7 then A5B (((kd ks 0).num + (kd ks 1).num) % 1000) else A2c ((kd ks 0).num < (kd ks 1).num), 1, 0) else Z4)
 else if k = 9 then (if (kd ks 0).k = 3 then (kd ks 1, 1, 0) else if (kd ks 0).k = 4 then (kd ks 2, 1, 0) else Z4)
 else if k = 11 ∨ k = 12 then
  (if (kd ks 0).k = 10 then (kd (kd ks 0).ks (k - 11).toNat, 1, 0)
   else if prx (kd ks 0) = true ∧ (kd ks 0).ty.k = 5 then (S5 (A2b k [kd (kd ks 0).ks 0]) (kt (kd ks 0).fr.ks (k - 11).toNat) (kt (kd ks 0).ty.ks (k - 11).toNat) (kd ks 0).lb, 1, 0)
   else Z4)
 else if k = 14 then
  (if fr.k = ty.k then (kd ks 0, 1, 0)
   else if ty.k = 1 then (S5 (S5 (kd ks 0) fr (A1w fr) lb) (A1w fr) ty lb, 1, 0)
   else if A0a ty = false then (S5 (S5 (kd ks 0) fr (A1w ty) lb) (A1w ty) ty lb, 1, 0)
   else if inj (kd ks 0) = false then Z4
   else if (kd ks 0).fr.k = ty.k then (kd (kd ks 0).ks 0, 1, 0)
   else (K4, 2, lb))
 else Z4
mutual
def L3 : Tm → Stp
 | .mk k nm num ty fr lb ks => match A0c (if k = 9 then 1 else ks.length) ks with
  | some (ks', c, l) => if c = 1 then (.mk k nm num ty fr lb ks', 1, 0) else (K4, c, l)
  | none => A03 k ty fr lb ks
def A0c : Nat → List Tm → Option (List Tm × Int × Int)
 | _, [] => none
 | n, t :: ts => match n with
  | 0 => none
  | n + 1 => if J8 t = true then (match A0c n ts with
    | some (us, c, l) => some (t :: us, c, l)
    | none => none)
   else some ((L3 t).1 :: ts, (L3 t).2.1, (L3 t).2.2)
end
def I3 (e : Tm) : Stp :=
 if S0 e = false then Z4 else if J8 e = true then (e, 0, 0)
 else if (L3 e).2.1 ≠ 1 then (K4, (L3 e).2.1, (L3 e).2.2)
 else if S0 (L3 e).1 = false then (K4, 4, 0) else ((L3 e).1, 1, 0)
def L9 : Nat → Tm → Tm × Int × Int × Nat
 | 0, e => if (I3 e).2.1 = 1 then (K4, 5, 0, 0) else ((I3 e).1, (I3 e).2.1, (I3 e).2.2, 0)
 | n + 1, e => if (I3 e).2.1 = 1 then ((L9 n (I3 e).1).1, (L9 n (I3 e).1).2.1, (L9 n (I3 e).1).2.2.1, (L9 n (I3 e).1).2.2.2 + 1)
  else ((I3 e).1, (I3 e).2.1, (I3 e).2.2, 0)
def U3 (e : Tm) (fuel : Int) : Stp := if 0 ≤ fuel ∧ fuel ≤ 300 then ((L9 fuel.toNat e).1, (L9 fuel.toNat e).2.1, (L9 fuel.toNat e).2.2.1) else Z4
def B8p (e : Tm) (fuel : Int) : Int := if 0 ≤ fuel ∧ fuel ≤ 300 then ((L9 fuel.toNat e).2.2.2 : Int) else 0
structure CvN (k : Int) (nm : ByteArray) (num : Int) (ty fr : Ty) (lb : Int) (ks : List Tm) : Prop where
 ops : E7 k = ks.length
 ne : k ≠ 13
 nm1 : nm.size ≤ 1
 num0 : 0 ≤ num ∧ num ≤ 999
 tyA : I0 ty
 frA : I0 fr
 lbB : -99 ≤ lb ∧ lb ≤ 99
 c14 : k = 14 → N3 fr ty = true ∧ H7 ty = true ∧ H7 fr = true
 ty5 : ¬(k = 5 ∨ k = 14) → ty = B3
 fr14 : k ≠ 14 → fr = B3 ∧ lb = 0
def cv (t : Tm) : Prop := ∃ d, P4 40 13 t d = true
theorem A3Q {n lo hi : Int} : W7 n lo hi = true ↔ lo ≤ n ∧ n ≤ hi := by unfold W7; rw [decide_eq_true_eq]
theorem cv.node {k : Int} {nm : ByteArray} {num : Int} {ty fr : Ty} {lb : Int} {ks : List Tm} (h : cv (.mk k nm num ty fr lb ks)) : CvN k nm num ty fr lb ks ∧ ∀ t ∈ ks, cv t := by
 obtain ⟨d, h⟩ := h
 obtain ⟨_, h2, h3, h4⟩ := A0O h
 obtain ⟨n1, n2, n3, n4, n5, n6, n7, n8, n9⟩ := X7.1 h3
 refine ⟨⟨n1, h2, A9y h3, ?_, (A5A h3).1, ?_, ?_, ?_, ?_, ?_⟩, fun t ht => ?_⟩
 ·by_cases hk : k = 2
  ·exact A3Q.1 (n4 hk)
  ·have := A3Q.1 (n5 hk); omega
 ·by_cases hk : k = 14
  ·have := (n8 hk).1
   simp only [A13, Bool.and_eq_true] at this
   exact (A2a this.1.1).1
  ·rw [A2A (n9 hk).1]; exact W8 zY zY
 ·by_cases hk : k = 14
  ·have := (n8 hk).2
   simp only [A2x, Bool.or_eq_true, A3Q] at this
   omega
  ·have := (n9 hk).2; omega
 ·intro hk
  have := (n8 hk).1
  simp only [A13, Bool.and_eq_true] at this
  exact ⟨this.2, this.1.2, this.1.1⟩
 ·intro hk
  exact A2A (n7 zZ)
 ·intro hk
  exact ⟨A2A (n9 hk).1, (n9 hk).2⟩
 ·obtain ⟨i, hi, rfl⟩ := List.mem_iff_getElem.1 ht
  exact ⟨_, (A2z 40 13 ks _).1 h4 i hi⟩
theorem A65 {t : Tm} (h : S0 t = true) : cv t ∧ E1 t ≤ 200 := by
 obtain ⟨h1, h2⟩ := (A9g t).1 h
 exact ⟨⟨1, h1⟩, h2⟩
mutual
theorem A5C : ∀ (t : Tm), cv t → t.small
 | .mk k nm num ty fr lb ks, h => by
  obtain ⟨hn, hk⟩ := h.node
  rw [Tm.small]
  refine ⟨by have := hn.nm1; omega, hn.tyA.small, hn.frA.small, ?_, A9A ks hk⟩
  have := A3m k
  have := hn.ops
  omega
theorem A9A : ∀ (ts : List Tm), (∀ t ∈ ts, cv t) → Tm.smallL ts
 | [], _ => by rw [Tm.smallL]; trivial
 | t :: ts, h => by
  rw [Tm.smallL]
  exact ⟨A5C t (h t List.mem_cons_self), A9A ts fun u hu => h u (List.mem_cons_of_mem _ hu)⟩
end
theorem A2S (k : Int) (nm : ByteArray) (num : Int) (ty fr : Ty) (lb : Int) (ks : List Tm) : E1 (.mk k nm num ty fr lb ks) = H3 ks + 1 := by rw [E1]
theorem A4z {k : Int} {nm : ByteArray} {num : Int} {ty fr : Ty} {lb : Int} {ks : List Tm} : (Tm.mk k nm num ty fr lb ks).small ↔ nm.size ≤ 4294967296 ∧ ty.small ∧ fr.small ∧ ks.length ≤ 4294967296 ∧ Tm.smallL ks := by rw [Tm.small]
theorem B4d : K4.small := by simp [K4, Tm.small, Ty.small, Ty.smallL, Tm.smallL, ByteArray.size]
theorem A9B : B3.small := by simp [B3, Ty.small, Ty.smallL]
mutual
def I8 : Tm → List Ty
 | .mk k _ _ ty _ _ ks => (if k = 5 ∨ k = 13 then [ty] else []) ++ I4 ks
def I4 : List Tm → List Ty
 | [] => []
 | t :: ts => I8 t ++ I4 ts
end
theorem A66 : ∀ (a b : List Tm), I4 (a ++ b) = I4 a ++ I4 b
 | [], b => by simp [I4]
 | t :: a, b => by simp [I4, A66 a b]
theorem A0K {ks : List Tm} {i : Nat} (hi : i < ks.length) : I4 (ks.take (i + 1)) = I4 (ks.take i) ++ I8 ks[i] := by
 rw [List.take_succ_eq_append_getElem hi, A66, I4, I4, List.append_nil]
mutual
theorem A67 : ∀ t : Tm, (I8 t).length ≤ E1 t
 | .mk k nm num ty fr lb ks => by
  have := A2T ks
  rw [I8, E1, List.length_append]
  split <;> simp <;> omega
theorem A2T : ∀ ts : List Tm, (I4 ts).length ≤ H3 ts
 | [] => by simp [I4]
 | t :: ts => by
  have := A67 t
  have := A2T ts
  rw [I4, H3, List.length_append]; omega
end
mutual
def Q0 : Tm → List Ty → Tm
 | .mk k nm num ty fr lb ks, l => .mk k nm num (if k = 5 ∨ k = 13 then l.getD 0 B3 else ty) fr lb (O6 ks (if k = 5 ∨ k = 13 then l.drop 1 else l))
def O6 : List Tm → List Ty → List Tm
 | [], _ => []
 | t :: ts, l => Q0 t l :: O6 ts (l.drop (I8 t).length)
end
theorem A2U : ∀ (ts : List Tm) (l : List Ty), (O6 ts l).length = ts.length
 | [], _ => rfl
 | t :: ts, l => by rw [O6, List.length_cons, A2U ts, List.length_cons]
theorem A9C : ∀ (a b : List Tm) (l : List Ty), O6 (a ++ b) l = O6 a l ++ O6 b (l.drop (I4 a).length)
 | [], b, l => by simp [O6, I4]
 | t :: a, b, l => by simp [O6, I4, A9C a b, List.drop_drop]
theorem A4A {ks : List Tm} {i : Nat} (hi : i < ks.length) (l : List Ty) : O6 (ks.take (i + 1)) l = O6 (ks.take i) l ++ [Q0 ks[i] (l.drop (I4 (ks.take i)).length)] := by
 rw [List.take_succ_eq_append_getElem hi, A9C, O6, O6]
def A0B (mask : Nat) : Nat → List Ty → List Ty
 | _, [] => []
 | i, t :: ts => (if (mask / 2 ^ i) % 2 = 1 then .mk 1 [] else t) :: A0B mask (i + 1) ts
theorem A9D (mask : Nat) : ∀ (l : List Ty) (i : Nat), (A0B mask i l).length = l.length
 | [], _ => rfl
 | t :: ts, i => by rw [A0B, List.length_cons, A9D mask ts, List.length_cons]
theorem A9E (mask : Nat) : ∀ (l : List Ty) (j : Nat) (u : Ty), u ∈ A0B mask j l → u = .mk 1 [] ∨ u ∈ l
 | [], j, u, h => by simp [A0B] at h
 | t :: l, j, u, h => by
  rw [A0B] at h
  rcases List.mem_cons.1 h with h | h
  ·split at h
   ·exact .inl h
   ·exact .inr (by rw [h]; simp)
  ·rcases A9E mask l (j + 1) u h with h | h
   ·exact .inl h
   ·exact .inr (List.mem_cons_of_mem _ h)
def A1S (e : Tm) (mask : Nat) : Tm := Q0 e (A0B mask 0 (I8 e))
def B4e (e : Tm) : List Tm := (List.range (2 ^ (I8 e).length)).map (A1S e)
theorem A4B {ks : List Tm} {i : Nat} (hi : i < ks.length) : (I4 (ks.take i)).length + (I8 ks[i]).length ≤ (I4 ks).length := by
 have h : ks = ks.take (i + 1) ++ ks.drop (i + 1) := (List.take_append_drop _ _).symm
 conv => rhs; rw [h]
 rw [A66, A0K hi]
 simp only [List.length_append]; omega
def A1x (k : Int) : Bool := decide (k = 5 ∨ k = 13)
theorem A9F (t : Tm) (G : IM) (cells : List Value) (hr : B8 G t cells) : Fn Tryz.prog 30 [.agg ⟨cells⟩] [] G (K5 (.bool (A1x t.k)) G) := by
 obtain ⟨k, nm, num, ⟨tk, tks⟩, ⟨fk, fks⟩, lb, ks⟩ := t
 obtain ⟨pt, ct, pf, cf, p, c, es, rfl, hk, hnum, hlb, hty, hfr, hsl, hkl⟩ := hr.open9
 refine C0 Tryz.func30 rfl Tryz.ntmps30 Tryz.results30 rfl ?_
 intro w0
 refine A4 ?_
 refine sE (B5 rfl rfl) rfl (fun b3 => ?_)
 refine B0 ?_
 refine sB (qE rfl rfl) rfl rfl (fun h11 => ?_) (fun h11 => ?_)
 refine J4 ?_
 exact ⟨rfl, by (show _ = Value.bool (decide (k = 5 ∨ k = 13)); first | rw [decide_eq_true zZ] | rw [decide_eq_false zZ]), rfl⟩
 refine C1 ?_
 refine sB (qE rfl rfl) rfl rfl (fun h26 => ?_) (fun h26 => ?_)
 refine A9 ?_
 exact ⟨rfl, by (show _ = Value.bool (decide (k = 5 ∨ k = 13)); first | rw [decide_eq_true zZ] | rw [decide_eq_false zZ]), rfl⟩
 refine A9 ?_
 exact ⟨rfl, by (show _ = Value.bool (decide (k = 5 ∨ k = 13)); first | rw [decide_eq_true zZ] | rw [decide_eq_false zZ]), rfl⟩
section cap
variable {P : Program} {Γ : M9} {env : O2} {hp : List A7} {G : IM} {K : Po} {ops : Array Oper} {rest : List Oper}
end cap
theorem D8.append {G : IM} : ∀ {a b : List Ty} {es fs : List (List Value)}, D8 G a es → D8 G b fs → D8 G (a ++ b) (es ++ fs)
 | [], b, es, fs, h, h2 => by simp only [D8] at h; subst h; simpa using h2
 | t :: a, b, es, fs, h, h2 => by
  simp only [D8] at h
  obtain ⟨x, r, rfl, h3, h4⟩ := h
  simp only [List.cons_append, D8]
  exact ⟨x, r ++ fs, rfl, h3, D8.append h4 h2⟩
theorem D8.one1 {G : IM} {t : Ty} {c : List Value} (h : C6 G t c) : D8 G [t] [c] := by
 simp only [D8]; exact ⟨c, [], rfl, h, rfl⟩
def A0Q (ts : List Ty) : IM → Value → List A7 → Prop := fun G' v outs => ∃ p c es, v = .slice p ts.length c ∧ outs = [.slc p c 25 2 ts.length es.flatten] ∧ D8 G' ts es
theorem A0Q.mk {ts : List Ty} {n : Nat} {G' : IM} {p : Option Addr} {c : Nat} {es : List (List Value)} (hn : ts.length = n) (hr : D8 G' ts es) : A0Q ts G' (.slice p n c) [.slc p c 25 2 n es.flatten] := by
 subst hn
 exact ⟨p, c, es, rfl, rfl, hr⟩
theorem A9G {sz : Nat} : ∀ {es : List (List Value)} (l : Nat), (∀ e ∈ es, e.length = sz) → es.flatten.drop (l * sz) = (es.drop l).flatten
 | [], l, _ => by simp
 | e :: es, 0, _ => by simp
 | e :: es, l + 1, h => by
  rw [List.flatten_cons, List.drop_succ_cons, ← A9G l (fun x hx => h x (List.mem_cons_of_mem _ hx)), Nat.add_mul, Nat.one_mul]
  have he := h e List.mem_cons_self
  rw [List.drop_append, List.drop_eq_nil_of_le zZ, List.nil_append]
  congr 1; omega
theorem D6.from2 {G : IM} {b o n c l sz : Nat} {es : List (List Value)} (h : D6 G (some ⟨b, o, none⟩) n c sz es) (hl : l ≤ n) : D6 G (some ⟨b, if c = l then o else o + l * sz, none⟩) (n - l) (c - l) sz (es.drop l) := by
 have h1 := h.sl.from hl
 rw [A9G l h.all] at h1
 exact D6.of h1 (by rw [List.length_drop, h.len]) (fun e he => h.all e (List.mem_of_mem_drop he)) (fun e he => h.one e (List.mem_of_mem_drop he))
theorem D8.drop {G : IM} : ∀ {l : List Ty} {es : List (List Value)} (n : Nat), D8 G l es → D8 G (l.drop n) (es.drop n)
 | [], es, n, h => by simp only [D8] at h; subst h; simp [D8]
 | t :: l, es, 0, h => by simpa using h
 | t :: l, es, n + 1, h => by
  simp only [D8] at h
  obtain ⟨a, r, rfl, h1, h2⟩ := h
  simpa using D8.drop n h2
def RtP (u : Tm) (l : List Ty) : IM → Value → List A7 → Prop := fun G' v outs => outs = [] ∧ ∃ cu p c el, v = .tuple ⟨[.agg ⟨cu⟩, .slice p l.length c]⟩ ∧ B8 G' u cu ∧ D6 G' p l.length c 2 el ∧ D8 G' l el
theorem RtP.mk {G' : IM} {k : Int} {nm : ByteArray} {num : Int} {ty fr : Ty} {lb : Int} {ks : List Tm} {tk fk : Int} {pt pf : Option Addr} {nt ct nf cf : Nat} {p q : Option Addr} {m c cq n : Nat} {es el : List (List Value)} {l : List Ty}
  (hk : H5 k) (hnum : H5 num) (hlb : H5 lb) (hty : C6 G' ty [.int .i64 tk, .slice pt nt ct]) (hfr : C6 G' fr [.int .i64 fk, .slice pf nf cf]) (hm : m = ks.length) (hs : Sl G' p m c 9 es.flatten) (hr : F8 G' ks es)
  (hn : n = l.length) (hq : D6 G' q n cq 2 el) (hl : D8 G' l el) :
  RtP (.mk k nm num ty fr lb ks) l G' (.tuple ⟨[.agg ⟨[.int .i64 k, .string nm, .int .i64 num, .int .i64 tk, .slice pt nt ct, .int .i64 fk, .slice pf nf cf, .int .i64 lb, .slice p m c]⟩, .slice q n cq]⟩) [] := by
 subst hm hn
 refine ⟨rfl, _, q, cq, el, rfl, ?_, hq, hl⟩
 simp only [B8]
 exact ⟨_, _, p, c, es, rfl, hk, hnum, hlb, hty, hfr, D6.of hs hr.len hr.all (fun e he => by obtain ⟨j, hj⟩ := List.getElem?_of_mem he; exact (hr.inv hj K4).2.one), hr⟩
theorem B4f : ∀ (t : Tm) (l : List Ty) (G : IM) (cells : List Value) (p : Option Addr) (c : Nat) (el : List (List Value)), (I8 t).length ≤ l.length → (∀ u ∈ l, u.small) → E1 t ≤ 4000000 → B8 G t cells → D6 G p l.length c 2 el → D8 G l el →
  Fn Tryz.prog 16 [.agg ⟨cells⟩, .slice p l.length c] [] G (RtP (Q0 t l) (l.drop (I8 t).length)) := by
 refine Tm.ind fun k nm num ty fr lb ks ih l G cells p c el hlen hsm hcnt hr hse hel => ?_
 have hT := A9F _ G cells hr
 have hone := hr.one
 have hcy : A1x k = true → I8 (.mk k nm num ty fr lb ks) = [ty] ++ I4 ks := fun h => by rw [I8, if_pos (of_decide_eq_true h)]
 have hcn : A1x k = false → I8 (.mk k nm num ty fr lb ks) = [] ++ I4 ks := fun h => by rw [I8, if_neg (of_decide_eq_false h)]
 have hwy : A1x k = true → Q0 (.mk k nm num ty fr lb ks) l = .mk k nm num (l.getD 0 B3) fr lb (O6 ks (l.drop 1)) := fun h => by rw [Q0, if_pos (of_decide_eq_true h), if_pos (of_decide_eq_true h)]
 have hwn : A1x k = false → Q0 (.mk k nm num ty fr lb ks) l = .mk k nm num ty fr lb (O6 ks l) := fun h => by rw [Q0, if_neg (of_decide_eq_false h), if_neg (of_decide_eq_false h)]
 rw [E1] at hcnt
 obtain ⟨tk, tks⟩ := ty
 obtain ⟨fk, fks⟩ := fr
 have hT' : Fn Tryz.prog 30 _ [] G (K5 (.bool (A1x k)) G) := hT
 obtain ⟨pt, ct, pf, cf, q, cq, ek, rfl, hk, hnum, hlb, hty, hfr, hsl, hkl⟩ := hr.open9
 have hn := hsl.le
 have hkn := A3L ks
 refine C0 Tryz.func16 rfl Tryz.ntmps16 Tryz.results16 rfl ?_
 intro w0
 refine A4 ?_
 refine sE (B5 rfl rfl) rfl (fun b3 => ?_)
 refine sE (A6 rfl) rfl (fun b4 => ?_)
 refine A9 ?_
 refine sE (A6 rfl) rfl (fun b11 => ?_)
 refine O5 ?_
 refine K3 rfl (hT') rfl rfl (fun h25 => ?_) (fun h25 => ?_)
 refine C1 ?_
 (have hL1 := hcy zW; have h1 : 1 + (I4 ks).length ≤ l.length := (by rw [hL1] at hlen; simp only [List.length_append, List.length_singleton] at hlen; omega); obtain ⟨b0, o0, p20, c20, rfl, hat0, hre0, hgb0⟩ := hse.kidTy hel (i := 0) zZ zZ; obtain ⟨T0, hT0⟩ : ∃ T, T = l[0]'zZ := ⟨_, rfl⟩; have hs0 := hsm _ (List.getElem_mem (show 0 < l.length by omega)); rw [← hT0] at hre0 hat0 hs0; have hO := A2M T0 G _ hs0 hre0; refine D3 D4 rfl ?_)
 refine I9 (i := 0) (l' := [tt,ff,ff,ff,ff,ff,ff,ff,ff]) rfl C8 (qM rfl) rfl zX rfl rfl ?_
 refine aP 1 rfl (B6 (j := 0) rfl rfl rfl zZ) rfl ?_
 refine aL 2 rfl (A5 rfl rfl (hat0 _) rfl) rfl ?_
 refine aP 4 rfl (qM rfl) rfl ?_
 refine aP 5 rfl (B3V (l := 1) rfl rfl rfl zZ) rfl ?_
 refine A2 3 ?_
 (refine H0 rfl rfl hO rfl rfl rfl (fun v G1 hle1 hh => ?_); obtain ⟨cs1, F1, rfl, hs1, hn1⟩ := hh; have hr1 := hs1.R.mono (D9.le _ _); obtain ⟨p1, c1, rfl, _⟩ := hs1.open)
 refine aP 6 rfl (C3 rfl) rfl ?_
 refine A2 7 ?_
 refine C9 rfl ?_
 refine aP 8 rfl (qA rfl) rfl ?_
 refine M3 ?_
 refine C2 ?_
 (have hL2 := hcy zW; have hW2 := hwy zW; have hse1 := (hse.from2 (l := 1) zZ).mono hle1; have hel1 := (hel.drop 1).mono hle1; refine W4 28 9 ?_; refine L4 (fun (x : Nat × Option Addr × Nat × List (List Value) × Option Addr × Nat × Nat × List (List Value) × IM) => ⟨[(25, .int .i64 x.1), (24, .int .i64 ks.length), (23, .slice q ks.length cq), (1, .slice x.2.2.2.2.1 x.2.2.2.2.2.1 x.2.2.2.2.2.2.1), (6, .pointer (some ⟨b11, 0, none⟩)), (4, .pointer (some ⟨b4, 0, none⟩))], [.blk b11 [.int .i64 k, .string nm, .int .i64 num, .int .i64 T0.k, .slice p1 T0.ks.length c1, .int .i64 fk, .slice pf fks.length cf, .int .i64 lb, .slice x.2.1 x.1 x.2.2.1], .slc x.2.1 x.2.2.1 28 9 x.1 x.2.2.2.1.flatten, .blk b4 [.int .i64 0, .string ⟨⟨[]⟩⟩, .int .i64 0, .int .i64 0, .slice none 0 0, .int .i64 0, .slice none 0 0, .int .i64 0, .slice none 0 0]], x.2.2.2.2.2.2.2.2⟩) (fun x => x.1 ≤ ks.length ∧ B9 G1 x.2.2.2.2.2.2.2.2 ∧ F8 x.2.2.2.2.2.2.2.2 (O6 (ks.take x.1) (l.drop 1)) x.2.2.2.1 ∧ x.2.2.2.2.2.1 = ((l.drop 1).drop (I4 (ks.take x.1)).length).length ∧ D6 x.2.2.2.2.2.2.2.2 x.2.2.2.2.1 x.2.2.2.2.2.1 x.2.2.2.2.2.2.1 2 x.2.2.2.2.2.2.2.1 ∧ D8 x.2.2.2.2.2.2.2.2 ((l.drop 1).drop (I4 (ks.take x.1)).length) x.2.2.2.2.2.2.2.1) (fun x => ks.length - x.1) (0, none, 0, [], some ⟨b0, if c = 1 then o0 else o0 + 1 * 2, none⟩, l.length - 1, c - 1, el.drop 1, G1) ?_ ?_ ?_)
 (simp only [I6]; exact F9)
 (exact ⟨Nat.zero_le _, B9.refl _, by simp [O6, F8], by simp [I4], by simpa using hse1, by simpa [I4] using hel1⟩)
 (rintro ⟨(i : Nat), pn, cn, es, pl, nl, cl, eL, Gi⟩ ⟨hi, hle, hst, hnl, hsL, heL⟩; simp only [] at hi hle hst hnl hsL heL ⊢)
 refine A4 ?_
 refine sB (N0 rfl rfl) rfl rfl (fun h59 => ?_) (fun h59 => ?_)
 refine B0 ?_
 refine C2 ?_
 refine A4 ?_
 (obtain ⟨b, o, e, rfl, hl, hat, hre, hgb⟩ := (hsl.mono (by first | exact hle | exact hle1.trans hle)).kidTm (hkl.mono (by first | exact hle | exact hle1.trans hle)) (i := i) zZ zZ; have hone9 := hre.one; have hsc := A1n (ks := ks) (i := i) zZ; have hsk := A1m (ks := ks) (i := i) zZ; have hts1 := A4B (ks := ks) (i := i) zZ; refine sP (B6 rfl rfl rfl zZ) rfl rfl ?_)
 refine sL (A5 rfl rfl (hat _) hl) rfl rfl ?_
 refine sE (A6 rfl) rfl (fun b72 => ?_)
 refine sS rfl rfl rfl hl hone9 rfl ?_ (hu := by exact C7 hl.symm)
 refine B4 ?_
 refine sL (A5 rfl rfl (B7 zS) hl) rfl rfl ?_
 refine E0 ?_
 (subst hnl; refine A1l rfl (ih ks[i] (List.getElem_mem zZ) _ _ _ _ _ _ (by simp only [List.length_drop]; rw [hL2] at hlen; simp only [List.length_append, List.length_singleton, List.length_nil] at hlen; omega) (fun u hu => hsm u (by first | exact List.mem_of_mem_drop hu | exact List.mem_of_mem_drop (List.mem_of_mem_drop hu))) zZ hre hsL heL) rfl rfl (fun v G3 outs hle3 hh => ?_); obtain ⟨rfl, cu, p3, c3, e3, rfl, hru, hs3, hr3⟩ := hh; have hsn := F8.snoc (hst.mono hle3) hru; obtain ⟨u1, u2, u3, u4, u5, u6, u7, u8, u9, rfl⟩ : ∃ u1 u2 u3 u4 u5 u6 u7 u8 u9, cu = [u1, u2, u3, u4, u5, u6, u7, u8, u9] := (by obtain ⟨_, _, _, _, _, _, _, _, _, rfl, _⟩ := hru.open; exact ⟨_, _, _, _, _, _, _, _, _, rfl⟩); have huo := hru.one)
 refine C1 ?_
 refine sE (A6 rfl) rfl (fun b84 => ?_)
 refine sS rfl rfl rfl rfl huo rfl ?_
 refine B0 ?_
 (refine J2 (D1 rfl rfl rfl zZ zU rfl) rfl ?_; rintro _ ⟨b93, rfl⟩)
 (refine X1 rfl rfl rfl rfl rfl (fun _ _ => by repeat (first | exact Sw.here | apply Sw.there)) (J7 zS) rfl (fun u hu => List.all_eq_true.1 huo u hu) zU zZ rfl (fun p4 c4 => ?_))
 refine E4 ?_
 refine sP (J9 rfl rfl zZ zZ) rfl rfl ?_
 refine A4 ?_
 (rw [← A4A zZ] at hsn; refine J6 (i + 1, p4, c4, es ++ [[u1, u2, u3, u4, u5, u6, u7, u8, u9]], p3, _, c3, e3, G3) (by simp only [List.flatten_append, List.flatten_cons, List.flatten_nil, List.append_nil]; exact (I1 zO zJ)) ?_ ?_)
 (dsimp only; exact ⟨by omega, hle.trans hle3, hsn, by rw [A0K zZ, List.length_append]; simp only [List.length_drop]; omega, by simpa only [A0K (show i < ks.length by omega), List.length_append, List.drop_drop] using hs3, by simpa only [A0K (show i < ks.length by omega), List.length_append, List.drop_drop, Nat.add_assoc] using hr3⟩)
 (show ks.length - (i + 1) < ks.length - i; omega)
 refine U7 ?_
 (refine J0 (cs := es.flatten) zP (fun G5 hle5 hsl5 hno5 => ?_); obtain rfl : i = ks.length := zZ; rw [List.take_length] at hst hnl heL)
 refine tT ?_
 refine H2 (rC rfl (A3 rfl rfl)) (rT rfl) ?_
 (rw [hW2, hL2]; exact RtP.mk hk hnum hlb (by first | (rw [List.getD_eq_getElem?_getD, List.getElem?_eq_getElem zZ, Option.getD_some, ← hT0]; exact hr1.mono (hle.trans hle5)) | exact hty.mono (hle.trans hle5) | (rw [List.getD_eq_getElem?_getD, List.getElem?_eq_getElem zZ, Option.getD_some, ← hT0]; exact hr1.mono (hle.trans hle5))) (hfr.mono (by first | exact hle.trans hle5 | exact hle1.trans (hle.trans hle5))) (by rw [A2U]) hsl5 (hst.mono hle5) (by simp only [List.length_append, List.length_singleton, List.length_nil, List.length_drop] at hnl ⊢; omega) (hsL.mono hle5) (by simpa [List.drop_drop, Nat.add_comm] using heL.mono hle5))
 refine M8 ?_
 refine C2 ?_
 (have hL2 := hcn zW; have hW2 := hwn zW; refine W4 28 9 ?_; refine L4 (fun (x : Nat × Option Addr × Nat × List (List Value) × Option Addr × Nat × Nat × List (List Value) × IM) => ⟨[(25, .int .i64 x.1), (24, .int .i64 ks.length), (23, .slice q ks.length cq), (1, .slice x.2.2.2.2.1 x.2.2.2.2.2.1 x.2.2.2.2.2.2.1), (6, .pointer (some ⟨b11, 0, none⟩)), (4, .pointer (some ⟨b4, 0, none⟩))], [.blk b11 [.int .i64 k, .string nm, .int .i64 num, .int .i64 tk, .slice pt tks.length ct, .int .i64 fk, .slice pf fks.length cf, .int .i64 lb, .slice x.2.1 x.1 x.2.2.1], .slc x.2.1 x.2.2.1 28 9 x.1 x.2.2.2.1.flatten, .blk b4 [.int .i64 0, .string ⟨⟨[]⟩⟩, .int .i64 0, .int .i64 0, .slice none 0 0, .int .i64 0, .slice none 0 0, .int .i64 0, .slice none 0 0]], x.2.2.2.2.2.2.2.2⟩) (fun x => x.1 ≤ ks.length ∧ B9 G x.2.2.2.2.2.2.2.2 ∧ F8 x.2.2.2.2.2.2.2.2 (O6 (ks.take x.1) l) x.2.2.2.1 ∧ x.2.2.2.2.2.1 = (l.drop (I4 (ks.take x.1)).length).length ∧ D6 x.2.2.2.2.2.2.2.2 x.2.2.2.2.1 x.2.2.2.2.2.1 x.2.2.2.2.2.2.1 2 x.2.2.2.2.2.2.2.1 ∧ D8 x.2.2.2.2.2.2.2.2 (l.drop (I4 (ks.take x.1)).length) x.2.2.2.2.2.2.2.1) (fun x => ks.length - x.1) (0, none, 0, [], p, l.length, c, el, G) ?_ ?_ ?_)
 (simp only [I6]; exact F9)
 (exact ⟨Nat.zero_le _, B9.refl _, by simp [O6, F8], by simp [I4], hse, by simpa [I4] using hel⟩)
 (rintro ⟨(i : Nat), pn, cn, es, pl, nl, cl, eL, Gi⟩ ⟨hi, hle, hst, hnl, hsL, heL⟩; simp only [] at hi hle hst hnl hsL heL ⊢)
 refine A4 ?_
 refine sB (N0 rfl rfl) rfl rfl (fun h151 => ?_) (fun h151 => ?_)
 refine B0 ?_
 refine C2 ?_
 refine A4 ?_
 (obtain ⟨b, o, e, rfl, hl, hat, hre, hgb⟩ := (hsl.mono (by first | exact hle | exact hle1.trans hle)).kidTm (hkl.mono (by first | exact hle | exact hle1.trans hle)) (i := i) zZ zZ; have hone9 := hre.one; have hsc := A1n (ks := ks) (i := i) zZ; have hsk := A1m (ks := ks) (i := i) zZ; have hts1 := A4B (ks := ks) (i := i) zZ; refine sP (B6 rfl rfl rfl zZ) rfl rfl ?_)
 refine sL (A5 rfl rfl (hat _) hl) rfl rfl ?_
 refine sE (A6 rfl) rfl (fun b164 => ?_)
 refine sS rfl rfl rfl hl hone9 rfl ?_ (hu := by exact C7 hl.symm)
 refine B4 ?_
 refine sL (A5 rfl rfl (B7 zS) hl) rfl rfl ?_
 refine E0 ?_
 (subst hnl; refine A1l rfl (ih ks[i] (List.getElem_mem zZ) _ _ _ _ _ _ (by simp only [List.length_drop]; rw [hL2] at hlen; simp only [List.length_append, List.length_singleton, List.length_nil] at hlen; omega) (fun u hu => hsm u (by first | exact List.mem_of_mem_drop hu | exact List.mem_of_mem_drop (List.mem_of_mem_drop hu))) zZ hre hsL heL) rfl rfl (fun v G3 outs hle3 hh => ?_); obtain ⟨rfl, cu, p3, c3, e3, rfl, hru, hs3, hr3⟩ := hh; have hsn := F8.snoc (hst.mono hle3) hru; obtain ⟨u1, u2, u3, u4, u5, u6, u7, u8, u9, rfl⟩ : ∃ u1 u2 u3 u4 u5 u6 u7 u8 u9, cu = [u1, u2, u3, u4, u5, u6, u7, u8, u9] := (by obtain ⟨_, _, _, _, _, _, _, _, _, rfl, _⟩ := hru.open; exact ⟨_, _, _, _, _, _, _, _, _, rfl⟩); have huo := hru.one)
 refine C1 ?_
 refine sE (A6 rfl) rfl (fun b176 => ?_)
 refine sS rfl rfl rfl rfl huo rfl ?_
 refine B0 ?_
 (refine J2 (D1 rfl rfl rfl zZ zU rfl) rfl ?_; rintro _ ⟨b185, rfl⟩)
 (refine X1 rfl rfl rfl rfl rfl (fun _ _ => by repeat (first | exact Sw.here | apply Sw.there)) (J7 zS) rfl (fun u hu => List.all_eq_true.1 huo u hu) zU zZ rfl (fun p4 c4 => ?_))
 refine E4 ?_
 refine sP (J9 rfl rfl zZ zZ) rfl rfl ?_
 refine A4 ?_
 (rw [← A4A zZ] at hsn; refine J6 (i + 1, p4, c4, es ++ [[u1, u2, u3, u4, u5, u6, u7, u8, u9]], p3, _, c3, e3, G3) (by simp only [List.flatten_append, List.flatten_cons, List.flatten_nil, List.append_nil]; exact (I1 zO zJ)) ?_ ?_)
 (dsimp only; exact ⟨by omega, hle.trans hle3, hsn, by rw [A0K zZ, List.length_append]; simp only [List.length_drop]; omega, by simpa only [A0K (show i < ks.length by omega), List.length_append, List.drop_drop] using hs3, by simpa only [A0K (show i < ks.length by omega), List.length_append, List.drop_drop, Nat.add_assoc] using hr3⟩)
 (show ks.length - (i + 1) < ks.length - i; omega)
 refine U7 ?_
 (refine J0 (cs := es.flatten) zP (fun G5 hle5 hsl5 hno5 => ?_); obtain rfl : i = ks.length := zZ; rw [List.take_length] at hst hnl heL)
 refine tT ?_
 refine H2 (rC rfl (A3 rfl rfl)) (rT rfl) ?_
 (rw [hW2, hL2]; exact RtP.mk hk hnum hlb (by first | (rw [List.getD_eq_getElem?_getD, List.getElem?_eq_getElem zZ, Option.getD_some, ← hT0]; exact hr1.mono (hle.trans hle5)) | exact hty.mono (hle.trans hle5) | (rw [List.getD_eq_getElem?_getD, List.getElem?_eq_getElem zZ, Option.getD_some, ← hT0]; exact hr1.mono (hle.trans hle5))) (hfr.mono (by first | exact hle.trans hle5 | exact hle1.trans (hle.trans hle5))) (by rw [A2U]) hsl5 (hst.mono hle5) (by simp only [List.length_append, List.length_singleton, List.length_nil, List.length_drop] at hnl ⊢; omega) (hsL.mono hle5) (by simpa [List.drop_drop, Nat.add_comm] using heL.mono hle5))
section bits
variable {P : Program} {Γ : M9} {env : O2} {hp : List A7} {G : IM} {ty : TypeId}
end bits
theorem B4g {cs vs cs' C : List Value} {o : Nat} (h : V1 cs o vs = some cs') : cs' ++ C = (cs ++ C).take o ++ vs ++ (cs ++ C).drop (o + vs.length) := by
 obtain ⟨h1, h2⟩ := A3C h
 rw [h1, List.take_append_of_le_length zZ, List.drop_append_of_le_length zZ]
 simp
section wr
variable {P : Program} {Γ : M9} {env : O2} {hp : List A7} {G : IM} {ty : TypeId} {K : Po} {ops : Array Oper} {rest : List Oper}
theorem B4h {d : Option Nat} {x y : Operand} {t : TypeId} {i : L7} [hI : H9 P t i] {b o c el sz n : Nat} {v : Value} {vs cs cs' : List Value} {hp' : List A7}
  (hx : evo env x = some (.pointer (some ⟨b, o, none⟩))) (hy : evo env y = some v) (hv : v.cells = ⟨vs⟩) (hsz : vs.length = i.size) (h1 : vs.all (·.oneCell') = true)
  (hu : V1 cs o vs = some cs') (hm : Sw hp (.slc (some ⟨b, 0, none⟩) c el sz n cs) (.slc (some ⟨b, 0, none⟩) c el sz n cs') hp') (hd : dok Γ.n d = true) :
  Z1 P Γ ⟨env, hp, G⟩ d (.store t x y) ty [b] (fun σ' => σ' = ⟨dpu d undef env, hp', G⟩) := by
 refine ⟨fun a w hs pos af gd Q next hn => ?_⟩
 obtain ⟨rest, p1, p2⟩ := hm.perm
 have hown : W3 [.slc (some ⟨b, 0, none⟩) c el sz n cs] G w := hs.res.own.of_mem p1
 obtain ⟨hl, h⟩ := hown.ok _ List.mem_cons_self
 rcases h with ⟨hv', _⟩ | ⟨g, cap, cur, hv', hbg, hg, hnc, hcm, hcs, ht⟩
 ·cases hv'
 cases hv'
 obtain ⟨u1, u2⟩ := A3C hu
 have hcur : cur.toList = cs ++ cur.toList.drop (n * sz) := by
  conv => lhs; rw [← List.take_append_drop (n * sz) cur.toList, ht]
 have hlen : cs.length ≤ cur.size := by
  rw [hl, hcs]; exact Nat.mul_le_mul_right _ hnc
 have hst := run_storeCells_at P b o el vs 0 cur w hg zZ (by simpa using h1)
 obtain ⟨cur', hcur'⟩ : ∃ l : List Value, l = cs' ++ cur.toList.drop (n * sz) := ⟨_, rfl⟩
 have hcc : cur.toList.take (o + 0) ++ vs ++ cur.toList.drop (o + 0 + vs.length) = cur' := by
  rw [hcur', Nat.add_zero, B4g hu, ← hcur]
 rw [hcc] at hst
 have hl' : cs'.length = cs.length := by rw [u1]; simp; omega
 have hsz' : cur'.length = cur.size := by
  have := congrArg List.length hcur
  rw [hcur', List.length_append, hl']
  simpa using this.symm
 obtain ⟨inf, g1, g2, _⟩ := hI.info
 have hrun : (execOp a.eval ⟨d, .store t x y, ty, pos, af, gd⟩).run P w = .ok .skip (w.setRow b cur'.toArray) := by
  simp [execOp, Instr.storeAt, Instr.sureAddr, (hs.evo hx : a.eval x = _), (hs.evo hy : a.eval y = _), storeVar, sizeOf, typeInfo, g1, g2, hv, hsz, hst]
 simp only [Oper.wp, hrun, Oper.upon]
 have hr' : T8 [.slc (some ⟨b, 0, none⟩) c el sz n cs] G w [.slc (some ⟨b, 0, none⟩) c el sz n cs'] G (w.setRow b cur'.toArray) := by
  refine ⟨⟨?_, ?_, by simp [Fp, A7.fp, J5], ?_⟩, ⟨rfl, rfl, rfl, by simp [World.setRow], fun k _ hk => setRow_other w b k _ (by rintro rfl; simp [Fp, A7.fp, J5] at hk)⟩, B9.refl _, fun _ _ h => .inl h, ?_, fun b l h h0 => absurd h (by rw [h0]; simp)⟩
  ·intro k l hg'
   obtain ⟨e', f', h'⟩ := hown.inn k l hg'
   refine ⟨e', f', ?_⟩
   rw [setRow_other w b k _ ?_]
   ·exact h'
   ·rintro rfl
    have := hown.disj k (by simp [Fp, A7.fp, J5])
    rw [this] at hg'; cases hg'
  ·intro x hx
   simp at hx; subst hx
   refine ⟨by rw [hl', hl], .inr ⟨b, _, cur'.toArray, rfl, hbg, setRow_heap w b cur cur'.toArray el (0, 0) hg, hnc, hcm, by rw [List.size_toArray, hsz', hcs], ?_⟩⟩
   rw [hcur', List.take_left' (by rw [hl', hl])]
  ·intro k hk
   exact hown.disj k (by simpa [Fp, A7.fp, J5] using hk)
  ·intro k hk
   exact .inr (by simpa [Fp, A7.fp, J5] using hk)
 exact hn _ _ _ (hs.step p1 hr' p2 hd) (by simpa [Fp, A7.fp, J5] using hr'.ext) rfl
variable {pos : String} {af : Array Edge} {gd : Option (Nat × Bool)}
theorem B4i {c el sz n : Nat} {cs vs : List Value} {x y : Operand} {t : TypeId} {i : L7} [hI : H9 P t i] {bb o : Nat} {v : Value} {cs' : List Value} {hp' : List A7}
  (hx : evo env x = some (.pointer (some ⟨bb, o, none⟩))) (hy : evo env y = some v) (hv : v.cells = ⟨vs⟩) (hsz : vs.length = i.size) (h1 : vs.all (·.oneCell') = true)
  (hw : N9 ops env gd = some true) (hsw : Sw hp (.slc (some ⟨bb, 0, none⟩) c el sz n cs) (.slc (some ⟨bb, 0, none⟩) c el sz n cs') hp') (hu : V1 cs o vs = some cs')
  (k : H8 P Γ ops rest K ⟨env, hp', G⟩) : H8 P Γ ops (⟨none, .store t x y, ty, pos, af, gd⟩ :: rest) K ⟨env, hp, G⟩ :=
 J2 (B4h hx hy hv hsz h1 hu hsw rfl) hw (by rintro _ rfl; exact k)
theorem St.slc_ptT {p : Option Addr} {c el sz n : Nat} {cs : List Value} {a : Act} {w : World} (hs : St Γ ⟨env, hp, G⟩ a w) (hm : A7.slc p c el sz n cs ∈ hp) :
  (p = none ∧ n = 0 ∧ c = 0) ∨ ∃ g, p = some ⟨g, 0, none⟩ ∧ n ≤ c := by
 obtain ⟨_, h⟩ := hs.res.own.ok _ hm
 rcases h with ⟨hv, hn⟩ | ⟨g, cap, cur, hv, _, _, hnc, _⟩
 ·cases hv; exact .inl ⟨rfl, hn, rfl⟩
 ·cases hv; exact .inr ⟨g, rfl, hnc⟩
end wr
theorem B4j {es : List (List Value)} {i sz : Nat} {vs : List Value} (hi : i < es.length) (ha : ∀ e ∈ es, e.length = sz) (hv : vs.length = sz) : V1 es.flatten (0 + i * sz) vs = some (es.set i vs).flatten := by
 have h1 : es.flatten = (es.take i).flatten ++ (es[i] ++ (es.drop (i + 1)).flatten) := by
  conv => lhs; rw [← List.take_append_drop i es, List.drop_eq_getElem_cons hi]
  rw [List.flatten_append, List.flatten_cons]
 have h2 : (es.set i vs).flatten = (es.take i).flatten ++ (vs ++ (es.drop (i + 1)).flatten) := by rw [List.set_eq_take_append_cons_drop, if_pos hi, List.flatten_append, List.flatten_cons]
 have hA : ((es.take i).flatten).length = 0 + i * sz := by rw [A1L (fun e he => ha e (List.mem_of_mem_take he)), List.length_take, Nat.min_eq_left zZ]; omega
 rw [h1, h2]
 exact A6u hA (by rw [ha _ (List.getElem_mem hi), hv])
theorem D8.set {G : IM} : ∀ {l : List Ty} {es : List (List Value)} (i : Nat) {u : Ty} {c : List Value}, D8 G l es → C6 G u c → D8 G (l.set i u) (es.set i c)
 | [], es, i, u, c, h, _ => by simp only [D8] at h; subst h; simp [D8]
 | t :: l, es, 0, u, c, h, h2 => by
  simp only [D8] at h
  obtain ⟨a, r, rfl, _, h3⟩ := h
  simp only [List.set_cons_zero, D8]
  exact ⟨c, r, rfl, h2, h3⟩
 | t :: l, es, i + 1, u, c, h, h2 => by
  simp only [D8] at h
  obtain ⟨a, r, rfl, h4, h3⟩ := h
  simp only [List.set_cons_succ, D8]
  exact ⟨a, _, rfl, h4, D8.set i h3 h2⟩
theorem B4k (e : Tm) (a b : Ty) (l : Int) : E1 (S5 e a b l) = E1 e + 1 := by rw [S5, A2S, H3, H3]
theorem B4l : E1 K4 = 1 := by simp [K4, E1, H3]
variable {P : Program} {G : IM}
theorem Fn.forget {f : FuncId} {args : List Value} {v0 : Value} {post : IM → Value → List A7 → Prop} (h : Fn P f args [] G post) (hv : ∀ G' v outs, post G' v outs → v = v0) : Fn P f args [] G (K5 v0 G) := by
 refine ⟨fun w hw => (h.run w hw).mono ?_⟩
 rintro e w' ⟨u, G', outs, rfl, hres, hp⟩
 refine ⟨u, G, [], rfl, ⟨⟨fun b l hb => hres.own.inn b l (hres.le b l hb), by simp, by simp [Fp], by simp [Fp]⟩, hres.ext, B9.refl _, fun _ _ h => .inl h, by simp [Fp], fun b l h h0 => absurd h (by rw [h0]; simp)⟩, rfl, hv _ _ _ hp, rfl⟩
end Gw
end Go.Proofs.YtbdacdnffkhgeaaGreatDoor
