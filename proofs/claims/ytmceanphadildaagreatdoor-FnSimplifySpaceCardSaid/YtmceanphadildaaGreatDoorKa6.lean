/-
  Drawn terms that often have a type.
-/
import Derived.Test.YtmceanphadildaaGreatDoorKa5
import Derived.Test.YtmceanphadildaaGreatDoorKa4
import Derived.Test.YtmceanphadildaaGreatDoorKa3
import Derived.Test.YtmceanphadildaaGreatDoorKa1
import Derived.Test.YtmceanphadildaaGreatDoorKa2
import Derived.Test.YtmceanphadildaaGreatDoorShelf
set_option linter.unusedVariables false
set_option linter.unusedSimpArgs false
set_option maxHeartbeats 0
set_option maxRecDepth 100000
set_option synthInstance.maxSize 4000
set_option synthInstance.maxHeartbeats 0
namespace Go.Proofs.YtmceanphadildaaGreatDoor
open Go Go.RowKit
namespace Gw
theorem y21 {p : Prop} (h : p := by
  refine A1 8 ?_
  refine E4 rfl ?_
  refine B3 ?_
  (have hr1' := hr1; refine A0y zN (fun G5 hle5 hsl5 hno5 => ?_); have hRT : B8 G5 (.mk k [.mk ak aks, .mk bk bks]) _ := E9.ty (ts := [.mk ak aks, .mk bk bks]) (es := [[.int .i64 ak, .slice p1 aks.length c1], [.int .i64 bk, .slice p2 bks.length c2]]) ⟨_, _, rfl, hr1.mono hle5, _, _, rfl, hr2.mono hle5, rfl⟩ rfl hsl5 hki; have hV := A0I _ G5 _ hRT; refine D2 D3 rfl ?_)
  refine M3 (i := 0) (l' := [tt,ff,ff,ff,ff]) rfl C8 (A3 rfl rfl) rfl zU rfl rfl ?_
  refine aL 1 rfl (A3 rfl rfl) rfl ?_
  refine A1 2 ?_
  refine L1 rfl rfl (hV) rfl rfl rfl ?_
  refine A1 3 ?_
  refine E4 rfl ?_
  refine aP 4 rfl (qA rfl) rfl ?_
  refine B3 ?_
  refine E0 (rC rfl (A3 rfl rfl)) (rT rfl) ?_
  (exact ⟨rfl, _, rfl, hRT⟩)
) : p := h
theorem y22 {p : Prop} (h : p := by
  refine A1 7 ?_
  (refine T9 rfl rfl rfl rfl rfl rfl (fun _ _ => by repeat (first | exact Sw.here | apply Sw.there)) (R2 zP) rfl zQ zR zW rfl rfl zG (fun p5 c5 => ?_))
  refine aP 8 rfl (qA rfl) rfl ?_
  refine A4 ?_
  (refine F6 (cs := es.flatten ++ [.string nm, .int .i64 k, .slice q ks.length d]) zN (fun G5 hle5 hsl5 hno5 => ?_))
  refine A4 ?_
  (exact ⟨rfl, _, _, rfl, R9.snoc (nm := nm) (t := .mk k ks) hx1 h2.len h2.all h2.one h3 hle5 ⟨_, _, rfl, hr.mono hle5⟩ hsl5⟩)
) : p := h
structure A4e {ι : Type} (S : ι → Sy) (φ : ι → Prop) (K : Po) (e : Exit) (σ : Sy) : Prop where
 run : match e with
  | .normal => ∃ i, φ i ∧ Sub σ (S i)
  | e => K e σ
section cut
variable {P : Program} {Γ : L3} {K : Po} {σ : Sy} {ι : Type}
theorem B09 {c y : Code} (S : ι → Sy) (φ : ι → Prop) (h : I9 P Γ c (A4e S φ K) σ) (k : ∀ i, φ i → I9 P Γ y K (S i)) : I9 P Γ c (A0T P Γ y K) σ := by
 refine A5L h ?_
 rintro e σ ⟨hk⟩
 cases e with
 | normal => obtain ⟨i, hi, hs⟩ := hk; exact ⟨A7P hs (k i hi)⟩
 | _ => exact ⟨hk⟩
theorem A4f {S : ι → Sy} {φ : ι → Prop} {σ : Sy} (i : ι) (hs : Sub σ (S i)) (h : φ i) : A4e S φ K .normal σ := ⟨⟨i, h, hs⟩⟩
theorem A0N {S : ι → Sy} {φ : ι → Prop} {σ : Sy} (h : K .ret σ) : A4e S φ K .ret σ := ⟨h⟩
theorem B50 {S : ι → Sy} {φ : ι → Prop} (h : X7 K) : X7 (A4e S φ K) := fun c σ hk => h c σ hk.run
instance npC6 {S : ι → Sy} {φ : ι → Prop} [h : NpC K] : NpC (A4e S φ K) := ⟨B50 h.h⟩
end cut
theorem A2c (G : IM) (nm : ByteArray) (num : Int) {k : Int} (hk : E8 k) (hn : E8 num) : B6 G (.mk k nm num B4 B4 0 []) [.int .i64 k, .string nm, .int .i64 num, .int .i64 0, .slice none 0 0, .int .i64 0, .slice none 0 0, .int .i64 0, .slice none 0 0] := A1h hk hn
theorem B8.kidsM {G : IM} {k : Int} {ks : List Ty} {q : Option Addr} {c : Nat} (h : B8 G (.mk k ks) [.int .i64 k, .slice q ks.length c]) : ∃ es, D0 G q ks.length c 2 es ∧ E9 G ks es := by
 obtain ⟨q', c', es, he, _, h1, h2⟩ := h.open
 cases he
 exact ⟨es, h1, h2⟩
theorem B51 (br : Nat) (pb : Option Addr) (nb cb : Nat) (bs : List UInt8) (hnb : nb ≤ 2000) : ∀ n, B07 br pb nb cb bs n := by
 refine fun n => Nat.strongRecOn n fun n ih depth t p G pc nc cc cells hfu hd0 hd1 hnc hx hrt hb hp => ?_
 have hge := A1r n
 have har := hfu.1.ar
 have hszt := A4V hfu.1
 have hnn := A0g t
 have hncl := hx.le
 obtain ⟨k, ks⟩ := t
 obtain ⟨q, c, es, rfl, hk, _, _⟩ := hrt.open
 simp only [Ty.k, Ty.ks] at hk hrt ⊢
 have hsz30 : H6 (.mk k ks) ≤ 30 := hszt
 have hops : k = 4 ∨ k = 5 → ks.length = 2 := by have h2 := har; rw [E5] at h2; exact h2.1
 refine C7 Tryz.func143 rfl Tryz.ntmps143 Tryz.results143 rfl ?_
 intro w0
 refine A4 ?_
 refine sE (D5 rfl rfl) rfl (fun b3 => ?_)
 refine sE (A8 rfl) rfl (fun b4 => ?_)
 refine B5 ?_
 refine sP (O7 rfl rfl zW zW) rfl rfl ?_
 refine B3 ?_
 refine C2 ?_
 (refine L4 (fun (x : Nat × Nat × IM) => ⟨(9, .int .i64 ((x.1 : Int) - 1)) :: [(0, .pointer (some ⟨br, 0, none⟩)), (1, .slice pc nc cc), (3, .int .i64 depth), (6, .pointer (some ⟨b3, 0, none⟩)), (8, .pointer (some ⟨b4, 0, none⟩))], [rd br pb nb cb x.2.1, .blk b4 [.int .i64 0, .string ⟨⟨[]⟩⟩, .int .i64 0, .int .i64 0, .slice none 0 0, .int .i64 0, .slice none 0 0, .int .i64 0, .slice none 0 0], .blk b3 [.int .i64 k, .slice q ks.length c]], x.2.2⟩) (fun x => x.1 ≤ nc ∧ C1 G x.2.2 ∧ p ≤ x.2.1 ∧ x.2.1 + x.1 ≤ p + nc) (fun x => x.1) (nc, p, G) ?_ ?_ ?_)
 (simp only [J7]; exact E3)
 (exact ⟨Nat.le_refl _, C1.refl _, Nat.le_refl _, Nat.le_refl _⟩)
 (rintro ⟨(i : Nat), (p1 : Nat), G1⟩ ⟨hi, hleL, hpL, hpL2⟩; simp only [] at hi hleL hpL hpL2 ⊢; replace hx := hx.mono hleL; replace hb := hb.mono hleL; replace hrt := hrt.mono hleL;)
 refine C3 ?_
 refine sB (A0W rfl rfl) rfl rfl (fun h25 => ?_) (fun h25 => ?_)
 refine A7 ?_
 (show I9 _ _ (.block 1 ..) _ _; obtain ⟨j, rfl⟩ : ∃ j, i = j + 1 := ⟨i - 1, by omega⟩; rw [show ((j + 1 : Nat) : Int) - 1 = (j : Int) from by omega]; obtain ⟨b, o, nm1, t1, qq1, dd1, rfl, hat, hr1, ha1, hs1, hgb, hns1⟩ := hx.get (i := j) zW; refine C2 ?_)
 refine A9 ?_
 refine sP (B1 (j := j) rfl rfl rfl zW) rfl rfl ?_
 refine F8 ?_
 refine sL (S0 rfl rfl ((hat _).sub (j := 0) rfl)) rfl rfl ?_
 (refine F9 rfl (A88 _ _ nc cc nm1 hx) rfl rfl (fun v G2 hle2 hh => ?_); obtain ⟨ts, tcs, xs, rfl, hrs, has, hss⟩ := hh; obtain ⟨ps, cs, ess, rfl, _⟩ := hrs.open; obtain ⟨b, o, nm1, t1, qq1, dd1, hpp, hat, hr1, ha1, hs1, hgb, hns1⟩ := (hx.mono hle2).get (i := j) zW; cases hpp; replace hx := hx.mono hle2; replace hb := hb.mono hle2; replace hrt := hrt.mono hle2;)
 refine B3 ?_
 refine sE (A8 rfl) rfl (fun b45 => ?_)
 refine B5 ?_
 (have hinloop := hrs; refine I0 rfl (S2 _ br pb nb cb (p1) bs 3 hb hnb zW) (Pk.perm zN) rfl rfl (fun v Gp outs hle53 hh => ?_); obtain ⟨rfl, rfl, j53, rfl, hj53, hk53⟩ := hh; have hinl := hj53)
 replace hrs := hrs.mono hle53
 replace hr1 := hr1.mono hle53
 replace hb := hb.mono hle53
 replace hrt := hrt.mono hle53
 replace hinloop := hinloop.mono hle53
 refine sB (qE rfl rfl) rfl rfl (fun h54 => ?_) (fun h54 => ?_)
 refine A4 ?_
 refine J0 rfl ((A0I ts _ _ hrs)) rfl rfl (fun h57 => ?_) (fun h57 => ?_)
 refine C3 ?_
 refine J0 rfl ((A05 ts (.mk k ks) _ _ _ has har hrs hrt)) rfl rfl (fun h62 => ?_) (fun h62 => ?_)
 refine E7 ?_
 refine sP (B1 (j := j) rfl rfl rfl zW) rfl rfl ?_
 refine F8 ?_
 refine sL (S0 rfl rfl ((hat _).sub (j := 0) rfl)) rfl rfl ?_
 refine I2 ?_
 refine H7 (outs := [rd br pb nb cb (p1 + 1)]) (rC rfl (A3 rfl rfl)) zH ?_
 (exact ⟨(p1 + 1), by omega, by omega, rfl, _, _, rfl, A2c _ _ _ ⟨by omega, by omega⟩ (by first | exact ⟨by omega, by omega⟩ | exact hkn), by first | exact N6 (by first | assumption | decide) | exact A0u zV zT zT zT | exact R4 zV zT zT | exact K7 zV P5 zT | exact K7 zV har.small zT | exact K7 zV P5 (R4 zV zT (N6 zV)) | exact K7 zV A0v (N6 zV) | assumption, by simp only [F4, H4]; omega⟩)
 refine D9 ?_
 refine sP (O7 rfl rfl zW zW) rfl rfl ?_
 refine A4 ?_
 (have hinloop := hrs; refine K3 (j, p1 + 1, Gp) ?_ ?_ ?_)
 (simp only [J7]; exact E3)
 (dsimp only; exact ⟨by omega, hleL.trans hle2, by omega, by omega⟩)
 (show _ < _ + 1; omega)
 refine N1 ?_
 refine sP (O7 rfl rfl zW zW) rfl rfl ?_
 refine A4 ?_
 (have hinloop := hrs; refine K3 (j, p1 + 1, Gp) ?_ ?_ ?_)
 (simp only [J7]; exact E3)
 (dsimp only; exact ⟨by omega, hleL.trans hle2, by omega, by omega⟩)
 (show _ < _ + 1; omega)
 refine P6 ?_
 refine sP (O7 rfl rfl zW zW) rfl rfl ?_
 refine A4 ?_
 (have hinloop := hrs; refine K3 (j, p1 + 1, Gp) ?_ ?_ ?_)
 (simp only [J7]; exact E3)
 (dsimp only; exact ⟨by omega, hleL.trans hle2, by omega, by omega⟩)
 (show _ < _ + 1; omega)
 refine I2 ?_
 (show I9 _ _ (.region 7 ..) _ _; refine Z3 (fun (x : Bool) => ⟨(49, .bool x) :: [(0, .pointer (some ⟨br, 0, none⟩)), (1, .slice pc nc cc), (3, .int .i64 depth), (6, .pointer (some ⟨b3, 0, none⟩)), (8, .pointer (some ⟨b4, 0, none⟩))], [rd br pb nb cb p1, .blk b4 [.int .i64 0, .string ⟨⟨[]⟩⟩, .int .i64 0, .int .i64 0, .slice none 0 0, .int .i64 0, .slice none 0 0, .int .i64 0, .slice none 0 0], .blk b3 [.int .i64 k, .slice q ks.length c]], G1⟩) (fun x => x = true → 1 < depth) ?_ ?_)
 refine A4 ?_
 refine sB (A0l rfl rfl) rfl rfl (fun h160 => ?_) (fun h160 => ?_)
 refine sD ?_
 refine P1 true (O3 zM zI) (fun _ => by omega)
 refine sD ?_
 refine P1 false (O3 zM zI) (fun h => absurd h zV)
 (rintro (x49 : Bool) hx49)
 (show I9 _ _ (.cond (.tmp 49) _ _) _ _; refine B09 (fun (x : Nat × IM) => ⟨[(0, .pointer (some ⟨br, 0, none⟩)), (1, .slice pc nc cc), (3, .int .i64 depth), (6, .pointer (some ⟨b3, 0, none⟩)), (8, .pointer (some ⟨b4, 0, none⟩))], [rd br pb nb cb x.1, .blk b4 [.int .i64 0, .string ⟨⟨[]⟩⟩, .int .i64 0, .int .i64 0, .slice none 0 0, .int .i64 0, .slice none 0 0, .int .i64 0, .slice none 0 0], .blk b3 [.int .i64 k, .slice q ks.length c]], x.2⟩) (fun x => C1 G1 x.2 ∧ p1 ≤ x.1 ∧ x.1 ≤ p1 + 1) (A3C rfl (fun hxt => ?_) (fun hxf => ?_)) ?_)
 refine B3 ?_
 (have hx49b := hx49 hxt; refine I0 rfl (S2 _ br pb nb cb (p1) bs 9 hb hnb zW) (Pk.perm zN) rfl rfl (fun v Gp outs hle170 hh => ?_); obtain ⟨rfl, rfl, j170, rfl, hj170, hk170⟩ := hh; have hpk9 := hj170)
 replace hb := hb.mono hle170
 replace hrt := hrt.mono hle170
 refine A4 ?_
 refine C2 (tS (tR (sB (qE rfl rfl) rfl rfl (fun h176 => ?_) (fun h176 => ?_))))
 refine A9 ?_
 (obtain ⟨m, rfl⟩ := hfu.pos (.inl zW); have hmB : mB (m + 1) = 3 * mB m + 200 := rfl; have hgm := A1r m; refine D2 D3 rfl ?_)
 refine M3 (i := 0) (l' := [tt,ff,ff,ff,ff,ff,ff,ff,ff,ff,ff,ff,ff]) rfl C8 (A3 rfl rfl) rfl zU rfl rfl ?_
 refine aP 2 rfl (qM rfl) rfl ?_
 refine aP 3 rfl (qM rfl) rfl ?_
 refine aP 4 rfl (qM rfl) rfl ?_
 refine aL 5 rfl (A3 rfl rfl) rfl ?_
 refine aP 7 rfl (qM rfl) rfl ?_
 refine aP 8 rfl (O7 rfl rfl zW zW) rfl ?_
 refine A1 1 ?_
 (refine E1 rfl rfl (P8 _ _ _ har.small hrt) rfl rfl rfl (fun v G6 hle6 hh => ?_); obtain ⟨L7, F1, rfl, hs1, hn1⟩ := hh; obtain ⟨pz, cz, rfl, _⟩ := hs1.open; have hrz := hs1.R.mono (D7.le G6 _); replace hx := hx.mono hle6; replace hb := hb.mono hle6; replace hrt := hrt.mono hle6;)
 refine A1 6 ?_
 (have hcall := A42 br pb nb cb bs hnb (.mk k ks) (p1 + 1) _ _ har hrt hb zW; refine Z2 (l' := [tt,tt,tt,tt,tt,tt,tt,tt,tt,ff,ff,ff,ff]) rfl rfl hcall (Pk.perm zN) rfl rfl rfl (by repeat (first | exact B2.nil | apply B2.dep zS | apply B2.im zS hg0 zP | apply B2.im zS hg1 zP | apply B2.blk zS zN zP)) (fun v Gn outs hleA hh => ?_); obtain ⟨pA, hpA1, hpA2, rfl, uA, cuA, rfl, hruA, huaA, husA, huhA⟩ := hh; obtain ⟨quA, duA, euA, rfl, _⟩ := hruA.open; replace hrz := hrz.mono hleA; replace hx := hx.mono hleA; replace hb := hb.mono hleA; replace hrt := hrt.mono hleA;)
 refine A1 9 ?_
 (have hcall := ih m zW (depth - 1) uA pA _ pc nc cc _ (hfu.sub zW (huhA 4 hfu.1)) zW zW zW hx hruA hb zW; refine Z2 (l' := [tt,tt,tt,tt,tt,tt,tt,tt,tt,tt,ff,ff,ff]) rfl rfl hcall (Pk.perm zN) rfl rfl rfl (by repeat (first | exact B2.nil | apply B2.dep zS | apply B2.im zS hg0 zP | apply B2.im zS hg1 zP | apply B2.blk zS zN zP)) (fun v Gn outs hlea hh => ?_); obtain ⟨pa, hpa1, hpa2, rfl, ea, ca, rfl, hra, hsma, hca⟩ := hh; obtain ⟨a1, a2, a3, a4, a5, a6, a7, a8, a9, rfl⟩ := hra.nine; replace hrz := hrz.mono hlea; replace hx := hx.mono hlea; replace hb := hb.mono hlea; replace hrt := hrt.mono hlea;)
 refine A1 10 ?_
 (refine D1 rfl (C9 rfl rfl rfl zW zR rfl) rfl rfl ?_; rintro _ ⟨b197, rfl⟩)
 refine aP 11 rfl (N7 rfl rfl) rfl ?_
 refine A1 12 ?_
 refine N9 rfl rfl rfl rfl rfl rfl rfl rfl zS zO (by rfl) ?_
 refine A4 ?_
 (refine F6 (cs := [a1, a2, a3, a4, a5, a6, a7, a8, a9]) zN (fun G9 hle9 hsl9 hno9 => ?_); have hN := A4c (k := 13) (nm := ⟨⟨[]⟩⟩) ⟨by omega, by omega⟩ (hrz.mono hle9) (hra.mono hle9) hsl9)
 refine A4 ?_
 refine A0N ?_
 refine H7 (outs := [rd br pb nb cb pa]) (rC rfl (A3 rfl rfl)) zH ?_
 (exact ⟨pa, by omega, by omega, rfl, _, _, rfl, hN, by first | exact N6 (by first | assumption | decide) | exact A0u zV zT zT zT | exact R4 zV zT zT | exact K7 zV P5 zT | exact K7 zV har.small zT | exact K7 zV P5 (R4 zV zT (N6 zV)) | exact K7 zV A0v (N6 zV) | assumption, by simp only [F4, H4]; omega⟩)
 refine A7 ?_
 refine sB (qE rfl rfl) rfl rfl (fun h215 => ?_) (fun h215 => ?_)
 refine A9 ?_
 (obtain ⟨m, rfl⟩ := hfu.pos (.inl zW); have hmB : mB (m + 1) = 3 * mB m + 200 := rfl; have hgm := A1r m; refine D2 D3 rfl ?_)
 refine H1 (i := 0) (l' := [tt,ff,ff,ff,ff,ff,ff,ff,ff,ff,ff,ff,ff,ff,ff,ff,ff,ff,ff,ff,ff]) rfl C8 (qM rfl) rfl zU rfl rfl ?_
 refine aP 1 rfl (qM rfl) rfl ?_
 refine aP 3 rfl (qM rfl) rfl ?_
 refine aP 4 rfl (O7 rfl rfl zW zW) rfl ?_
 refine aP 6 rfl (qM rfl) rfl ?_
 refine aP 7 rfl (qM rfl) rfl ?_
 refine aL 8 rfl (A3 rfl rfl) rfl ?_
 refine aP 9 rfl (qM rfl) rfl ?_
 refine aP 10 rfl (O7 rfl rfl zW zW) rfl ?_
 refine aP 12 rfl (qM rfl) rfl ?_
 refine aP 13 rfl (qM rfl) rfl ?_
 refine aL 14 rfl (A3 rfl rfl) rfl ?_
 refine aP 15 rfl (qM rfl) rfl ?_
 refine aP 16 rfl (O7 rfl rfl zW zW) rfl ?_
 refine A1 2 ?_
 refine L1 rfl rfl ((A1i _)) rfl rfl rfl ?_
 refine A1 5 ?_
 (have hcall := ih m zW (depth - 1) (.mk 3 []) (p1 + 1) _ pc nc cc _ (hfu.sub zW (A2Z 4 zV zV)) zW zW zW hx (J8 _ ⟨by omega, by omega⟩) hb zW; refine Z2 (l' := [tt,tt,tt,tt,tt,tt,tt,tt,tt,tt,tt,ff,tt,tt,tt,tt,tt,ff,ff,ff,ff]) rfl rfl hcall (Pk.perm zN) rfl rfl rfl (by repeat (first | exact B2.nil | apply B2.dep zS | apply B2.im zS hg0 zP | apply B2.im zS hg1 zP | apply B2.blk zS zN zP)) (fun v Gn outs hlef hh => ?_); obtain ⟨pf, hpf1, hpf2, rfl, ef, cf, rfl, hrf, hsmf, hcf⟩ := hh; obtain ⟨f1, f2, f3, f4, f5, f6, f7, f8, f9, rfl⟩ := hrf.nine; replace hx := hx.mono hlef; replace hb := hb.mono hlef; replace hrt := hrt.mono hlef;)
 refine A1 11 ?_
 (have hcall := ih m zW (depth - 1) (.mk k ks) pf _ pc nc cc _ (hfu.sub zW hfu.1) zW zW zW hx hrt hb zW; refine Z2 (l' := [tt,tt,tt,tt,tt,tt,tt,tt,tt,tt,tt,tt,tt,tt,tt,tt,tt,ff,ff,ff,ff]) rfl rfl hcall (Pk.perm zN) rfl rfl rfl (by repeat (first | exact B2.nil | apply B2.dep zS | apply B2.im zS hg0 zP | apply B2.im zS hg1 zP | apply B2.blk zS zN zP)) (fun v Gn outs hleg hh => ?_); obtain ⟨pg, hpg1, hpg2, rfl, eg, cg, rfl, hrg, hsmg, hcg⟩ := hh; obtain ⟨g1, g2, g3, g4, g5, g6, g7, g8, g9, rfl⟩ := hrg.nine; replace hrf := hrf.mono hleg; replace hx := hx.mono hleg; replace hb := hb.mono hleg; replace hrt := hrt.mono hleg;)
 refine A1 17 ?_
 (have hcall := ih m zW (depth - 1) (.mk k ks) pg _ pc nc cc _ (hfu.sub zW hfu.1) zW zW zW hx hrt hb zW; refine Z2 (l' := [tt,tt,tt,tt,tt,tt,tt,tt,tt,tt,tt,tt,tt,tt,tt,tt,tt,tt,ff,ff,ff]) rfl rfl hcall (Pk.perm zN) rfl rfl rfl (by repeat (first | exact B2.nil | apply B2.dep zS | apply B2.im zS hg0 zP | apply B2.im zS hg1 zP | apply B2.blk zS zN zP)) (fun v Gn outs hlei hh => ?_); obtain ⟨pi, hpi1, hpi2, rfl, ei, ci, rfl, hri, hsmi, hci⟩ := hh; obtain ⟨i1, i2, i3, i4, i5, i6, i7, i8, i9, rfl⟩ := hri.nine; replace hrf := hrf.mono hlei; replace hrg := hrg.mono hlei; replace hx := hx.mono hlei; replace hb := hb.mono hlei; replace hrt := hrt.mono hlei;)
 refine A1 18 ?_
 (refine D1 rfl (C9 rfl rfl rfl zW zR rfl) rfl rfl ?_; rintro _ ⟨b245, rfl⟩)
 refine A1 19 ?_
 refine L1 rfl rfl ((A2A _ _ _ _ _)) rfl rfl rfl ?_
 refine A1 20 ?_
 refine N9 rfl rfl rfl rfl rfl rfl rfl rfl zS zO (by rfl) ?_
 refine A4 ?_
 (refine F6 (cs := [f1, f2, f3, f4, f5, f6, f7, f8, f9] ++ ([g1, g2, g3, g4, g5, g6, g7, g8, g9] ++ [i1, i2, i3, i4, i5, i6, i7, i8, i9])) zN (fun G9 hle9 hsl9 hno9 => ?_); have hN := B5Z (k := 9) (nm := ⟨⟨[]⟩⟩) ⟨by omega, by omega⟩ (hrf.mono hle9) (hrg.mono hle9) (hri.mono hle9) hsl9)
 refine A4 ?_
 refine A0N ?_
 refine H7 (outs := [rd br pb nb cb pi]) (rC rfl (A3 rfl rfl)) zH ?_
 (exact ⟨pi, by omega, by omega, rfl, _, _, rfl, hN, by first | exact N6 (by first | assumption | decide) | exact A0u zV zT zT zT | exact R4 zV zT zT | exact K7 zV P5 zT | exact K7 zV har.small zT | exact K7 zV P5 (R4 zV zT (N6 zV)) | exact K7 zV A0v (N6 zV) | assumption, by simp only [F4, H4]; omega⟩)
 refine A7 ?_
 refine sB (qE rfl rfl) rfl rfl (fun h264 => ?_) (fun h264 => ?_)
 refine B5 ?_
 (have hcall := A3X br pb nb cb bs hnb 0 (p1 + 1) _ zW hb (by have : dB (0 + 1) ≤ 6 := zV; omega); refine I0 rfl hcall (Pk.perm zN) rfl rfl (fun v Gn outs hleD hh => ?_); obtain ⟨pD, hpD1, hpD2, rfl, uD, cuD, rfl, hruD, husD, huhD⟩ := hh; have huaD := huhD.ar; obtain ⟨quD, duD, euD, rfl, _⟩ := hruD.open; have hdBD : dB (0 + 1) ≤ 6 := zV; replace hx := hx.mono hleD; replace hb := hb.mono hleD; replace hrt := hrt.mono hleD;)
 refine sE (A8 rfl) rfl (fun b273 => ?_)
 refine C3 ?_
 (obtain ⟨m, rfl⟩ := hfu.pos (.inl zW); have hmB : mB (m + 1) = 3 * mB m + 200 := rfl; have hgm := A1r m; refine D2 D3 rfl ?_)
 refine H1 (i := 0) (l' := [tt,ff,ff,ff,ff,ff,ff,ff,ff,ff,ff,ff,ff,ff,ff,ff,ff,ff]) rfl C8 (qM rfl) rfl zU rfl rfl ?_
 refine aP 1 rfl (qM rfl) rfl ?_
 refine aL 2 rfl (A3 rfl rfl) rfl ?_
 refine aL 3 rfl (A3 rfl rfl) rfl ?_
 refine aP 4 rfl (qM rfl) rfl ?_
 refine aP 5 rfl (O7 rfl rfl zW zW) rfl ?_
 refine aP 7 rfl (qM rfl) rfl ?_
 refine aP 8 rfl (qM rfl) rfl ?_
 refine aP 9 rfl (qM rfl) rfl ?_
 refine aL 10 rfl (A3 rfl rfl) rfl ?_
 refine aP 12 rfl (qM rfl) rfl ?_
 refine aP 13 rfl (O7 rfl rfl zW zW) rfl ?_
 refine A1 6 ?_
 (have hcall := B08 br pb nb cb bs hnb m (ih m zW) (depth - 1) uD (.mk k ks) (pD) _ pc nc cc _ _ (hfu.sub zW hfu.1) zW zW zW hx hruD ⟨huaD, by omega⟩ hrt hb zW; refine Z2 (l' := [tt,tt,tt,tt,tt,tt,tt,tt,tt,tt,tt,ff,tt,tt,ff,ff,ff,ff]) rfl rfl hcall (Pk.perm zN) rfl rfl rfl (by repeat (first | exact B2.nil | apply B2.dep zS | apply B2.im zS hg0 zP | apply B2.im zS hg1 zP | apply B2.blk zS zN zP)) (fun v Gn outs hlel hh => ?_); obtain ⟨pl, hpl1, hpl2, rfl, el, cl, rfl, hrl, hsml, hcl⟩ := hh; obtain ⟨l1, l2, l3, l4, l5, l6, l7, l8, l9, rfl⟩ := hrl.nine; replace hruD := hruD.mono hlel; replace hx := hx.mono hlel; replace hb := hb.mono hlel; replace hrt := hrt.mono hlel;)
 refine A1 11 ?_
 (have hcall := A42 br pb nb cb bs hnb uD (pl) _ _ huaD hruD hb zW; refine Z2 (l' := [tt,tt,tt,tt,tt,tt,tt,tt,tt,tt,tt,tt,tt,tt,ff,ff,ff,ff]) rfl rfl hcall (Pk.perm zN) rfl rfl rfl (by repeat (first | exact B2.nil | apply B2.dep zS | apply B2.im zS hg0 zP | apply B2.im zS hg1 zP | apply B2.blk zS zN zP)) (fun v Gn outs hleE hh => ?_); obtain ⟨pE, hpE1, hpE2, rfl, uE, cuE, rfl, hruE, huaE, husE, huhE⟩ := hh; obtain ⟨quE, duE, euE, rfl, _⟩ := hruE.open; replace hrl := hrl.mono hleE; replace hx := hx.mono hleE; replace hb := hb.mono hleE; replace hrt := hrt.mono hleE;)
 refine A1 14 ?_
 (have hcall := ih m zW (depth - 1) uE pE _ pc nc cc _ (hfu.sub zW (huhE 4 (huhD.le zW))) zW zW zW hx hruE hb zW; refine Z2 (l' := [tt,tt,tt,tt,tt,tt,tt,tt,tt,tt,tt,tt,tt,tt,tt,ff,ff,ff]) rfl rfl hcall (Pk.perm zN) rfl rfl rfl (by repeat (first | exact B2.nil | apply B2.dep zS | apply B2.im zS hg0 zP | apply B2.im zS hg1 zP | apply B2.blk zS zN zP)) (fun v Gn outs hled hh => ?_); obtain ⟨pd, hpd1, hpd2, rfl, ed, cd, rfl, hrd, hsmd, hcd⟩ := hh; obtain ⟨d1, d2, d3, d4, d5, d6, d7, d8, d9, rfl⟩ := hrd.nine; replace hrl := hrl.mono hled; replace hx := hx.mono hled; replace hb := hb.mono hled; replace hrt := hrt.mono hled;)
 refine A1 15 ?_
 (refine D1 rfl (C9 rfl rfl rfl zW zR rfl) rfl rfl ?_; rintro _ ⟨b298, rfl⟩)
 refine A1 16 ?_
 refine L1 rfl rfl ((A2A _ _ _ _ _)) rfl rfl rfl ?_
 refine A1 17 ?_
 refine N9 rfl rfl rfl rfl rfl rfl rfl rfl zS zO (by rfl) ?_
 refine A4 ?_
 (refine F6 (cs := [l1, l2, l3, l4, l5, l6, l7, l8, l9] ++ [d1, d2, d3, d4, d5, d6, d7, d8, d9]) zN (fun G9 hle9 hsl9 hno9 => ?_); have hN := A4d (k := 6) (nm := ⟨⟨[]⟩⟩) ⟨by omega, by omega⟩ (hrl.mono hle9) (hrd.mono hle9) hsl9)
 refine A4 ?_
 refine A0N ?_
 refine H7 (outs := [rd br pb nb cb pd]) (rC rfl (A3 rfl rfl)) zH ?_
 (exact ⟨pd, by omega, by omega, rfl, _, _, rfl, hN, by first | exact N6 (by first | assumption | decide) | exact A0u zV zT zT zT | exact R4 zV zT zT | exact K7 zV P5 zT | exact K7 zV har.small zT | exact K7 zV P5 (R4 zV zT (N6 zV)) | exact K7 zV A0v (N6 zV) | assumption, by simp only [F4, H4]; omega⟩)
 refine A7 ?_
 refine sB (qE rfl rfl) rfl rfl (fun h317 => ?_) (fun h317 => ?_)
 refine I2 ?_
 refine sP (O7 rfl rfl zW zW) rfl rfl ?_
 (have hpkq := hpk9; obtain ⟨m, rfl⟩ := hfu.pos (.inl zW); have hmB : mB (m + 1) = 3 * mB m + 200 := rfl; have hgm := A1r m; have hcall := ih m zW (depth - 1) (.mk k ks) (p1 + 1) _ pc nc cc _ (hfu.sub zW hfu.1) zW zW zW hx hrt hb zW; refine I0 rfl hcall (Pk.perm zN) rfl rfl (fun v Gn outs hleh hh => ?_); obtain ⟨ph, hph1, hph2, rfl, eh, ch, rfl, hrh, hsmh, hch⟩ := hh; obtain ⟨h1, h2, h3, h4, h5, h6, h7, h8, h9, rfl⟩ := hrh.nine; replace hx := hx.mono hleh; replace hb := hb.mono hleh; replace hrt := hrt.mono hleh;)
 refine E6 rfl ((A2z _ _)) rfl rfl ?_
 (refine J1 (C9 rfl rfl rfl zW zR rfl) rfl ?_; rintro _ ⟨b331, rfl⟩)
 refine E6 rfl ((A2A _ _ _ _ _)) rfl rfl ?_
 (refine J1 (C9 rfl rfl rfl zW zR rfl) rfl ?_; rintro _ ⟨b333, rfl⟩)
 refine E6 rfl ((A2A _ _ _ _ _)) rfl rfl ?_
 refine B3 ?_
 (refine F6 (cs := [h1, h2, h3, h4, h5, h6, h7, h8, h9] ++ [.int .i64 2, .string ⟨⟨[]⟩⟩, .int .i64 1, .int .i64 0, .slice none 0 0, .int .i64 0, .slice none 0 0, .int .i64 0, .slice none 0 0]) zN (fun G8 hle8 hsl8 hno8 => ?_); have hNi := A4d (k := 10) (nm := ⟨⟨[]⟩⟩) ⟨by omega, by omega⟩ (hrh.mono hle8) (A2c G8 ⟨⟨[]⟩⟩ 1 (k := 2) ⟨by omega, by omega⟩ ⟨by omega, by omega⟩) hsl8; refine F6 zN (fun G9 hle9 hsl9 hno9 => ?_); have hN := A4c (k := 11) (nm := ⟨⟨[]⟩⟩) ⟨by omega, by omega⟩ (J8 G9 (k := 0) ⟨by omega, by omega⟩) (hNi.mono hle9) hsl9)
 refine A4 ?_
 refine A0N ?_
 refine H7 (outs := [rd br pb nb cb ph]) (rC rfl (A3 rfl rfl)) zH ?_
 (exact ⟨ph, by omega, by omega, rfl, _, _, rfl, hN, by first | exact N6 (by first | assumption | decide) | exact A0u zV zT zT zT | exact R4 zV zT zT | exact K7 zV P5 zT | exact K7 zV har.small zT | exact K7 zV P5 (R4 zV zT (N6 zV)) | exact K7 zV A0v (N6 zV) | assumption, by simp only [F4, H4]; omega⟩)
 refine A7 ?_
 refine A4f (p1 + 1, Gp) (O3 zM zI) ⟨C1.refl _, by dsimp only; omega, by dsimp only; omega⟩
 refine tK ?_
 refine A4f (p1, G1) (O3 zM zI) ⟨C1.refl _, by dsimp only; omega, by dsimp only; omega⟩
 (rintro ⟨(p2 : Nat), G2⟩ ⟨hle2c, hp2a, hp2b⟩; simp only [] at hle2c hp2a hp2b ⊢; have hcut1 := hp2a; replace hx := hx.mono hle2c; replace hb := hb.mono hle2c; replace hrt := hrt.mono hle2c;)
 refine B5 ?_
 (show I9 _ _ (.block 3 ..) _ _; refine B09 (fun (x : Nat × IM) => ⟨[(0, .pointer (some ⟨br, 0, none⟩)), (1, .slice pc nc cc), (3, .int .i64 depth), (6, .pointer (some ⟨b3, 0, none⟩)), (8, .pointer (some ⟨b4, 0, none⟩))], [rd br pb nb cb x.1, .blk b4 [.int .i64 0, .string ⟨⟨[]⟩⟩, .int .i64 0, .int .i64 0, .slice none 0 0, .int .i64 0, .slice none 0 0, .int .i64 0, .slice none 0 0], .blk b3 [.int .i64 k, .slice q ks.length c]], x.2⟩) (fun x => C1 G2 x.2 ∧ p2 ≤ x.1 ∧ x.1 ≤ p2 + 2) ?_ ?_)
 refine C2 (tS (tR (sB (qE rfl rfl) rfl rfl (fun h365 => ?_) (fun h365 => ?_))))
 refine E7 ?_
 refine sB (A0l rfl rfl) rfl rfl (fun h374 => ?_) (fun h374 => ?_)
 refine A4 ?_
 (have hkk3 : k = 3 := zW; refine I0 rfl (S2 _ br pb nb cb (p2) bs 2 hb hnb zW) (Pk.perm zN) rfl rfl (fun v Gp outs hle377 hh => ?_); obtain ⟨rfl, rfl, j377, rfl, hj377, hk377⟩ := hh; have hpk22 := hj377)
 replace hb := hb.mono hle377
 replace hrt := hrt.mono hle377
 refine sB (qE rfl rfl) rfl rfl (fun h378 => ?_) (fun h378 => ?_)
 refine E7 ?_
 refine E6 rfl ((V8 _)) rfl rfl ?_
 refine F8 ?_
 refine sP (O7 rfl rfl zW zW) rfl rfl ?_
 (have hkk3q := hkk3; obtain ⟨m, rfl⟩ := hfu.pos (.inl zW); have hmB : mB (m + 1) = 3 * mB m + 200 := rfl; have hgm := A1r m; have hcall := ih m zW (depth - 1) (.mk 2 []) (p2 + 1) _ pc nc cc _ (hfu.sub zW (A2Z 4 zV zV)) zW zW zW hx (J8 _ ⟨by omega, by omega⟩) hb zW; refine I0 rfl hcall (Pk.perm zN) rfl rfl (fun v Gn outs hlen hh => ?_); obtain ⟨pn, hpn1, hpn2, rfl, en, cn, rfl, hrn, hsmn, hcn⟩ := hh; obtain ⟨n1, n2, n3, n4, n5, n6, n7, n8, n9, rfl⟩ := hrn.nine; replace hx := hx.mono hlen; replace hb := hb.mono hlen; replace hrt := hrt.mono hlen;)
 refine A4 ?_
 refine E6 rfl ((V8 _)) rfl rfl ?_
 refine F8 ?_
 refine sP (O7 rfl rfl zW zW) rfl rfl ?_
 (have hcall := ih m zW (depth - 1) (.mk 2 []) pn _ pc nc cc _ (hfu.sub zW (A2Z 4 zV zV)) zW zW zW hx (J8 _ ⟨by omega, by omega⟩) hb zW; refine I0 rfl hcall (Pk.perm zN) rfl rfl (fun v Gn outs hleo hh => ?_); obtain ⟨po, hpo1, hpo2, rfl, eo, co, rfl, hro, hsmo, hco⟩ := hh; obtain ⟨o1, o2, o3, o4, o5, o6, o7, o8, o9, rfl⟩ := hro.nine; replace hrn := hrn.mono hleo; replace hx := hx.mono hleo; replace hb := hb.mono hleo; replace hrt := hrt.mono hleo;)
 (refine J1 (C9 rfl rfl rfl zW zR rfl) rfl ?_; rintro _ ⟨b397, rfl⟩)
 refine E6 rfl ((A2A _ _ _ _ _)) rfl rfl ?_
 refine B3 ?_
 (refine F6 (cs := [n1, n2, n3, n4, n5, n6, n7, n8, n9] ++ [o1, o2, o3, o4, o5, o6, o7, o8, o9]) zN (fun G9 hle9 hsl9 hno9 => ?_); have hN := A4d (k := 8) (nm := ⟨⟨[]⟩⟩) ⟨by omega, by omega⟩ (hrn.mono hle9) (hro.mono hle9) hsl9)
 refine B3 ?_
 refine A0N ?_
 refine H7 (outs := [rd br pb nb cb po]) (rC rfl (A3 rfl rfl)) zH ?_
 (exact ⟨po, by omega, by omega, rfl, _, _, rfl, hN, by first | exact N6 (by first | assumption | decide) | exact A0u zV zT zT zT | exact R4 zV zT zT | exact K7 zV P5 zT | exact K7 zV har.small zT | exact K7 zV P5 (R4 zV zT (N6 zV)) | exact K7 zV A0v (N6 zV) | assumption, by simp only [F4, H4]; omega⟩)
 refine N1 ?_
 refine A0N ?_
 refine H7 (outs := [rd br pb nb cb (p2 + 1)]) (rC rfl (A3 rfl rfl)) zH ?_
 (exact ⟨(p2 + 1), by omega, by omega, rfl, _, _, rfl, A2c _ _ _ ⟨by omega, by omega⟩ (by first | exact ⟨by omega, by omega⟩ | exact hkn), by first | exact N6 (by first | assumption | decide) | exact A0u zV zT zT zT | exact R4 zV zT zT | exact K7 zV P5 zT | exact K7 zV har.small zT | exact K7 zV P5 (R4 zV zT (N6 zV)) | exact K7 zV A0v (N6 zV) | assumption, by simp only [F4, H4]; omega⟩)
 refine X8 ?_
 refine A0N ?_
 refine H7 (outs := [rd br pb nb cb p2]) (rC rfl (A3 rfl rfl)) zH ?_
 (exact ⟨p2, by omega, by omega, rfl, _, _, rfl, A2c _ _ _ ⟨by omega, by omega⟩ (by first | exact ⟨by omega, by omega⟩ | exact hkn), by first | exact N6 (by first | assumption | decide) | exact A0u zV zT zT zT | exact R4 zV zT zT | exact K7 zV P5 zT | exact K7 zV har.small zT | exact K7 zV P5 (R4 zV zT (N6 zV)) | exact K7 zV A0v (N6 zV) | assumption, by simp only [F4, H4]; omega⟩)
 refine A7 ?_
 refine sB (qE rfl rfl) rfl rfl (fun h453 => ?_) (fun h453 => ?_)
 refine A9 ?_
 (have hk45 : k = 4 ∨ k = 5 := zW; have hl2 := hops hk45; obtain ⟨m, rfl⟩ := hfu.pos (.inr hk45); have hmB : mB (m + 1) = 3 * mB m + 200 := rfl; have hgm := A1r m; obtain ⟨es9, hsl, hkl⟩ := hrt.kidsM; obtain ⟨b0, o0, q0, d0, hp0, hat0, hre0, hg0⟩ := hsl.kidTy hkl (i := 0) zW zW; obtain ⟨b1, o1, q1, d1, hp1, hat1, hre1, hg1⟩ := hsl.kidTy hkl (i := 1) zW zW; cases hp0; cases hp1; have hmem0 := List.getElem_mem (l := ks) (n := 0) zW; have hmem1 := List.getElem_mem (l := ks) (n := 1) zW; refine D2 D3 rfl ?_)
 refine H1 (i := 0) (l' := [tt,ff,ff,ff,ff,ff,ff,ff,ff,ff,ff,ff,ff,ff]) rfl C8 (qM rfl) rfl zU rfl rfl ?_
 refine aP 1 rfl (qM rfl) rfl ?_
 refine aP 2 rfl (C0 rfl) rfl ?_
 refine aL 3 rfl (D4 rfl rfl) rfl ?_
 refine aP 4 rfl (B1 (j := 0) rfl rfl rfl zW) rfl ?_
 refine aL 5 rfl (A5 rfl rfl (hat0 _) rfl) rfl ?_
 refine aP 6 rfl (C0 rfl) rfl ?_
 refine aL 7 rfl (D4 rfl rfl) rfl ?_
 refine aP 8 rfl (B1 (j := 1) rfl rfl rfl zW) rfl ?_
 refine aL 9 rfl (A5 rfl rfl (hat1 _) rfl) rfl ?_
 refine aP 10 rfl (qM rfl) rfl ?_
 refine aP 11 rfl (O7 rfl rfl zW zW) rfl ?_
 refine A1 12 ?_
 (have hcall := B08 br pb nb cb bs hnb m (ih m zW) (depth - 1) ks[0] ks[1] (p2) _ pc nc cc _ _ (hfu.kid hmem1) zW zW zW hx hre0 ⟨har.kid _ hmem0, by have := A6u (k := k) hmem0; omega⟩ hre1 hb zW; refine Z2 (l' := [tt,tt,tt,tt,tt,tt,tt,tt,tt,tt,tt,tt,tt,ff]) rfl rfl hcall (Pk.perm zN) rfl rfl rfl (by repeat (first | exact B2.nil | apply B2.dep zS | apply B2.im zS hg0 zP | apply B2.im zS hg1 zP | apply B2.blk zS zN zP)) (fun v Gn outs hlek hh => ?_); obtain ⟨pk, hpk1, hpk2, rfl, ek, ck, rfl, hrk, hsmk, hck⟩ := hh; obtain ⟨k1, k2, k3, k4, k5, k6, k7, k8, k9, rfl⟩ := hrk.nine; replace hx := hx.mono hlek; replace hb := hb.mono hlek; replace hrt := hrt.mono hlek;)
 refine A1 13 ?_
 refine N9 rfl rfl rfl rfl rfl hrk.one rfl rfl zU zO (by rfl) ?_
 refine C3 ?_
 refine A0N ?_
 refine H7 (outs := [rd br pb nb cb pk]) (rC rfl (A3 rfl rfl)) zH ?_
 (exact ⟨pk, by omega, by omega, rfl, _, _, rfl, hrk, hsmk, by omega⟩)
 refine A7 ?_
 refine sB (qE rfl rfl) rfl rfl (fun h489 => ?_) (fun h489 => ?_)
 refine A9 ?_
 (have hk45 : k = 4 ∨ k = 5 := zW; have hl2 := hops hk45; obtain ⟨m, rfl⟩ := hfu.pos (.inr hk45); have hmB : mB (m + 1) = 3 * mB m + 200 := rfl; have hgm := A1r m; obtain ⟨es9, hsl, hkl⟩ := hrt.kidsM; obtain ⟨b0, o0, q0, d0, hp0, hat0, hre0, hg0⟩ := hsl.kidTy hkl (i := 0) zW zW; obtain ⟨b1, o1, q1, d1, hp1, hat1, hre1, hg1⟩ := hsl.kidTy hkl (i := 1) zW zW; cases hp0; cases hp1; have hmem0 := List.getElem_mem (l := ks) (n := 0) zW; have hmem1 := List.getElem_mem (l := ks) (n := 1) zW; refine D2 D3 rfl ?_)
 refine H1 (i := 0) (l' := [tt,ff,ff,ff,ff,ff,ff,ff,ff,ff,ff,ff,ff,ff,ff,ff,ff,ff,ff,ff,ff]) rfl C8 (qM rfl) rfl zU rfl rfl ?_
 refine aP 1 rfl (qM rfl) rfl ?_
 refine aP 2 rfl (C0 rfl) rfl ?_
 refine aL 3 rfl (D4 rfl rfl) rfl ?_
 refine aP 4 rfl (B1 (j := 0) rfl rfl rfl zW) rfl ?_
 refine aL 5 rfl (A5 rfl rfl (hat0 _) rfl) rfl ?_
 refine aP 6 rfl (qM rfl) rfl ?_
 refine aP 7 rfl (O7 rfl rfl zW zW) rfl ?_
 refine aP 9 rfl (qM rfl) rfl ?_
 refine aP 10 rfl (qM rfl) rfl ?_
 refine aP 11 rfl (C0 rfl) rfl ?_
 refine aL 12 rfl (D4 rfl rfl) rfl ?_
 refine aP 13 rfl (B1 (j := 1) rfl rfl rfl zW) rfl ?_
 refine aL 14 rfl (A5 rfl rfl (hat1 _) rfl) rfl ?_
 refine aP 15 rfl (qM rfl) rfl ?_
 refine aP 16 rfl (O7 rfl rfl zW zW) rfl ?_
 refine A1 8 ?_
 (have hcall := ih m zW (depth - 1) ks[0] p2 _ pc nc cc _ (hfu.kid hmem0) zW zW zW hx hre0 hb zW; refine Z2 (l' := [tt,tt,tt,tt,tt,tt,tt,tt,tt,tt,tt,tt,tt,tt,tt,tt,tt,ff,ff,ff,ff]) rfl rfl hcall (Pk.perm zN) rfl rfl rfl (by repeat (first | exact B2.nil | apply B2.dep zS | apply B2.im zS hg0 zP | apply B2.im zS hg1 zP | apply B2.blk zS zN zP)) (fun v Gn outs hles hh => ?_); obtain ⟨ps, hps1, hps2, rfl, es, cs, rfl, hrs, hsms, hcs⟩ := hh; obtain ⟨s1, s2, s3, s4, s5, s6, s7, s8, s9, rfl⟩ := hrs.nine; replace hre1 := hre1.mono hles; replace hx := hx.mono hles; replace hb := hb.mono hles; replace hrt := hrt.mono hles;)
 refine A1 17 ?_
 (have hcall := ih m zW (depth - 1) ks[1] ps _ pc nc cc _ (hfu.kid hmem1) zW zW zW hx hre1 hb zW; refine Z2 (l' := [tt,tt,tt,tt,tt,tt,tt,tt,tt,tt,tt,tt,tt,tt,tt,tt,tt,tt,ff,ff,ff]) rfl rfl hcall (Pk.perm zN) rfl rfl rfl (by repeat (first | exact B2.nil | apply B2.dep zS | apply B2.im zS hg0 zP | apply B2.im zS hg1 zP | apply B2.blk zS zN zP)) (fun v Gn outs hlew hh => ?_); obtain ⟨pw, hpw1, hpw2, rfl, ew, cw, rfl, hrw, hsmw, hcw⟩ := hh; obtain ⟨w1, w2, w3, w4, w5, w6, w7, w8, w9, rfl⟩ := hrw.nine; replace hrs := hrs.mono hlew; replace hx := hx.mono hlew; replace hb := hb.mono hlew; replace hrt := hrt.mono hlew;)
 refine A1 18 ?_
 (refine D1 rfl (C9 rfl rfl rfl zW zR rfl) rfl rfl ?_; rintro _ ⟨b517, rfl⟩)
 refine A1 19 ?_
 refine L1 rfl rfl ((A2A _ _ _ _ _)) rfl rfl rfl ?_
 refine A1 20 ?_
 refine N9 rfl rfl rfl rfl rfl rfl rfl rfl zS zO (by rfl) ?_
 refine A4 ?_
 (refine F6 (cs := [s1, s2, s3, s4, s5, s6, s7, s8, s9] ++ [w1, w2, w3, w4, w5, w6, w7, w8, w9]) zN (fun G9 hle9 hsl9 hno9 => ?_); have hN := A4d (k := 10) (nm := ⟨⟨[]⟩⟩) ⟨by omega, by omega⟩ (hrs.mono hle9) (hrw.mono hle9) hsl9)
 refine A4 ?_
 refine A0N ?_
 refine H7 (outs := [rd br pb nb cb pw]) (rC rfl (A3 rfl rfl)) zH ?_
 (exact ⟨pw, by omega, by omega, rfl, _, _, rfl, hN, by first | exact N6 (by first | assumption | decide) | exact A0u zV zT zT zT | exact R4 zV zT zT | exact K7 zV P5 zT | exact K7 zV har.small zT | exact K7 zV P5 (R4 zV zT (N6 zV)) | exact K7 zV A0v (N6 zV) | assumption, by simp only [F4, H4]; omega⟩)
 refine A7 ?_
 refine sB (qE rfl rfl) rfl rfl (fun h536 => ?_) (fun h536 => ?_)
 refine E7 ?_
 refine sB (A0l rfl rfl) rfl rfl (fun h545 => ?_) (fun h545 => ?_)
 refine A4 ?_
 (have hkk1 : k = 1 := zW; refine I0 rfl (S2 _ br pb nb cb (p2) bs 3 hb hnb zW) (Pk.perm zN) rfl rfl (fun v Gp outs hle548 hh => ?_); obtain ⟨rfl, rfl, j548, rfl, hj548, hk548⟩ := hh; have hpk23 := hj548)
 replace hb := hb.mono hle548
 replace hrt := hrt.mono hle548
 refine sB (qE rfl rfl) rfl rfl (fun h549 => ?_) (fun h549 => ?_)
 refine D9 ?_
 (have hcall := A3X br pb nb cb bs hnb 1 (p2 + 1) _ zW hb (by have : dB (1 + 1) ≤ 6 := zV; omega); refine I0 rfl hcall (Pk.perm zN) rfl rfl (fun v Gn outs hleF hh => ?_); obtain ⟨pF, hpF1, hpF2, rfl, uF, cuF, rfl, hruF, husF, huhF⟩ := hh; have huaF := huhF.ar; obtain ⟨quF, duF, euF, rfl, _⟩ := hruF.open; have hdBF : dB (1 + 1) ≤ 6 := zV; replace hx := hx.mono hleF; replace hb := hb.mono hleF; replace hrt := hrt.mono hleF;)
 refine F8 ?_
 refine sP (O7 rfl rfl zW zW) rfl rfl ?_
 (obtain ⟨m, rfl⟩ := hfu.pos (.inl zW); have hmB : mB (m + 1) = 3 * mB m + 200 := rfl; have hgm := A1r m; have hcall := ih m zW (depth - 1) uF pF _ pc nc cc _ (hfu.sub zW (huhF.le zW)) zW zW zW hx hruF hb zW; refine I0 rfl hcall (Pk.perm zN) rfl rfl (fun v Gn outs hlex hh => ?_); obtain ⟨px, hpx1, hpx2, rfl, ex, cx, rfl, hrx, hsmx, hcx⟩ := hh; obtain ⟨x1, x2, x3, x4, x5, x6, x7, x8, x9, rfl⟩ := hrx.nine; replace hx := hx.mono hlex; replace hb := hb.mono hlex; replace hrt := hrt.mono hlex;)
 refine sS rfl rfl rfl rfl hrx.one rfl ?_
 refine A9 ?_
 refine A0N ?_
 refine H7 (outs := [rd br pb nb cb px]) (rC rfl (A3 rfl rfl)) zH ?_
 (exact ⟨px, by omega, by omega, rfl, _, _, rfl, hrx, hsmx, by omega⟩)
 refine D9 ?_
 (refine I0 rfl (S2 _ br pb nb cb (p2 + 1) bs 3 hb hnb zW) (Pk.perm zN) rfl rfl (fun v Gp outs hle581 hh => ?_); obtain ⟨rfl, rfl, j581, rfl, hj581, hk581⟩ := hh; have hpk21 := hj581)
 replace hb := hb.mono hle581
 replace hrt := hrt.mono hle581
 refine sB (qE rfl rfl) rfl rfl (fun h582 => ?_) (fun h582 => ?_)
 refine A9 ?_
 refine E6 rfl ((A0J _)) rfl rfl ?_
 refine F8 ?_
 (refine J1 (C9 rfl rfl rfl zW zR rfl) rfl ?_; rintro _ ⟨b590, rfl⟩)
 refine C3 ?_
 (refine F6 (cs := [.int .i64 4, .string ⟨⟨[]⟩⟩, .int .i64 0, .int .i64 0, .slice none 0 0, .int .i64 0, .slice none 0 0, .int .i64 0, .slice none 0 0]) zN (fun G9 hle9 hsl9 hno9 => ?_); have hN := A4c (k := 13) (nm := ⟨⟨[]⟩⟩) ⟨by omega, by omega⟩ (A0K _) (A2c G9 ⟨⟨[]⟩⟩ 0 (k := 4) ⟨by omega, by omega⟩ ⟨by omega, by omega⟩) hsl9)
 refine A4 ?_
 refine A0N ?_
 refine H7 (outs := [rd br pb nb cb (p2 + 1 + 1)]) (rC rfl (A3 rfl rfl)) zH ?_
 (exact ⟨(p2 + 1 + 1), by omega, by omega, rfl, _, _, rfl, hN, by first | exact N6 (by first | assumption | decide) | exact A0u zV zT zT zT | exact R4 zV zT zT | exact K7 zV P5 zT | exact K7 zV har.small zT | exact K7 zV P5 (R4 zV zT (N6 zV)) | exact K7 zV A0v (N6 zV) | assumption, by simp only [F4, H4]; omega⟩)
 refine A9 ?_
 refine A4f (p2 + 1 + 1, Gp) (O3 zM zI) ⟨C1.refl _, by dsimp only; omega, by dsimp only; omega⟩
 refine J2 ?_
 (have hkk1 : k = 1 := zW; refine I0 rfl (S2 _ br pb nb cb (p2) bs 3 hb hnb zW) (Pk.perm zN) rfl rfl (fun v Gp outs hle620 hh => ?_); obtain ⟨rfl, rfl, j620, rfl, hj620, hk620⟩ := hh; have hpk23 := hj620)
 replace hb := hb.mono hle620
 replace hrt := hrt.mono hle620
 refine sB (qE rfl rfl) rfl rfl (fun h621 => ?_) (fun h621 => ?_)
 refine A9 ?_
 refine E6 rfl ((A0J _)) rfl rfl ?_
 refine F8 ?_
 (refine J1 (C9 rfl rfl rfl zW zR rfl) rfl ?_; rintro _ ⟨b629, rfl⟩)
 refine C3 ?_
 (refine F6 (cs := [.int .i64 4, .string ⟨⟨[]⟩⟩, .int .i64 0, .int .i64 0, .slice none 0 0, .int .i64 0, .slice none 0 0, .int .i64 0, .slice none 0 0]) zN (fun G9 hle9 hsl9 hno9 => ?_); have hN := A4c (k := 13) (nm := ⟨⟨[]⟩⟩) ⟨by omega, by omega⟩ (A0K _) (A2c G9 ⟨⟨[]⟩⟩ 0 (k := 4) ⟨by omega, by omega⟩ ⟨by omega, by omega⟩) hsl9)
 refine A4 ?_
 refine A0N ?_
 refine H7 (outs := [rd br pb nb cb (p2 + 1)]) (rC rfl (A3 rfl rfl)) zH ?_
 (exact ⟨(p2 + 1), by omega, by omega, rfl, _, _, rfl, hN, by first | exact N6 (by first | assumption | decide) | exact A0u zV zT zT zT | exact R4 zV zT zT | exact K7 zV P5 zT | exact K7 zV har.small zT | exact K7 zV P5 (R4 zV zT (N6 zV)) | exact K7 zV A0v (N6 zV) | assumption, by simp only [F4, H4]; omega⟩)
 refine A9 ?_
 refine A4f (p2 + 1, Gp) (O3 zM zI) ⟨C1.refl _, by dsimp only; omega, by dsimp only; omega⟩
 refine A7 ?_
 refine A4f (p2, G2) (O3 zM zI) ⟨C1.refl _, by dsimp only; omega, by dsimp only; omega⟩
 (have hq := hcut1; rintro ⟨(p5 : Nat), G5⟩ ⟨hle5c, hp5a, hp5b⟩; simp only [] at hle5c hp5a hp5b ⊢; have hcut2 := hp5a; replace hx := hx.mono hle5c; replace hb := hb.mono hle5c; replace hrt := hrt.mono hle5c;)
 refine C3 ?_
 refine sB (A0l rfl rfl) rfl rfl (fun h658 => ?_) (fun h658 => ?_)
 refine A4 ?_
 (refine I0 rfl (S2 _ br pb nb cb (p5) bs 2 hb hnb zW) (Pk.perm zN) rfl rfl (fun v Gp outs hle661 hh => ?_); obtain ⟨rfl, rfl, j661, rfl, hj661, hk661⟩ := hh; have hpk5 := hj661)
 replace hb := hb.mono hle661
 replace hrt := hrt.mono hle661
 refine sB (qE rfl rfl) rfl rfl (fun h662 => ?_) (fun h662 => ?_)
 refine D9 ?_
 refine E6 rfl ((V8 _)) rfl rfl ?_
 (have hz2 : H6 (.mk 2 []) = 0 := rfl; have hcall := A42 br pb nb cb bs hnb (.mk 2 []) (p5 + 1) _ _ (M6 zV zV) (J8 _ ⟨by omega, by omega⟩) hb zW; refine I0 rfl hcall (Pk.perm zN) rfl rfl (fun v Gn outs hleG hh => ?_); obtain ⟨pG, hpG1, hpG2, rfl, uG, cuG, rfl, hruG, huaG, husG, huhG⟩ := hh; obtain ⟨quG, duG, euG, rfl, _⟩ := hruG.open; replace hx := hx.mono hleG; replace hb := hb.mono hleG; replace hrt := hrt.mono hleG;)
 refine F8 ?_
 refine sP (O7 rfl rfl zW zW) rfl rfl ?_
 (obtain ⟨m, rfl⟩ := hfu.pos (.inl zW); have hmB : mB (m + 1) = 3 * mB m + 200 := rfl; have hgm := A1r m; have hcall := ih m zW (depth - 1) uG pG _ pc nc cc _ (hfu.sub zW (huhG 4 (A2Z 4 zV zV))) zW zW zW hx hruG hb zW; refine I0 rfl hcall (Pk.perm zN) rfl rfl (fun v Gn outs hley hh => ?_); obtain ⟨py, hpy1, hpy2, rfl, ey, cy, rfl, hry, hsmy, hcy⟩ := hh; obtain ⟨y1, y2, y3, y4, y5, y6, y7, y8, y9, rfl⟩ := hry.nine; replace hx := hx.mono hley; replace hb := hb.mono hley; replace hrt := hrt.mono hley;)
 refine A4 ?_
 refine E6 rfl ((V8 _)) rfl rfl ?_
 refine F8 ?_
 refine sP (O7 rfl rfl zW zW) rfl rfl ?_
 (have hcall := ih m zW (depth - 1) (.mk 2 []) py _ pc nc cc _ (hfu.sub zW (A2Z 4 zV zV)) zW zW zW hx (J8 _ ⟨by omega, by omega⟩) hb zW; refine I0 rfl hcall (Pk.perm zN) rfl rfl (fun v Gn outs hlec hh => ?_); obtain ⟨pc, hpc1, hpc2, rfl, ec, cc, rfl, hrc, hsmc, hcc⟩ := hh; obtain ⟨c1, c2, c3, c4, c5, c6, c7, c8, c9, rfl⟩ := hrc.nine; replace hry := hry.mono hlec; replace hx := hx.mono hlec; replace hb := hb.mono hlec; replace hrt := hrt.mono hlec;)
 (refine J1 (C9 rfl rfl rfl zW zR rfl) rfl ?_; rintro _ ⟨b683, rfl⟩)
 refine E6 rfl ((A2A _ _ _ _ _)) rfl rfl ?_
 refine B3 ?_
 (refine F6 (cs := [y1, y2, y3, y4, y5, y6, y7, y8, y9] ++ [c1, c2, c3, c4, c5, c6, c7, c8, c9]) zN (fun G9 hle9 hsl9 hno9 => ?_); have hN := A4d (k := 7) (nm := ⟨⟨[]⟩⟩) ⟨by omega, by omega⟩ (hry.mono hle9) (hrc.mono hle9) hsl9)
 refine A4 ?_
 refine H7 (outs := [rd br pb nb cb pc]) (rC rfl (A3 rfl rfl)) zH ?_
 (exact ⟨pc, by omega, by omega, rfl, _, _, rfl, hN, by first | exact N6 (by first | assumption | decide) | exact A0u zV zT zT zT | exact R4 zV zT zT | exact K7 zV P5 zT | exact K7 zV har.small zT | exact K7 zV P5 (R4 zV zT (N6 zV)) | exact K7 zV A0v (N6 zV) | assumption, by simp only [F4, H4]; omega⟩)
 refine D9 ?_
 (refine J1 (C9 rfl rfl rfl zW zR rfl) rfl ?_; rintro _ ⟨b702, rfl⟩)
 (refine S9 zN (fun G4 hle4 hsl4 _ => ?_); refine I0 rfl (Z4 G4 br pb nb cb (p5 + 1) bs _ _ _ _ (hb.mono hle4) hnb zW hsl4 zV) (Pk.perm zN) rfl rfl (fun v G7 outs hle7 hh => ?_); obtain ⟨rfl, rfl, hv⟩ := hh; obtain ⟨kn, rfl, hkn⟩ : ∃ k, v = .int .i64 k ∧ E8 k := (by simp only [List.mem_cons, List.not_mem_nil, or_false] at hv; rcases hv with rfl | rfl | rfl | rfl | rfl <;> exact ⟨_, rfl, by unfold E8; omega⟩))
 refine E6 rfl ((A2z _ _)) rfl rfl ?_
 refine C3 ?_
 refine H7 (outs := [rd br pb nb cb (p5 + 1 + 1)]) (rC rfl (A3 rfl rfl)) zH ?_
 (exact ⟨(p5 + 1 + 1), by omega, by omega, rfl, _, _, rfl, A2c _ _ _ ⟨by omega, by omega⟩ (by first | exact ⟨by omega, by omega⟩ | exact hkn), by first | exact N6 (by first | assumption | decide) | exact A0u zV zT zT zT | exact R4 zV zT zT | exact K7 zV P5 zT | exact K7 zV har.small zT | exact K7 zV P5 (R4 zV zT (N6 zV)) | exact K7 zV A0v (N6 zV) | assumption, by simp only [F4, H4]; omega⟩)
 refine J2 ?_
 (refine J1 (C9 rfl rfl rfl zW zR rfl) rfl ?_; rintro _ ⟨b724, rfl⟩)
 (refine S9 zN (fun G4 hle4 hsl4 _ => ?_); refine I0 rfl (Z4 G4 br pb nb cb p5 bs _ _ _ _ (hb.mono hle4) hnb zW hsl4 zV) (Pk.perm zN) rfl rfl (fun v G7 outs hle7 hh => ?_); obtain ⟨rfl, rfl, hv⟩ := hh; obtain ⟨kn, rfl, hkn⟩ : ∃ k, v = .int .i64 k ∧ E8 k := (by simp only [List.mem_cons, List.not_mem_nil, or_false] at hv; rcases hv with rfl | rfl | rfl | rfl | rfl <;> exact ⟨_, rfl, by unfold E8; omega⟩))
 refine E6 rfl ((A2z _ _)) rfl rfl ?_
 refine C3 ?_
 refine H7 (outs := [rd br pb nb cb (p5 + 1)]) (rC rfl (A3 rfl rfl)) zH ?_
 (exact ⟨(p5 + 1), by omega, by omega, rfl, _, _, rfl, A2c _ _ _ ⟨by omega, by omega⟩ (by first | exact ⟨by omega, by omega⟩ | exact hkn), by first | exact N6 (by first | assumption | decide) | exact A0u zV zT zT zT | exact R4 zV zT zT | exact K7 zV P5 zT | exact K7 zV har.small zT | exact K7 zV P5 (R4 zV zT (N6 zV)) | exact K7 zV A0v (N6 zV) | assumption, by simp only [F4, H4]; omega⟩)
def M9 (o : Option Ty) (G : IM) : IM → Value → List A6 → Prop := K1 fun G' v => ∃ t cells, v = .tuple ⟨[.agg ⟨cells⟩, .bool o.isSome]⟩ ∧ B8 G' t cells ∧ E5 t ∧ ∀ u, o = some u → u = t
theorem M9.yes {G G' : IM} {o : Option Ty} {t : Ty} {cells : List Value} (h : o = some t) (hr : B8 G' t cells) (ha : E5 t) : M9 o G G' (.tuple ⟨[.agg ⟨cells⟩, .bool true]⟩) [] := by
 subst h; exact ⟨rfl, t, cells, rfl, hr, ha, fun u h => (by cases h; rfl)⟩
theorem M9.no {G G' : IM} {o : Option Ty} {t : Ty} {cells : List Value} (h : o = none) (hr : B8 G' t cells) (ha : E5 t) : M9 o G G' (.tuple ⟨[.agg ⟨cells⟩, .bool false]⟩) [] := by
 subst h; exact ⟨rfl, t, cells, rfl, hr, ha, fun u h => (by cases h)⟩
theorem M9.mk {G G' : IM} {o : Option Ty} {b : Bool} {t : Ty} {cells : List Value} (h : o = if b = true then some t else none) (hr : B8 G' t cells) (ha : E5 t) : M9 o G G' (.tuple ⟨[.agg ⟨cells⟩, .bool b]⟩) [] := by
 cases b
 ·exact M9.no h hr ha
 ·exact M9.yes h hr ha
theorem B52 {t : Ty} (h : M1 t = true) : E5 t := (A43 h).1
theorem A5p (k : Int) (a b : Ty) (G : IM) (ca cb : List Value) (hk : k = 4 ∨ k = 5) (ha : E5 a) (hb : E5 b) (hra : B8 G a ca) (hrb : B8 G b cb) :
  Fn Tryz.prog 149 [.int .i64 k, .agg ⟨ca⟩, .agg ⟨cb⟩] [] G (K1 fun G' v => ∃ cells, v = .tuple ⟨[.agg ⟨cells⟩, .bool (M1 (.mk k [a, b]))]⟩ ∧ B8 G' (.mk k [a, b]) cells) := by
 obtain ⟨ak, aks⟩ := a
 obtain ⟨bk, bks⟩ := b
 obtain ⟨pa, cca, ea, rfl, _⟩ := hra.open
 obtain ⟨pb, ccb, eb, rfl, _⟩ := hrb.open
 have hki : E8 k := ⟨by omega, by omega⟩
 refine C7 Tryz.func149 rfl Tryz.ntmps149 Tryz.results149 rfl ?_
 intro w0
 refine A4 ?_
 refine sE (D5 rfl rfl) rfl (fun b3 => ?_)
 refine sE (D5 rfl rfl) rfl (fun b4 => ?_)
 refine sE (A8 rfl) rfl (fun b5 => ?_)
 refine C3 ?_
 refine D2 D3 rfl ?_
 refine H1 (i := 0) (l' := [tt,ff,ff,ff,ff,ff,ff,ff,ff]) rfl C8 (qM rfl) rfl zU rfl rfl ?_
 refine aL 1 rfl (A3 rfl rfl) rfl ?_
 refine aL 3 rfl (A3 rfl rfl) rfl ?_
 refine N3 (j := 2) (j' := 7) zU ?_ ?_
 (refine E1 rfl rfl (P8 _ G _ ha.small hra) rfl rfl rfl (fun v G1 hle1 hh => ?_); obtain ⟨L7, F1, rfl, hs1, hn1⟩ := hh; obtain ⟨p1, c1, rfl, _⟩ := hs1.open; have hC2 := P8 _ G1 _ hb.small (hrb.mono hle1))
 refine N3 (j := 4) (j' := 7) zU ?_ ?_
 (refine E1 rfl rfl hC2 rfl rfl rfl (fun v G2 hle2 hh => ?_); obtain ⟨cs2, F2, rfl, hs2, hn2⟩ := hh; obtain ⟨p2, c2, rfl, _⟩ := hs2.open; have hr1 := hs1.R.mono ((D7.le G1 G).trans hle2); have hr2 := hs2.R.mono (D7.le G2 G1))
 refine N3 (j := 5) (j' := 7) zU ?_ ?_
 (refine D1 rfl (C9 rfl rfl rfl zW zR rfl) rfl rfl ?_; rintro _ ⟨b19, rfl⟩)
 refine aP 6 rfl (N7 rfl rfl) rfl ?_
 refine A1 7 ?_
 (refine D1 rfl (A8 rfl) rfl rfl ?_; rintro _ ⟨b22, rfl⟩)
 exact y21
 (refine D1 rfl (A8 rfl) rfl rfl ?_; rintro _ ⟨b41, rfl⟩)
 refine A1 5 ?_
 (refine D1 rfl (C9 rfl rfl rfl zW zR rfl) rfl rfl ?_; rintro _ ⟨b43, rfl⟩)
 refine aP 6 rfl (N7 rfl rfl) rfl ?_
 exact y21
 (refine D1 rfl (A8 rfl) rfl rfl ?_; rintro _ ⟨b63, rfl⟩)
 refine A1 4 ?_
 (refine E1 rfl rfl hC2 rfl rfl rfl (fun v G2 hle2 hh => ?_); obtain ⟨cs2, F2, rfl, hs2, hn2⟩ := hh; obtain ⟨p2, c2, rfl, _⟩ := hs2.open; have hr1 := hs1.R.mono ((D7.le G1 G).trans hle2); have hr2 := hs2.R.mono (D7.le G2 G1))
 refine A1 5 ?_
 (refine D1 rfl (C9 rfl rfl rfl zW zR rfl) rfl rfl ?_; rintro _ ⟨b67, rfl⟩)
 refine aP 6 rfl (N7 rfl rfl) rfl ?_
 exact y21
 (refine D1 rfl (A8 rfl) rfl rfl ?_; rintro _ ⟨b87, rfl⟩)
 refine A1 2 ?_
 (refine E1 rfl rfl (P8 _ G _ ha.small hra) rfl rfl rfl (fun v G1 hle1 hh => ?_); obtain ⟨L7, F1, rfl, hs1, hn1⟩ := hh; obtain ⟨p1, c1, rfl, _⟩ := hs1.open; have hC2 := P8 _ G1 _ hb.small (hrb.mono hle1))
 refine A1 4 ?_
 (refine E1 rfl rfl hC2 rfl rfl rfl (fun v G2 hle2 hh => ?_); obtain ⟨cs2, F2, rfl, hs2, hn2⟩ := hh; obtain ⟨p2, c2, rfl, _⟩ := hs2.open; have hr1 := hs1.R.mono ((D7.le G1 G).trans hle2); have hr2 := hs2.R.mono (D7.le G2 G1))
 refine A1 5 ?_
 (refine D1 rfl (C9 rfl rfl rfl zW zR rfl) rfl rfl ?_; rintro _ ⟨b93, rfl⟩)
 refine aP 6 rfl (N7 rfl rfl) rfl ?_
 exact y21
theorem B53 (G : IM) (cx : Cx) (hv : cxV cx) (p : Option Addr) (n c : Nat) (nm : ByteArray) (hx : R9 G cx p n c) :
  Fn Tryz.prog 171 [.slice p n c, .string nm] [] G (M9 (O9 cx nm) G) := by
 have hn := hx.le
 refine C7 Tryz.func171 rfl Tryz.ntmps171 Tryz.results171 rfl ?_
 intro w0
 refine A4 ?_
 refine sE (A8 rfl) rfl (fun b3 => ?_)
 refine E7 ?_
 refine sP (O7 rfl rfl zW zW) rfl rfl ?_
 refine B3 ?_
 refine C2 ?_
 (refine L4 (fun (i : Nat) => ⟨[(6, .int .i64 ((i : Int) - 1)), (0, .slice p n c), (1, .string nm), (4, .pointer (some ⟨b3, 0, none⟩))], [.blk b3 [.int .i64 0, .slice none 0 0]], G⟩) (fun i => i ≤ n ∧ O9 cx nm = U4 cx nm i) (fun i => i) n ?_ ?_ ?_)
 exact E3
 (exact ⟨Nat.le_refl _, by unfold O9; rw [hx.1]⟩)
 (rintro i ⟨hi, hlk⟩)
 refine C3 ?_
 refine sB (A0W rfl rfl) rfl rfl (fun h25 => ?_) (fun h25 => ?_)
 refine A7 ?_
 (show I9 _ _ (.block 1 _) _ _; obtain ⟨j, rfl⟩ : ∃ j, i = j + 1 := ⟨i - 1, by omega⟩; rw [show ((j + 1 : Nat) : Int) - 1 = (j : Int) from by omega]; obtain ⟨b, o, nm1, t1, q1, d1, hcx, rfl, hat, hr1, hgb⟩ := hx.get (i := j) zW; have ha1 := B52 (hv _ (List.mem_of_getElem? hcx)); refine C2 ?_)
 refine C3 ?_
 refine sP (B1 rfl rfl rfl zW) rfl rfl ?_
 refine F8 ?_
 refine sL (S0 rfl rfl ((hat _).sub (j := 0) rfl)) rfl rfl ?_
 refine F8 ?_
 refine sB (A1S rfl rfl) rfl rfl (fun h41 => ?_) (fun h41 => ?_)
 refine B5 ?_
 refine sP (B1 rfl rfl rfl zW) rfl rfl ?_
 refine F8 ?_
 refine sL (A5 rfl rfl (hat _).drop rfl) rfl rfl ?_
 (refine F9 rfl (P8 _ G _ ha1.small hr1) rfl rfl (fun v G1 hle1 hh => ?_); obtain ⟨L7, F1, rfl, hs1', hn1⟩ := hh; obtain ⟨p1, c1, rfl, _⟩ := hs1'.open; have hrr := hs1'.R.mono (D7.le G1 G))
 refine I2 ?_
 refine E0 (rC rfl (A3 rfl rfl)) (rT rfl) ?_
 (exact M9.yes (by rw [hlk]; exact A20 hcx zT) hrr ha1)
 refine E7 ?_
 refine sP (O7 rfl rfl zW zW) rfl rfl ?_
 refine A4 ?_
 refine K3 j ?_ ?_ ?_
 exact E3
 (exact ⟨by omega, by rw [hlk]; exact A21 hcx zT⟩)
 (show _ < _ + 1; omega)
 refine N4 ?_
 refine E0 (rC rfl (A3 rfl rfl)) (rT rfl) ?_
 (obtain rfl : i = 0 := zW; exact M9.no (by rw [hlk]; rfl) (J8 _ ⟨by omega, by omega⟩) (M6 zW zW))
section
variable {cx : Cx} {k : Int} {nm : ByteArray} {ty : Ty} {ts : List Ty}
end
section
variable {ak bk : Int} {aks bks : List Ty}
theorem B54 (h : ak ≠ bk) : H9 (.mk ak aks) (.mk bk bks) = false := by rw [A2x, decide_eq_false h]; rfl
theorem B55 (h : aks.length ≠ bks.length) : H9 (.mk ak aks) (.mk bk bks) = false := by
 rw [A2x]
 cases hl : Z0 aks bks with
 | false => simp
 | true => exact absurd ((A3W _ _).1 hl).1 h
theorem B56 {i : Nat} (hi : i < aks.length) (hi' : i < bks.length) (h : H9 aks[i] bks[i] = false) : H9 (.mk ak aks) (.mk bk bks) = false := by
 rw [A2x]
 cases hl : Z0 aks bks with
 | false => simp
 | true => have := ((A3W _ _).1 hl).2 i hi hi'; rw [h] at this; cases this
theorem B57 (hk : ak = bk) (hl : aks.length = bks.length) (h : ∀ i, (h : i < aks.length) → (h' : i < bks.length) → H9 aks[i] bks[i] = true) : H9 (.mk ak aks) (.mk bk bks) = true := by
 rw [A2x, decide_eq_true hk, (A3W _ _).2 ⟨hl, h⟩]; rfl
end
theorem A2d : ∀ (a b : Ty) (G : IM) (ca cb : List Value), B8 G a ca → B8 G b cb → Fn Tryz.prog 60 [.agg ⟨ca⟩, .agg ⟨cb⟩] [] G (J5 (.bool (H9 a b)) G) := by
 refine Ty.ind fun ak aks ih b G ca cb hra hrb => ?_
 obtain ⟨bk, bks⟩ := b
 obtain ⟨pa, cca, ea, rfl, hak, hsla, hkla⟩ := hra.open
 obtain ⟨pb, ccb, eb, rfl, hbk, hslb, hklb⟩ := hrb.open
 simp only [Ty.k, Ty.ks] at hak hsla hkla hbk hslb hklb ⊢
 have hna := hsla.le
 have hnb := hslb.le
 have e1 := @B54 ak bk aks bks
 have e2 := @B55 ak bk aks bks
 have e3 := fun i => @B56 ak bk aks bks i
 have e4 := @B57 ak bk aks bks
 generalize H9 (.mk ak aks) (.mk bk bks) = R at e1 e2 e3 e4 ⊢
 refine C7 Tryz.func60 rfl Tryz.ntmps60 Tryz.results60 rfl ?_
 intro w0
 refine A4 ?_
 refine sE (D5 rfl rfl) rfl (fun b3 => ?_)
 refine sE (D5 rfl rfl) rfl (fun b4 => ?_)
 refine I2 ?_
 refine sB (R7 rfl rfl) rfl rfl (fun h15 => ?_) (fun h15 => ?_)
 refine A0n ?_
 (exact ⟨rfl, by rw [e1 zW], rfl⟩)
 refine B5 ?_
 refine sB (R7 rfl rfl) rfl rfl (fun h44 => ?_) (fun h44 => ?_)
 refine N8 ?_
 (exact ⟨rfl, by rw [e2 zW], rfl⟩)
 refine N8 ?_
 refine C2 ?_
 (refine L4 (fun (i : Nat) => ⟨[(5, .int .i64 i), (2, .pointer (some ⟨b3, 0, none⟩)), (3, .pointer (some ⟨b4, 0, none⟩))], [.blk b4 [.int .i64 bk, .slice pb bks.length ccb], .blk b3 [.int .i64 ak, .slice pa aks.length cca]], G⟩) (fun i => i ≤ aks.length ∧ ∀ j, (h : j < aks.length) → (h' : j < bks.length) → j < i → H9 aks[j] bks[j] = true) (fun i => aks.length - i) 0 ?_ ?_ ?_)
 exact E3
 (exact ⟨Nat.zero_le _, fun j _ _ hj => absurd hj (Nat.not_lt_zero j)⟩)
 (rintro i ⟨hi, hall⟩)
 refine B5 ?_
 refine sB (K6 rfl rfl) rfl rfl (fun h82 => ?_) (fun h82 => ?_)
 refine A7 ?_
 refine C2 ?_
 refine tS ?_
 (obtain ⟨b, o, q0, d0, hp0, hat0, hre0, hg0⟩ := hsla.kidTy hkla (i := i) zW zW; obtain ⟨b', o', q1, d1, hp1, hat1, hre1, hg1⟩ := hslb.kidTy hklb (i := i) zW zW; subst hp0; subst hp1; have hih := ih aks[i] (List.getElem_mem zW) bks[i] G _ _ hre0 hre1; refine D2 D3 rfl ?_)
 refine H1 (i := 0) (l' := [tt,ff,ff,ff,ff,ff,ff,ff,ff,ff,ff,ff]) rfl C8 (C0 rfl) rfl zU rfl rfl ?_
 refine aL 1 rfl (D4 rfl rfl) rfl ?_
 refine aP 2 rfl (qM rfl) rfl ?_
 refine aP 3 rfl (B1 rfl rfl rfl zW) rfl ?_
 refine aL 4 rfl (A5 rfl rfl (hat0 _) rfl) rfl ?_
 refine aP 5 rfl (C0 rfl) rfl ?_
 refine aL 6 rfl (D4 rfl rfl) rfl ?_
 refine aP 7 rfl (qM rfl) rfl ?_
 refine aP 8 rfl (B1 rfl rfl rfl zW) rfl ?_
 refine aL 9 rfl (A5 rfl rfl (hat1 _) rfl) rfl ?_
 refine A1 10 ?_
 refine Q3 rfl rfl (hih) rfl rfl rfl (fun h103 => ?_) (fun h103 => ?_)
 refine aP 11 rfl (pNt rfl) rfl ?_
 refine E7 ?_
 refine sP (K9 rfl rfl zW zW) rfl rfl ?_
 refine A4 ?_
 refine K3 (i + 1) ?_ ?_ ?_
 exact E3
 (exact ⟨by omega, fun j h h' hj => by by_cases hji : j = i; (subst hji; assumption); exact hall j h h' zW⟩)
 omega
 refine aP 11 rfl (pNf rfl) rfl ?_
 refine K4 ?_
 (exact ⟨rfl, by rw [e3 i zW zW zT], rfl⟩)
 refine K4 ?_
 (exact ⟨rfl, by rw [e4 zW zW (fun j h h' => hall j h h' zW)], rfl⟩)
theorem B58 (G : IM) (cx : Cx) (p : Option Addr) (n c : Nat) (nm : ByteArray) (t : Ty) (cells : List Value) (hx : R9 G cx p n c) (hn : n ≤ 1000) (hr : B8 G t cells) :
  Fn Tryz.prog 132 [.slice p n c, .string nm, .agg ⟨cells⟩] [] G (K1 fun G' v => ∃ p' c', v = .slice p' (n + 1) c' ∧ R9 G' (cx ++ [(nm, t)]) p' (n + 1) c') := by
 obtain ⟨k, ks⟩ := t
 obtain ⟨q, d, es0, rfl, _⟩ := hr.open
 simp only [Ty.k, Ty.ks] at hr ⊢
 obtain ⟨hx1, es, h2, h3⟩ := id hx
 have hSl : Sl G p n c 3 es.flatten := h2.1
 have h1c : ∀ u ∈ es.flatten, u.oneCell' = true := by
  intro u hu
  obtain ⟨e, he, hue⟩ := List.mem_flatten.1 hu
  exact List.all_eq_true.1 (h2.one e he) u hue
 refine C7 Tryz.func132 rfl Tryz.ntmps132 Tryz.results132 rfl ?_
 intro w0
 refine A4 ?_
 refine sE (D5 rfl rfl) rfl (fun b3 => ?_)
 refine C3 ?_
 refine D2 D3 rfl ?_
 refine H1 (i := 1) (l' := [ff,tt,ff,ff,ff,ff,ff,ff,ff]) rfl C8 (qM rfl) rfl zU rfl rfl ?_
 refine aP 3 rfl (qM rfl) rfl ?_
 refine aL 4 rfl (A3 rfl rfl) rfl ?_
 refine aP 5 rfl (N7 rfl rfl) rfl ?_
 refine N3 (j := 0) (j' := 6) zU ?_ ?_
 (refine D1 rfl (C9 rfl rfl rfl zW zR rfl) rfl rfl ?_; rintro _ ⟨b14, rfl⟩)
 refine N3 (j := 2) (j' := 6) zU ?_ ?_
 (refine A22 rfl rfl rfl rfl rfl rfl (fun _ _ => by repeat (first | exact Sw.here | apply Sw.there)) hSl h1c (Nat.zero_le _) zR zW rfl rfl zG (fun p4 c4 => ?_); simp only [Nat.zero_add, List.nil_append])
 refine A1 6 ?_
 (refine D1 rfl (C9 rfl rfl rfl zW zR rfl) rfl rfl ?_; rintro _ ⟨b18, rfl⟩)
 exact y22
 (refine D1 rfl (C9 rfl rfl rfl zW zR rfl) rfl rfl ?_; rintro _ ⟨b28, rfl⟩)
 refine A1 2 ?_
 (refine A22 rfl rfl rfl rfl rfl rfl (fun _ _ => by repeat (first | exact Sw.here | apply Sw.there)) hSl h1c (Nat.zero_le _) zR zW rfl rfl zG (fun p4 c4 => ?_); simp only [Nat.zero_add, List.nil_append])
 exact y22
 (refine D1 rfl (C9 rfl rfl rfl zW zR rfl) rfl rfl ?_; rintro _ ⟨b40, rfl⟩)
 refine A1 0 ?_
 (refine D1 rfl (C9 rfl rfl rfl zW zR rfl) rfl rfl ?_; rintro _ ⟨b42, rfl⟩)
 refine A1 2 ?_
 (refine A22 rfl rfl rfl rfl rfl rfl (fun _ _ => by repeat (first | exact Sw.here | apply Sw.there)) hSl h1c (Nat.zero_le _) zR zW rfl rfl zG (fun p4 c4 => ?_); simp only [Nat.zero_add, List.nil_append])
 exact y22
section
variable {cx : Cx} {k : Int} {nm : ByteArray} {num : Int} {ty fr : Ty} {lb : Int} {ks : List Tm}
end
def A7g (t : Ty) (x : Bool) (G : IM) : IM → Value → List A6 → Prop := K1 fun G' v => ∃ cells, v = .tuple ⟨[.agg ⟨cells⟩, .bool x]⟩ ∧ B8 G' (if x = true then t else B4) cells
theorem B59 (t : Ty) (G : IM) (cells : List Value) (hr : B8 G t cells) : Fn Tryz.prog 103 [.agg ⟨cells⟩, .bool true] [] G (A7g t true G) := by
 obtain ⟨p, c, e, rfl, _⟩ := hr.open
 refine C7 Tryz.func103 rfl Tryz.ntmps103 Tryz.results103 rfl ?_
 intro w0
 refine A4 ?_
 refine sE (D5 rfl rfl) rfl (fun b3 => ?_)
 refine sE (A8 rfl) rfl (fun b4 => ?_)
 refine A0c ?_
 refine E0 (rC rfl (A3 rfl rfl)) (rT rfl) ?_
 (exact ⟨rfl, _, rfl, hr⟩)
theorem B6a (t : Ty) (G : IM) (cells : List Value) (hr : B8 G t cells) : Fn Tryz.prog 103 [.agg ⟨cells⟩, .bool false] [] G (A7g t false G) := by
 obtain ⟨p, c, e, rfl, _⟩ := hr.open
 refine C7 Tryz.func103 rfl Tryz.ntmps103 Tryz.results103 rfl ?_
 intro w0
 refine A4 ?_
 refine sE (D5 rfl rfl) rfl (fun b3 => ?_)
 refine sE (A8 rfl) rfl (fun b4 => ?_)
 refine A0n ?_
 refine E0 (rC rfl (A3 rfl rfl)) (rT rfl) ?_
 (exact ⟨rfl, _, rfl, J8 _ ⟨by omega, by omega⟩⟩)
theorem B6b (t : Ty) (x : Bool) (G : IM) (cells : List Value) (hr : B8 G t cells) : Fn Tryz.prog 103 [.agg ⟨cells⟩, .bool x] [] G (A7g t x G) := by
 cases x
 ·exact B6a t G cells hr
 ·exact B59 t G cells hr
theorem U9.sure {o : Option Ty} {t : Ty} {G G' : IM} {cells : List Value} (h : ∀ u, o = some u → u = t) (hr : B8 G' (if o.isSome = true then t else B4) cells) : U9 o G G' (.tuple ⟨[.agg ⟨cells⟩, .bool o.isSome]⟩) [] := by
 cases o with
 | none => exact ⟨rfl, cells, B4, rfl, hr, by simp⟩
 | some u => exact ⟨rfl, cells, t, rfl, hr, fun x hx => by cases hx; exact (h _ rfl).symm⟩
def B8P (e : Tm) (a b : Ty) (l : Int) : IM → Value → List A6 → Prop := K1 fun G' v => ∃ cells, v = .tuple ⟨[.agg ⟨cells⟩, .int .i64 (if H9 a b = true then l else l + 1)]⟩ ∧ B6 G' (if H9 a b = true then e else Q6 e a b l) cells
def B8Q (w ts : List Ty) : List Ty := if w = [] then ts else w
def B8R (ws : List Ty) (n : Nat) (G : IM) : IM → Value → List A6 → Prop := K1 fun G' v => ∃ p c es, v = .slice p n c ∧ ws.length = n ∧ D0 G' p n c 2 es ∧ E9 G' ws es
section
variable {cx : Cx} {k : Int} {nm : ByteArray} {ty : Ty} {ts w : List Ty} {t : Ty}
end
def B8S (u : Tm) (t : Ty) (l : Int) (G : IM) : IM → Value → List A6 → Prop := K1 fun G' v => ∃ cu ct, v = .tuple ⟨[.agg ⟨cu⟩, .agg ⟨ct⟩, .int .i64 (l + 1)]⟩ ∧ B6 G' u cu ∧ B8 G' t ct
def B6c (t : Tm) : List Ty := if A0G t = true then A3j t else []
def B8T (u : Tm) (n : Int) : IM → Value → List A6 → Prop := fun G' v outs => outs = [] ∧ ∃ cu, v = .tuple ⟨[.agg ⟨cu⟩, .int .i64 n]⟩ ∧ B6 G' u cu
def B8U (t : Tm) (L : List Ty) : Option Tm := if A0G t = true ∧ (B6c t).length = L.length ∧ ∀ u ∈ L, M1 u = true then some (A7f t L) else none
def TmB (o : Option Tm) : IM → Value → List A6 → Prop := K1 fun G' v => ∃ cu, v = .tuple ⟨[.agg ⟨cu⟩, .bool o.isSome]⟩ ∧ B6 G' (o.getD K5) cu
def PLe (l l' : List Ty) : Prop := ∀ i, A61 (l.getD i B4) (l'.getD i B4) = true
section masks
variable {P : Program} {Γ : L3} {env : M0} {hp : List A6} {G : IM} {ty : TypeId}
end masks
def mLb (t : Tm) : List Int := (A2K t).map Tm.lb
def B8V (ts : List Tm) : List Int := (A7e ts).map Tm.lb
structure Lbs (ls : List Int) (l l' : Int) : Prop where
 le : l ≤ l'
 nd : ls.Nodup
 len : (ls.length : Int) = l' - l
 mem : ∀ m ∈ ls, l < m ∧ m ≤ l'
mutual
def lz : Tm → Tm
 | .mk k nm num ty fr lb ks => .mk k nm num ty fr (if k = 14 then 0 else lb) (lzL ks)
def lzL : List Tm → List Tm
 | [] => []
 | t :: ts => lz t :: lzL ts
end
def SL (r s : Stp) : Prop := r.2.1 = s.2.1 ∧ lz r.1 = lz s.1
abbrev LbV (t : Tm) : Prop := T4 (fun l => A0e l = true) t
mutual
def mRl : Tm → Int → Tm × Int
 | .mk k nm num ty fr lb ks, n => (.mk k nm num ty fr (if k = 14 then (A3k ks n).2 + 1 else lb) (A3k ks n).1, if k = 14 then (A3k ks n).2 + 1 else (A3k ks n).2)
def A3k : List Tm → Int → List Tm × Int
 | [], n => ([], n)
 | t :: ts, n => ((mRl t n).1 :: (A3k ts (mRl t n).2).1, (A3k ts (mRl t n).2).2)
end
theorem mB8 : mB 8 = 1968200 := by decide
theorem B6d (br : Nat) (pb : Option Addr) (nb cb : Nat) (bs : List UInt8) (hnb : nb ≤ 2000) (p : Nat) (G : IM) (hb : Sl G pb nb cb 1 (N5 bs)) (hp : p + 9000000 < 1099511627776) :
  Fn Tryz.prog 92 [.pointer (some ⟨br, 0, none⟩)] [rd br pb nb cb p] G
   (Y9 br pb nb cb p 9000000 (fun G' v => ∃ e cells, v = .agg ⟨cells⟩ ∧ B6 G' e cells ∧ F4 e ≤ 2000000)) := by
 have hm8 := mB8
 refine C7 Tryz.func92 rfl Tryz.ntmps92 Tryz.results92 rfl ?_
 intro w0
 refine A4 ?_
 refine sE (A8 rfl) rfl (fun b3 => ?_)
 refine E7 ?_
 refine C2 ?_
 (refine L4 (fun (x : Nat × Nat × IM) => ⟨[(3, .int .i64 x.1), (0, .pointer (some ⟨br, 0, none⟩)), (2, .pointer (some ⟨b3, 0, none⟩))], [rd br pb nb cb x.2.1, .blk b3 [.int .i64 0, .string ⟨⟨[]⟩⟩, .int .i64 0, .int .i64 0, .slice none 0 0, .int .i64 0, .slice none 0 0, .int .i64 0, .slice none 0 0]], x.2.2⟩) (fun x => x.1 ≤ 4 ∧ C1 G x.2.2 ∧ p ≤ x.2.1 ∧ x.2.1 ≤ p + x.1 * 2000000) (fun x => 4 - x.1) (0, p, G) ?_ ?_ ?_)
 (simp only [J7]; exact E3)
 (exact ⟨by omega, C1.refl _, Nat.le_refl _, by dsimp only; omega⟩)
 (rintro ⟨(i : Nat), (p1 : Nat), G1⟩ ⟨hi, hleL, hpL, hpL2⟩; simp only [] at hi hleL hpL hpL2 ⊢; replace hb := hb.mono hleL)
 refine C3 ?_
 refine sB (K6 rfl rfl) rfl rfl (fun h21 => ?_) (fun h21 => ?_)
 refine A7 ?_
 refine C2 ?_
 refine A9 ?_
 (refine J1 (C9 rfl rfl rfl zW zR rfl) rfl ?_; rintro _ ⟨b34, rfl⟩)
 (refine S9 zN (fun Gf hlef hslf _ => ?_); refine I0 rfl (Z4 Gf br pb nb cb (p1) bs _ _ _ _ (hb.mono hlef) hnb zW hslf zV) (Pk.perm zN) rfl rfl (fun v Gm outs hlen hh => ?_); obtain ⟨rfl, rfl, hv⟩ := hh; replace hb := hb.mono hlef; obtain ⟨dd, rfl, hdd⟩ : ∃ d : Nat, v = .int .i64 ((d + 1 : Nat) : Int) ∧ d ≤ 2 := (by simp only [List.mem_cons, List.not_mem_nil, or_false] at hv; rcases hv with rfl | rfl | rfl | rfl <;> first | exact ⟨0, rfl, by decide⟩ | exact ⟨1, rfl, by decide⟩ | exact ⟨2, rfl, by decide⟩); have hdB := A6s hdd; replace hleL := hleL.trans hlef)
 (have hcall := A3X br pb nb cb bs hnb dd (p1 + 1) _ zW hb zW; refine I0 rfl hcall (Pk.perm zN) rfl rfl (fun v Gn outs hleD hh => ?_); obtain ⟨pD, hpD1, hpD2, rfl, uD, cD, rfl, hrD, hsD, haD⟩ := hh; obtain ⟨qD, dD, eD, rfl, _⟩ := hrD.open; replace hb := hb.mono hleD; replace hleL := hleL.trans hleD)
 refine F8 ?_
 (refine J1 (C9 rfl rfl rfl zW zR rfl) rfl ?_; rintro _ ⟨b38, rfl⟩)
 (refine S9 zN (fun Gf hlef hslf _ => ?_); refine I0 rfl (Z4 Gf br pb nb cb (pD) bs _ _ _ _ (hb.mono hlef) hnb zW hslf zV) (Pk.perm zN) rfl rfl (fun v Gm outs hlen hh => ?_); obtain ⟨rfl, rfl, hv⟩ := hh; replace hb := hb.mono hlef; replace hleL := hleL.trans hlef; replace hrD := hrD.mono hlef; obtain ⟨dp, rfl, hdp1, hdp2⟩ : ∃ d : Int, v = .int .i64 d ∧ 3 ≤ d ∧ d ≤ 5 := (by simp only [List.mem_cons, List.not_mem_nil, or_false] at hv; rcases hv with rfl | rfl | rfl | rfl <;> exact ⟨_, rfl, by decide, by decide⟩))
 (have hcall := B51 br pb nb cb bs hnb 8 dp uD (pD + 1) _ none 0 0 _ ⟨haD.le zW, by omega, by omega, .inr ⟨by omega, by omega⟩⟩ zW zW zW (S4.nil _) hrD hb zW; refine I0 rfl hcall (Pk.perm zN) rfl rfl (fun v Gn outs hleM hh => ?_); obtain ⟨pM, hpM1, hpM2, rfl, eM, cM, rfl, hrM, hsmM, hcM⟩ := hh; have hlM := hrM.len; have hoM := hrM.one; replace hb := hb.mono hleM; replace hleL := hleL.trans hleM)
 refine sE (A8 rfl) rfl (fun b41 => ?_)
 refine P3 rfl rfl rfl hlM hoM rfl zO (by exact C6 (by first | exact hlM.symm | omega)) ?_
 refine C3 ?_
 refine sL (A5 rfl rfl (B7 zP) hlM) rfl rfl ?_
 (refine F9 rfl (A9g eM _ _ zW hrM) rfl rfl (fun v G9 hle9 hh => ?_); obtain ⟨mt, mc, mx, rfl, hmr, hma, hms, hmv⟩ := hh; obtain ⟨pt, ct, et, rfl, _⟩ := hmr.open; replace hb := hb.mono hle9; replace hleL := hleL.trans hle9; replace hrM := hrM.mono hle9; cases mx)
 refine B3 ?_
 refine sE (A8 rfl) rfl (fun b52 => ?_)
 refine K4 ?_
 refine sP (K9 rfl rfl zW zW) rfl rfl ?_
 refine A4 ?_
 refine K3 (i + 1, pM, G9) ?_ ?_ ?_
 (simp only [J7]; exact E3)
 (dsimp only; exact ⟨by omega, hleL, by omega, by omega⟩)
 (show 4 - (i + 1) < 4 - i; omega)
 refine B3 ?_
 refine sE (A8 rfl) rfl (fun b78 => ?_)
 refine N8 ?_
 refine sL (A5 rfl rfl (B7 zP) hlM) rfl rfl ?_
 refine P3 rfl rfl rfl hlM hoM rfl zO (by exact C6 (by first | exact hlM.symm | omega)) ?_
 refine E7 ?_
 refine H7 (outs := [rd br pb nb cb pM]) (rC rfl (A5 rfl rfl (B7 zP) hlM)) zH ?_
 (exact ⟨pM, by omega, by omega, rfl, eM, _, rfl, hrM, by omega⟩)
 refine I3 ?_
 (have hcall := B37 br pb nb cb bs hnb p1 _ hb zW; refine I0 rfl hcall (Pk.perm zN) rfl rfl (fun v Gn outs hleC hh => ?_); obtain ⟨pC, hpC1, hpC2, rfl, eC, cC, rfl, hrC, hcC⟩ := hh; have hlC := hrC.len; have hoC := hrC.one; have hcnt := A6g eC)
 refine P3 rfl rfl rfl hlC hoC rfl zO (by exact C6 (by first | exact hlC.symm | omega)) ?_
 refine B3 ?_
 refine H7 (outs := [rd br pb nb cb pC]) (rC rfl (A5 rfl rfl (B7 zP) hlC)) zH ?_
 (exact ⟨pC, by omega, by omega, rfl, eC, _, rfl, hrC, by omega⟩)
def B6e (G : IM) : IM → Value → List A6 → Prop := K1 fun G' v => ∃ u cu t ct b, v = .tuple ⟨[.agg ⟨cu⟩, .agg ⟨ct⟩, .bool b]⟩ ∧ B6 G' u cu ∧ u.small ∧ F4 u ≤ 60 ∧ B8 G' t ct ∧ E5 t ∧ H6 t ≤ 960
theorem B6f (G : IM) : B6 G K5 [.int .i64 0, .string ⟨⟨[]⟩⟩, .int .i64 0, .int .i64 0, .slice none 0 0, .int .i64 0, .slice none 0 0, .int .i64 0, .slice none 0 0] := (Q4.zero G).R
theorem B6g : K5.small := by simp [K5, Tm.small, Ty.small, Ty.smallL, Tm.smallL, ByteArray.size]
theorem B6h : F4 K5 = 1 := by simp [K5, F4, H4]
theorem B6i (e : Tm) (G : IM) (cells : List Value) (hcnt : F4 e ≤ 4294967296) (hr : B6 G e cells) :
  Fn Tryz.prog 40 [.agg ⟨cells⟩] [] G (B6e G) := by
 have hl := hr.len
 have hone := hr.one
 refine C7 Tryz.func40 rfl Tryz.ntmps40 Tryz.results40 rfl ?_
 intro w0
 refine A4 ?_
 refine sE (D5 rfl rfl) rfl (fun b3 => ?_)
 refine sE (A8 rfl) rfl (fun b4 => ?_)
 refine sE (A8 rfl) rfl (fun b5 => ?_)
 refine A9 ?_
 refine sL (A5 rfl rfl (B7 zP) zT) rfl rfl ?_
 (refine F9 rfl (A9g e _ _ zW hr) rfl rfl (fun v G1 hle1 hh => ?_); obtain ⟨mt, mc, mx, rfl, hmr, hma, hms, hmv⟩ := hh; obtain ⟨pt, ct, et, rfl, _⟩ := hmr.open; cases mx)
 refine B3 ?_
 refine sE (A8 rfl) rfl (fun b16 => ?_)
 refine A2s ?_
 refine H5 (rC rfl (A3 rfl rfl)) (rC rfl (A3 rfl rfl)) (rT rfl) ?_
 (exact ⟨rfl, K5, _, .mk 0 [], _, _, rfl, B6f _, B6g, by rw [B6h]; omega, J8 _ ⟨by omega, by omega⟩, M6 zW zW, by rw [X5]; omega⟩)
 refine B3 ?_
 refine sE (A8 rfl) rfl (fun b45 => ?_)
 refine N4 ?_
 refine sL (A5 rfl rfl (B7 zP) zT) rfl rfl ?_
 (have hv := (A4Y e).1 (hmv rfl); have hv2 := hv.2; have hI := B4p e 1 G1 none 0 0 1 cells hv.1 zW (S4.nil _) (hr.mono hle1) zW zW; refine F9 rfl hI rfl rfl (fun v G2 hle2 hh => ?_); obtain ⟨u, cu, t, tc, l3, rfl, hru, hu1, hu2, hrt, ht1, ht2, _⟩ := hh; obtain ⟨qt, dt, et2, rfl, _⟩ := hrt.open; have hlu := hru.len; have hou := hru.one)
 refine C3 ?_
 refine sE (A8 rfl) rfl (fun b68 => ?_)
 refine sE (A8 rfl) rfl (fun b69 => ?_)
 refine P3 rfl rfl rfl hlu hou rfl zO (by exact C6 (by first | exact hlu.symm | omega)) ?_
 refine A9 ?_
 refine D2 D3 rfl ?_
 refine M3 (i := 0) (l' := [tt,ff,ff,ff,ff]) rfl C8 (A5 rfl rfl (B7 zP) hlu) rfl zU rfl rfl ?_
 refine aL 1 rfl (A3 rfl rfl) rfl ?_
 refine A1 2 ?_
 refine A02 rfl rfl rfl rfl hlu hou rfl rfl zO (by exact C6 hlu.symm) zG ?_
 refine A1 3 ?_
 refine A02 rfl rfl rfl rfl rfl rfl rfl rfl zO (by rfl) zG ?_
 refine aP 4 rfl (qA rfl) rfl ?_
 refine B3 ?_
 refine H5 (rC rfl (A5 rfl rfl (B7 zP) hlu)) (rC rfl (A3 rfl rfl)) (rT rfl) ?_
 (exact ⟨rfl, u, _, t, _, _, rfl, hru, hu1, by omega, hrt, ht1, by omega⟩)
theorem A4g (br : Nat) (pb : Option Addr) (nb cb : Nat) (bs : List UInt8) (hnb : nb ≤ 2000) (p : Nat) (G : IM) (hb : Sl G pb nb cb 1 (N5 bs)) (hp : p + 200 < 1099511627776) (t : Tm) (cells : List Value) (N : Nat) (hfit : t.fit N) (hr : B6 G t cells) :
  Fn Tryz.prog 55 [.pointer (some ⟨br, 0, none⟩), .agg ⟨cells⟩] [rd br pb nb cb p] G
   (Y9 br pb nb cb p 100 (fun G' v => ∃ t cells, v = .agg ⟨cells⟩ ∧ B6 G' t cells ∧ t.fit N)) := by
 have hl := hr.len
 have hone := hr.one
 refine C7 Tryz.func55 rfl Tryz.ntmps55 Tryz.results55 rfl ?_
 intro w0
 refine A4 ?_
 refine sE (D5 rfl rfl) rfl (fun b3 => ?_)
 refine sE (A8 rfl) rfl (fun b4 => ?_)
 refine A9 ?_
 refine sL (A5 rfl rfl (B7 zP) zT) rfl rfl ?_
 (have hcall := B4h br pb nb cb bs hnb p _ hb zW t cells N hfit hr; refine I0 rfl hcall (Pk.perm zN) rfl rfl (fun v Gn outs hle1 hh => ?_); obtain ⟨p1, hp11, hp12, rfl, t1, c1, rfl, hr1, hf1, hc1⟩ := hh; obtain ⟨k, nm, num, ⟨tk, tks⟩, ⟨fk, fks⟩, lb, ks⟩ := t1; obtain ⟨q1, d1, q2, d2, q3, d3, es, rfl, hk, hnum, hlb, hty, hfr, hsl, hkl⟩ := hr1.open9; have hsm := hf1; simp only [Tm.small] at hsm; obtain ⟨hs1, hs2, hs3, _⟩ := hsm; replace hb := hb.mono hle1)
 refine sE (A8 rfl) rfl (fun b12 => ?_)
 refine B5 ?_
 (refine I0 rfl (S2 _ br pb nb cb (p1) bs 40 hb hnb zW) (Pk.perm zN) rfl rfl (fun v Gp outs hle20 hh => ?_); obtain ⟨rfl, rfl, j20, rfl, hj20, hk20⟩ := hh; skip)
 replace hr1 := hr1.mono hle20
 replace hty := hty.mono hle20
 replace hfr := hfr.mono hle20
 replace hsl := hsl.mono hle20
 replace hkl := hkl.mono hle20
 replace hb := hb.mono hle20
 refine A4 ?_
 refine C2 (tS (tR (sB (qE rfl rfl) rfl rfl (fun h26 => ?_) (fun h26 => ?_))))
 refine A7 ?_
 (refine J1 (C9 rfl rfl rfl zW zR rfl) rfl ?_; rintro _ ⟨b33, rfl⟩)
 (refine S9 zN (fun Gf hlef hslf _ => ?_); refine I0 rfl (Z4 Gf br pb nb cb (p1 + 1) bs _ _ _ _ (hb.mono hlef) hnb zW hslf zV) (Pk.perm zN) rfl rfl (fun v Gm outs hlen hh => ?_); obtain ⟨rfl, rfl, hv⟩ := hh; replace hb := hb.mono hlef; obtain ⟨kn, rfl, hkn⟩ : ∃ k, v = .int .i64 k ∧ E8 k := (by simp only [List.mem_cons, List.not_mem_nil, or_false] at hv; rcases hv with rfl | rfl | rfl | rfl <;> exact ⟨_, rfl, by unfold E8; omega⟩); have hrN := B6.of9 (nm := nm) hk hnum hkn (hty.mono hlef) (hfr.mono hlef) (hsl.mono hlef) (hkl.mono hlef))
 refine N8 ?_
 refine H7 (outs := [rd br pb nb cb (p1 + 1 + 1)]) (rC rfl (A3 rfl rfl)) zH ?_
 (exact ⟨p1 + 1 + 1, by omega, by omega, rfl, _, _, rfl, hrN, A1K hf1 hs1 hs2 hs3, hc1⟩)
 refine A7 ?_
 refine sB (qE rfl rfl) rfl rfl (fun h55 => ?_) (fun h55 => ?_)
 refine B5 ?_
 (have hcall := A81 br pb nb cb bs hnb (p1 + 1) _ hb zW; refine I0 rfl hcall (Pk.perm zN) rfl rfl (fun v Gn outs hle3 hh => ?_); obtain ⟨p3, hp31, hp32, rfl, t3, cells3, rfl, hr3, hs4⟩ := hh; replace hb := hb.mono hle3)
 (have hcall := A82 br pb nb cb bs hnb p3 _ hb zW t3 cells3 hr3 hs4; refine I0 rfl hcall (Pk.perm zN) rfl rfl (fun v Gn outs hle4 hh => ?_); obtain ⟨p4, hp41, hp42, rfl, t4, cells4, rfl, hr4, hs5⟩ := hh; have hts4 := A2Y t4 zW; obtain ⟨t4k, t4s⟩ := t4; obtain ⟨q4, c4, es4, rfl, _⟩ := hr4.open; have hle24 := hle3.trans hle4; have hrM := B6.of9 (nm := nm) hk hnum hlb (hty.mono hle24) hr4 (hsl.mono hle24) (hkl.mono hle24))
 refine N8 ?_
 refine H7 (outs := [rd br pb nb cb p4]) (rC rfl (A3 rfl rfl)) zH ?_
 (exact ⟨p4, by omega, by omega, rfl, _, _, rfl, hrM, A1K hf1 hs1 hs2 hts4, hc1⟩)
 refine N1 ?_
 refine H7 (outs := [rd br pb nb cb (p1 + 1)]) (rC rfl (A3 rfl rfl)) zH ?_
 (exact ⟨p1 + 1, by omega, by omega, rfl, _, _, rfl, hr1, hf1, hc1⟩)
theorem B6j (br : Nat) (pb : Option Addr) (nb cb : Nat) (bs : List UInt8) (hnb : nb ≤ 2000) (p : Nat) (G : IM) (hb : Sl G pb nb cb 1 (N5 bs)) (hp : p + 9100000 < 1099511627776) :
  Fn Tryz.prog 50 [.pointer (some ⟨br, 0, none⟩)] [rd br pb nb cb p] G
   (Y9 br pb nb cb p 9100000 (fun G' v => ∃ e cells, v = .agg ⟨cells⟩ ∧ B6 G' e cells ∧ e.fit 100)) := by
 refine C7 Tryz.func50 rfl Tryz.ntmps50 Tryz.results50 rfl ?_
 intro w0
 refine A4 ?_
 refine sE (A8 rfl) rfl (fun b3 => ?_)
 refine A9 ?_
 (have hcall := B6d br pb nb cb bs hnb p _ hb zW; refine I0 rfl hcall (Pk.perm zN) rfl rfl (fun v Gn outs hleT hh => ?_); obtain ⟨pT, hpT1, hpT2, rfl, eT, cT, rfl, hrT, hcT⟩ := hh; replace hb := hb.mono hleT)
 (refine F9 rfl (B6i eT _ _ zW hrT) rfl rfl (fun v G9 hle9 hh => ?_); obtain ⟨u0, cu0, t0, ct0, ok0, rfl, hru0, hsu0, hcu0, hrt0, hat0, hst0⟩ := hh; have hl0 := hru0.len; have ho0 := hru0.one; have hl1 := hrt0.len; have ho1 := hrt0.one; replace hb := hb.mono hle9; cases ok0)
 refine C3 ?_
 refine sE (A8 rfl) rfl (fun b15 => ?_)
 refine sE (A8 rfl) rfl (fun b16 => ?_)
 refine P3 rfl rfl rfl hl0 ho0 rfl zO (by exact C6 (by first | exact hl0.symm | omega)) ?_
 refine P3 rfl rfl rfl hl1 ho1 rfl zO (by exact C6 (by first | exact hl1.symm | omega)) ?_
 refine J2 ?_
 refine E6 rfl ((A2z _ _)) rfl rfl ?_
 refine A9 ?_
 refine H7 (outs := [rd br pb nb cb pT]) (rC rfl (A3 rfl rfl)) zH ?_
 (exact ⟨pT, by omega, by omega, rfl, _, _, rfl, A1h ⟨by omega, by omega⟩ ⟨by omega, by omega⟩, A8E _ (by rw [A1I]; decide), by simp only [F4, H4]; omega⟩)
 refine C3 ?_
 refine sE (A8 rfl) rfl (fun b44 => ?_)
 refine sE (A8 rfl) rfl (fun b45 => ?_)
 refine P3 rfl rfl rfl hl0 ho0 rfl zO (by exact C6 (by first | exact hl0.symm | omega)) ?_
 refine P3 rfl rfl rfl hl1 ho1 rfl zO (by exact C6 (by first | exact hl1.symm | omega)) ?_
 refine P6 ?_
 (refine I0 rfl (S2 _ br pb nb cb (pT) bs 3 hb hnb zW) (Pk.perm zN) rfl rfl (fun v Gp outs hle65 hh => ?_); obtain ⟨rfl, rfl, j65, rfl, hj65, hk65⟩ := hh; obtain ⟨i0, rfl⟩ := Int.eq_ofNat_of_zero_le hj65; have hi0 := hk65)
 replace hru0 := hru0.mono hle65
 replace hrt0 := hrt0.mono hle65
 replace hb := hb.mono hle65
 refine B3 ?_
 refine C2 ?_
 (refine L4 (fun (x : Nat × List Value × List Value × Nat × IM) => ⟨[(6, .int .i64 x.1), (0, .pointer (some ⟨br, 0, none⟩)), (2, .pointer (some ⟨b3, 0, none⟩)), (3, .pointer (some ⟨b44, 0, none⟩)), (4, .pointer (some ⟨b45, 0, none⟩))], [.blk b44 x.2.1, .blk b45 x.2.2.1, rd br pb nb cb x.2.2.2.1, .blk b3 [.int .i64 0, .string ⟨⟨[]⟩⟩, .int .i64 0, .int .i64 0, .slice none 0 0, .int .i64 0, .slice none 0 0, .int .i64 0, .slice none 0 0]], x.2.2.2.2⟩) (fun x => x.1 ≤ 2 ∧ C1 Gp x.2.2.2.2 ∧ (∃ e, B6 x.2.2.2.2 e x.2.1 ∧ e.small ∧ F4 e + x.1 ≤ 62) ∧ (∃ t, B8 x.2.2.2.2 t x.2.2.1 ∧ E5 t ∧ H6 t ≤ 960) ∧ pT + 1 ≤ x.2.2.2.1 ∧ x.2.2.2.1 + x.1 * 2000 ≤ pT + 1 + 4000) (fun x => x.1) (i0, cu0, ct0, pT + 1, Gp) ?_ ?_ ?_)
 (simp only [J7]; exact E3)
 (exact ⟨by dsimp only; omega, C1.refl _, ⟨u0, hru0, hsu0, by dsimp only; omega⟩, ⟨t0, hrt0, hat0, hst0⟩, Nat.le_refl _, by dsimp only; omega⟩)
 (rintro ⟨(i : Nat), ce, ct, (p1 : Nat), G1⟩ ⟨hi, hleL, ⟨e, hre, hse, hce⟩, ⟨t, hrt, hat, hst⟩, hpL, hpL2⟩; simp only [] at hi hleL hre hse hce hrt hat hst hpL hpL2 ⊢; replace hb := hb.mono hleL; have hl2 := hre.len; have ho2 := hre.one; have hl3 := hrt.len; have ho3 := hrt.one; have hnt := A0g t)
 refine C3 ?_
 refine sB (A0l rfl rfl) rfl rfl (fun h78 => ?_) (fun h78 => ?_)
 refine A7 ?_
 (show I9 _ _ (.block 1 ..) _ _; obtain ⟨j, rfl⟩ : ∃ j, i = j + 1 := ⟨i - 1, by omega⟩; refine C2 ?_)
 refine B3 ?_
 refine sL (A5 rfl rfl (B7 zP) hl3) rfl rfl ?_
 (have hcall := A42 br pb nb cb bs hnb t p1 _ _ hat hrt hb zW; refine I0 rfl hcall (Pk.perm zN) rfl rfl (fun v Gn outs hleu hh => ?_); obtain ⟨p2, hp21, hp22, rfl, u, cu, rfl, hru, hua, hus, huh⟩ := hh; have hl4 := hru.len; have ho4 := hru.one; replace hb := hb.mono hleu; replace hrt := hrt.mono hleu; replace hre := hre.mono hleu; replace hleL := hleL.trans hleu)
 refine sE (A8 rfl) rfl (fun b91 => ?_)
 refine P3 rfl rfl rfl hl4 ho4 rfl zO (by exact C6 (by first | exact hl4.symm | omega)) ?_
 refine A7 ?_
 (refine I0 rfl (S2 _ br pb nb cb (p2) bs 2 hb hnb zW) (Pk.perm zN) rfl rfl (fun v Gp outs hle99 hh => ?_); obtain ⟨rfl, rfl, j99, rfl, hj99, hk99⟩ := hh; have hpickA := hj99)
 replace hru := hru.mono hle99
 replace hb := hb.mono hle99
 replace hrt := hrt.mono hle99
 replace hre := hre.mono hle99
 refine sB (qE rfl rfl) rfl rfl (fun h100 => ?_) (fun h100 => ?_)
 refine A9 ?_
 (have hcall := A80 br pb nb cb bs hnb (p2 + 1) _ hb zW; refine I0 rfl hcall (Pk.perm zN) rfl rfl (fun v Gn outs hlew hh => ?_); obtain ⟨p3, hp31, hp32, rfl, w, cw, rfl, hrw, hws, hwh⟩ := hh; have hl5 := hrw.len; have ho5 := hrw.one; have hwa := hwh.ar; replace hb := hb.mono hlew; replace hrt := hrt.mono hlew; replace hre := hre.mono hlew; replace hleL := hleL.trans hlew)
 refine P3 rfl rfl rfl hl5 ho5 rfl zO (by exact C6 (by first | exact hl5.symm | omega)) ?_
 refine C3 ?_
 refine sL (A5 rfl rfl (B7 zP) hl3) rfl rfl ?_
 refine sL (A5 rfl rfl (B7 zP) hl5) rfl rfl ?_
 refine J0 rfl ((A05 t w _ _ _ hat hwa hrt hrw)) rfl rfl (fun h114 => ?_) (fun h114 => ?_)
 refine A7 ?_
 refine sP (K9 rfl rfl zW zW) rfl rfl ?_
 refine B5 ?_
 (refine I0 rfl (S2 _ br pb nb cb (p3) bs 3 hb hnb zW) (Pk.perm zN) rfl rfl (fun v Gp outs hle129 hh => ?_); obtain ⟨rfl, rfl, j129, rfl, hj129, hk129⟩ := hh; have hpickB := hwa)
 replace hrw := hrw.mono hle129
 replace hb := hb.mono hle129
 replace hrt := hrt.mono hle129
 replace hre := hre.mono hle129
 refine sB (qE rfl rfl) rfl rfl (fun h130 => ?_) (fun h130 => ?_)
 refine A9 ?_
 refine sP (A3F rfl zW zW) rfl rfl ?_
 refine A9 ?_
 refine sL (A5 rfl rfl (B7 zP) hl2) rfl rfl ?_
 refine sL (A5 rfl rfl (B7 zP) hl3) rfl rfl ?_
 refine sL (A5 rfl rfl (B7 zP) hl5) rfl rfl ?_
 refine F8 ?_
 (refine F9 rfl (A3Z e t w _ _ _ _ _ zW hre hrt hrw hat hwa) rfl rfl (fun v G8 hle8 hh => ?_); obtain ⟨y, cy, ly, rfl, hry, hsy, hcy, _⟩ := hh; have hl6 := hry.len; have ho6 := hry.one; replace hb := hb.mono hle8; have hrN := hrw.mono hle8; replace hleL := hleL.trans hle8; have hNa := hwa; have hNs : H6 w ≤ 960 := zW)
 refine B3 ?_
 refine P3 rfl rfl rfl hl6 ho6 rfl zO (by exact C6 (by first | exact hl6.symm | omega)) ?_
 refine B3 ?_
 refine sL (A5 rfl rfl (B7 zP) hl5) rfl rfl ?_
 refine P3 rfl rfl rfl hl5 ho5 rfl zO (by exact C6 (by first | exact hl5.symm | omega)) ?_
 refine A9 ?_
 refine sP (A1e rfl rfl zW) rfl rfl ?_
 refine A4 ?_
 refine K3 (j, cy, cw, p3 + 1, G8) ?_ ?_ ?_
 (simp only [J7]; exact E3)
 (dsimp only; exact ⟨by omega, hleL, ⟨y, hry, hsy hse, by omega⟩, ⟨_, hrN, hNa, hNs⟩, by omega, by omega⟩)
 (show _ < _ + 1; omega)
 refine B5 ?_
 refine sL (A5 rfl rfl (B7 zP) hl2) rfl rfl ?_
 refine sL (A5 rfl rfl (B7 zP) hl3) rfl rfl ?_
 refine sL (A5 rfl rfl (B7 zP) hl5) rfl rfl ?_
 refine F8 ?_
 (refine F9 rfl (A3Z e t w _ _ _ _ _ zW hre hrt hrw hat hwa) rfl rfl (fun v G8 hle8 hh => ?_); obtain ⟨y, cy, ly, rfl, hry, hsy, hcy, _⟩ := hh; have hl6 := hry.len; have ho6 := hry.one; replace hb := hb.mono hle8; have hrN := hrw.mono hle8; replace hleL := hleL.trans hle8; have hNa := hwa; have hNs : H6 w ≤ 960 := zW)
 refine B3 ?_
 refine P3 rfl rfl rfl hl6 ho6 rfl zO (by exact C6 (by first | exact hl6.symm | omega)) ?_
 refine B3 ?_
 refine sL (A5 rfl rfl (B7 zP) hl5) rfl rfl ?_
 refine P3 rfl rfl rfl hl5 ho5 rfl zO (by exact C6 (by first | exact hl5.symm | omega)) ?_
 refine A9 ?_
 refine sP (A1e rfl rfl zW) rfl rfl ?_
 refine A4 ?_
 refine K3 (j, cy, cw, p3 + 1, G8) ?_ ?_ ?_
 (simp only [J7]; exact E3)
 (dsimp only; exact ⟨by omega, hleL, ⟨y, hry, hsy hse, by omega⟩, ⟨_, hrN, hNa, hNs⟩, by omega, by omega⟩)
 (show _ < _ + 1; omega)
 refine E7 ?_
 refine sP (A1e rfl rfl zW) rfl rfl ?_
 refine A4 ?_
 refine K3 (j, ce, ct, p3, Gn) ?_ ?_ ?_
 (simp only [J7]; exact E3)
 (dsimp only; exact ⟨by omega, hleL, ⟨e, hre, hse, by omega⟩, ⟨t, hrt, hat, hst⟩, by omega, by omega⟩)
 (show _ < _ + 1; omega)
 refine B5 ?_
 refine sL (A5 rfl rfl (B7 zP) hl3) rfl rfl ?_
 refine sL (A5 rfl rfl (B7 zP) hl4) rfl rfl ?_
 refine J0 rfl ((A05 t u _ _ _ hat hua hrt hru)) rfl rfl (fun h225 => ?_) (fun h225 => ?_)
 refine A7 ?_
 refine sP (K9 rfl rfl zW zW) rfl rfl ?_
 refine B5 ?_
 (refine I0 rfl (S2 _ br pb nb cb (p2 + 1) bs 3 hb hnb zW) (Pk.perm zN) rfl rfl (fun v Gp outs hle240 hh => ?_); obtain ⟨rfl, rfl, j240, rfl, hj240, hk240⟩ := hh; have hpickB := hua)
 replace hru := hru.mono hle240
 replace hb := hb.mono hle240
 replace hrt := hrt.mono hle240
 replace hre := hre.mono hle240
 refine sB (qE rfl rfl) rfl rfl (fun h241 => ?_) (fun h241 => ?_)
 refine A9 ?_
 refine sP (A3F rfl zW zW) rfl rfl ?_
 refine A9 ?_
 refine sL (A5 rfl rfl (B7 zP) hl2) rfl rfl ?_
 refine sL (A5 rfl rfl (B7 zP) hl3) rfl rfl ?_
 refine sL (A5 rfl rfl (B7 zP) hl4) rfl rfl ?_
 refine F8 ?_
 (refine F9 rfl (A3Z e t u _ _ _ _ _ zW hre hrt hru hat hua) rfl rfl (fun v G8 hle8 hh => ?_); obtain ⟨y, cy, ly, rfl, hry, hsy, hcy, _⟩ := hh; have hl6 := hry.len; have ho6 := hry.one; replace hb := hb.mono hle8; have hrN := hru.mono hle8; replace hleL := hleL.trans hle8; have hNa := hua; have hNs : H6 u ≤ 960 := zW)
 refine B3 ?_
 refine P3 rfl rfl rfl hl6 ho6 rfl zO (by exact C6 (by first | exact hl6.symm | omega)) ?_
 refine B3 ?_
 refine sL (A5 rfl rfl (B7 zP) hl4) rfl rfl ?_
 refine P3 rfl rfl rfl hl4 ho4 rfl zO (by exact C6 (by first | exact hl4.symm | omega)) ?_
 refine A9 ?_
 refine sP (A1e rfl rfl zW) rfl rfl ?_
 refine A4 ?_
 refine K3 (j, cy, cu, p2 + 1 + 1, G8) ?_ ?_ ?_
 (simp only [J7]; exact E3)
 (dsimp only; exact ⟨by omega, hleL, ⟨y, hry, hsy hse, by omega⟩, ⟨_, hrN, hNa, hNs⟩, by omega, by omega⟩)
 (show _ < _ + 1; omega)
 refine B5 ?_
 refine sL (A5 rfl rfl (B7 zP) hl2) rfl rfl ?_
 refine sL (A5 rfl rfl (B7 zP) hl3) rfl rfl ?_
 refine sL (A5 rfl rfl (B7 zP) hl4) rfl rfl ?_
 refine F8 ?_
 (refine F9 rfl (A3Z e t u _ _ _ _ _ zW hre hrt hru hat hua) rfl rfl (fun v G8 hle8 hh => ?_); obtain ⟨y, cy, ly, rfl, hry, hsy, hcy, _⟩ := hh; have hl6 := hry.len; have ho6 := hry.one; replace hb := hb.mono hle8; have hrN := hru.mono hle8; replace hleL := hleL.trans hle8; have hNa := hua; have hNs : H6 u ≤ 960 := zW)
 refine B3 ?_
 refine P3 rfl rfl rfl hl6 ho6 rfl zO (by exact C6 (by first | exact hl6.symm | omega)) ?_
 refine B3 ?_
 refine sL (A5 rfl rfl (B7 zP) hl4) rfl rfl ?_
 refine P3 rfl rfl rfl hl4 ho4 rfl zO (by exact C6 (by first | exact hl4.symm | omega)) ?_
 refine A9 ?_
 refine sP (A1e rfl rfl zW) rfl rfl ?_
 refine A4 ?_
 refine K3 (j, cy, cu, p2 + 1 + 1, G8) ?_ ?_ ?_
 (simp only [J7]; exact E3)
 (dsimp only; exact ⟨by omega, hleL, ⟨y, hry, hsy hse, by omega⟩, ⟨_, hrN, hNa, hNs⟩, by omega, by omega⟩)
 (show _ < _ + 1; omega)
 refine E7 ?_
 refine sP (A1e rfl rfl zW) rfl rfl ?_
 refine A4 ?_
 refine K3 (j, ce, ct, p2 + 1, Gp) ?_ ?_ ?_
 (simp only [J7]; exact E3)
 (dsimp only; exact ⟨by omega, hleL, ⟨e, hre, hse, by omega⟩, ⟨t, hrt, hat, hst⟩, by omega, by omega⟩)
 (show _ < _ + 1; omega)
 refine I2 ?_
 refine sL (A5 rfl rfl (B7 zP) hl2) rfl rfl ?_
 refine P3 rfl rfl rfl zT zT rfl zO (by exact C6 (by symm; assumption)) ?_
 refine B3 ?_
 refine H7 (outs := [rd br pb nb cb p1]) (rC rfl (A5 rfl rfl (B7 zP) hl2)) zH ?_
 (exact ⟨p1, by omega, by omega, rfl, e, _, rfl, hre, hse, by omega⟩)
def B8W (G : IM) : IM → Value → List A6 → Prop := K1 fun G' v => ∃ t cells l q c, v = .tuple ⟨[.agg ⟨cells⟩, .slice q l.length c]⟩ ∧ B6 G' t cells ∧ t.fit 100 ∧ Sl G' q l.length c 1 (ints l) ∧ l.length ≤ 100
def B8X (ts : List Tm) (G : IM) : IM → Value → List A6 → Prop := K1 fun G' v => ∃ p c es, v = .slice p ts.length c ∧ D0 G' p ts.length c 9 es ∧ H3 G' ts es
def B8Y (ts : List Ty) (G : IM) : IM → Value → List A6 → Prop := K1 fun G' v => ∃ p c es, v = .slice p ts.length c ∧ D0 G' p ts.length c 2 es ∧ E9 G' ts es
def B80 (t : Tm) : Tm × Bool := if K2 t = true ∧ (A2K t).length ≤ 99 then ((mRl t 0).1, true) else (K5, false)
mutual
def L7 : Tm → Prop
 | .mk k _ _ _ _ _ ks => (k = 14 → ks.length = 1) ∧ Z9 ks
def Z9 : List Tm → Prop
 | [] => True
 | t :: ts => L7 t ∧ Z9 ts
end
theorem B1a : ∀ {ks : List Tm}, Z9 ks → ∀ t ∈ ks, L7 t
 | [], _, t, h => by simp at h
 | u :: us, h, t, ht => by
  rw [Z9] at h
  rcases List.mem_cons.1 ht with rfl | ht
  ·exact h.1
  ·exact B1a h.2 t ht
theorem A2L {k : Int} {nm : ByteArray} {num : Int} {ty fr : Ty} {lb : Int} {ks : List Tm} (h : L7 (.mk k nm num ty fr lb ks)) (hk : k = 14) : ∃ a, ks = [a] ∧ L7 a := by
 rw [L7] at h
 match ks, h.1 hk with
 | [a], _ => exact ⟨a, rfl, by have := h.2; rw [Z9] at this; exact this.1⟩
theorem B1b : ∀ t : Tm, cv t → L7 t := by
 refine Tm.ind fun k nm num ty fr lb ks ih hc => ?_
 obtain ⟨hN, hk⟩ := hc.node
 have hops := hN.ops
 rw [L7]
 refine ⟨fun h => ?_, ?_⟩
 ·rw [h] at hops; have : F7 14 = 1 := rfl; omega
 ·clear hN hops hc
  induction ks with
  | nil => rw [Z9]; trivial
  | cons t ts ihl =>
   rw [Z9]
   exact ⟨ih t List.mem_cons_self (hk t List.mem_cons_self), ihl (fun u hu => ih u (List.mem_cons_of_mem _ hu)) fun u hu => hk u (List.mem_cons_of_mem _ hu)⟩
theorem B6k {t : Tm} (h : L7 t) : L7 (O5 t) := by
 obtain ⟨k, nm, num, ty, fr, lb, ks⟩ := t
 by_cases hk : k = 14
 ·obtain ⟨a, rfl, ha⟩ := A2L h hk
  unfold O5
  split
  ·exact h
  ·split
   ·exact ha
   ·split
    ·rename_i h3
     obtain ⟨ak, anm, anum, aty, afr, alb, aks⟩ := a
     obtain ⟨b, rfl, hb⟩ := A2L ha h3.2.1
     exact hb
    ·exact h
 ·rw [show O5 (.mk k nm num ty fr lb ks) = .mk k nm num ty fr lb ks from if_pos hk]; exact h
mutual
theorem B6l : ∀ t : Tm, L7 t → L7 (Q0 O5 t)
 | .mk k nm num ty fr lb ks, h => by
  rw [Q0]
  refine B6k ?_
  rw [L7] at h ⊢
  exact ⟨fun hk => by rw [A3P, List.length_map]; exact h.1 hk, A5q ks h.2⟩
theorem A5q : ∀ ks : List Tm, Z9 ks → Z9 (O0 O5 ks)
 | [], _ => by rw [O0, Z9]; trivial
 | t :: ts, h => by
  rw [Z9] at h
  rw [O0, Z9]
  exact ⟨B6l t h.1, A5q ts h.2⟩
end
mutual
theorem B1c : ∀ t : Tm, L7 t → mOk L7 O5 t
 | .mk k nm num ty fr lb ks, h => by
  rw [L7] at h
  rw [mOk, L7]
  exact ⟨B1d ks h.2, fun hk => by rw [A3P, List.length_map]; exact h.1 hk, A5q ks h.2⟩
theorem B1d : ∀ ks : List Tm, Z9 ks → A2v L7 O5 ks
 | [], _ => by rw [A2v]; trivial
 | t :: ts, h => by
  rw [Z9] at h
  rw [A2v]
  exact ⟨B1c t h.1, B1d ts h.2⟩
end
def cq1 (t : Tm) : Prop := t.k = 14 → t.ks.length = 1
theorem A7h {k : Int} {nm : ByteArray} {num : Int} {ty fr : Ty} {lb : Int} {ks : List Tm} (h : k ≠ 14) : O5 (.mk k nm num ty fr lb ks) = .mk k nm num ty fr lb ks := if_pos h
theorem B1e {nm : ByteArray} {num : Int} {ty fr : Ty} {lb : Int} {a : Tm} (h : H9 fr ty = true) : O5 (.mk 14 nm num ty fr lb [a]) = a := by
 unfold O5; rw [if_neg (fun h => h rfl)]; exact if_pos h
theorem B1f {nm : ByteArray} {num : Int} {ty fr : Ty} {lb : Int} {a : Tm} (h : H9 fr ty = false) (h2 : fr.k = 1 ∧ a.k = 14 ∧ a.ty.k = 1 ∧ H9 ty a.fr = true) : O5 (.mk 14 nm num ty fr lb [a]) = kd a.ks 0 := by
 unfold O5; rw [if_neg (fun h => h rfl), if_neg (by show ¬ H9 fr ty = true; rw [h]; decide)]; exact if_pos h2
theorem B1g {nm : ByteArray} {num : Int} {ty fr : Ty} {lb : Int} {a : Tm} (h : H9 fr ty = false) (h2 : ¬(fr.k = 1 ∧ a.k = 14 ∧ a.ty.k = 1 ∧ H9 ty a.fr = true)) : O5 (.mk 14 nm num ty fr lb [a]) = .mk 14 nm num ty fr lb [a] := by
 unfold O5; rw [if_neg (fun h => h rfl), if_neg (by show ¬ H9 fr ty = true; rw [h]; decide)]; exact if_neg h2
theorem B6m (t : Tm) (G : IM) (cells : List Value) (hq : L7 t) (hr : B6 G t cells) : Fn Tryz.prog 24 [.agg ⟨cells⟩] [] G (TmP (O5 t)) := by
 have hr0 := hr
 obtain ⟨k, nm, num, ⟨tk, tks⟩, ⟨fk, fks⟩, lb, ks⟩ := t
 by_cases hk14 : k = 14
 ·subst hk14
  obtain ⟨a, rfl, hqa⟩ := A2L hq rfl
  obtain ⟨ak, anm, anum, ⟨atk, atks⟩, ⟨afk, afks⟩, alb, aks⟩ := a
  obtain ⟨pt, ct, pf, cf, p, c, es, rfl, hk, hnum, hlb, hty, hfr, hsl, hkl⟩ := hr.open9
  have hS1 := A45 (.mk fk fks) (.mk tk tks) G _ _ hfr hty
  have hid := @B1e nm num (.mk tk tks) (.mk fk fks) lb (.mk ak anm anum (.mk atk atks) (.mk afk afks) alb aks)
  have hbk := @B1f nm num (.mk tk tks) (.mk fk fks) lb (.mk ak anm anum (.mk atk atks) (.mk afk afks) alb aks)
  have hst := @B1g nm num (.mk tk tks) (.mk fk fks) lb (.mk ak anm anum (.mk atk atks) (.mk afk afks) alb aks)
  generalize O5 (.mk 14 nm num (.mk tk tks) (.mk fk fks) lb [.mk ak anm anum (.mk atk atks) (.mk afk afks) alb aks]) = R at hid hbk hst ⊢
  obtain ⟨bx, ox, e, rfl, hl, hat, hre, hgb⟩ := hsl.kidTm hkl (i := 0) zX zX
  have heo := hre.one
  simp only [List.getElem_cons_zero] at hre
  obtain ⟨apt, act, apf, acf, ap, ac, aes, rfl, hak, hanum, halb, haty, hafr, hasl, hakl⟩ := hre.open9
  have hS2 := A45 (.mk tk tks) (.mk afk afks) G _ _ hty hafr
  simp only [show ∀ a b, (Ty.mk a b).k = a from fun _ _ => rfl, show ∀ a b c d e f g, (Tm.mk a b c d e f g).k = a from fun _ _ _ _ _ _ _ => rfl, show ∀ a b c d e f g, (Tm.mk a b c d e f g).ty = d from fun _ _ _ _ _ _ _ => rfl, show ∀ a b c d e f g, (Tm.mk a b c d e f g).fr = e from fun _ _ _ _ _ _ _ => rfl, show ∀ a b c d e f g, (Tm.mk a b c d e f g).ks = g from fun _ _ _ _ _ _ _ => rfl] at hbk hst
  generalize H9 (.mk fk fks) (.mk tk tks) = s1 at hS1 hid hbk hst
  generalize H9 (.mk tk tks) (.mk afk afks) = s2 at hS2 hbk hst
  refine C7 Tryz.func24 rfl Tryz.ntmps24 Tryz.results24 rfl ?_
  intro w0
  refine A4 ?_
  refine sE (D5 rfl rfl) rfl (fun b3 => ?_)
  refine sE (A8 rfl) rfl (fun b4 => ?_)
  refine B5 ?_
  refine sP (A0Z rfl rfl zW) rfl rfl ?_
  refine D9 ?_
  refine sP (B1 (j := 0) rfl rfl rfl zX) rfl rfl ?_
  refine sL (A5 rfl rfl (hat _) rfl) rfl rfl ?_
  refine sE (A8 rfl) rfl (fun b24 => ?_)
  refine sS rfl rfl rfl rfl heo rfl ?_ (hu := by exact C6 rfl)
  refine B3 ?_
  refine C2 ?_
  refine A7 ?_
  refine J0 rfl (hS1) rfl rfl (fun h36 => ?_) (fun h36 => ?_)
  refine B5 ?_
  refine sS rfl rfl rfl rfl heo rfl ?_ (hu := by exact C6 rfl)
  refine A9 ?_
  refine L0 (rC rfl (A3 rfl rfl)) ?_
  (rw [hid zT]; exact ⟨rfl, _, rfl, hre⟩)
  refine D9 ?_
  refine sB (qE rfl rfl) rfl rfl (fun h61 => ?_) (fun h61 => ?_)
  refine B3 ?_
  refine sB (qE rfl rfl) rfl rfl (fun h65 => ?_) (fun h65 => ?_)
  refine A9 ?_
  refine sB (qE rfl rfl) rfl rfl (fun h71 => ?_) (fun h71 => ?_)
  refine A7 ?_
  refine J0 rfl (hS2) rfl rfl (fun h78 => ?_) (fun h78 => ?_)
  refine D9 ?_
  (obtain ⟨b, rfl, hqb⟩ := A2L hqa zW; obtain ⟨by1, oy, f, rfl, hfl, hfat, hrf, hfgb⟩ := hasl.kidTm hakl (i := 0) zX zX; have hfo := hrf.one; refine sP (B1 (j := 0) rfl rfl rfl zX) rfl rfl ?_)
  refine sL (A5 rfl rfl (hfat _) hfl) rfl rfl ?_
  refine sS rfl rfl rfl hfl hfo rfl ?_ (hu := by exact C6 hfl.symm)
  refine A9 ?_
  refine L0 (rC rfl (A5 rfl rfl (B7 zP) hfl)) ?_
  (rw [hbk zT ⟨by omega, by omega, by omega, by assumption⟩]; exact ⟨rfl, _, rfl, hrf⟩)
  refine I3 ?_
  refine sS rfl rfl rfl rfl heo rfl ?_ (hu := by exact C6 rfl)
  refine B3 ?_
  refine L0 (rC rfl (A3 rfl rfl)) ?_
  (rw [hst zT (by rintro ⟨q1, q2, q3, q4⟩; first | omega | simp_all)]; exact ⟨rfl, _, rfl, hr0⟩)
  refine X8 ?_
  refine sS rfl rfl rfl rfl heo rfl ?_ (hu := by exact C6 rfl)
  refine B3 ?_
  refine L0 (rC rfl (A3 rfl rfl)) ?_
  (rw [hst zT (by rintro ⟨q1, q2, q3, q4⟩; first | omega | simp_all)]; exact ⟨rfl, _, rfl, hr0⟩)
  refine A1U ?_
  refine sS rfl rfl rfl rfl heo rfl ?_ (hu := by exact C6 rfl)
  refine B3 ?_
  refine L0 (rC rfl (A3 rfl rfl)) ?_
  (rw [hst zT (by rintro ⟨q1, q2, q3, q4⟩; first | omega | simp_all)]; exact ⟨rfl, _, rfl, hr0⟩)
  refine A8b ?_
  refine sS rfl rfl rfl rfl heo rfl ?_ (hu := by exact C6 rfl)
  refine B3 ?_
  refine L0 (rC rfl (A3 rfl rfl)) ?_
  (rw [hst zT (by rintro ⟨q1, q2, q3, q4⟩; first | omega | simp_all)]; exact ⟨rfl, _, rfl, hr0⟩)
 ·obtain ⟨pt, ct, pf, cf, p, c, es, rfl, hk, hnum, hlb, hty, hfr, hsl, hkl⟩ := hr.open9
  rw [A7h hk14]
  refine C7 Tryz.func24 rfl Tryz.ntmps24 Tryz.results24 rfl ?_
  intro w0
  refine A4 ?_
  refine sE (D5 rfl rfl) rfl (fun b3 => ?_)
  refine sE (A8 rfl) rfl (fun b4 => ?_)
  refine B5 ?_
  refine sP (A1C rfl rfl zW) rfl rfl ?_
  refine I3 ?_
  refine L0 (rC rfl (A3 rfl rfl)) ?_
  (exact ⟨rfl, _, rfl, hr0⟩)
theorem B6n : A6B O5 L7 24 [] [] := fun t G cells hq hr => B6m t G cells hq hr
def TbR (r : Tm × Bool) : IM → Value → List A6 → Prop := K1 fun G' v => ∃ cells, v = .tuple ⟨[.agg ⟨cells⟩, .bool r.2]⟩ ∧ B6 G' r.1 cells
theorem TbR.mk {r : Tm × Bool} {x : Tm} {b : Bool} {G : IM} {cells : List Value} (h : r = (x, b)) (hr : B6 G x cells) : TbR r G (.tuple ⟨[.agg ⟨cells⟩, .bool b]⟩) [] := by
 subst h; exact ⟨rfl, cells, rfl, hr⟩
theorem A7i {e : Tm} (h : K2 e = true) : A1q e = (Q0 O5 e, true) := by unfold A1q; rw [if_pos h]
theorem B1h {e : Tm} (h : K2 e = false) : A1q e = (K5, false) := by unfold A1q; rw [if_neg (by rw [h]; decide)]
theorem B6o (t : Tm) (G : IM) (cells : List Value) (hr : B6 G t cells) : Fn Tryz.prog 7 [.agg ⟨cells⟩] [] G (TbR (A1q t)) := by
 have hl := hr.len
 have hone := hr.one
 have hV := A4T t G cells hr
 have hM := fun (h : K2 t = true) => B4C O5 L7 24 [] [] B6n (.slc none 0 3 1 0 []) t G cells (B1c t (B1b t (A12 h).1)) (B0t h) hr
 have hy := @A7i t
 have hn := @B1h t
 generalize A1q t = R at hy hn ⊢
 refine C7 Tryz.func7 rfl Tryz.ntmps7 Tryz.results7 rfl ?_
 intro w0
 refine A4 ?_
 refine sE (D5 rfl rfl) rfl (fun b3 => ?_)
 refine sE (A8 rfl) rfl (fun b4 => ?_)
 refine A7 ?_
 refine sL (A5 rfl rfl (B7 zP) hl) rfl rfl ?_
 refine J0 rfl (hV) rfl rfl (fun h12 => ?_) (fun h12 => ?_)
 refine E7 ?_
 refine sL (A5 rfl rfl (B7 zP) hl) rfl rfl ?_
 (refine B2T 3 1 ?_; refine I0 rfl (hM zT) (Pk.perm zN) rfl rfl (fun v3 G3 outs hle3 hh => ?_); obtain ⟨rfl, cu, rfl, hru⟩ := hh; have hul := hru.len; have huo := hru.one)
 refine sS rfl rfl rfl hul huo rfl ?_ (hu := by exact C6 hul.symm)
 refine C3 ?_
 refine E0 (rC rfl (A5 rfl rfl (B7 zP) hul)) (rT rfl) ?_
 (exact TbR.mk (hy zT) hru)
 refine J2 ?_
 refine E0 (rC rfl (A3 rfl rfl)) (rT rfl) ?_
 (exact TbR.mk (hn zT) (B0p _))
def B81 (e : Tm) : Tm × Bool := if K2 e = true then A6P (Q0 B5P e) else (K5, false)
def B82 (e : Tm) (l : Int) : Tm × Bool := match Y1 e with
 | some T => if A0e l = true then A6P (Q6 (Q6 e T Q5 l) Q5 T l) else (K5, false)
 | none => (K5, false)
theorem B1i {e : Tm} {T : Ty} (h : Y1 e = some T) : K2 e = true ∧ C5 [] e = some T := by
 unfold Y1 at h
 split at h
 ·exact ⟨by assumption, h⟩
 ·cases h
theorem B6p {e : Tm} {T : Ty} (h : Y1 e = some T) : T.small := by
 obtain ⟨h1, h2⟩ := B1i h
 exact (A6N ((A1Y e).1 h1).1 h2).small
def rlG (n : Int) : Tm → Tm × Int
 | .mk k nm num ty fr lb ks => if k = 14 then (.mk k nm num ty fr (n + 1) ks, n + 1) else (.mk k nm num ty fr lb ks, n)
def rlQ (n : Int) (_ : Tm) : Prop := 0 ≤ n ∧ n ≤ 1000
def T5 (k : Int) (ty fr : Ty) (h : List Ty) : Option Ty :=
 if k = 14 then (if H9 (h.getD 0 B4) fr = true then some ty else none)
 else if k = 6 then (if (h.getD 0 B4).k = 4 ∧ H9 ((h.getD 0 B4).ks.getD 0 B4) (h.getD 1 B4) = true then some ((h.getD 0 B4).ks.getD 1 B4) else none)
 else if k = 7 then (if H9 (h.getD 0 B4) N2 = true ∧ H9 (h.getD 1 B4) N2 = true then some N2 else none)
 else if k = 8 then (if H9 (h.getD 0 B4) N2 = true ∧ H9 (h.getD 1 B4) N2 = true then some R8 else none)
 else if k = 9 then (if H9 (h.getD 0 B4) R8 = true ∧ H9 (h.getD 1 B4) (h.getD 2 B4) = true then some (h.getD 1 B4) else none)
 else if k = 10 then (if M1 (.mk 5 [h.getD 0 B4, h.getD 1 B4]) = true then some (.mk 5 [h.getD 0 B4, h.getD 1 B4]) else none)
 else (if (h.getD 0 B4).k = 5 then some ((h.getD 0 B4).ks.getD (k - 11).toNat B4) else none)
theorem A2M {α : Type} {a b : Option α} (h : ∀ x, a = some x ↔ b = some x) : a = b := by
 cases a with
 | none => cases b with
  | none => rfl
  | some y => exact ((h y).2 rfl)
 | some x => exact ((h x).1 rfl).symm
theorem B6q {cx : Cx} {nm : ByteArray} {t : Ty} (n : Nat) (h : U4 cx nm n = some t) : ∃ b ∈ cx, b.2 = t := by
 induction n with
 | zero => rw [U4] at h; cases h
 | succ n ih =>
  cases hb : cx[n]? with
  | none => rw [U4, hb] at h; exact ih h
  | some b =>
   by_cases hn : b.1 = nm
   ·rw [A20 (x := b.1) (t := b.2) hb hn] at h
    simp only [Option.some.injEq] at h
    exact ⟨b, List.mem_of_getElem? hb, h⟩
   ·rw [A21 (x := b.1) (t := b.2) hb hn] at h
    exact ih h
theorem B6r {cx : Cx} {nm : ByteArray} {t : Ty} (hcv : cxV cx) (h : O9 cx nm = some t) : M1 t = true := by
 obtain ⟨b, hb, rfl⟩ := B6q _ h
 exact hcv b hb
section
variable {cx : Cx} {k : Int} {nm : ByteArray} {num : Int} {ty fr : Ty} {lb : Int} {ks : List Tm}
theorem B6s {h : List Ty} (hk : k = 6 ∨ k = 7 ∨ k = 8 ∨ k = 9 ∨ k = 10 ∨ k = 11 ∨ k = 12 ∨ k = 14) (hop : F7 k = (ks.length : Int)) (hu : J6 cx ks = some h) (hv : ∀ u ∈ h, M1 u = true) :
  C5 cx (.mk k nm num ty fr lb ks) = T5 k ty fr h := by
 have hin : M7 cx k nm ty = cx := if_neg zW
 have hu' : J6 (M7 cx k nm ty) ks = some h := by rw [hin]; exact hu
 rcases hk with rfl | hk
 ·
  match ks, hop with
  | [a, b], _ =>
   obtain ⟨x, y, hx, hy, rfl⟩ := A1L hu
   refine A2M fun T => ⟨fun h1 => ?_, fun h1 => ?_⟩
   ·obtain ⟨A, h2, h3⟩ := A6V h1
    rw [hx] at h2; cases h2
    rw [hy] at h3; cases h3
    unfold T5
    rw [if_neg zV, if_pos rfl, if_pos ⟨rfl, A3V _⟩]
    rfl
   ·unfold T5 at h1
    rw [if_neg zV, if_pos rfl] at h1
    split at h1
    ·rename_i hc
     obtain ⟨c1, c2⟩ := hc
     obtain ⟨xk, xks⟩ := x
     simp only [List.getD_cons_zero, List.getD_cons_succ, Ty.k, Ty.ks] at c1 c2 h1
     subst c1
     obtain ⟨A, B, rfl, vA, vB⟩ := A3c (.inl rfl) (hv _ List.mem_cons_self)
     simp only [List.getD_cons_zero, List.getD_cons_succ, Option.some.injEq] at c2 h1
     subst h1
     obtain rfl := (S3 _ _).1 c2
     exact B0a vB hx hy
    ·cases h1
 rcases hk with rfl | hk
 ·match ks, hop with
  | [a, b], _ =>
   obtain ⟨x, y, hx, hy, rfl⟩ := A1L hu
   refine A2M fun T => ⟨fun h1 => ?_, fun h1 => ?_⟩
   ·obtain ⟨h2, h3, rfl⟩ := A5d (.inl rfl) h1
    rw [hx] at h2; cases h2
    rw [hy] at h3; cases h3
    rfl
   ·unfold T5 at h1
    rw [if_neg zV, if_neg zV, if_pos rfl] at h1
    split at h1
    ·rename_i hc
     cases h1
     obtain rfl : x = N2 := (S3 _ _).1 hc.1
     obtain rfl : y = N2 := (S3 _ _).1 hc.2
     exact A1k hu' zV zV (w := [N2, N2]) (by rfl) (A3d _)
    ·cases h1
 rcases hk with rfl | hk
 ·match ks, hop with
  | [a, b], _ =>
   obtain ⟨x, y, hx, hy, rfl⟩ := A1L hu
   refine A2M fun T => ⟨fun h1 => ?_, fun h1 => ?_⟩
   ·obtain ⟨h2, h3, rfl⟩ := A5d (.inr rfl) h1
    rw [hx] at h2; cases h2
    rw [hy] at h3; cases h3
    rfl
   ·unfold T5 at h1
    rw [if_neg zV, if_neg zV, if_neg zV, if_pos rfl] at h1
    split at h1
    ·rename_i hc
     cases h1
     obtain rfl : x = N2 := (S3 _ _).1 hc.1
     obtain rfl : y = N2 := (S3 _ _).1 hc.2
     exact A1k hu' zV zV (w := [N2, N2]) (by rfl) (A3d _)
    ·cases h1
 rcases hk with rfl | hk
 ·match ks, hop with
  | [a, b, c], _ =>
   obtain ⟨x, y, z, hx, hy, hz, rfl⟩ := A6S hu
   refine A2M fun T => ⟨fun h1 => ?_, fun h1 => ?_⟩
   ·obtain ⟨h2, h3, h4⟩ := A6W h1
    rw [hx] at h2; cases h2
    rw [hy] at h3; cases h3
    rw [hz] at h4; cases h4
    unfold T5
    rw [if_neg zV, if_neg zV, if_neg zV, if_neg zV, if_pos rfl, if_pos ⟨A3V _, A3V _⟩]
    rfl
   ·unfold T5 at h1
    rw [if_neg zV, if_neg zV, if_neg zV, if_neg zV, if_pos rfl] at h1
    split at h1
    ·rename_i hc
     obtain ⟨c1, c2⟩ := hc
     simp only [List.getD_cons_zero, List.getD_cons_succ, Option.some.injEq] at c1 c2 h1
     subst h1
     obtain rfl : x = R8 := (S3 _ _).1 c1
     obtain rfl := (S3 _ _).1 c2
     refine A1k hu' zV (hv _ zX) (w := [R8, y, y]) ?_ (A3d _)
     unfold O4
     rw [if_neg zV, if_neg zV, if_neg zV, if_neg zV, if_neg zV, if_neg zV, if_pos rfl, if_pos ⟨A5c _, A5c _⟩]
     simp only [List.getD_cons_zero, List.getD_cons_succ, A96]
    ·cases h1
 rcases hk with rfl | hk
 ·match ks, hop with
  | [a, b], _ =>
   obtain ⟨x, y, hx, hy, rfl⟩ := A1L hu
   refine A2M fun T => ⟨fun h1 => ?_, fun h1 => ?_⟩
   ·have hT := A5b (fun h => absurd h zV) h1
    obtain ⟨A, B, h2, h3, rfl⟩ := A5e h1
    rw [hx] at h2; cases h2
    rw [hy] at h3; cases h3
    unfold T5
    rw [if_neg zV, if_neg zV, if_neg zV, if_neg zV, if_neg zV, if_pos rfl]
    exact if_pos hT
   ·unfold T5 at h1
    rw [if_neg zV, if_neg zV, if_neg zV, if_neg zV, if_neg zV, if_pos rfl] at h1
    split at h1
    ·rename_i hc
     cases h1
     exact A1k hu' zV hc (w := []) (by rfl) (by rw [Q8])
    ·cases h1
 have part : ∀ k : Int, k = 11 ∨ k = 12 → F7 k = (ks.length : Int) → C5 cx (.mk k nm num ty fr lb ks) = T5 k ty fr h := by
  clear hk hop hin hu'
  intro k hk hop
  have hl : ks.length = 1 := by rcases hk with rfl | rfl <;> (have h0 := hop; simp only [show F7 11 = 1 from rfl, show F7 12 = 1 from rfl] at h0; omega)
  match ks, hl with
  | [a], _ =>
   obtain ⟨x, hx, rfl⟩ := A2G hu
   have he : T5 k ty fr [x] = if x.k = 5 then some (x.ks.getD (k - 11).toNat B4) else none := by
    unfold T5
    rw [if_neg zW, if_neg zW, if_neg zW, if_neg zW, if_neg zW, if_neg zW]
    rfl
   rw [he]
   refine A2M fun T => ⟨fun h1 => ?_, fun h1 => ?_⟩
   ·obtain ⟨A, B, h2, rfl⟩ := A6X hk h1
    rw [hx] at h2; cases h2
    rcases hk with rfl | rfl <;> rfl
   ·split at h1
    ·rename_i hc
     obtain ⟨xk, xks⟩ := x
     simp only [Ty.k] at hc
     subst hc
     obtain ⟨A, B, rfl, vA, vB⟩ := A3c (.inr rfl) (hv _ List.mem_cons_self)
     have h5 : T = if k = 12 then B else A := by
      rcases hk with rfl | rfl
      ·exact (Option.some.inj h1).symm
      ·exact (Option.some.inj h1).symm
     rw [h5]
     exact A6Y hk (by split <;> assumption) hx
    ·cases h1
 rcases hk with rfl | rfl | rfl
 ·exact part 11 (.inl rfl) hop
 ·exact part 12 (.inr rfl) hop
 ·match ks, hop with
  | [a], _ =>
   obtain ⟨x, hx, rfl⟩ := A2G hu
   rw [C5, hu']
   simp only [if_true]
   unfold T5
   rw [if_pos rfl]
theorem B6t {b : Tm} (h : C5 (cx ++ [(nm, ty)]) b = none) : C5 cx (.mk 5 nm num ty fr lb [b]) = none := by
 rw [C5, show M7 cx 5 nm ty = cx ++ [(nm, ty)] from if_pos rfl, J6, h]
theorem B6u {b : Tm} {t : Ty} (h : C5 (cx ++ [(nm, ty)]) b = some t) : C5 cx (.mk 5 nm num ty fr lb [b]) = if M1 (.mk 4 [ty, t]) = true then some (.mk 4 [ty, t]) else none := by
 rw [C5, show M7 cx 5 nm ty = cx ++ [(nm, ty)] from if_pos rfl, A34 h]
 simp only [show ¬((5 : Int) = 14) by decide, if_false]
 unfold V2
 rw [show O4 cx 5 nm ty [t] = some ([], .mk 4 [ty, t]) from rfl]
 by_cases hv : M1 (.mk 4 [ty, t]) = true
 ·simp only [hv, if_true, Q8]
 ·simp only [hv, if_false]
  rfl
theorem B6v (hcv : cxV cx) : C5 cx (.mk 1 nm num ty fr lb []) = O9 cx nm := by
 refine A2M fun T => ⟨fun h => A35 h, fun h => ?_⟩
 refine A1k (us := []) (w := []) (by rw [J6]) zV (B6r hcv h) ?_ (by rw [Q8])
 unfold O4
 rw [if_pos rfl, h]
theorem B6w : C5 cx (.mk 2 nm num ty fr lb []) = some N2 := A1k (us := []) (w := []) (by rw [J6]) zV zV (by rfl) (by rw [Q8])
theorem B6x : C5 cx (.mk 3 nm num ty fr lb []) = some R8 := A1k (us := []) (w := []) (by rw [J6]) zV zV (by rfl) (by rw [Q8])
theorem B6y : C5 cx (.mk 4 nm num ty fr lb []) = some R8 := A1k (us := []) (w := []) (by rw [J6]) zV zV (by rfl) (by rw [Q8])
end
end Gw
end Go.Proofs.YtmceanphadildaaGreatDoor
