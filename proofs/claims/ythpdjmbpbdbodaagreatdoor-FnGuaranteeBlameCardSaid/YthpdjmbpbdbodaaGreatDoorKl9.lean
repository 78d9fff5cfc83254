/-
  Drawn terms that often have a type. The types that a term's text holds, and terms with other types: the plain words. Own slices and their capacity; data of terms one after the other. The types that a term's text holds: the program's list. Terms with other types: the program's. Shifts and masks of small numbers; writing into an own slice. Terms some of whose types become the unknown type: the program's. The types that a term's text holds: the reference's list. TermTypes and CountSlots of the reference. Terms with other types: the reference's. WithTypes of the reference. Drawn terms that are small, terms with blurred types, fuel. Drawn arguments of runs. The laws FnCompareRuns, FnGuaranteeBlame, FnGuaranteeChain.
-/
import Derived.Test.YthpdjmbpbdbodaaGreatDoorKl8
import Derived.Test.YthpdjmbpbdbodaaGreatDoorKl3
import Derived.Test.YthpdjmbpbdbodaaGreatDoorKl1
import Derived.Test.YthpdjmbpbdbodaaGreatDoorKl6
import Derived.Test.YthpdjmbpbdbodaaGreatDoorKl2
set_option linter.unusedVariables false
set_option linter.unusedSimpArgs false
set_option maxHeartbeats 0
set_option maxRecDepth 100000
set_option synthInstance.maxSize 4000
set_option synthInstance.maxHeartbeats 0
namespace Go.Proofs.YthpdjmbpbdbodaaGreatDoor
open Go Go.RowKit
namespace Gw
structure A4C {ι : Type} (S : ι → Sy) (φ : ι → Prop) (K : Po) (e : Exit) (σ : Sy) : Prop where
 run : match e with
  | .normal => ∃ i, φ i ∧ Sub σ (S i)
  | e => K e σ
section cut
variable {P : Program} {Γ : M2} {K : Po} {σ : Sy} {ι : Type}
theorem B12 {c y : Code} (S : ι → Sy) (φ : ι → Prop) (h : J2 P Γ c (A4C S φ K) σ) (k : ∀ i, φ i → J2 P Γ y K (S i)) : J2 P Γ c (A02 P Γ y K) σ := by
 refine A5K h ?_
 rintro e σ ⟨hk⟩
 cases e with
 | normal => obtain ⟨i, hi, hs⟩ := hk; exact ⟨A7S hs (k i hi)⟩
 | _ => exact ⟨hk⟩
theorem A4D {S : ι → Sy} {φ : ι → Prop} {σ : Sy} (i : ι) (hs : Sub σ (S i)) (h : φ i) : A4C S φ K .normal σ := ⟨⟨i, h, hs⟩⟩
theorem A01 {S : ι → Sy} {φ : ι → Prop} {σ : Sy} (h : K .ret σ) : A4C S φ K .ret σ := ⟨h⟩
theorem B7S {S : ι → Sy} {φ : ι → Prop} (h : Z7 K) : Z7 (A4C S φ K) := fun c σ hk => h c σ hk.run
instance npC6 {S : ι → Sy} {φ : ι → Prop} [h : NpC K] : NpC (A4C S φ K) := ⟨B7S h.h⟩
end cut
theorem A2o (G : IM) (nm : ByteArray) (num : Int) {k : Int} (hk : H1 k) (hn : H1 num) : B3 G (.mk k nm num B4 B4 0 []) [.int .i64 k, .string nm, .int .i64 num, .int .i64 0, .slice none 0 0, .int .i64 0, .slice none 0 0, .int .i64 0, .slice none 0 0] := A1S hk hn
theorem C1.kidsM {G : IM} {k : Int} {ks : List Ty} {q : Option Addr} {c : Nat} (h : C1 G (.mk k ks) [.int .i64 k, .slice q ks.length c]) : ∃ es, E0 G q ks.length c 2 es ∧ D5 G ks es := by
 obtain ⟨q', c', es, he, _, h1, h2⟩ := h.open
 cases he
 exact ⟨es, h1, h2⟩
theorem A7I {Q : Prop} (h : Q := by (dsimp only; exact ⟨by omega, hleL.trans hle2, by omega, by omega⟩)) : Q := h
theorem B7T (br : Nat) (pb : Option Addr) (nb cb : Nat) (bs : List UInt8) (hnb : nb ≤ 2000) : ∀ n, B10 br pb nb cb bs n := by
 refine fun n => Nat.strongRecOn n fun n ih depth t p G pc nc cc cells hfu hd0 hd1 hnc hx hrt hb hp => ?_
 have hge := A1v n
 have har := hfu.1.ar
 have hszt := A45 hfu.1
 have hnn := A09 t
 have hncl := hx.le
 obtain ⟨k, ks⟩ := t
 obtain ⟨q, c, es, rfl, hk, _, _⟩ := hrt.open
 simp only [Ty.k, Ty.ks] at hk hrt ⊢
 have hsz30 : K6 (.mk k ks) ≤ 30 := hszt
 have hops : k = 4 ∨ k = 5 → ks.length = 2 := by have h2 := har; rw [F8] at h2; exact h2.1
 refine C2 Tryz.func78 rfl Tryz.ntmps78 Tryz.results78 rfl ?_
 intro w0
 refine A5 ?_
 refine sE (C7 rfl rfl) rfl (fun b3 => ?_)
 refine sE (A8 rfl) rfl (fun b4 => ?_)
 refine B5 ?_
 refine sP (P3 rfl rfl (by omega) (by omega)) rfl rfl ?_
 refine B9 ?_
 refine C3 ?_
 (refine K2 (fun (x : Nat × Nat × IM) => ⟨(9, .int .i64 ((x.1 : Int) - 1)) :: [(0, .pointer (some ⟨br, 0, none⟩)), (1, .slice pc nc cc), (3, .int .i64 depth), (6, .pointer (some ⟨b3, 0, none⟩)), (8, .pointer (some ⟨b4, 0, none⟩))], [rd br pb nb cb x.2.1, .blk b4 [.int .i64 0, .string ⟨⟨[]⟩⟩, .int .i64 0, .int .i64 0, .slice none 0 0, .int .i64 0, .slice none 0 0, .int .i64 0, .slice none 0 0], .blk b3 [.int .i64 k, .slice q ks.length c]], x.2.2⟩) (fun x => x.1 ≤ nc ∧ C6 G x.2.2 ∧ p ≤ x.2.1 ∧ x.2.1 + x.1 ≤ p + nc) (fun x => x.1) (nc, p, G) ?_ ?_ ?_)
 (simp only [J9]; exact E2)
 (exact ⟨Nat.le_refl _, C6.refl _, Nat.le_refl _, Nat.le_refl _⟩)
 (rintro ⟨(i : Nat), (p1 : Nat), G1⟩ ⟨hi, hleL, hpL, hpL2⟩; simp only [] at hi hleL hpL hpL2 ⊢; replace hx := hx.mono hleL; replace hb := hb.mono hleL; replace hrt := hrt.mono hleL;)
 refine B7 ?_
 refine sB (A0S rfl rfl) rfl rfl (fun h25 => ?_) (fun h25 => ?_)
 refine B0 ?_
 (show J2 _ _ (.block 1 ..) _ _; obtain ⟨j, rfl⟩ : ∃ j, i = j + 1 := ⟨i - 1, by omega⟩; rw [show ((j + 1 : Nat) : Int) - 1 = (j : Int) from by omega]; obtain ⟨b, o, nm1, t1, qq1, dd1, rfl, hat, hr1, ha1, hs1, hgb, hns1⟩ := hx.get (i := j) (by omega); refine C3 ?_)
 refine B2 ?_
 refine sP (B6 (j := j) rfl rfl rfl (by omega)) rfl rfl ?_
 refine F0 ?_
 refine sL (A0E rfl rfl ((hat _).sub (j := 0) rfl)) rfl rfl ?_
 (refine E5 rfl (B4g _ _ nc cc nm1 hx) rfl rfl (fun v G2 hle2 hh => ?_); obtain ⟨ts, tcs, xs, rfl, hrs, has, hss⟩ := hh; obtain ⟨ps, cs, ess, rfl, _⟩ := hrs.open; obtain ⟨b, o, nm1, t1, qq1, dd1, hpp, hat, hr1, ha1, hs1, hgb, hns1⟩ := (hx.mono hle2).get (i := j) (by omega); cases hpp; replace hx := hx.mono hle2; replace hb := hb.mono hle2; replace hrt := hrt.mono hle2;)
 refine B9 ?_
 refine sE (A8 rfl) rfl (fun b45 => ?_)
 refine B5 ?_
 (have hinloop := hrs; refine I9 rfl (Z1 _ br pb nb cb (p1) bs 3 hb hnb (by omega)) (Pk.perm (by repeat (first | exact Pk.here | apply Pk.there))) rfl rfl (fun v Gp outs hle53 hh => ?_); obtain ⟨rfl, rfl, j53, rfl, hj53, hk53⟩ := hh; have hinl := hj53)
 replace hrs := hrs.mono hle53
 replace hr1 := hr1.mono hle53
 replace hb := hb.mono hle53
 replace hrt := hrt.mono hle53
 replace hinloop := hinloop.mono hle53
 refine sB (qE rfl rfl) rfl rfl (fun h54 => ?_) (fun h54 => ?_)
 refine A5 ?_
 refine E8 rfl ((A1O ts _ _ hrs)) rfl rfl (fun h57 => ?_) (fun h57 => ?_)
 refine B7 ?_
 refine E8 rfl ((A1T ts (.mk k ks) _ _ _ has har hrs hrt)) rfl rfl (fun h62 => ?_) (fun h62 => ?_)
 refine D0 ?_
 refine sP (B6 (j := j) rfl rfl rfl (by omega)) rfl rfl ?_
 refine F0 ?_
 refine sL (A0E rfl rfl ((hat _).sub (j := 0) rfl)) rfl rfl ?_
 refine J0 ?_
 refine H7 (outs := [rd br pb nb cb (p1 + 1)]) (rC rfl (A6 rfl rfl)) (by repeat (first | exact A0.nil | refine A0.cons Pk.here ?_ | refine A0.cons (Pk.there Pk.here) ?_ | refine A0.cons (Pk.there (Pk.there Pk.here)) ?_ | apply A0.drop)) ?_
 (exact ⟨(p1 + 1), by omega, by omega, rfl, _, _, rfl, A2o _ _ _ ⟨by omega, by omega⟩ (by first | exact ⟨by omega, by omega⟩ | exact hkn), by first | exact O4 (by first | assumption | decide) | exact A0C (by decide) (by assumption) (by assumption) (by assumption) | exact T5 (by decide) (by assumption) (by assumption) | exact K9 (by decide) Q1 (by assumption) | exact K9 (by decide) har.small (by assumption) | exact K9 (by decide) Q1 (T5 (by decide) (by assumption) (O4 (by decide))) | exact K9 (by decide) A0D (O4 (by decide)) | assumption, by simp only [D6, E9]; omega⟩)
 refine E1 ?_
 refine sP (P3 rfl rfl (by omega) (by omega)) rfl rfl ?_
 refine A5 ?_
 (have hinloop := hrs; refine K3 (j, p1 + 1, Gp) ?_ ?_ ?_)
 (simp only [J9]; exact E2)
 exact A7I
 (show _ < _ + 1; omega)
 refine J1 ?_
 refine sP (P3 rfl rfl (by omega) (by omega)) rfl rfl ?_
 refine A5 ?_
 (have hinloop := hrs; refine K3 (j, p1 + 1, Gp) ?_ ?_ ?_)
 (simp only [J9]; exact E2)
 exact A7I
 (show _ < _ + 1; omega)
 refine U5 ?_
 refine sP (P3 rfl rfl (by omega) (by omega)) rfl rfl ?_
 refine A5 ?_
 (have hinloop := hrs; refine K3 (j, p1 + 1, Gp) ?_ ?_ ?_)
 (simp only [J9]; exact E2)
 exact A7I
 (show _ < _ + 1; omega)
 refine J0 ?_
 (show J2 _ _ (.region 7 ..) _ _; refine A0j (fun (x : Bool) => ⟨(49, .bool x) :: [(0, .pointer (some ⟨br, 0, none⟩)), (1, .slice pc nc cc), (3, .int .i64 depth), (6, .pointer (some ⟨b3, 0, none⟩)), (8, .pointer (some ⟨b4, 0, none⟩))], [rd br pb nb cb p1, .blk b4 [.int .i64 0, .string ⟨⟨[]⟩⟩, .int .i64 0, .int .i64 0, .slice none 0 0, .int .i64 0, .slice none 0 0, .int .i64 0, .slice none 0 0], .blk b3 [.int .i64 k, .slice q ks.length c]], G1⟩) (fun x => x = true → 1 < depth) ?_ ?_)
 refine A5 ?_
 refine sB (Y9 rfl rfl) rfl rfl (fun h160 => ?_) (fun h160 => ?_)
 refine sD ?_
 refine P8 true (M0 (by repeat (first | exact E7.nil | refine E7.cons rfl ?_)) (by repeat (first | exact A0.refl | exact A0.nil | refine A0.cons (by repeat (first | exact Pk.here | apply Pk.there)) ?_ | apply A0.drop))) (fun _ => by omega)
 refine sD ?_
 refine P8 false (M0 (by repeat (first | exact E7.nil | refine E7.cons rfl ?_)) (by repeat (first | exact A0.refl | exact A0.nil | refine A0.cons (by repeat (first | exact Pk.here | apply Pk.there)) ?_ | apply A0.drop))) (fun h => absurd h (by decide))
 (rintro (x49 : Bool) hx49)
 (show J2 _ _ (.cond (.tmp 49) _ _) _ _; refine B12 (fun (x : Nat × IM) => ⟨[(0, .pointer (some ⟨br, 0, none⟩)), (1, .slice pc nc cc), (3, .int .i64 depth), (6, .pointer (some ⟨b3, 0, none⟩)), (8, .pointer (some ⟨b4, 0, none⟩))], [rd br pb nb cb x.1, .blk b4 [.int .i64 0, .string ⟨⟨[]⟩⟩, .int .i64 0, .int .i64 0, .slice none 0 0, .int .i64 0, .slice none 0 0, .int .i64 0, .slice none 0 0], .blk b3 [.int .i64 k, .slice q ks.length c]], x.2⟩) (fun x => C6 G1 x.2 ∧ p1 ≤ x.1 ∧ x.1 ≤ p1 + 1) (A3K rfl (fun hxt => ?_) (fun hxf => ?_)) ?_)
 refine B9 ?_
 (have hx49b := hx49 hxt; refine I9 rfl (Z1 _ br pb nb cb (p1) bs 9 hb hnb (by omega)) (Pk.perm (by repeat (first | exact Pk.here | apply Pk.there))) rfl rfl (fun v Gp outs hle170 hh => ?_); obtain ⟨rfl, rfl, j170, rfl, hj170, hk170⟩ := hh; have hpk9 := hj170)
 replace hb := hb.mono hle170
 replace hrt := hrt.mono hle170
 refine A5 ?_
 refine C3 (tS (tR (sB (qE rfl rfl) rfl rfl (fun h176 => ?_) (fun h176 => ?_))))
 refine B2 ?_
 (obtain ⟨m, rfl⟩ := hfu.pos (.inl (by omega)); have hmB : mB (m + 1) = 3 * mB m + 200 := rfl; have hgm := A1v m; refine D8 D9 rfl ?_)
 refine L3 (i := 0) (l' := [tt,ff,ff,ff,ff,ff,ff,ff,ff,ff,ff,ff,ff]) rfl D3 (A6 rfl rfl) rfl (by kernel_rfl) rfl rfl ?_
 refine aP 2 rfl (qM rfl) rfl ?_
 refine aP 3 rfl (qM rfl) rfl ?_
 refine aP 4 rfl (qM rfl) rfl ?_
 refine aL 5 rfl (A6 rfl rfl) rfl ?_
 refine aP 7 rfl (qM rfl) rfl ?_
 refine aP 8 rfl (P3 rfl rfl (by omega) (by omega)) rfl ?_
 refine A4 1 ?_
 (refine H4 rfl rfl (P7 _ _ _ har.small hrt) rfl rfl rfl (fun v G6 hle6 hh => ?_); obtain ⟨cs1, F1, rfl, hs1, hn1⟩ := hh; obtain ⟨pz, cz, rfl, _⟩ := hs1.open; have hrz := hs1.R.mono (C9.le G6 _); replace hx := hx.mono hle6; replace hb := hb.mono hle6; replace hrt := hrt.mono hle6;)
 refine A4 6 ?_
 (have hcall := A5c br pb nb cb bs hnb (.mk k ks) (p1 + 1) _ _ har hrt hb (by omega); refine X8 (l' := [tt,tt,tt,tt,tt,tt,tt,tt,tt,ff,ff,ff,ff]) rfl rfl hcall (Pk.perm (by repeat (first | exact Pk.here | apply Pk.there))) rfl rfl rfl (by repeat (first | exact A9.nil | apply A9.dep (by decide +kernel) | apply A9.im (by decide +kernel) hg0 (by repeat first | exact mH | apply mT) | apply A9.im (by decide +kernel) hg1 (by repeat first | exact mH | apply mT) | apply A9.blk (by decide +kernel) (by repeat (first | exact Pk.here | apply Pk.there)) (by repeat first | exact mH | apply mT))) (fun v Gn outs hleA hh => ?_); obtain ⟨pA, hpA1, hpA2, rfl, uA, cuA, rfl, hruA, huaA, husA, huhA⟩ := hh; obtain ⟨quA, duA, euA, rfl, _⟩ := hruA.open; replace hrz := hrz.mono hleA; replace hx := hx.mono hleA; replace hb := hb.mono hleA; replace hrt := hrt.mono hleA;)
 refine A4 9 ?_
 (have hcall := ih m (by omega) (depth - 1) uA pA _ pc nc cc _ (hfu.sub (by omega) (huhA 4 hfu.1)) (by omega) (by omega) (by omega) hx hruA hb (by omega); refine X8 (l' := [tt,tt,tt,tt,tt,tt,tt,tt,tt,tt,ff,ff,ff]) rfl rfl hcall (Pk.perm (by repeat (first | exact Pk.here | apply Pk.there))) rfl rfl rfl (by repeat (first | exact A9.nil | apply A9.dep (by decide +kernel) | apply A9.im (by decide +kernel) hg0 (by repeat first | exact mH | apply mT) | apply A9.im (by decide +kernel) hg1 (by repeat first | exact mH | apply mT) | apply A9.blk (by decide +kernel) (by repeat (first | exact Pk.here | apply Pk.there)) (by repeat first | exact mH | apply mT))) (fun v Gn outs hlea hh => ?_); obtain ⟨pa, hpa1, hpa2, rfl, ea, ca, rfl, hra, hsma, hca⟩ := hh; obtain ⟨a1, a2, a3, a4, a5, a6, a7, a8, a9, rfl⟩ := hra.nine; replace hrz := hrz.mono hlea; replace hx := hx.mono hlea; replace hb := hb.mono hlea; replace hrt := hrt.mono hlea;)
 refine A4 10 ?_
 (refine E6 rfl (D2 rfl rfl rfl (by omega) (by unfold maxLen; omega) rfl) rfl rfl ?_; rintro _ ⟨b197, rfl⟩)
 refine aP 11 rfl (X5 rfl rfl) rfl ?_
 refine A4 12 ?_
 refine R9 rfl rfl rfl rfl rfl rfl rfl rfl (by decide +kernel) (by repeat first | exact Sw.here | apply Sw.there) (by rfl) ?_
 refine A5 ?_
 (refine H3 (cs := [a1, a2, a3, a4, a5, a6, a7, a8, a9]) (by repeat (first | exact Pk.here | apply Pk.there)) (fun G9 hle9 hsl9 hno9 => ?_); have hN := A4A (k := 13) (nm := ⟨⟨[]⟩⟩) ⟨by omega, by omega⟩ (hrz.mono hle9) (hra.mono hle9) hsl9)
 refine A5 ?_
 refine A01 ?_
 refine H7 (outs := [rd br pb nb cb pa]) (rC rfl (A6 rfl rfl)) (by repeat (first | exact A0.nil | refine A0.cons Pk.here ?_ | refine A0.cons (Pk.there Pk.here) ?_ | refine A0.cons (Pk.there (Pk.there Pk.here)) ?_ | apply A0.drop)) ?_
 (exact ⟨pa, by omega, by omega, rfl, _, _, rfl, hN, by first | exact O4 (by first | assumption | decide) | exact A0C (by decide) (by assumption) (by assumption) (by assumption) | exact T5 (by decide) (by assumption) (by assumption) | exact K9 (by decide) Q1 (by assumption) | exact K9 (by decide) har.small (by assumption) | exact K9 (by decide) Q1 (T5 (by decide) (by assumption) (O4 (by decide))) | exact K9 (by decide) A0D (O4 (by decide)) | assumption, by simp only [D6, E9]; omega⟩)
 refine B0 ?_
 refine sB (qE rfl rfl) rfl rfl (fun h215 => ?_) (fun h215 => ?_)
 refine B2 ?_
 (obtain ⟨m, rfl⟩ := hfu.pos (.inl (by omega)); have hmB : mB (m + 1) = 3 * mB m + 200 := rfl; have hgm := A1v m; refine D8 D9 rfl ?_)
 refine I6 (i := 0) (l' := [tt,ff,ff,ff,ff,ff,ff,ff,ff,ff,ff,ff,ff,ff,ff,ff,ff,ff,ff,ff,ff]) rfl D3 (qM rfl) rfl (by kernel_rfl) rfl rfl ?_
 refine aP 1 rfl (qM rfl) rfl ?_
 refine aP 3 rfl (qM rfl) rfl ?_
 refine aP 4 rfl (P3 rfl rfl (by omega) (by omega)) rfl ?_
 refine aP 6 rfl (qM rfl) rfl ?_
 refine aP 7 rfl (qM rfl) rfl ?_
 refine aL 8 rfl (A6 rfl rfl) rfl ?_
 refine aP 9 rfl (qM rfl) rfl ?_
 refine aP 10 rfl (P3 rfl rfl (by omega) (by omega)) rfl ?_
 refine aP 12 rfl (qM rfl) rfl ?_
 refine aP 13 rfl (qM rfl) rfl ?_
 refine aL 14 rfl (A6 rfl rfl) rfl ?_
 refine aP 15 rfl (qM rfl) rfl ?_
 refine aP 16 rfl (P3 rfl rfl (by omega) (by omega)) rfl ?_
 refine A4 2 ?_
 refine N6 rfl rfl ((A3j _)) rfl rfl rfl ?_
 refine A4 5 ?_
 (have hcall := ih m (by omega) (depth - 1) (.mk 3 []) (p1 + 1) _ pc nc cc _ (hfu.sub (by omega) (A3d 4 (by decide) (by decide))) (by omega) (by omega) (by omega) hx (O3 _ ⟨by omega, by omega⟩) hb (by omega); refine X8 (l' := [tt,tt,tt,tt,tt,tt,tt,tt,tt,tt,tt,ff,tt,tt,tt,tt,tt,ff,ff,ff,ff]) rfl rfl hcall (Pk.perm (by repeat (first | exact Pk.here | apply Pk.there))) rfl rfl rfl (by repeat (first | exact A9.nil | apply A9.dep (by decide +kernel) | apply A9.im (by decide +kernel) hg0 (by repeat first | exact mH | apply mT) | apply A9.im (by decide +kernel) hg1 (by repeat first | exact mH | apply mT) | apply A9.blk (by decide +kernel) (by repeat (first | exact Pk.here | apply Pk.there)) (by repeat first | exact mH | apply mT))) (fun v Gn outs hlef hh => ?_); obtain ⟨pf, hpf1, hpf2, rfl, ef, cf, rfl, hrf, hsmf, hcf⟩ := hh; obtain ⟨f1, f2, f3, f4, f5, f6, f7, f8, f9, rfl⟩ := hrf.nine; replace hx := hx.mono hlef; replace hb := hb.mono hlef; replace hrt := hrt.mono hlef;)
 refine A4 11 ?_
 (have hcall := ih m (by omega) (depth - 1) (.mk k ks) pf _ pc nc cc _ (hfu.sub (by omega) hfu.1) (by omega) (by omega) (by omega) hx hrt hb (by omega); refine X8 (l' := [tt,tt,tt,tt,tt,tt,tt,tt,tt,tt,tt,tt,tt,tt,tt,tt,tt,ff,ff,ff,ff]) rfl rfl hcall (Pk.perm (by repeat (first | exact Pk.here | apply Pk.there))) rfl rfl rfl (by repeat (first | exact A9.nil | apply A9.dep (by decide +kernel) | apply A9.im (by decide +kernel) hg0 (by repeat first | exact mH | apply mT) | apply A9.im (by decide +kernel) hg1 (by repeat first | exact mH | apply mT) | apply A9.blk (by decide +kernel) (by repeat (first | exact Pk.here | apply Pk.there)) (by repeat first | exact mH | apply mT))) (fun v Gn outs hleg hh => ?_); obtain ⟨pg, hpg1, hpg2, rfl, eg, cg, rfl, hrg, hsmg, hcg⟩ := hh; obtain ⟨g1, g2, g3, g4, g5, g6, g7, g8, g9, rfl⟩ := hrg.nine; replace hrf := hrf.mono hleg; replace hx := hx.mono hleg; replace hb := hb.mono hleg; replace hrt := hrt.mono hleg;)
 refine A4 17 ?_
 (have hcall := ih m (by omega) (depth - 1) (.mk k ks) pg _ pc nc cc _ (hfu.sub (by omega) hfu.1) (by omega) (by omega) (by omega) hx hrt hb (by omega); refine X8 (l' := [tt,tt,tt,tt,tt,tt,tt,tt,tt,tt,tt,tt,tt,tt,tt,tt,tt,tt,ff,ff,ff]) rfl rfl hcall (Pk.perm (by repeat (first | exact Pk.here | apply Pk.there))) rfl rfl rfl (by repeat (first | exact A9.nil | apply A9.dep (by decide +kernel) | apply A9.im (by decide +kernel) hg0 (by repeat first | exact mH | apply mT) | apply A9.im (by decide +kernel) hg1 (by repeat first | exact mH | apply mT) | apply A9.blk (by decide +kernel) (by repeat (first | exact Pk.here | apply Pk.there)) (by repeat first | exact mH | apply mT))) (fun v Gn outs hlei hh => ?_); obtain ⟨pi, hpi1, hpi2, rfl, ei, ci, rfl, hri, hsmi, hci⟩ := hh; obtain ⟨i1, i2, i3, i4, i5, i6, i7, i8, i9, rfl⟩ := hri.nine; replace hrf := hrf.mono hlei; replace hrg := hrg.mono hlei; replace hx := hx.mono hlei; replace hb := hb.mono hlei; replace hrt := hrt.mono hlei;)
 refine A4 18 ?_
 (refine E6 rfl (D2 rfl rfl rfl (by omega) (by unfold maxLen; omega) rfl) rfl rfl ?_; rintro _ ⟨b245, rfl⟩)
 refine A4 19 ?_
 refine N6 rfl rfl ((A0z _ _ _ _ _)) rfl rfl rfl ?_
 refine A4 20 ?_
 refine R9 rfl rfl rfl rfl rfl rfl rfl rfl (by decide +kernel) (by repeat first | exact Sw.here | apply Sw.there) (by rfl) ?_
 refine A5 ?_
 (refine H3 (cs := [f1, f2, f3, f4, f5, f6, f7, f8, f9] ++ ([g1, g2, g3, g4, g5, g6, g7, g8, g9] ++ [i1, i2, i3, i4, i5, i6, i7, i8, i9])) (by repeat (first | exact Pk.here | apply Pk.there)) (fun G9 hle9 hsl9 hno9 => ?_); have hN := B7R (k := 9) (nm := ⟨⟨[]⟩⟩) ⟨by omega, by omega⟩ (hrf.mono hle9) (hrg.mono hle9) (hri.mono hle9) hsl9)
 refine A5 ?_
 refine A01 ?_
 refine H7 (outs := [rd br pb nb cb pi]) (rC rfl (A6 rfl rfl)) (by repeat (first | exact A0.nil | refine A0.cons Pk.here ?_ | refine A0.cons (Pk.there Pk.here) ?_ | refine A0.cons (Pk.there (Pk.there Pk.here)) ?_ | apply A0.drop)) ?_
 (exact ⟨pi, by omega, by omega, rfl, _, _, rfl, hN, by first | exact O4 (by first | assumption | decide) | exact A0C (by decide) (by assumption) (by assumption) (by assumption) | exact T5 (by decide) (by assumption) (by assumption) | exact K9 (by decide) Q1 (by assumption) | exact K9 (by decide) har.small (by assumption) | exact K9 (by decide) Q1 (T5 (by decide) (by assumption) (O4 (by decide))) | exact K9 (by decide) A0D (O4 (by decide)) | assumption, by simp only [D6, E9]; omega⟩)
 refine B0 ?_
 refine sB (qE rfl rfl) rfl rfl (fun h264 => ?_) (fun h264 => ?_)
 refine B5 ?_
 (have hcall := A35 br pb nb cb bs hnb 0 (p1 + 1) _ (by omega) hb (by have : dB (0 + 1) ≤ 6 := (by decide); omega); refine I9 rfl hcall (Pk.perm (by repeat (first | exact Pk.here | apply Pk.there))) rfl rfl (fun v Gn outs hleD hh => ?_); obtain ⟨pD, hpD1, hpD2, rfl, uD, cuD, rfl, hruD, husD, huhD⟩ := hh; have huaD := huhD.ar; obtain ⟨quD, duD, euD, rfl, _⟩ := hruD.open; have hdBD : dB (0 + 1) ≤ 6 := (by decide); replace hx := hx.mono hleD; replace hb := hb.mono hleD; replace hrt := hrt.mono hleD;)
 refine sE (A8 rfl) rfl (fun b273 => ?_)
 refine B7 ?_
 (obtain ⟨m, rfl⟩ := hfu.pos (.inl (by omega)); have hmB : mB (m + 1) = 3 * mB m + 200 := rfl; have hgm := A1v m; refine D8 D9 rfl ?_)
 refine I6 (i := 0) (l' := [tt,ff,ff,ff,ff,ff,ff,ff,ff,ff,ff,ff,ff,ff,ff,ff,ff,ff]) rfl D3 (qM rfl) rfl (by kernel_rfl) rfl rfl ?_
 refine aP 1 rfl (qM rfl) rfl ?_
 refine aL 2 rfl (A6 rfl rfl) rfl ?_
 refine aL 3 rfl (A6 rfl rfl) rfl ?_
 refine aP 4 rfl (qM rfl) rfl ?_
 refine aP 5 rfl (P3 rfl rfl (by omega) (by omega)) rfl ?_
 refine aP 7 rfl (qM rfl) rfl ?_
 refine aP 8 rfl (qM rfl) rfl ?_
 refine aP 9 rfl (qM rfl) rfl ?_
 refine aL 10 rfl (A6 rfl rfl) rfl ?_
 refine aP 12 rfl (qM rfl) rfl ?_
 refine aP 13 rfl (P3 rfl rfl (by omega) (by omega)) rfl ?_
 refine A4 6 ?_
 (have hcall := B11 br pb nb cb bs hnb m (ih m (by omega)) (depth - 1) uD (.mk k ks) (pD) _ pc nc cc _ _ (hfu.sub (by omega) hfu.1) (by omega) (by omega) (by omega) hx hruD ⟨huaD, by omega⟩ hrt hb (by omega); refine X8 (l' := [tt,tt,tt,tt,tt,tt,tt,tt,tt,tt,tt,ff,tt,tt,ff,ff,ff,ff]) rfl rfl hcall (Pk.perm (by repeat (first | exact Pk.here | apply Pk.there))) rfl rfl rfl (by repeat (first | exact A9.nil | apply A9.dep (by decide +kernel) | apply A9.im (by decide +kernel) hg0 (by repeat first | exact mH | apply mT) | apply A9.im (by decide +kernel) hg1 (by repeat first | exact mH | apply mT) | apply A9.blk (by decide +kernel) (by repeat (first | exact Pk.here | apply Pk.there)) (by repeat first | exact mH | apply mT))) (fun v Gn outs hlel hh => ?_); obtain ⟨pl, hpl1, hpl2, rfl, el, cl, rfl, hrl, hsml, hcl⟩ := hh; obtain ⟨l1, l2, l3, l4, l5, l6, l7, l8, l9, rfl⟩ := hrl.nine; replace hruD := hruD.mono hlel; replace hx := hx.mono hlel; replace hb := hb.mono hlel; replace hrt := hrt.mono hlel;)
 refine A4 11 ?_
 (have hcall := A5c br pb nb cb bs hnb uD (pl) _ _ huaD hruD hb (by omega); refine X8 (l' := [tt,tt,tt,tt,tt,tt,tt,tt,tt,tt,tt,tt,tt,tt,ff,ff,ff,ff]) rfl rfl hcall (Pk.perm (by repeat (first | exact Pk.here | apply Pk.there))) rfl rfl rfl (by repeat (first | exact A9.nil | apply A9.dep (by decide +kernel) | apply A9.im (by decide +kernel) hg0 (by repeat first | exact mH | apply mT) | apply A9.im (by decide +kernel) hg1 (by repeat first | exact mH | apply mT) | apply A9.blk (by decide +kernel) (by repeat (first | exact Pk.here | apply Pk.there)) (by repeat first | exact mH | apply mT))) (fun v Gn outs hleE hh => ?_); obtain ⟨pE, hpE1, hpE2, rfl, uE, cuE, rfl, hruE, huaE, husE, huhE⟩ := hh; obtain ⟨quE, duE, euE, rfl, _⟩ := hruE.open; replace hrl := hrl.mono hleE; replace hx := hx.mono hleE; replace hb := hb.mono hleE; replace hrt := hrt.mono hleE;)
 refine A4 14 ?_
 (have hcall := ih m (by omega) (depth - 1) uE pE _ pc nc cc _ (hfu.sub (by omega) (huhE 4 (huhD.le (by omega)))) (by omega) (by omega) (by omega) hx hruE hb (by omega); refine X8 (l' := [tt,tt,tt,tt,tt,tt,tt,tt,tt,tt,tt,tt,tt,tt,tt,ff,ff,ff]) rfl rfl hcall (Pk.perm (by repeat (first | exact Pk.here | apply Pk.there))) rfl rfl rfl (by repeat (first | exact A9.nil | apply A9.dep (by decide +kernel) | apply A9.im (by decide +kernel) hg0 (by repeat first | exact mH | apply mT) | apply A9.im (by decide +kernel) hg1 (by repeat first | exact mH | apply mT) | apply A9.blk (by decide +kernel) (by repeat (first | exact Pk.here | apply Pk.there)) (by repeat first | exact mH | apply mT))) (fun v Gn outs hled hh => ?_); obtain ⟨pd, hpd1, hpd2, rfl, ed, cd, rfl, hrd, hsmd, hcd⟩ := hh; obtain ⟨d1, d2, d3, d4, d5, d6, d7, d8, d9, rfl⟩ := hrd.nine; replace hrl := hrl.mono hled; replace hx := hx.mono hled; replace hb := hb.mono hled; replace hrt := hrt.mono hled;)
 refine A4 15 ?_
 (refine E6 rfl (D2 rfl rfl rfl (by omega) (by unfold maxLen; omega) rfl) rfl rfl ?_; rintro _ ⟨b298, rfl⟩)
 refine A4 16 ?_
 refine N6 rfl rfl ((A0z _ _ _ _ _)) rfl rfl rfl ?_
 refine A4 17 ?_
 refine R9 rfl rfl rfl rfl rfl rfl rfl rfl (by decide +kernel) (by repeat first | exact Sw.here | apply Sw.there) (by rfl) ?_
 refine A5 ?_
 (refine H3 (cs := [l1, l2, l3, l4, l5, l6, l7, l8, l9] ++ [d1, d2, d3, d4, d5, d6, d7, d8, d9]) (by repeat (first | exact Pk.here | apply Pk.there)) (fun G9 hle9 hsl9 hno9 => ?_); have hN := A4B (k := 6) (nm := ⟨⟨[]⟩⟩) ⟨by omega, by omega⟩ (hrl.mono hle9) (hrd.mono hle9) hsl9)
 refine A5 ?_
 refine A01 ?_
 refine H7 (outs := [rd br pb nb cb pd]) (rC rfl (A6 rfl rfl)) (by repeat (first | exact A0.nil | refine A0.cons Pk.here ?_ | refine A0.cons (Pk.there Pk.here) ?_ | refine A0.cons (Pk.there (Pk.there Pk.here)) ?_ | apply A0.drop)) ?_
 (exact ⟨pd, by omega, by omega, rfl, _, _, rfl, hN, by first | exact O4 (by first | assumption | decide) | exact A0C (by decide) (by assumption) (by assumption) (by assumption) | exact T5 (by decide) (by assumption) (by assumption) | exact K9 (by decide) Q1 (by assumption) | exact K9 (by decide) har.small (by assumption) | exact K9 (by decide) Q1 (T5 (by decide) (by assumption) (O4 (by decide))) | exact K9 (by decide) A0D (O4 (by decide)) | assumption, by simp only [D6, E9]; omega⟩)
 refine B0 ?_
 refine sB (qE rfl rfl) rfl rfl (fun h317 => ?_) (fun h317 => ?_)
 refine J0 ?_
 refine sP (P3 rfl rfl (by omega) (by omega)) rfl rfl ?_
 (have hpkq := hpk9; obtain ⟨m, rfl⟩ := hfu.pos (.inl (by omega)); have hmB : mB (m + 1) = 3 * mB m + 200 := rfl; have hgm := A1v m; have hcall := ih m (by omega) (depth - 1) (.mk k ks) (p1 + 1) _ pc nc cc _ (hfu.sub (by omega) hfu.1) (by omega) (by omega) (by omega) hx hrt hb (by omega); refine I9 rfl hcall (Pk.perm (by repeat (first | exact Pk.here | apply Pk.there))) rfl rfl (fun v Gn outs hleh hh => ?_); obtain ⟨ph, hph1, hph2, rfl, eh, ch, rfl, hrh, hsmh, hch⟩ := hh; obtain ⟨h1, h2, h3, h4, h5, h6, h7, h8, h9, rfl⟩ := hrh.nine; replace hx := hx.mono hleh; replace hb := hb.mono hleh; replace hrt := hrt.mono hleh;)
 refine H9 rfl ((A2I _ _)) rfl rfl ?_
 (refine J5 (D2 rfl rfl rfl (by omega) (by unfold maxLen; omega) rfl) rfl ?_; rintro _ ⟨b331, rfl⟩)
 refine H9 rfl ((A0z _ _ _ _ _)) rfl rfl ?_
 (refine J5 (D2 rfl rfl rfl (by omega) (by unfold maxLen; omega) rfl) rfl ?_; rintro _ ⟨b333, rfl⟩)
 refine H9 rfl ((A0z _ _ _ _ _)) rfl rfl ?_
 refine B9 ?_
 (refine H3 (cs := [h1, h2, h3, h4, h5, h6, h7, h8, h9] ++ [.int .i64 2, .string ⟨⟨[]⟩⟩, .int .i64 1, .int .i64 0, .slice none 0 0, .int .i64 0, .slice none 0 0, .int .i64 0, .slice none 0 0]) (by repeat (first | exact Pk.here | apply Pk.there)) (fun G8 hle8 hsl8 hno8 => ?_); have hNi := A4B (k := 10) (nm := ⟨⟨[]⟩⟩) ⟨by omega, by omega⟩ (hrh.mono hle8) (A2o G8 ⟨⟨[]⟩⟩ 1 (k := 2) ⟨by omega, by omega⟩ ⟨by omega, by omega⟩) hsl8; refine H3 (by repeat (first | exact Pk.here | apply Pk.there)) (fun G9 hle9 hsl9 hno9 => ?_); have hN := A4A (k := 11) (nm := ⟨⟨[]⟩⟩) ⟨by omega, by omega⟩ (O3 G9 (k := 0) ⟨by omega, by omega⟩) (hNi.mono hle9) hsl9)
 refine A5 ?_
 refine A01 ?_
 refine H7 (outs := [rd br pb nb cb ph]) (rC rfl (A6 rfl rfl)) (by repeat (first | exact A0.nil | refine A0.cons Pk.here ?_ | refine A0.cons (Pk.there Pk.here) ?_ | refine A0.cons (Pk.there (Pk.there Pk.here)) ?_ | apply A0.drop)) ?_
 (exact ⟨ph, by omega, by omega, rfl, _, _, rfl, hN, by first | exact O4 (by first | assumption | decide) | exact A0C (by decide) (by assumption) (by assumption) (by assumption) | exact T5 (by decide) (by assumption) (by assumption) | exact K9 (by decide) Q1 (by assumption) | exact K9 (by decide) har.small (by assumption) | exact K9 (by decide) Q1 (T5 (by decide) (by assumption) (O4 (by decide))) | exact K9 (by decide) A0D (O4 (by decide)) | assumption, by simp only [D6, E9]; omega⟩)
 refine B0 ?_
 refine A4D (p1 + 1, Gp) (M0 (by repeat (first | exact E7.nil | refine E7.cons rfl ?_)) (by repeat (first | exact A0.refl | exact A0.nil | refine A0.cons (by repeat (first | exact Pk.here | apply Pk.there)) ?_ | apply A0.drop))) ⟨C6.refl _, by dsimp only; omega, by dsimp only; omega⟩
 refine tK ?_
 refine A4D (p1, G1) (M0 (by repeat (first | exact E7.nil | refine E7.cons rfl ?_)) (by repeat (first | exact A0.refl | exact A0.nil | refine A0.cons (by repeat (first | exact Pk.here | apply Pk.there)) ?_ | apply A0.drop))) ⟨C6.refl _, by dsimp only; omega, by dsimp only; omega⟩
 (rintro ⟨(p2 : Nat), G2⟩ ⟨hle2c, hp2a, hp2b⟩; simp only [] at hle2c hp2a hp2b ⊢; have hcut1 := hp2a; replace hx := hx.mono hle2c; replace hb := hb.mono hle2c; replace hrt := hrt.mono hle2c;)
 refine B5 ?_
 (show J2 _ _ (.block 3 ..) _ _; refine B12 (fun (x : Nat × IM) => ⟨[(0, .pointer (some ⟨br, 0, none⟩)), (1, .slice pc nc cc), (3, .int .i64 depth), (6, .pointer (some ⟨b3, 0, none⟩)), (8, .pointer (some ⟨b4, 0, none⟩))], [rd br pb nb cb x.1, .blk b4 [.int .i64 0, .string ⟨⟨[]⟩⟩, .int .i64 0, .int .i64 0, .slice none 0 0, .int .i64 0, .slice none 0 0, .int .i64 0, .slice none 0 0], .blk b3 [.int .i64 k, .slice q ks.length c]], x.2⟩) (fun x => C6 G2 x.2 ∧ p2 ≤ x.1 ∧ x.1 ≤ p2 + 2) ?_ ?_)
 refine C3 (tS (tR (sB (qE rfl rfl) rfl rfl (fun h365 => ?_) (fun h365 => ?_))))
 refine D0 ?_
 refine sB (Y9 rfl rfl) rfl rfl (fun h374 => ?_) (fun h374 => ?_)
 refine A5 ?_
 (have hkk3 : k = 3 := (by omega); refine I9 rfl (Z1 _ br pb nb cb (p2) bs 2 hb hnb (by omega)) (Pk.perm (by repeat (first | exact Pk.here | apply Pk.there))) rfl rfl (fun v Gp outs hle377 hh => ?_); obtain ⟨rfl, rfl, j377, rfl, hj377, hk377⟩ := hh; have hpk22 := hj377)
 replace hb := hb.mono hle377
 replace hrt := hrt.mono hle377
 refine sB (qE rfl rfl) rfl rfl (fun h378 => ?_) (fun h378 => ?_)
 refine D0 ?_
 refine H9 rfl ((A0y _)) rfl rfl ?_
 refine F0 ?_
 refine sP (P3 rfl rfl (by omega) (by omega)) rfl rfl ?_
 (have hkk3q := hkk3; obtain ⟨m, rfl⟩ := hfu.pos (.inl (by omega)); have hmB : mB (m + 1) = 3 * mB m + 200 := rfl; have hgm := A1v m; have hcall := ih m (by omega) (depth - 1) (.mk 2 []) (p2 + 1) _ pc nc cc _ (hfu.sub (by omega) (A3d 4 (by decide) (by decide))) (by omega) (by omega) (by omega) hx (O3 _ ⟨by omega, by omega⟩) hb (by omega); refine I9 rfl hcall (Pk.perm (by repeat (first | exact Pk.here | apply Pk.there))) rfl rfl (fun v Gn outs hlen hh => ?_); obtain ⟨pn, hpn1, hpn2, rfl, en, cn, rfl, hrn, hsmn, hcn⟩ := hh; obtain ⟨n1, n2, n3, n4, n5, n6, n7, n8, n9, rfl⟩ := hrn.nine; replace hx := hx.mono hlen; replace hb := hb.mono hlen; replace hrt := hrt.mono hlen;)
 refine A5 ?_
 refine H9 rfl ((A0y _)) rfl rfl ?_
 refine F0 ?_
 refine sP (P3 rfl rfl (by omega) (by omega)) rfl rfl ?_
 (have hcall := ih m (by omega) (depth - 1) (.mk 2 []) pn _ pc nc cc _ (hfu.sub (by omega) (A3d 4 (by decide) (by decide))) (by omega) (by omega) (by omega) hx (O3 _ ⟨by omega, by omega⟩) hb (by omega); refine I9 rfl hcall (Pk.perm (by repeat (first | exact Pk.here | apply Pk.there))) rfl rfl (fun v Gn outs hleo hh => ?_); obtain ⟨po, hpo1, hpo2, rfl, eo, co, rfl, hro, hsmo, hco⟩ := hh; obtain ⟨o1, o2, o3, o4, o5, o6, o7, o8, o9, rfl⟩ := hro.nine; replace hrn := hrn.mono hleo; replace hx := hx.mono hleo; replace hb := hb.mono hleo; replace hrt := hrt.mono hleo;)
 (refine J5 (D2 rfl rfl rfl (by omega) (by unfold maxLen; omega) rfl) rfl ?_; rintro _ ⟨b397, rfl⟩)
 refine H9 rfl ((A0z _ _ _ _ _)) rfl rfl ?_
 refine B9 ?_
 (refine H3 (cs := [n1, n2, n3, n4, n5, n6, n7, n8, n9] ++ [o1, o2, o3, o4, o5, o6, o7, o8, o9]) (by repeat (first | exact Pk.here | apply Pk.there)) (fun G9 hle9 hsl9 hno9 => ?_); have hN := A4B (k := 8) (nm := ⟨⟨[]⟩⟩) ⟨by omega, by omega⟩ (hrn.mono hle9) (hro.mono hle9) hsl9)
 refine B9 ?_
 refine A01 ?_
 refine H7 (outs := [rd br pb nb cb po]) (rC rfl (A6 rfl rfl)) (by repeat (first | exact A0.nil | refine A0.cons Pk.here ?_ | refine A0.cons (Pk.there Pk.here) ?_ | refine A0.cons (Pk.there (Pk.there Pk.here)) ?_ | apply A0.drop)) ?_
 (exact ⟨po, by omega, by omega, rfl, _, _, rfl, hN, by first | exact O4 (by first | assumption | decide) | exact A0C (by decide) (by assumption) (by assumption) (by assumption) | exact T5 (by decide) (by assumption) (by assumption) | exact K9 (by decide) Q1 (by assumption) | exact K9 (by decide) har.small (by assumption) | exact K9 (by decide) Q1 (T5 (by decide) (by assumption) (O4 (by decide))) | exact K9 (by decide) A0D (O4 (by decide)) | assumption, by simp only [D6, E9]; omega⟩)
 refine J1 ?_
 refine A01 ?_
 refine H7 (outs := [rd br pb nb cb (p2 + 1)]) (rC rfl (A6 rfl rfl)) (by repeat (first | exact A0.nil | refine A0.cons Pk.here ?_ | refine A0.cons (Pk.there Pk.here) ?_ | refine A0.cons (Pk.there (Pk.there Pk.here)) ?_ | apply A0.drop)) ?_
 (exact ⟨(p2 + 1), by omega, by omega, rfl, _, _, rfl, A2o _ _ _ ⟨by omega, by omega⟩ (by first | exact ⟨by omega, by omega⟩ | exact hkn), by first | exact O4 (by first | assumption | decide) | exact A0C (by decide) (by assumption) (by assumption) (by assumption) | exact T5 (by decide) (by assumption) (by assumption) | exact K9 (by decide) Q1 (by assumption) | exact K9 (by decide) har.small (by assumption) | exact K9 (by decide) Q1 (T5 (by decide) (by assumption) (O4 (by decide))) | exact K9 (by decide) A0D (O4 (by decide)) | assumption, by simp only [D6, E9]; omega⟩)
 refine U1 ?_
 refine A01 ?_
 refine H7 (outs := [rd br pb nb cb p2]) (rC rfl (A6 rfl rfl)) (by repeat (first | exact A0.nil | refine A0.cons Pk.here ?_ | refine A0.cons (Pk.there Pk.here) ?_ | refine A0.cons (Pk.there (Pk.there Pk.here)) ?_ | apply A0.drop)) ?_
 (exact ⟨p2, by omega, by omega, rfl, _, _, rfl, A2o _ _ _ ⟨by omega, by omega⟩ (by first | exact ⟨by omega, by omega⟩ | exact hkn), by first | exact O4 (by first | assumption | decide) | exact A0C (by decide) (by assumption) (by assumption) (by assumption) | exact T5 (by decide) (by assumption) (by assumption) | exact K9 (by decide) Q1 (by assumption) | exact K9 (by decide) har.small (by assumption) | exact K9 (by decide) Q1 (T5 (by decide) (by assumption) (O4 (by decide))) | exact K9 (by decide) A0D (O4 (by decide)) | assumption, by simp only [D6, E9]; omega⟩)
 refine B0 ?_
 refine sB (qE rfl rfl) rfl rfl (fun h453 => ?_) (fun h453 => ?_)
 refine B2 ?_
 (have hk45 : k = 4 ∨ k = 5 := (by omega); have hl2 := hops hk45; obtain ⟨m, rfl⟩ := hfu.pos (.inr hk45); have hmB : mB (m + 1) = 3 * mB m + 200 := rfl; have hgm := A1v m; obtain ⟨es9, hsl, hkl⟩ := hrt.kidsM; obtain ⟨b0, o0, q0, d0, hp0, hat0, hre0, hg0⟩ := hsl.kidTy hkl (i := 0) (by omega) (by omega); obtain ⟨b1, o1, q1, d1, hp1, hat1, hre1, hg1⟩ := hsl.kidTy hkl (i := 1) (by omega) (by omega); cases hp0; cases hp1; have hmem0 := List.getElem_mem (l := ks) (n := 0) (by omega); have hmem1 := List.getElem_mem (l := ks) (n := 1) (by omega); refine D8 D9 rfl ?_)
 refine I6 (i := 0) (l' := [tt,ff,ff,ff,ff,ff,ff,ff,ff,ff,ff,ff,ff,ff]) rfl D3 (qM rfl) rfl (by kernel_rfl) rfl rfl ?_
 refine aP 1 rfl (qM rfl) rfl ?_
 refine aP 2 rfl (B8 rfl) rfl ?_
 refine aL 3 rfl (C4 rfl rfl) rfl ?_
 refine aP 4 rfl (B6 (j := 0) rfl rfl rfl (by omega)) rfl ?_
 refine aL 5 rfl (A3 rfl rfl (hat0 _) rfl) rfl ?_
 refine aP 6 rfl (B8 rfl) rfl ?_
 refine aL 7 rfl (C4 rfl rfl) rfl ?_
 refine aP 8 rfl (B6 (j := 1) rfl rfl rfl (by omega)) rfl ?_
 refine aL 9 rfl (A3 rfl rfl (hat1 _) rfl) rfl ?_
 refine aP 10 rfl (qM rfl) rfl ?_
 refine aP 11 rfl (P3 rfl rfl (by omega) (by omega)) rfl ?_
 refine A4 12 ?_
 (have hcall := B11 br pb nb cb bs hnb m (ih m (by omega)) (depth - 1) ks[0] ks[1] (p2) _ pc nc cc _ _ (hfu.kid hmem1) (by omega) (by omega) (by omega) hx hre0 ⟨har.kid _ hmem0, by have := B4e (k := k) hmem0; omega⟩ hre1 hb (by omega); refine X8 (l' := [tt,tt,tt,tt,tt,tt,tt,tt,tt,tt,tt,tt,tt,ff]) rfl rfl hcall (Pk.perm (by repeat (first | exact Pk.here | apply Pk.there))) rfl rfl rfl (by repeat (first | exact A9.nil | apply A9.dep (by decide +kernel) | apply A9.im (by decide +kernel) hg0 (by repeat first | exact mH | apply mT) | apply A9.im (by decide +kernel) hg1 (by repeat first | exact mH | apply mT) | apply A9.blk (by decide +kernel) (by repeat (first | exact Pk.here | apply Pk.there)) (by repeat first | exact mH | apply mT))) (fun v Gn outs hlek hh => ?_); obtain ⟨pk, hpk1, hpk2, rfl, ek, ck, rfl, hrk, hsmk, hck⟩ := hh; obtain ⟨k1, k2, k3, k4, k5, k6, k7, k8, k9, rfl⟩ := hrk.nine; replace hx := hx.mono hlek; replace hb := hb.mono hlek; replace hrt := hrt.mono hlek;)
 refine A4 13 ?_
 refine R9 rfl rfl rfl rfl rfl hrk.one rfl rfl (by kernel_rfl) (by repeat first | exact Sw.here | apply Sw.there) (by rfl) ?_
 refine B7 ?_
 refine A01 ?_
 refine H7 (outs := [rd br pb nb cb pk]) (rC rfl (A6 rfl rfl)) (by repeat (first | exact A0.nil | refine A0.cons Pk.here ?_ | refine A0.cons (Pk.there Pk.here) ?_ | refine A0.cons (Pk.there (Pk.there Pk.here)) ?_ | apply A0.drop)) ?_
 (exact ⟨pk, by omega, by omega, rfl, _, _, rfl, hrk, hsmk, by omega⟩)
 refine B0 ?_
 refine sB (qE rfl rfl) rfl rfl (fun h489 => ?_) (fun h489 => ?_)
 refine B2 ?_
 (have hk45 : k = 4 ∨ k = 5 := (by omega); have hl2 := hops hk45; obtain ⟨m, rfl⟩ := hfu.pos (.inr hk45); have hmB : mB (m + 1) = 3 * mB m + 200 := rfl; have hgm := A1v m; obtain ⟨es9, hsl, hkl⟩ := hrt.kidsM; obtain ⟨b0, o0, q0, d0, hp0, hat0, hre0, hg0⟩ := hsl.kidTy hkl (i := 0) (by omega) (by omega); obtain ⟨b1, o1, q1, d1, hp1, hat1, hre1, hg1⟩ := hsl.kidTy hkl (i := 1) (by omega) (by omega); cases hp0; cases hp1; have hmem0 := List.getElem_mem (l := ks) (n := 0) (by omega); have hmem1 := List.getElem_mem (l := ks) (n := 1) (by omega); refine D8 D9 rfl ?_)
 refine I6 (i := 0) (l' := [tt,ff,ff,ff,ff,ff,ff,ff,ff,ff,ff,ff,ff,ff,ff,ff,ff,ff,ff,ff,ff]) rfl D3 (qM rfl) rfl (by kernel_rfl) rfl rfl ?_
 refine aP 1 rfl (qM rfl) rfl ?_
 refine aP 2 rfl (B8 rfl) rfl ?_
 refine aL 3 rfl (C4 rfl rfl) rfl ?_
 refine aP 4 rfl (B6 (j := 0) rfl rfl rfl (by omega)) rfl ?_
 refine aL 5 rfl (A3 rfl rfl (hat0 _) rfl) rfl ?_
 refine aP 6 rfl (qM rfl) rfl ?_
 refine aP 7 rfl (P3 rfl rfl (by omega) (by omega)) rfl ?_
 refine aP 9 rfl (qM rfl) rfl ?_
 refine aP 10 rfl (qM rfl) rfl ?_
 refine aP 11 rfl (B8 rfl) rfl ?_
 refine aL 12 rfl (C4 rfl rfl) rfl ?_
 refine aP 13 rfl (B6 (j := 1) rfl rfl rfl (by omega)) rfl ?_
 refine aL 14 rfl (A3 rfl rfl (hat1 _) rfl) rfl ?_
 refine aP 15 rfl (qM rfl) rfl ?_
 refine aP 16 rfl (P3 rfl rfl (by omega) (by omega)) rfl ?_
 refine A4 8 ?_
 (have hcall := ih m (by omega) (depth - 1) ks[0] p2 _ pc nc cc _ (hfu.kid hmem0) (by omega) (by omega) (by omega) hx hre0 hb (by omega); refine X8 (l' := [tt,tt,tt,tt,tt,tt,tt,tt,tt,tt,tt,tt,tt,tt,tt,tt,tt,ff,ff,ff,ff]) rfl rfl hcall (Pk.perm (by repeat (first | exact Pk.here | apply Pk.there))) rfl rfl rfl (by repeat (first | exact A9.nil | apply A9.dep (by decide +kernel) | apply A9.im (by decide +kernel) hg0 (by repeat first | exact mH | apply mT) | apply A9.im (by decide +kernel) hg1 (by repeat first | exact mH | apply mT) | apply A9.blk (by decide +kernel) (by repeat (first | exact Pk.here | apply Pk.there)) (by repeat first | exact mH | apply mT))) (fun v Gn outs hles hh => ?_); obtain ⟨ps, hps1, hps2, rfl, es, cs, rfl, hrs, hsms, hcs⟩ := hh; obtain ⟨s1, s2, s3, s4, s5, s6, s7, s8, s9, rfl⟩ := hrs.nine; replace hre1 := hre1.mono hles; replace hx := hx.mono hles; replace hb := hb.mono hles; replace hrt := hrt.mono hles;)
 refine A4 17 ?_
 (have hcall := ih m (by omega) (depth - 1) ks[1] ps _ pc nc cc _ (hfu.kid hmem1) (by omega) (by omega) (by omega) hx hre1 hb (by omega); refine X8 (l' := [tt,tt,tt,tt,tt,tt,tt,tt,tt,tt,tt,tt,tt,tt,tt,tt,tt,tt,ff,ff,ff]) rfl rfl hcall (Pk.perm (by repeat (first | exact Pk.here | apply Pk.there))) rfl rfl rfl (by repeat (first | exact A9.nil | apply A9.dep (by decide +kernel) | apply A9.im (by decide +kernel) hg0 (by repeat first | exact mH | apply mT) | apply A9.im (by decide +kernel) hg1 (by repeat first | exact mH | apply mT) | apply A9.blk (by decide +kernel) (by repeat (first | exact Pk.here | apply Pk.there)) (by repeat first | exact mH | apply mT))) (fun v Gn outs hlew hh => ?_); obtain ⟨pw, hpw1, hpw2, rfl, ew, cw, rfl, hrw, hsmw, hcw⟩ := hh; obtain ⟨w1, w2, w3, w4, w5, w6, w7, w8, w9, rfl⟩ := hrw.nine; replace hrs := hrs.mono hlew; replace hx := hx.mono hlew; replace hb := hb.mono hlew; replace hrt := hrt.mono hlew;)
 refine A4 18 ?_
 (refine E6 rfl (D2 rfl rfl rfl (by omega) (by unfold maxLen; omega) rfl) rfl rfl ?_; rintro _ ⟨b517, rfl⟩)
 refine A4 19 ?_
 refine N6 rfl rfl ((A0z _ _ _ _ _)) rfl rfl rfl ?_
 refine A4 20 ?_
 refine R9 rfl rfl rfl rfl rfl rfl rfl rfl (by decide +kernel) (by repeat first | exact Sw.here | apply Sw.there) (by rfl) ?_
 refine A5 ?_
 (refine H3 (cs := [s1, s2, s3, s4, s5, s6, s7, s8, s9] ++ [w1, w2, w3, w4, w5, w6, w7, w8, w9]) (by repeat (first | exact Pk.here | apply Pk.there)) (fun G9 hle9 hsl9 hno9 => ?_); have hN := A4B (k := 10) (nm := ⟨⟨[]⟩⟩) ⟨by omega, by omega⟩ (hrs.mono hle9) (hrw.mono hle9) hsl9)
 refine A5 ?_
 refine A01 ?_
 refine H7 (outs := [rd br pb nb cb pw]) (rC rfl (A6 rfl rfl)) (by repeat (first | exact A0.nil | refine A0.cons Pk.here ?_ | refine A0.cons (Pk.there Pk.here) ?_ | refine A0.cons (Pk.there (Pk.there Pk.here)) ?_ | apply A0.drop)) ?_
 (exact ⟨pw, by omega, by omega, rfl, _, _, rfl, hN, by first | exact O4 (by first | assumption | decide) | exact A0C (by decide) (by assumption) (by assumption) (by assumption) | exact T5 (by decide) (by assumption) (by assumption) | exact K9 (by decide) Q1 (by assumption) | exact K9 (by decide) har.small (by assumption) | exact K9 (by decide) Q1 (T5 (by decide) (by assumption) (O4 (by decide))) | exact K9 (by decide) A0D (O4 (by decide)) | assumption, by simp only [D6, E9]; omega⟩)
 refine B0 ?_
 refine sB (qE rfl rfl) rfl rfl (fun h536 => ?_) (fun h536 => ?_)
 refine D0 ?_
 refine sB (Y9 rfl rfl) rfl rfl (fun h545 => ?_) (fun h545 => ?_)
 refine A5 ?_
 (have hkk1 : k = 1 := (by omega); refine I9 rfl (Z1 _ br pb nb cb (p2) bs 3 hb hnb (by omega)) (Pk.perm (by repeat (first | exact Pk.here | apply Pk.there))) rfl rfl (fun v Gp outs hle548 hh => ?_); obtain ⟨rfl, rfl, j548, rfl, hj548, hk548⟩ := hh; have hpk23 := hj548)
 replace hb := hb.mono hle548
 replace hrt := hrt.mono hle548
 refine sB (qE rfl rfl) rfl rfl (fun h549 => ?_) (fun h549 => ?_)
 refine E1 ?_
 (have hcall := A35 br pb nb cb bs hnb 1 (p2 + 1) _ (by omega) hb (by have : dB (1 + 1) ≤ 6 := (by decide); omega); refine I9 rfl hcall (Pk.perm (by repeat (first | exact Pk.here | apply Pk.there))) rfl rfl (fun v Gn outs hleF hh => ?_); obtain ⟨pF, hpF1, hpF2, rfl, uF, cuF, rfl, hruF, husF, huhF⟩ := hh; have huaF := huhF.ar; obtain ⟨quF, duF, euF, rfl, _⟩ := hruF.open; have hdBF : dB (1 + 1) ≤ 6 := (by decide); replace hx := hx.mono hleF; replace hb := hb.mono hleF; replace hrt := hrt.mono hleF;)
 refine F0 ?_
 refine sP (P3 rfl rfl (by omega) (by omega)) rfl rfl ?_
 (obtain ⟨m, rfl⟩ := hfu.pos (.inl (by omega)); have hmB : mB (m + 1) = 3 * mB m + 200 := rfl; have hgm := A1v m; have hcall := ih m (by omega) (depth - 1) uF pF _ pc nc cc _ (hfu.sub (by omega) (huhF.le (by omega))) (by omega) (by omega) (by omega) hx hruF hb (by omega); refine I9 rfl hcall (Pk.perm (by repeat (first | exact Pk.here | apply Pk.there))) rfl rfl (fun v Gn outs hlex hh => ?_); obtain ⟨px, hpx1, hpx2, rfl, ex, cx, rfl, hrx, hsmx, hcx⟩ := hh; obtain ⟨x1, x2, x3, x4, x5, x6, x7, x8, x9, rfl⟩ := hrx.nine; replace hx := hx.mono hlex; replace hb := hb.mono hlex; replace hrt := hrt.mono hlex;)
 refine sS rfl rfl rfl rfl hrx.one rfl ?_
 refine B2 ?_
 refine A01 ?_
 refine H7 (outs := [rd br pb nb cb px]) (rC rfl (A6 rfl rfl)) (by repeat (first | exact A0.nil | refine A0.cons Pk.here ?_ | refine A0.cons (Pk.there Pk.here) ?_ | refine A0.cons (Pk.there (Pk.there Pk.here)) ?_ | apply A0.drop)) ?_
 (exact ⟨px, by omega, by omega, rfl, _, _, rfl, hrx, hsmx, by omega⟩)
 refine E1 ?_
 (refine I9 rfl (Z1 _ br pb nb cb (p2 + 1) bs 3 hb hnb (by omega)) (Pk.perm (by repeat (first | exact Pk.here | apply Pk.there))) rfl rfl (fun v Gp outs hle581 hh => ?_); obtain ⟨rfl, rfl, j581, rfl, hj581, hk581⟩ := hh; have hpk21 := hj581)
 replace hb := hb.mono hle581
 replace hrt := hrt.mono hle581
 refine sB (qE rfl rfl) rfl rfl (fun h582 => ?_) (fun h582 => ?_)
 refine B2 ?_
 refine H9 rfl ((A1Q _)) rfl rfl ?_
 refine F0 ?_
 (refine J5 (D2 rfl rfl rfl (by omega) (by unfold maxLen; omega) rfl) rfl ?_; rintro _ ⟨b590, rfl⟩)
 refine B7 ?_
 (refine H3 (cs := [.int .i64 4, .string ⟨⟨[]⟩⟩, .int .i64 0, .int .i64 0, .slice none 0 0, .int .i64 0, .slice none 0 0, .int .i64 0, .slice none 0 0]) (by repeat (first | exact Pk.here | apply Pk.there)) (fun G9 hle9 hsl9 hno9 => ?_); have hN := A4A (k := 13) (nm := ⟨⟨[]⟩⟩) ⟨by omega, by omega⟩ (A0M _) (A2o G9 ⟨⟨[]⟩⟩ 0 (k := 4) ⟨by omega, by omega⟩ ⟨by omega, by omega⟩) hsl9)
 refine A5 ?_
 refine A01 ?_
 refine H7 (outs := [rd br pb nb cb (p2 + 1 + 1)]) (rC rfl (A6 rfl rfl)) (by repeat (first | exact A0.nil | refine A0.cons Pk.here ?_ | refine A0.cons (Pk.there Pk.here) ?_ | refine A0.cons (Pk.there (Pk.there Pk.here)) ?_ | apply A0.drop)) ?_
 (exact ⟨(p2 + 1 + 1), by omega, by omega, rfl, _, _, rfl, hN, by first | exact O4 (by first | assumption | decide) | exact A0C (by decide) (by assumption) (by assumption) (by assumption) | exact T5 (by decide) (by assumption) (by assumption) | exact K9 (by decide) Q1 (by assumption) | exact K9 (by decide) har.small (by assumption) | exact K9 (by decide) Q1 (T5 (by decide) (by assumption) (O4 (by decide))) | exact K9 (by decide) A0D (O4 (by decide)) | assumption, by simp only [D6, E9]; omega⟩)
 refine B2 ?_
 refine A4D (p2 + 1 + 1, Gp) (M0 (by repeat (first | exact E7.nil | refine E7.cons rfl ?_)) (by repeat (first | exact A0.refl | exact A0.nil | refine A0.cons (by repeat (first | exact Pk.here | apply Pk.there)) ?_ | apply A0.drop))) ⟨C6.refl _, by dsimp only; omega, by dsimp only; omega⟩
 refine J4 ?_
 (have hkk1 : k = 1 := (by omega); refine I9 rfl (Z1 _ br pb nb cb (p2) bs 3 hb hnb (by omega)) (Pk.perm (by repeat (first | exact Pk.here | apply Pk.there))) rfl rfl (fun v Gp outs hle620 hh => ?_); obtain ⟨rfl, rfl, j620, rfl, hj620, hk620⟩ := hh; have hpk23 := hj620)
 replace hb := hb.mono hle620
 replace hrt := hrt.mono hle620
 refine sB (qE rfl rfl) rfl rfl (fun h621 => ?_) (fun h621 => ?_)
 refine B2 ?_
 refine H9 rfl ((A1Q _)) rfl rfl ?_
 refine F0 ?_
 (refine J5 (D2 rfl rfl rfl (by omega) (by unfold maxLen; omega) rfl) rfl ?_; rintro _ ⟨b629, rfl⟩)
 refine B7 ?_
 (refine H3 (cs := [.int .i64 4, .string ⟨⟨[]⟩⟩, .int .i64 0, .int .i64 0, .slice none 0 0, .int .i64 0, .slice none 0 0, .int .i64 0, .slice none 0 0]) (by repeat (first | exact Pk.here | apply Pk.there)) (fun G9 hle9 hsl9 hno9 => ?_); have hN := A4A (k := 13) (nm := ⟨⟨[]⟩⟩) ⟨by omega, by omega⟩ (A0M _) (A2o G9 ⟨⟨[]⟩⟩ 0 (k := 4) ⟨by omega, by omega⟩ ⟨by omega, by omega⟩) hsl9)
 refine A5 ?_
 refine A01 ?_
 refine H7 (outs := [rd br pb nb cb (p2 + 1)]) (rC rfl (A6 rfl rfl)) (by repeat (first | exact A0.nil | refine A0.cons Pk.here ?_ | refine A0.cons (Pk.there Pk.here) ?_ | refine A0.cons (Pk.there (Pk.there Pk.here)) ?_ | apply A0.drop)) ?_
 (exact ⟨(p2 + 1), by omega, by omega, rfl, _, _, rfl, hN, by first | exact O4 (by first | assumption | decide) | exact A0C (by decide) (by assumption) (by assumption) (by assumption) | exact T5 (by decide) (by assumption) (by assumption) | exact K9 (by decide) Q1 (by assumption) | exact K9 (by decide) har.small (by assumption) | exact K9 (by decide) Q1 (T5 (by decide) (by assumption) (O4 (by decide))) | exact K9 (by decide) A0D (O4 (by decide)) | assumption, by simp only [D6, E9]; omega⟩)
 refine B2 ?_
 refine A4D (p2 + 1, Gp) (M0 (by repeat (first | exact E7.nil | refine E7.cons rfl ?_)) (by repeat (first | exact A0.refl | exact A0.nil | refine A0.cons (by repeat (first | exact Pk.here | apply Pk.there)) ?_ | apply A0.drop))) ⟨C6.refl _, by dsimp only; omega, by dsimp only; omega⟩
 refine B0 ?_
 refine A4D (p2, G2) (M0 (by repeat (first | exact E7.nil | refine E7.cons rfl ?_)) (by repeat (first | exact A0.refl | exact A0.nil | refine A0.cons (by repeat (first | exact Pk.here | apply Pk.there)) ?_ | apply A0.drop))) ⟨C6.refl _, by dsimp only; omega, by dsimp only; omega⟩
 (have hq := hcut1; rintro ⟨(p5 : Nat), G5⟩ ⟨hle5c, hp5a, hp5b⟩; simp only [] at hle5c hp5a hp5b ⊢; have hcut2 := hp5a; replace hx := hx.mono hle5c; replace hb := hb.mono hle5c; replace hrt := hrt.mono hle5c;)
 refine B7 ?_
 refine sB (Y9 rfl rfl) rfl rfl (fun h658 => ?_) (fun h658 => ?_)
 refine A5 ?_
 (refine I9 rfl (Z1 _ br pb nb cb (p5) bs 2 hb hnb (by omega)) (Pk.perm (by repeat (first | exact Pk.here | apply Pk.there))) rfl rfl (fun v Gp outs hle661 hh => ?_); obtain ⟨rfl, rfl, j661, rfl, hj661, hk661⟩ := hh; have hpk5 := hj661)
 replace hb := hb.mono hle661
 replace hrt := hrt.mono hle661
 refine sB (qE rfl rfl) rfl rfl (fun h662 => ?_) (fun h662 => ?_)
 refine E1 ?_
 refine H9 rfl ((A0y _)) rfl rfl ?_
 (have hz2 : K6 (.mk 2 []) = 0 := rfl; have hcall := A5c br pb nb cb bs hnb (.mk 2 []) (p5 + 1) _ _ (X0 (by decide) (by decide)) (O3 _ ⟨by omega, by omega⟩) hb (by omega); refine I9 rfl hcall (Pk.perm (by repeat (first | exact Pk.here | apply Pk.there))) rfl rfl (fun v Gn outs hleG hh => ?_); obtain ⟨pG, hpG1, hpG2, rfl, uG, cuG, rfl, hruG, huaG, husG, huhG⟩ := hh; obtain ⟨quG, duG, euG, rfl, _⟩ := hruG.open; replace hx := hx.mono hleG; replace hb := hb.mono hleG; replace hrt := hrt.mono hleG;)
 refine F0 ?_
 refine sP (P3 rfl rfl (by omega) (by omega)) rfl rfl ?_
 (obtain ⟨m, rfl⟩ := hfu.pos (.inl (by omega)); have hmB : mB (m + 1) = 3 * mB m + 200 := rfl; have hgm := A1v m; have hcall := ih m (by omega) (depth - 1) uG pG _ pc nc cc _ (hfu.sub (by omega) (huhG 4 (A3d 4 (by decide) (by decide)))) (by omega) (by omega) (by omega) hx hruG hb (by omega); refine I9 rfl hcall (Pk.perm (by repeat (first | exact Pk.here | apply Pk.there))) rfl rfl (fun v Gn outs hley hh => ?_); obtain ⟨py, hpy1, hpy2, rfl, ey, cy, rfl, hry, hsmy, hcy⟩ := hh; obtain ⟨y1, y2, y3, y4, y5, y6, y7, y8, y9, rfl⟩ := hry.nine; replace hx := hx.mono hley; replace hb := hb.mono hley; replace hrt := hrt.mono hley;)
 refine A5 ?_
 refine H9 rfl ((A0y _)) rfl rfl ?_
 refine F0 ?_
 refine sP (P3 rfl rfl (by omega) (by omega)) rfl rfl ?_
 (have hcall := ih m (by omega) (depth - 1) (.mk 2 []) py _ pc nc cc _ (hfu.sub (by omega) (A3d 4 (by decide) (by decide))) (by omega) (by omega) (by omega) hx (O3 _ ⟨by omega, by omega⟩) hb (by omega); refine I9 rfl hcall (Pk.perm (by repeat (first | exact Pk.here | apply Pk.there))) rfl rfl (fun v Gn outs hlec hh => ?_); obtain ⟨pc, hpc1, hpc2, rfl, ec, cc, rfl, hrc, hsmc, hcc⟩ := hh; obtain ⟨c1, c2, c3, c4, c5, c6, c7, c8, c9, rfl⟩ := hrc.nine; replace hry := hry.mono hlec; replace hx := hx.mono hlec; replace hb := hb.mono hlec; replace hrt := hrt.mono hlec;)
 (refine J5 (D2 rfl rfl rfl (by omega) (by unfold maxLen; omega) rfl) rfl ?_; rintro _ ⟨b683, rfl⟩)
 refine H9 rfl ((A0z _ _ _ _ _)) rfl rfl ?_
 refine B9 ?_
 (refine H3 (cs := [y1, y2, y3, y4, y5, y6, y7, y8, y9] ++ [c1, c2, c3, c4, c5, c6, c7, c8, c9]) (by repeat (first | exact Pk.here | apply Pk.there)) (fun G9 hle9 hsl9 hno9 => ?_); have hN := A4B (k := 7) (nm := ⟨⟨[]⟩⟩) ⟨by omega, by omega⟩ (hry.mono hle9) (hrc.mono hle9) hsl9)
 refine A5 ?_
 refine H7 (outs := [rd br pb nb cb pc]) (rC rfl (A6 rfl rfl)) (by repeat (first | exact A0.nil | refine A0.cons Pk.here ?_ | refine A0.cons (Pk.there Pk.here) ?_ | refine A0.cons (Pk.there (Pk.there Pk.here)) ?_ | apply A0.drop)) ?_
 (exact ⟨pc, by omega, by omega, rfl, _, _, rfl, hN, by first | exact O4 (by first | assumption | decide) | exact A0C (by decide) (by assumption) (by assumption) (by assumption) | exact T5 (by decide) (by assumption) (by assumption) | exact K9 (by decide) Q1 (by assumption) | exact K9 (by decide) har.small (by assumption) | exact K9 (by decide) Q1 (T5 (by decide) (by assumption) (O4 (by decide))) | exact K9 (by decide) A0D (O4 (by decide)) | assumption, by simp only [D6, E9]; omega⟩)
 refine E1 ?_
 (refine J5 (D2 rfl rfl rfl (by omega) (by unfold maxLen; omega) rfl) rfl ?_; rintro _ ⟨b702, rfl⟩)
 (refine V0 (by repeat (first | exact Pk.here | apply Pk.there)) (fun G4 hle4 hsl4 _ => ?_); refine I9 rfl (A0k G4 br pb nb cb (p5 + 1) bs _ _ _ _ (hb.mono hle4) hnb (by omega) hsl4 (by decide)) (Pk.perm (by repeat (first | exact Pk.here | apply Pk.there))) rfl rfl (fun v G7 outs hle7 hh => ?_); obtain ⟨rfl, rfl, hv⟩ := hh; obtain ⟨kn, rfl, hkn⟩ : ∃ k, v = .int .i64 k ∧ H1 k := (by simp only [List.mem_cons, List.not_mem_nil, or_false] at hv; rcases hv with rfl | rfl | rfl | rfl | rfl <;> exact ⟨_, rfl, by unfold H1; omega⟩))
 refine H9 rfl ((A2I _ _)) rfl rfl ?_
 refine B7 ?_
 refine H7 (outs := [rd br pb nb cb (p5 + 1 + 1)]) (rC rfl (A6 rfl rfl)) (by repeat (first | exact A0.nil | refine A0.cons Pk.here ?_ | refine A0.cons (Pk.there Pk.here) ?_ | refine A0.cons (Pk.there (Pk.there Pk.here)) ?_ | apply A0.drop)) ?_
 (exact ⟨(p5 + 1 + 1), by omega, by omega, rfl, _, _, rfl, A2o _ _ _ ⟨by omega, by omega⟩ (by first | exact ⟨by omega, by omega⟩ | exact hkn), by first | exact O4 (by first | assumption | decide) | exact A0C (by decide) (by assumption) (by assumption) (by assumption) | exact T5 (by decide) (by assumption) (by assumption) | exact K9 (by decide) Q1 (by assumption) | exact K9 (by decide) har.small (by assumption) | exact K9 (by decide) Q1 (T5 (by decide) (by assumption) (O4 (by decide))) | exact K9 (by decide) A0D (O4 (by decide)) | assumption, by simp only [D6, E9]; omega⟩)
 refine J4 ?_
 (refine J5 (D2 rfl rfl rfl (by omega) (by unfold maxLen; omega) rfl) rfl ?_; rintro _ ⟨b724, rfl⟩)
 (refine V0 (by repeat (first | exact Pk.here | apply Pk.there)) (fun G4 hle4 hsl4 _ => ?_); refine I9 rfl (A0k G4 br pb nb cb p5 bs _ _ _ _ (hb.mono hle4) hnb (by omega) hsl4 (by decide)) (Pk.perm (by repeat (first | exact Pk.here | apply Pk.there))) rfl rfl (fun v G7 outs hle7 hh => ?_); obtain ⟨rfl, rfl, hv⟩ := hh; obtain ⟨kn, rfl, hkn⟩ : ∃ k, v = .int .i64 k ∧ H1 k := (by simp only [List.mem_cons, List.not_mem_nil, or_false] at hv; rcases hv with rfl | rfl | rfl | rfl | rfl <;> exact ⟨_, rfl, by unfold H1; omega⟩))
 refine H9 rfl ((A2I _ _)) rfl rfl ?_
 refine B7 ?_
 refine H7 (outs := [rd br pb nb cb (p5 + 1)]) (rC rfl (A6 rfl rfl)) (by repeat (first | exact A0.nil | refine A0.cons Pk.here ?_ | refine A0.cons (Pk.there Pk.here) ?_ | refine A0.cons (Pk.there (Pk.there Pk.here)) ?_ | apply A0.drop)) ?_
 (exact ⟨(p5 + 1), by omega, by omega, rfl, _, _, rfl, A2o _ _ _ ⟨by omega, by omega⟩ (by first | exact ⟨by omega, by omega⟩ | exact hkn), by first | exact O4 (by first | assumption | decide) | exact A0C (by decide) (by assumption) (by assumption) (by assumption) | exact T5 (by decide) (by assumption) (by assumption) | exact K9 (by decide) Q1 (by assumption) | exact K9 (by decide) har.small (by assumption) | exact K9 (by decide) Q1 (T5 (by decide) (by assumption) (O4 (by decide))) | exact K9 (by decide) A0D (O4 (by decide)) | assumption, by simp only [D6, E9]; omega⟩)
mutual
def P2 : Tm → List Ty
 | .mk k _ _ ty _ _ ks => (if k = 5 ∨ k = 13 then [ty] else []) ++ L5 ks
def L5 : List Tm → List Ty
 | [] => []
 | t :: ts => P2 t ++ L5 ts
end
theorem A7J : ∀ (a b : List Tm), L5 (a ++ b) = L5 a ++ L5 b
 | [], b => by simp [L5]
 | t :: a, b => by simp [L5, A7J a b]
theorem A3G {ks : List Tm} {i : Nat} (hi : i < ks.length) : L5 (ks.take (i + 1)) = L5 (ks.take i) ++ P2 ks[i] := by
 rw [List.take_succ_eq_append_getElem hi, A7J, L5, L5, List.append_nil]
mutual
theorem B13 : ∀ t : Tm, (P2 t).length ≤ D6 t
 | .mk k nm num ty fr lb ks => by
  have := A2p ks
  rw [P2, D6, List.length_append]
  split <;> simp <;> omega
theorem A2p : ∀ ts : List Tm, (L5 ts).length ≤ E9 ts
 | [] => by simp [L5]
 | t :: ts => by
  have := B13 t
  have := A2p ts
  rw [L5, E9, List.length_append]; omega
end
mutual
def A0P : Tm → List Ty → Tm
 | .mk k nm num ty fr lb ks, l => .mk k nm num (if k = 5 ∨ k = 13 then l.getD 0 B4 else ty) fr lb (W3 ks (if k = 5 ∨ k = 13 then l.drop 1 else l))
def W3 : List Tm → List Ty → List Tm
 | [], _ => []
 | t :: ts, l => A0P t l :: W3 ts (l.drop (P2 t).length)
end
theorem A4E : ∀ (ts : List Tm) (l : List Ty), (W3 ts l).length = ts.length
 | [], _ => rfl
 | t :: ts, l => by rw [W3, List.length_cons, A4E ts, List.length_cons]
theorem B14 : ∀ (a b : List Tm) (l : List Ty), W3 (a ++ b) l = W3 a l ++ W3 b (l.drop (L5 a).length)
 | [], b, l => by simp [W3, L5]
 | t :: a, b, l => by simp [W3, L5, B14 a b, List.drop_drop]
theorem A7K {ks : List Tm} {i : Nat} (hi : i < ks.length) (l : List Ty) : W3 (ks.take (i + 1)) l = W3 (ks.take i) l ++ [A0P ks[i] (l.drop (L5 (ks.take i)).length)] := by
 rw [List.take_succ_eq_append_getElem hi, B14, W3, W3]
def B15 (mask : Nat) : Nat → List Ty → List Ty
 | _, [] => []
 | i, t :: ts => (if (mask / 2 ^ i) % 2 = 1 then .mk 1 [] else t) :: B15 mask (i + 1) ts
def B7U (e : Tm) (mask : Nat) : Tm := A0P e (B15 mask 0 (P2 e))
def B8x (e : Tm) : List Tm := (List.range (2 ^ (P2 e).length)).map (B7U e)
theorem A7L {ks : List Tm} {i : Nat} (hi : i < ks.length) : (L5 (ks.take i)).length + (P2 ks[i]).length ≤ (L5 ks).length := by
 have h : ks = ks.take (i + 1) ++ ks.drop (i + 1) := (List.take_append_drop _ _).symm
 conv => rhs; rw [h]
 rw [A7J, A3G hi]
 simp only [List.length_append]; omega
section cap
variable {P : Program} {Γ : M2} {env : M7} {hp : List A7} {G : IM} {K : Po} {ops : Array Oper} {rest : List Oper}
end cap
theorem D5.append {G : IM} : ∀ {a b : List Ty} {es fs : List (List Value)}, D5 G a es → D5 G b fs → D5 G (a ++ b) (es ++ fs)
 | [], b, es, fs, h, h2 => by simp only [D5] at h; subst h; simpa using h2
 | t :: a, b, es, fs, h, h2 => by
  simp only [D5] at h
  obtain ⟨x, r, rfl, h3, h4⟩ := h
  simp only [List.cons_append, D5]
  exact ⟨x, r ++ fs, rfl, h3, D5.append h4 h2⟩
theorem D5.one1 {G : IM} {t : Ty} {c : List Value} (h : C1 G t c) : D5 G [t] [c] := by
 simp only [D5]; exact ⟨c, [], rfl, h, rfl⟩
def A0v (ts : List Ty) : IM → Value → List A7 → Prop := fun G' v outs => ∃ p c es, v = .slice p ts.length c ∧ outs = [.slc p c 25 2 ts.length es.flatten] ∧ D5 G' ts es
theorem A0v.mk {ts : List Ty} {n : Nat} {G' : IM} {p : Option Addr} {c : Nat} {es : List (List Value)} (hn : ts.length = n) (hr : D5 G' ts es) : A0v ts G' (.slice p n c) [.slc p c 25 2 n es.flatten] := by
 subst hn
 exact ⟨p, c, es, rfl, rfl, hr⟩
def RtP (u : Tm) (l : List Ty) : IM → Value → List A7 → Prop := fun G' v outs => outs = [] ∧ ∃ cu p c el, v = .tuple ⟨[.agg ⟨cu⟩, .slice p l.length c]⟩ ∧ B3 G' u cu ∧ E0 G' p l.length c 2 el ∧ D5 G' l el
section bits
variable {P : Program} {Γ : M2} {env : M7} {hp : List A7} {G : IM} {ty : TypeId}
end bits
theorem B7V {cs vs cs' C : List Value} {o : Nat} (h : S7 cs o vs = some cs') : cs' ++ C = (cs ++ C).take o ++ vs ++ (cs ++ C).drop (o + vs.length) := by
 obtain ⟨h1, h2⟩ := A25 h
 rw [h1, List.take_append_of_le_length (by omega), List.drop_append_of_le_length (by omega)]
 simp
section wr
variable {P : Program} {Γ : M2} {env : M7} {hp : List A7} {G : IM} {ty : TypeId} {K : Po} {ops : Array Oper} {rest : List Oper}
theorem B7W {d : Option Nat} {x y : Operand} {t : TypeId} {i : L4} [hI : I4 P t i] {b o c el sz n : Nat} {v : Value} {vs cs cs' : List Value} {hp' : List A7}
  (hx : evo env x = some (.pointer (some ⟨b, o, none⟩))) (hy : evo env y = some v) (hv : v.cells = ⟨vs⟩) (hsz : vs.length = i.size) (h1 : vs.all (·.oneCell') = true)
  (hu : S7 cs o vs = some cs') (hm : Sw hp (.slc (some ⟨b, 0, none⟩) c el sz n cs) (.slc (some ⟨b, 0, none⟩) c el sz n cs') hp') (hd : dok Γ.n d = true) :
  X4 P Γ ⟨env, hp, G⟩ d (.store t x y) ty [b] (fun σ' => σ' = ⟨dpu d undef env, hp', G⟩) := by
 refine ⟨fun a w hs pos af gd Q next hn => ?_⟩
 obtain ⟨rest, p1, p2⟩ := hm.perm
 have hown : T8 [.slc (some ⟨b, 0, none⟩) c el sz n cs] G w := hs.res.own.of_mem p1
 obtain ⟨hl, h⟩ := hown.ok _ List.mem_cons_self
 rcases h with ⟨hv', _⟩ | ⟨g, cap, cur, hv', hbg, hg, hnc, hcm, hcs, ht⟩
 ·cases hv'
 cases hv'
 obtain ⟨u1, u2⟩ := A25 hu
 have hcur : cur.toList = cs ++ cur.toList.drop (n * sz) := by
  conv => lhs; rw [← List.take_append_drop (n * sz) cur.toList, ht]
 have hlen : cs.length ≤ cur.size := by
  rw [hl, hcs]; exact Nat.mul_le_mul_right _ hnc
 have hst := run_storeCells_at P b o el vs 0 cur w hg (by omega) (by simpa using h1)
 obtain ⟨cur', hcur'⟩ : ∃ l : List Value, l = cs' ++ cur.toList.drop (n * sz) := ⟨_, rfl⟩
 have hcc : cur.toList.take (o + 0) ++ vs ++ cur.toList.drop (o + 0 + vs.length) = cur' := by
  rw [hcur', Nat.add_zero, B7V hu, ← hcur]
 rw [hcc] at hst
 have hl' : cs'.length = cs.length := by rw [u1]; simp; omega
 have hsz' : cur'.length = cur.size := by
  have := congrArg List.length hcur
  rw [hcur', List.length_append, hl']
  simpa using this.symm
 obtain ⟨inf, g1, g2, _⟩ := hI.info
 have hrun : (execOp a.eval ⟨d, .store t x y, ty, pos, af, gd⟩).run P w = .ok .skip (w.setRow b cur'.toArray) := by
  simp [execOp, Instr.storeAt, Instr.sureAddr, (hs.evo hx : a.eval x = _), (hs.evo hy : a.eval y = _), storeVar, sizeOf, typeInfo, g1, g2, hv, hsz, hst]
 simp only [Oper.wp, hrun, Oper.upon]
 have hr' : R0 [.slc (some ⟨b, 0, none⟩) c el sz n cs] G w [.slc (some ⟨b, 0, none⟩) c el sz n cs'] G (w.setRow b cur'.toArray) := by
  refine ⟨⟨?_, ?_, by simp [Fp, A7.fp, K0], ?_⟩, ⟨rfl, rfl, rfl, by simp [World.setRow], fun k _ hk => setRow_other w b k _ (by rintro rfl; simp [Fp, A7.fp, K0] at hk)⟩, C6.refl _, fun _ _ h => .inl h, ?_, fun b l h h0 => absurd h (by rw [h0]; simp)⟩
  ·intro k l hg'
   obtain ⟨e', f', h'⟩ := hown.inn k l hg'
   refine ⟨e', f', ?_⟩
   rw [setRow_other w b k _ ?_]
   ·exact h'
   ·rintro rfl
    have := hown.disj k (by simp [Fp, A7.fp, K0])
    rw [this] at hg'; cases hg'
  ·intro x hx
   simp at hx; subst hx
   refine ⟨by rw [hl', hl], .inr ⟨b, _, cur'.toArray, rfl, hbg, setRow_heap w b cur cur'.toArray el (0, 0) hg, hnc, hcm, by rw [List.size_toArray, hsz', hcs], ?_⟩⟩
   rw [hcur', List.take_left' (by rw [hl', hl])]
  ·intro k hk
   exact hown.disj k (by simpa [Fp, A7.fp, K0] using hk)
  ·intro k hk
   exact .inr (by simpa [Fp, A7.fp, K0] using hk)
 exact hn _ _ _ (hs.step p1 hr' p2 hd) (by simpa [Fp, A7.fp, K0] using hr'.ext) rfl
variable {pos : String} {af : Array Edge} {gd : Option (Nat × Bool)}
theorem B7X {c el sz n : Nat} {cs vs : List Value} {x y : Operand} {t : TypeId} {i : L4} [hI : I4 P t i] {bb o : Nat} {v : Value} {cs' : List Value} {hp' : List A7}
  (hx : evo env x = some (.pointer (some ⟨bb, o, none⟩))) (hy : evo env y = some v) (hv : v.cells = ⟨vs⟩) (hsz : vs.length = i.size) (h1 : vs.all (·.oneCell') = true)
  (hw : L6 ops env gd = some true) (hsw : Sw hp (.slc (some ⟨bb, 0, none⟩) c el sz n cs) (.slc (some ⟨bb, 0, none⟩) c el sz n cs') hp') (hu : S7 cs o vs = some cs')
  (k : I1 P Γ ops rest K ⟨env, hp', G⟩) : I1 P Γ ops (⟨none, .store t x y, ty, pos, af, gd⟩ :: rest) K ⟨env, hp, G⟩ :=
 J5 (B7W hx hy hv hsz h1 hu hsw rfl) hw (by rintro _ rfl; exact k)
theorem St.slc_ptT {p : Option Addr} {c el sz n : Nat} {cs : List Value} {a : Act} {w : World} (hs : St Γ ⟨env, hp, G⟩ a w) (hm : A7.slc p c el sz n cs ∈ hp) :
  (p = none ∧ n = 0 ∧ c = 0) ∨ ∃ g, p = some ⟨g, 0, none⟩ ∧ n ≤ c := by
 obtain ⟨_, h⟩ := hs.res.own.ok _ hm
 rcases h with ⟨hv, hn⟩ | ⟨g, cap, cur, hv, _, _, hnc, _⟩
 ·cases hv; exact .inl ⟨rfl, hn, rfl⟩
 ·cases hv; exact .inr ⟨g, rfl, hnc⟩
end wr
theorem B7Y {es : List (List Value)} {i sz : Nat} {vs : List Value} (hi : i < es.length) (ha : ∀ e ∈ es, e.length = sz) (hv : vs.length = sz) : S7 es.flatten (0 + i * sz) vs = some (es.set i vs).flatten := by
 have h1 : es.flatten = (es.take i).flatten ++ (es[i] ++ (es.drop (i + 1)).flatten) := by
  conv => lhs; rw [← List.take_append_drop i es, List.drop_eq_getElem_cons hi]
  rw [List.flatten_append, List.flatten_cons]
 have h2 : (es.set i vs).flatten = (es.take i).flatten ++ (vs ++ (es.drop (i + 1)).flatten) := by rw [List.set_eq_take_append_cons_drop, if_pos hi, List.flatten_append, List.flatten_cons]
 have hA : ((es.take i).flatten).length = 0 + i * sz := by rw [A0T (fun e he => ha e (List.mem_of_mem_take he)), List.length_take, Nat.min_eq_left (by omega)]; omega
 rw [h1, h2]
 exact A52 hA (by rw [ha _ (List.getElem_mem hi), hv])
theorem D5.set {G : IM} : ∀ {l : List Ty} {es : List (List Value)} (i : Nat) {u : Ty} {c : List Value}, D5 G l es → C1 G u c → D5 G (l.set i u) (es.set i c)
 | [], es, i, u, c, h, _ => by simp only [D5] at h; subst h; simp [D5]
 | t :: l, es, 0, u, c, h, h2 => by
  simp only [D5] at h
  obtain ⟨a, r, rfl, _, h3⟩ := h
  simp only [List.set_cons_zero, D5]
  exact ⟨c, r, rfl, h2, h3⟩
 | t :: l, es, i + 1, u, c, h, h2 => by
  simp only [D5] at h
  obtain ⟨a, r, rfl, h4, h3⟩ := h
  simp only [List.set_cons_succ, D5]
  exact ⟨a, _, rfl, h4, D5.set i h3 h2⟩
theorem A0v.openA {a b : List Ty} {G' : IM} {v : Value} {outs : List A7} {m : Nat} (h : A0v (a ++ b) G' v outs) (hm : a.length = m) :
  ∃ p c es, v = .slice p (m + b.length) c ∧ outs = [.slc p c 25 2 (m + b.length) es.flatten] ∧ D5 G' (a ++ b) es := by
 subst hm
 rw [← List.length_append]
 exact h
theorem B16 {Q : Prop} (h : Q := by (exact ⟨Nat.zero_le _, hle1, (by show D5 G1 ((l ++ [Ty.mk tk tks]) ++ L5 (ks.take 0)) _; rw [List.take_zero, L5, List.append_nil]; exact hinit), by simp [L5]⟩)) : Q := h
theorem A7M {Q : Prop} (h : Q := by (dsimp only; exact ⟨by omega, hle.trans hle3, by rw [A3G (by omega), ← List.append_assoc]; exact hr3, by rw [A3G (by omega), ← List.append_assoc, List.length_append, hlen0]⟩)) : Q := h
theorem B7Z : ∀ (t : Tm) (l : List Ty) (G : IM) (cells : List Value) (p : Option Addr) (c : Nat) (es : List (List Value)), t.small → l.length + D6 t ≤ 4000000 → B3 G t cells → D5 G l es →
  Fn Tryz.prog 124 [.slice p l.length c, .agg ⟨cells⟩] [.slc p c 25 2 l.length es.flatten] G (A0v (l ++ P2 t)) := by
 refine Tm.ind fun k nm num ty fr lb ks ih l G cells p c es0 hts hcnt hr hl0 => ?_
 have hone := hr.one
 simp only [Tm.small] at hts
 obtain ⟨_, hty', _, hsm, hks⟩ := hts
 have hcy : k = 5 ∨ k = 13 → P2 (.mk k nm num ty fr lb ks) = [ty] ++ L5 ks := fun h => by rw [P2, if_pos h]
 have hcn : ¬ (k = 5 ∨ k = 13) → P2 (.mk k nm num ty fr lb ks) = L5 ks := fun h => by rw [P2, if_neg h, List.nil_append]
 rw [D6] at hcnt
 obtain ⟨tk, tks⟩ := ty
 obtain ⟨fk, fks⟩ := fr
 obtain ⟨pt, ct, pf, cf, q, cq, ek, rfl, hk, hnum, hlb, hty, hfr, hsl, hkl⟩ := hr.open9
 have hn := hsl.le
 refine C2 Tryz.func124 rfl Tryz.ntmps124 Tryz.results124 rfl ?_
 intro w0
 refine A5 ?_
 refine sE (C7 rfl rfl) rfl (fun b3 => ?_)
 refine D0 ?_
 refine sB (qE rfl rfl) rfl rfl (fun h12 => ?_) (fun h12 => ?_)
 refine N5 ?_
 (refine E5 rfl (P7 (.mk tk tks) G _ hty' hty) rfl rfl (fun v G1 hle1 hh => ?_); obtain ⟨cs1, F1, rfl, hs1, hn1⟩ := hh; have hr1 := hs1.R.mono (C9.le _ _); obtain ⟨p1, c1, rfl, _⟩ := hs1.open)
 (refine J5 (D2 rfl rfl rfl (by omega) (by unfold maxLen; omega) rfl) rfl ?_; rintro _ ⟨b26, rfl⟩)
 (refine A1h rfl rfl rfl rfl rfl (fun _ _ => by repeat (first | exact Sw.here | apply Sw.there)) (O2 (by repeat first | exact mH | apply mT)) rfl (by simp [Value.oneCell']) (by unfold maxLen; omega) (by omega) rfl (fun pn0 cn0 => ?_))
 refine E1 ?_
 refine C3 ?_
 (have h14 := hcy (by omega); have hinit := D5.append (hl0.mono hle1) (D5.one1 hr1); refine K2 (fun (x : Nat × Nat × Option Addr × Nat × List (List Value) × IM) => ⟨[(5, .int .i64 x.1), (3, .pointer (some ⟨b3, 0, none⟩)), (0, .slice x.2.2.1 x.2.1 x.2.2.2.1)], [.slc x.2.2.1 x.2.2.2.1 25 2 x.2.1 x.2.2.2.2.1.flatten, .blk b3 [.int .i64 k, .string nm, .int .i64 num, .int .i64 tk, .slice pt tks.length ct, .int .i64 fk, .slice pf fks.length cf, .int .i64 lb, .slice q ks.length cq]], x.2.2.2.2.2⟩) (fun x => x.1 ≤ ks.length ∧ C6 G x.2.2.2.2.2 ∧ D5 x.2.2.2.2.2 ((l ++ [Ty.mk tk tks]) ++ L5 (ks.take x.1)) x.2.2.2.2.1 ∧ ((l ++ [Ty.mk tk tks]) ++ L5 (ks.take x.1)).length = x.2.1) (fun x => ks.length - x.1) (0, l.length + 1, pn0, cn0, es0 ++ [[.int .i64 tk, .slice p1 tks.length c1]], G1) (by simp only [List.flatten_append, List.flatten_cons, List.flatten_nil, List.append_nil]; exact (M0 (by repeat (first | exact E7.nil | refine E7.cons rfl ?_)) (by repeat (first | exact A0.refl | exact A0.nil | refine A0.cons (by repeat (first | exact Pk.here | apply Pk.there)) ?_ | apply A0.drop)))) ?_ ?_)
 exact B16
 (rintro ⟨(i : Nat), (m : Nat), pn, cn, es, Gi⟩ ⟨hi, hle, hst, hlen⟩; simp only [] at hi hle hst hlen ⊢; replace hsl := hsl.mono hle; replace hkl := hkl.mono hle; have hb1 := A2p (ks.take i); have hb2 := A2p ks; have hlen0 := hlen; simp only [List.length_append, List.length_singleton, List.length_nil] at hlen)
 refine B5 ?_
 refine sB (J8 rfl rfl) rfl rfl (fun h48 => ?_) (fun h48 => ?_)
 refine B0 ?_
 refine C3 ?_
 refine B2 ?_
 (obtain ⟨b, o, e, rfl, hl, hat, hre, hgb⟩ := hsl.kidTm hkl (i := i) (by omega) (by omega); have hone9 := hre.one; have hsc := A1J (ks := ks) (i := i) (by omega); have hsk := A1I (ks := ks) (i := i) (by omega); refine sP (B6 rfl rfl rfl (by omega)) rfl rfl ?_)
 refine sL (A3 rfl rfl (hat _) hl) rfl rfl ?_
 (have hih := ih ks[i] (List.getElem_mem (by omega)) _ Gi e pn cn es (Tm.smallL_mem hks _ (List.getElem_mem (by omega))) (by simp only [List.length_append, List.length_singleton]; omega) hre hst; rw [hlen0] at hih; refine I9 rfl hih (Pk.perm (by repeat (first | exact Pk.here | apply Pk.there))) rfl rfl (fun v3 G3 outs hle3 hh => ?_); obtain ⟨p3, c3, e3, rfl, rfl, hr3⟩ := A0v.openA hh hlen0)
 refine B0 ?_
 refine sP (J6 rfl rfl (by omega) (by omega)) rfl rfl ?_
 refine A5 ?_
 (refine K3 (i + 1, m + (P2 ks[i]).length, p3, c3, e3, G3) ?_ ?_ ?_)
 (simp only [J9]; exact E2)
 exact A7M
 exact X7
 refine J1 ?_
 (obtain rfl : i = ks.length := (by omega))
 refine tT ?_
 refine H7 (outs := [.slc pn cn 25 2 m es.flatten]) (rT rfl) (A0.cons (by repeat (first | exact Pk.here | apply Pk.there)) A0.nil) ?_
 (rw [h14]; rw [List.take_length] at hst hlen; first | exact A0v.mk (by simp only [List.length_append, List.length_singleton, List.length_nil]; omega) hst | (rw [← List.append_assoc]; exact A0v.mk (by simp only [List.length_append, List.length_singleton, List.length_nil]; omega) hst))
 refine B9 ?_
 refine sB (qE rfl rfl) rfl rfl (fun h98 => ?_) (fun h98 => ?_)
 refine D0 ?_
 (refine E5 rfl (P7 (.mk tk tks) G _ hty' hty) rfl rfl (fun v G1 hle1 hh => ?_); obtain ⟨cs1, F1, rfl, hs1, hn1⟩ := hh; have hr1 := hs1.R.mono (C9.le _ _); obtain ⟨p1, c1, rfl, _⟩ := hs1.open)
 (refine J5 (D2 rfl rfl rfl (by omega) (by unfold maxLen; omega) rfl) rfl ?_; rintro _ ⟨b108, rfl⟩)
 (refine A1h rfl rfl rfl rfl rfl (fun _ _ => by repeat (first | exact Sw.here | apply Sw.there)) (O2 (by repeat first | exact mH | apply mT)) rfl (by simp [Value.oneCell']) (by unfold maxLen; omega) (by omega) rfl (fun pn0 cn0 => ?_))
 refine E1 ?_
 refine C3 ?_
 (have h14 := hcy (by omega); have hinit := D5.append (hl0.mono hle1) (D5.one1 hr1); refine K2 (fun (x : Nat × Nat × Option Addr × Nat × List (List Value) × IM) => ⟨[(5, .int .i64 x.1), (3, .pointer (some ⟨b3, 0, none⟩)), (0, .slice x.2.2.1 x.2.1 x.2.2.2.1)], [.slc x.2.2.1 x.2.2.2.1 25 2 x.2.1 x.2.2.2.2.1.flatten, .blk b3 [.int .i64 k, .string nm, .int .i64 num, .int .i64 tk, .slice pt tks.length ct, .int .i64 fk, .slice pf fks.length cf, .int .i64 lb, .slice q ks.length cq]], x.2.2.2.2.2⟩) (fun x => x.1 ≤ ks.length ∧ C6 G x.2.2.2.2.2 ∧ D5 x.2.2.2.2.2 ((l ++ [Ty.mk tk tks]) ++ L5 (ks.take x.1)) x.2.2.2.2.1 ∧ ((l ++ [Ty.mk tk tks]) ++ L5 (ks.take x.1)).length = x.2.1) (fun x => ks.length - x.1) (0, l.length + 1, pn0, cn0, es0 ++ [[.int .i64 tk, .slice p1 tks.length c1]], G1) (by simp only [List.flatten_append, List.flatten_cons, List.flatten_nil, List.append_nil]; exact (M0 (by repeat (first | exact E7.nil | refine E7.cons rfl ?_)) (by repeat (first | exact A0.refl | exact A0.nil | refine A0.cons (by repeat (first | exact Pk.here | apply Pk.there)) ?_ | apply A0.drop)))) ?_ ?_)
 exact B16
 (rintro ⟨(i : Nat), (m : Nat), pn, cn, es, Gi⟩ ⟨hi, hle, hst, hlen⟩; simp only [] at hi hle hst hlen ⊢; replace hsl := hsl.mono hle; replace hkl := hkl.mono hle; have hb1 := A2p (ks.take i); have hb2 := A2p ks; have hlen0 := hlen; simp only [List.length_append, List.length_singleton, List.length_nil] at hlen)
 refine B5 ?_
 refine sB (J8 rfl rfl) rfl rfl (fun h130 => ?_) (fun h130 => ?_)
 refine B0 ?_
 refine C3 ?_
 refine B2 ?_
 (obtain ⟨b, o, e, rfl, hl, hat, hre, hgb⟩ := hsl.kidTm hkl (i := i) (by omega) (by omega); have hone9 := hre.one; have hsc := A1J (ks := ks) (i := i) (by omega); have hsk := A1I (ks := ks) (i := i) (by omega); refine sP (B6 rfl rfl rfl (by omega)) rfl rfl ?_)
 refine sL (A3 rfl rfl (hat _) hl) rfl rfl ?_
 (have hih := ih ks[i] (List.getElem_mem (by omega)) _ Gi e pn cn es (Tm.smallL_mem hks _ (List.getElem_mem (by omega))) (by simp only [List.length_append, List.length_singleton]; omega) hre hst; rw [hlen0] at hih; refine I9 rfl hih (Pk.perm (by repeat (first | exact Pk.here | apply Pk.there))) rfl rfl (fun v3 G3 outs hle3 hh => ?_); obtain ⟨p3, c3, e3, rfl, rfl, hr3⟩ := A0v.openA hh hlen0)
 refine B0 ?_
 refine sP (J6 rfl rfl (by omega) (by omega)) rfl rfl ?_
 refine A5 ?_
 (refine K3 (i + 1, m + (P2 ks[i]).length, p3, c3, e3, G3) ?_ ?_ ?_)
 (simp only [J9]; exact E2)
 exact A7M
 exact X7
 refine J1 ?_
 (obtain rfl : i = ks.length := (by omega))
 refine tT ?_
 refine H7 (outs := [.slc pn cn 25 2 m es.flatten]) (rT rfl) (A0.cons (by repeat (first | exact Pk.here | apply Pk.there)) A0.nil) ?_
 (rw [h14]; rw [List.take_length] at hst hlen; first | exact A0v.mk (by simp only [List.length_append, List.length_singleton, List.length_nil]; omega) hst | (rw [← List.append_assoc]; exact A0v.mk (by simp only [List.length_append, List.length_singleton, List.length_nil]; omega) hst))
 refine N5 ?_
 refine C3 ?_
 (have h14 := hcn (by omega); refine K2 (fun (x : Nat × Nat × Option Addr × Nat × List (List Value) × IM) => ⟨[(5, .int .i64 x.1), (3, .pointer (some ⟨b3, 0, none⟩)), (0, .slice x.2.2.1 x.2.1 x.2.2.2.1)], [.slc x.2.2.1 x.2.2.2.1 25 2 x.2.1 x.2.2.2.2.1.flatten, .blk b3 [.int .i64 k, .string nm, .int .i64 num, .int .i64 tk, .slice pt tks.length ct, .int .i64 fk, .slice pf fks.length cf, .int .i64 lb, .slice q ks.length cq]], x.2.2.2.2.2⟩) (fun x => x.1 ≤ ks.length ∧ C6 G x.2.2.2.2.2 ∧ D5 x.2.2.2.2.2 (l ++ L5 (ks.take x.1)) x.2.2.2.2.1 ∧ (l ++ L5 (ks.take x.1)).length = x.2.1) (fun x => ks.length - x.1) (0, l.length, p, c, es0, G) ?_ ?_ ?_)
 (simp only [J9]; exact E2)
 (exact ⟨Nat.zero_le _, C6.refl _, by simpa [L5] using hl0, by simp [L5]⟩)
 (rintro ⟨(i : Nat), (m : Nat), pn, cn, es, Gi⟩ ⟨hi, hle, hst, hlen⟩; simp only [] at hi hle hst hlen ⊢; replace hsl := hsl.mono hle; replace hkl := hkl.mono hle; have hb1 := A2p (ks.take i); have hb2 := A2p ks; have hlen0 := hlen; simp only [List.length_append, List.length_singleton, List.length_nil] at hlen)
 refine B5 ?_
 refine sB (J8 rfl rfl) rfl rfl (fun h201 => ?_) (fun h201 => ?_)
 refine B0 ?_
 refine C3 ?_
 refine B2 ?_
 (obtain ⟨b, o, e, rfl, hl, hat, hre, hgb⟩ := hsl.kidTm hkl (i := i) (by omega) (by omega); have hone9 := hre.one; have hsc := A1J (ks := ks) (i := i) (by omega); have hsk := A1I (ks := ks) (i := i) (by omega); refine sP (B6 rfl rfl rfl (by omega)) rfl rfl ?_)
 refine sL (A3 rfl rfl (hat _) hl) rfl rfl ?_
 (have hih := ih ks[i] (List.getElem_mem (by omega)) _ Gi e pn cn es (Tm.smallL_mem hks _ (List.getElem_mem (by omega))) (by simp only [List.length_append, List.length_singleton]; omega) hre hst; rw [hlen0] at hih; refine I9 rfl hih (Pk.perm (by repeat (first | exact Pk.here | apply Pk.there))) rfl rfl (fun v3 G3 outs hle3 hh => ?_); obtain ⟨p3, c3, e3, rfl, rfl, hr3⟩ := A0v.openA hh hlen0)
 refine B0 ?_
 refine sP (J6 rfl rfl (by omega) (by omega)) rfl rfl ?_
 refine A5 ?_
 (refine K3 (i + 1, m + (P2 ks[i]).length, p3, c3, e3, G3) ?_ ?_ ?_)
 (simp only [J9]; exact E2)
 exact A7M
 exact X7
 refine J1 ?_
 (obtain rfl : i = ks.length := (by omega))
 refine tT ?_
 refine H7 (outs := [.slc pn cn 25 2 m es.flatten]) (rT rfl) (A0.cons (by repeat (first | exact Pk.here | apply Pk.there)) A0.nil) ?_
 (rw [h14]; rw [List.take_length] at hst hlen; first | exact A0v.mk (by simp only [List.length_append, List.length_singleton, List.length_nil]; omega) hst | (rw [← List.append_assoc]; exact A0v.mk (by simp only [List.length_append, List.length_singleton, List.length_nil]; omega) hst))
def A0w (t : Tm) : List Ty := if S9 t = true then P2 t else []
theorem B17 (t : Tm) (G : IM) (cells : List Value) (hts : t.small) (hcnt : D6 t ≤ 4000000) (hr : B3 G t cells) : Fn Tryz.prog 81 [.agg ⟨cells⟩] [] G (A0v (A0w t)) := by
 have hl := hr.len
 have hone := hr.one
 have hv := A3h t G cells (by omega) hr
 have hno : S9 t = false → A0w t = [] := fun h => by unfold A0w; rw [h]; rfl
 have hyes : S9 t = true → A0w t = P2 t := fun h => by unfold A0w; rw [h]; rfl
 refine C2 Tryz.func81 rfl Tryz.ntmps81 Tryz.results81 rfl ?_
 intro w0
 refine A5 ?_
 refine sE (C7 rfl rfl) rfl (fun b3 => ?_)
 refine B0 ?_
 refine sL (A3 rfl rfl (B1 (by repeat first | exact mH | apply mT)) (by assumption)) rfl rfl ?_
 refine E8 rfl (hv) rfl rfl (fun h11 => ?_) (fun h11 => ?_)
 refine D0 ?_
 (refine J5 (D2 rfl rfl rfl (by omega) (by unfold maxLen; omega) rfl) rfl ?_; rintro _ ⟨b20, rfl⟩)
 refine sL (A3 rfl rfl (B1 (by repeat first | exact mH | apply mT)) (by assumption)) rfl rfl ?_
 (refine I9 rfl (B7Z t [] G cells _ 0 [] hts (by simp; omega) hr (by simp [D5])) (Pk.perm (by repeat (first | exact Pk.here | apply Pk.there))) rfl rfl (fun v3 G3 outs hle3 hh => ?_); obtain ⟨p3, c3, e3, rfl, rfl, hr3⟩ := hh)
 refine B7 ?_
 refine H7 (outs := [.slc p3 c3 25 2 ([] ++ P2 t).length e3.flatten]) (rT rfl) (A0.cons (by repeat (first | exact Pk.here | apply Pk.there)) A0.nil) ?_
 (rw [hyes (by assumption)]; exact ⟨p3, c3, e3, rfl, rfl, hr3⟩)
 refine B0 ?_
 (refine J5 (D2 rfl rfl rfl (by omega) (by unfold maxLen; omega) rfl) rfl ?_; rintro _ ⟨b35, rfl⟩)
 refine B2 ?_
 refine H7 (rT rfl) (A0.cons Pk.here A0.nil) ?_
 (rw [hno (by assumption)]; exact ⟨_, _, [], rfl, rfl, by simp [D5]⟩)
def A3H (u : Tm) (n : Int) : IM → Value → List A7 → Prop := fun G' v outs => outs = [] ∧ ∃ cu, v = .tuple ⟨[.agg ⟨cu⟩, .int .i64 n]⟩ ∧ B3 G' u cu
theorem A3H.mk {G' : IM} {k : Int} {nm : ByteArray} {num : Int} {ty fr : Ty} {lb : Int} {ks : List Tm} {tk fk : Int} {pt pf : Option Addr} {nt ct nf cf : Nat} {p : Option Addr} {m c : Nat} {es : List (List Value)} {a n : Int}
  (hk : H1 k) (hnum : H1 num) (hlb : H1 lb) (hty : C1 G' ty [.int .i64 tk, .slice pt nt ct]) (hfr : C1 G' fr [.int .i64 fk, .slice pf nf cf]) (hm : m = ks.length) (hs : Sl G' p m c 9 es.flatten) (hr : E4 G' ks es) (ha : a = n) :
  A3H (.mk k nm num ty fr lb ks) n G' (.tuple ⟨[.agg ⟨[.int .i64 k, .string nm, .int .i64 num, .int .i64 tk, .slice pt nt ct, .int .i64 fk, .slice pf nf cf, .int .i64 lb, .slice p m c]⟩, .int .i64 a]⟩) [] := by
 subst hm ha
 refine ⟨rfl, _, rfl, ?_⟩
 simp only [B3]
 exact ⟨_, _, p, c, es, rfl, hk, hnum, hlb, hty, hfr, E0.of hs hr.len hr.all (fun e he => by obtain ⟨j, hj⟩ := List.getElem?_of_mem he; exact (hr.inv hj I3).2.one), hr⟩
theorem A7N {Q : Prop} (h : Q := by (exact ⟨Nat.zero_le _, C6.refl _, by simp [W3, E4]⟩)) : Q := h
theorem A7O {Q : Prop} (h : Q := by (dsimp only; exact ⟨by omega, hle.trans hle7, hsn⟩)) : Q := h
theorem B70 (L : List Ty) (p : Option Addr) (c : Nat) (hsmL : ∀ u ∈ L, u.small) : ∀ (t : Tm) (a : Nat) (G : IM) (cells : List Value) (el : List (List Value)), a + (P2 t).length ≤ L.length → L.length ≤ 4000000 → t.small → D6 t ≤ 4000000 → B3 G t cells → E0 G p L.length c 2 el → D5 G L el →
  Fn Tryz.prog 125 [.agg ⟨cells⟩, .slice p L.length c, .int .i64 (a : Int)] [] G (A3H (A0P t (L.drop a)) ((a + (P2 t).length : Nat) : Int)) := by
 refine Tm.ind fun k nm num ty fr lb ks ih a G cells el hlen hLb hts hcnt hr hse hel => ?_
 have hone := hr.one
 have hlen9 := hr.len
 simp only [Tm.small] at hts
 obtain ⟨_, hty', hfr', hsm, hks⟩ := hts
 have hcy : k = 5 ∨ k = 13 → P2 (.mk k nm num ty fr lb ks) = [ty] ++ L5 ks := fun h => by rw [P2, if_pos h]
 have hcn : ¬ (k = 5 ∨ k = 13) → P2 (.mk k nm num ty fr lb ks) = L5 ks := fun h => by rw [P2, if_neg h, List.nil_append]
 have hwy : k = 5 ∨ k = 13 → A0P (.mk k nm num ty fr lb ks) (L.drop a) = .mk k nm num ((L.drop a).getD 0 B4) fr lb (W3 ks (L.drop (a + 1))) := fun h => by rw [A0P, if_pos h, if_pos h, List.drop_drop]
 have hwn : ¬ (k = 5 ∨ k = 13) → A0P (.mk k nm num ty fr lb ks) (L.drop a) = .mk k nm num ty fr lb (W3 ks (L.drop a)) := fun h => by rw [A0P, if_neg h, if_neg h]
 rw [D6] at hcnt
 obtain ⟨tk, tks⟩ := ty
 obtain ⟨fk, fks⟩ := fr
 obtain ⟨pt, ct, pf, cf, q, cq, ek, rfl, hk, hnum, hlb, hty, hfr, hsl, hkl⟩ := hr.open9
 have hn := hsl.le
 have hkn := A57 ks
 have hT := P7 (.mk tk tks) G _ hty' hty
 refine C2 Tryz.func125 rfl Tryz.ntmps125 Tryz.results125 rfl ?_
 intro w0
 refine A5 ?_
 refine sE (C7 rfl rfl) rfl (fun b3 => ?_)
 refine sE (A8 rfl) rfl (fun b4 => ?_)
 refine B0 ?_
 refine sE (A8 rfl) rfl (fun b11 => ?_)
 refine B5 ?_
 (refine E5 rfl hT rfl rfl (fun v G1 hle1 hh => ?_); obtain ⟨cs1, F1, rfl, hs1, hn1⟩ := hh; have hr1 := hs1.R.mono (C9.le _ _); obtain ⟨p1, c1, rfl, _⟩ := hs1.open; have hF := P7 (.mk fk fks) G1 _ hfr' (hfr.mono hle1))
 refine D0 ?_
 (refine E5 rfl hF rfl rfl (fun v G2 hle2 hh => ?_); obtain ⟨cs2, F2, rfl, hs2, hn2⟩ := hh; have hr2 := hs2.R.mono (C9.le _ _); obtain ⟨p2, c2, rfl, _⟩ := hs2.open; have hle12 := hle1.trans hle2; replace hsl := hsl.mono hle12; replace hkl := hkl.mono hle12; replace hse := hse.mono hle12; replace hel := hel.mono hle12)
 refine H6 ?_
 refine sB (qE rfl rfl) rfl rfl (fun h44 => ?_) (fun h44 => ?_)
 refine N5 ?_
 (have hL1 := hcy (by omega); have h1 : a + (1 + (L5 ks).length) ≤ L.length := (by rw [hL1] at hlen; simp only [List.length_append, List.length_singleton] at hlen; omega); obtain ⟨b0, o0, p20, c20, rfl, hat0, hre0, hgb0⟩ := hse.kidTy hel (i := a) (by omega) (by omega); obtain ⟨T0, hT0⟩ : ∃ T, T = L[a]'(by omega) := ⟨_, rfl⟩; have hs0 := hsmL _ (List.getElem_mem (show a < L.length by omega)); rw [← hT0] at hre0 hat0 hs0; have hO := P7 T0 G2 _ hs0 hre0; refine sP (B6 rfl rfl rfl (by omega)) rfl rfl ?_)
 refine sL (A3 rfl rfl (hat0 _) rfl) rfl rfl ?_
 (refine E5 rfl hO rfl rfl (fun v G3 hle3 hh => ?_); obtain ⟨cs3, F3, rfl, hs3, hn3⟩ := hh; have hr3 := hs3.R.mono (C9.le _ _); obtain ⟨p3, c3, rfl, _⟩ := hs3.open)
 refine B0 ?_
 refine sP (J6 rfl rfl (by omega) (by omega)) rfl rfl ?_
 refine E1 ?_
 refine C3 ?_
 (have hL2 := hcy (by omega); have hW2 := hwy (by omega); refine U9 28 9 ?_; refine K2 (fun (x : Nat × Option Addr × Nat × List (List Value) × IM) => ⟨[(9, .int .i64 x.1), (2, .int .i64 ((a + 1 + (L5 (ks.take x.1)).length : Nat) : Int)), (1, .slice (some ⟨b0, o0, none⟩) L.length c), (3, .pointer (some ⟨b3, 0, none⟩)), (8, .pointer (some ⟨b11, 0, none⟩)), (6, .pointer (some ⟨b4, 0, none⟩))], [.blk b11 [.int .i64 k, .string nm, .int .i64 num, .int .i64 T0.k, .slice p3 T0.ks.length c3, .int .i64 fk, .slice p2 fks.length c2, .int .i64 lb, .slice x.2.1 x.1 x.2.2.1], .slc x.2.1 x.2.2.1 28 9 x.1 x.2.2.2.1.flatten, .blk b4 [.int .i64 0, .string ⟨⟨[]⟩⟩, .int .i64 0, .int .i64 0, .slice none 0 0, .int .i64 0, .slice none 0 0, .int .i64 0, .slice none 0 0], .blk b3 [.int .i64 k, .string nm, .int .i64 num, .int .i64 tk, .slice pt tks.length ct, .int .i64 fk, .slice pf fks.length cf, .int .i64 lb, .slice q ks.length cq]], x.2.2.2.2⟩) (fun x => x.1 ≤ ks.length ∧ C6 G3 x.2.2.2.2 ∧ E4 x.2.2.2.2 (W3 (ks.take x.1) (L.drop (a + 1))) x.2.2.2.1) (fun x => ks.length - x.1) (0, none, 0, [], G3) ?_ ?_ ?_)
 (simp only [J9]; exact E2)
 exact A7N
 (rintro ⟨(i : Nat), pn, cn, es, Gi⟩ ⟨hi, hle, hst⟩; simp only [] at hi hle hst ⊢)
 refine B5 ?_
 refine sB (J8 rfl rfl) rfl rfl (fun h88 => ?_) (fun h88 => ?_)
 refine B0 ?_
 refine C3 ?_
 refine B9 ?_
 refine sE (A8 rfl) rfl (fun b99 => ?_)
 refine D0 ?_
 (obtain ⟨b, o, e, rfl, hl, hat, hre, hgb⟩ := (hsl.mono (by first | exact hle | exact hle3.trans hle)).kidTm (hkl.mono (by first | exact hle | exact hle3.trans hle)) (i := i) (by omega) (by omega); have hone9 := hre.one; have hsc := A1J (ks := ks) (i := i) (by omega); have hsk := A1I (ks := ks) (i := i) (by omega); have hts1 := A7L (ks := ks) (i := i) (by omega); have e9 : (L5 (ks.take (i + 1))).length = (L5 (ks.take i)).length + (P2 ks[i]).length := (by rw [A3G (by omega), List.length_append]); refine sP (B6 rfl rfl rfl (by omega)) rfl rfl ?_)
 refine sL (A3 rfl rfl (hat _) hl) rfl rfl ?_
 refine A5 ?_
 (have hih := ih ks[i] (List.getElem_mem (by omega)) _ Gi e el (by rw [hL2] at hlen; (try simp only [List.length_append, List.length_singleton] at hlen); first | exact (show a + 1 + (L5 (ks.take i)).length + (P2 ks[i]).length ≤ L.length by omega) | exact (show a + (L5 (ks.take i)).length + (P2 ks[i]).length ≤ L.length by omega)) hLb (Tm.smallL_mem hks _ (List.getElem_mem (by omega))) (by omega) hre (hse.mono (by first | exact hle | exact hle3.trans hle)) (hel.mono (by first | exact hle | exact hle3.trans hle)); refine A1F rfl hih rfl rfl (fun v G7 outs hle7 hh => ?_); obtain ⟨rfl, cu, rfl, hru⟩ := hh; rw [← List.drop_drop] at hru; have hsn := E4.snoc (hst.mono hle7) hru; obtain ⟨u1, u2, u3, u4, u5, u6, u7, u8, u9, rfl⟩ : ∃ u1 u2 u3 u4 u5 u6 u7 u8 u9, cu = [u1, u2, u3, u4, u5, u6, u7, u8, u9] := (by obtain ⟨_, _, _, _, _, _, _, _, _, rfl, _⟩ := hru.open; exact ⟨_, _, _, _, _, _, _, _, _, rfl⟩); have huo := hru.one)
 refine B9 ?_
 refine sS rfl rfl rfl rfl huo rfl ?_
 refine B5 ?_
 (refine J5 (D2 rfl rfl rfl (by omega) (by unfold maxLen; omega) rfl) rfl ?_; rintro _ ⟨b124, rfl⟩)
 (refine A1h rfl rfl rfl rfl rfl (fun _ _ => by repeat (first | exact Sw.here | apply Sw.there)) (O2 (by repeat first | exact mH | apply mT)) rfl (fun u hu => List.all_eq_true.1 huo u hu) (by unfold maxLen; omega) (by omega) rfl (fun p4 c4 => ?_))
 refine B5 ?_
 refine sP (J6 rfl rfl (by omega) (by omega)) rfl rfl ?_
 refine A5 ?_
 (rw [← A7K (by omega)] at hsn; refine K3 (i + 1, p4, c4, es ++ [[u1, u2, u3, u4, u5, u6, u7, u8, u9]], G7) (by simp only [List.flatten_append, List.flatten_cons, List.flatten_nil, List.append_nil, e9, ← Nat.add_assoc]; exact (M0 (by repeat (first | exact E7.nil | refine E7.cons rfl ?_)) (by repeat (first | exact A0.refl | exact A0.nil | refine A0.cons (by repeat (first | exact Pk.here | apply Pk.there)) ?_ | apply A0.drop)))) ?_ ?_)
 exact A7O
 exact X7
 refine K4 ?_
 (refine H3 (cs := es.flatten) (by repeat (first | exact Pk.here | apply Pk.there)) (fun G9 hle9 hsl9 hno9 => ?_); obtain rfl : i = ks.length := (by omega); rw [List.take_length] at hst)
 refine tT ?_
 refine I5 (rC rfl (A6 rfl rfl)) (rT rfl) ?_
 (rw [hW2, hL2]; exact A3H.mk hk hnum hlb (by first | (rw [List.getD_eq_getElem?_getD, List.getElem?_drop, Nat.add_zero, List.getElem?_eq_getElem (by omega), Option.getD_some, ← hT0]; exact hr3.mono (hle.trans hle9)) | exact hr1.mono (hle2.trans (hle.trans hle9))) (by first | exact hr2.mono (hle3.trans (hle.trans hle9)) | exact hr2.mono (hle.trans hle9)) (by rw [A4E]) hsl9 (hst.mono hle9) (by (simp only [List.take_length, List.length_append, List.length_singleton]) <;> omega))
 refine B9 ?_
 refine sB (qE rfl rfl) rfl rfl (fun h162 => ?_) (fun h162 => ?_)
 refine D0 ?_
 (have hL1 := hcy (by omega); have h1 : a + (1 + (L5 ks).length) ≤ L.length := (by rw [hL1] at hlen; simp only [List.length_append, List.length_singleton] at hlen; omega); obtain ⟨b0, o0, p20, c20, rfl, hat0, hre0, hgb0⟩ := hse.kidTy hel (i := a) (by omega) (by omega); obtain ⟨T0, hT0⟩ : ∃ T, T = L[a]'(by omega) := ⟨_, rfl⟩; have hs0 := hsmL _ (List.getElem_mem (show a < L.length by omega)); rw [← hT0] at hre0 hat0 hs0; have hO := P7 T0 G2 _ hs0 hre0; refine sP (B6 rfl rfl rfl (by omega)) rfl rfl ?_)
 refine sL (A3 rfl rfl (hat0 _) rfl) rfl rfl ?_
 (refine E5 rfl hO rfl rfl (fun v G3 hle3 hh => ?_); obtain ⟨cs3, F3, rfl, hs3, hn3⟩ := hh; have hr3 := hs3.R.mono (C9.le _ _); obtain ⟨p3, c3, rfl, _⟩ := hs3.open)
 refine B0 ?_
 refine sP (J6 rfl rfl (by omega) (by omega)) rfl rfl ?_
 refine E1 ?_
 refine C3 ?_
 (have hL2 := hcy (by omega); have hW2 := hwy (by omega); refine U9 28 9 ?_; refine K2 (fun (x : Nat × Option Addr × Nat × List (List Value) × IM) => ⟨[(9, .int .i64 x.1), (2, .int .i64 ((a + 1 + (L5 (ks.take x.1)).length : Nat) : Int)), (1, .slice (some ⟨b0, o0, none⟩) L.length c), (3, .pointer (some ⟨b3, 0, none⟩)), (8, .pointer (some ⟨b11, 0, none⟩)), (6, .pointer (some ⟨b4, 0, none⟩))], [.blk b11 [.int .i64 k, .string nm, .int .i64 num, .int .i64 T0.k, .slice p3 T0.ks.length c3, .int .i64 fk, .slice p2 fks.length c2, .int .i64 lb, .slice x.2.1 x.1 x.2.2.1], .slc x.2.1 x.2.2.1 28 9 x.1 x.2.2.2.1.flatten, .blk b4 [.int .i64 0, .string ⟨⟨[]⟩⟩, .int .i64 0, .int .i64 0, .slice none 0 0, .int .i64 0, .slice none 0 0, .int .i64 0, .slice none 0 0], .blk b3 [.int .i64 k, .string nm, .int .i64 num, .int .i64 tk, .slice pt tks.length ct, .int .i64 fk, .slice pf fks.length cf, .int .i64 lb, .slice q ks.length cq]], x.2.2.2.2⟩) (fun x => x.1 ≤ ks.length ∧ C6 G3 x.2.2.2.2 ∧ E4 x.2.2.2.2 (W3 (ks.take x.1) (L.drop (a + 1))) x.2.2.2.1) (fun x => ks.length - x.1) (0, none, 0, [], G3) ?_ ?_ ?_)
 (simp only [J9]; exact E2)
 exact A7N
 (rintro ⟨(i : Nat), pn, cn, es, Gi⟩ ⟨hi, hle, hst⟩; simp only [] at hi hle hst ⊢)
 refine B5 ?_
 refine sB (J8 rfl rfl) rfl rfl (fun h202 => ?_) (fun h202 => ?_)
 refine B0 ?_
 refine C3 ?_
 refine B9 ?_
 refine sE (A8 rfl) rfl (fun b213 => ?_)
 refine D0 ?_
 (obtain ⟨b, o, e, rfl, hl, hat, hre, hgb⟩ := (hsl.mono (by first | exact hle | exact hle3.trans hle)).kidTm (hkl.mono (by first | exact hle | exact hle3.trans hle)) (i := i) (by omega) (by omega); have hone9 := hre.one; have hsc := A1J (ks := ks) (i := i) (by omega); have hsk := A1I (ks := ks) (i := i) (by omega); have hts1 := A7L (ks := ks) (i := i) (by omega); have e9 : (L5 (ks.take (i + 1))).length = (L5 (ks.take i)).length + (P2 ks[i]).length := (by rw [A3G (by omega), List.length_append]); refine sP (B6 rfl rfl rfl (by omega)) rfl rfl ?_)
 refine sL (A3 rfl rfl (hat _) hl) rfl rfl ?_
 refine A5 ?_
 (have hih := ih ks[i] (List.getElem_mem (by omega)) _ Gi e el (by rw [hL2] at hlen; (try simp only [List.length_append, List.length_singleton] at hlen); first | exact (show a + 1 + (L5 (ks.take i)).length + (P2 ks[i]).length ≤ L.length by omega) | exact (show a + (L5 (ks.take i)).length + (P2 ks[i]).length ≤ L.length by omega)) hLb (Tm.smallL_mem hks _ (List.getElem_mem (by omega))) (by omega) hre (hse.mono (by first | exact hle | exact hle3.trans hle)) (hel.mono (by first | exact hle | exact hle3.trans hle)); refine A1F rfl hih rfl rfl (fun v G7 outs hle7 hh => ?_); obtain ⟨rfl, cu, rfl, hru⟩ := hh; rw [← List.drop_drop] at hru; have hsn := E4.snoc (hst.mono hle7) hru; obtain ⟨u1, u2, u3, u4, u5, u6, u7, u8, u9, rfl⟩ : ∃ u1 u2 u3 u4 u5 u6 u7 u8 u9, cu = [u1, u2, u3, u4, u5, u6, u7, u8, u9] := (by obtain ⟨_, _, _, _, _, _, _, _, _, rfl, _⟩ := hru.open; exact ⟨_, _, _, _, _, _, _, _, _, rfl⟩); have huo := hru.one)
 refine B9 ?_
 refine sS rfl rfl rfl rfl huo rfl ?_
 refine B5 ?_
 (refine J5 (D2 rfl rfl rfl (by omega) (by unfold maxLen; omega) rfl) rfl ?_; rintro _ ⟨b238, rfl⟩)
 (refine A1h rfl rfl rfl rfl rfl (fun _ _ => by repeat (first | exact Sw.here | apply Sw.there)) (O2 (by repeat first | exact mH | apply mT)) rfl (fun u hu => List.all_eq_true.1 huo u hu) (by unfold maxLen; omega) (by omega) rfl (fun p4 c4 => ?_))
 refine B5 ?_
 refine sP (J6 rfl rfl (by omega) (by omega)) rfl rfl ?_
 refine A5 ?_
 (rw [← A7K (by omega)] at hsn; refine K3 (i + 1, p4, c4, es ++ [[u1, u2, u3, u4, u5, u6, u7, u8, u9]], G7) (by simp only [List.flatten_append, List.flatten_cons, List.flatten_nil, List.append_nil, e9, ← Nat.add_assoc]; exact (M0 (by repeat (first | exact E7.nil | refine E7.cons rfl ?_)) (by repeat (first | exact A0.refl | exact A0.nil | refine A0.cons (by repeat (first | exact Pk.here | apply Pk.there)) ?_ | apply A0.drop)))) ?_ ?_)
 exact A7O
 exact X7
 refine K4 ?_
 (refine H3 (cs := es.flatten) (by repeat (first | exact Pk.here | apply Pk.there)) (fun G9 hle9 hsl9 hno9 => ?_); obtain rfl : i = ks.length := (by omega); rw [List.take_length] at hst)
 refine tT ?_
 refine I5 (rC rfl (A6 rfl rfl)) (rT rfl) ?_
 (rw [hW2, hL2]; exact A3H.mk hk hnum hlb (by first | (rw [List.getD_eq_getElem?_getD, List.getElem?_drop, Nat.add_zero, List.getElem?_eq_getElem (by omega), Option.getD_some, ← hT0]; exact hr3.mono (hle.trans hle9)) | exact hr1.mono (hle2.trans (hle.trans hle9))) (by first | exact hr2.mono (hle3.trans (hle.trans hle9)) | exact hr2.mono (hle.trans hle9)) (by rw [A4E]) hsl9 (hst.mono hle9) (by (simp only [List.take_length, List.length_append, List.length_singleton]) <;> omega))
 refine N5 ?_
 refine C3 ?_
 (have hL2 := hcn (by omega); have hW2 := hwn (by omega); refine U9 28 9 ?_; refine K2 (fun (x : Nat × Option Addr × Nat × List (List Value) × IM) => ⟨[(9, .int .i64 x.1), (2, .int .i64 ((a + (L5 (ks.take x.1)).length : Nat) : Int)), (1, .slice p L.length c), (3, .pointer (some ⟨b3, 0, none⟩)), (8, .pointer (some ⟨b11, 0, none⟩)), (6, .pointer (some ⟨b4, 0, none⟩))], [.blk b11 [.int .i64 k, .string nm, .int .i64 num, .int .i64 tk, .slice p1 tks.length c1, .int .i64 fk, .slice p2 fks.length c2, .int .i64 lb, .slice x.2.1 x.1 x.2.2.1], .slc x.2.1 x.2.2.1 28 9 x.1 x.2.2.2.1.flatten, .blk b4 [.int .i64 0, .string ⟨⟨[]⟩⟩, .int .i64 0, .int .i64 0, .slice none 0 0, .int .i64 0, .slice none 0 0, .int .i64 0, .slice none 0 0], .blk b3 [.int .i64 k, .string nm, .int .i64 num, .int .i64 tk, .slice pt tks.length ct, .int .i64 fk, .slice pf fks.length cf, .int .i64 lb, .slice q ks.length cq]], x.2.2.2.2⟩) (fun x => x.1 ≤ ks.length ∧ C6 G2 x.2.2.2.2 ∧ E4 x.2.2.2.2 (W3 (ks.take x.1) (L.drop a)) x.2.2.2.1) (fun x => ks.length - x.1) (0, none, 0, [], G2) ?_ ?_ ?_)
 (simp only [J9]; exact E2)
 exact A7N
 (rintro ⟨(i : Nat), pn, cn, es, Gi⟩ ⟨hi, hle, hst⟩; simp only [] at hi hle hst ⊢)
 refine B5 ?_
 refine sB (J8 rfl rfl) rfl rfl (fun h297 => ?_) (fun h297 => ?_)
 refine B0 ?_
 refine C3 ?_
 refine B9 ?_
 refine sE (A8 rfl) rfl (fun b308 => ?_)
 refine D0 ?_
 (obtain ⟨b, o, e, rfl, hl, hat, hre, hgb⟩ := (hsl.mono (by first | exact hle | exact hle3.trans hle)).kidTm (hkl.mono (by first | exact hle | exact hle3.trans hle)) (i := i) (by omega) (by omega); have hone9 := hre.one; have hsc := A1J (ks := ks) (i := i) (by omega); have hsk := A1I (ks := ks) (i := i) (by omega); have hts1 := A7L (ks := ks) (i := i) (by omega); have e9 : (L5 (ks.take (i + 1))).length = (L5 (ks.take i)).length + (P2 ks[i]).length := (by rw [A3G (by omega), List.length_append]); refine sP (B6 rfl rfl rfl (by omega)) rfl rfl ?_)
 refine sL (A3 rfl rfl (hat _) hl) rfl rfl ?_
 refine A5 ?_
 (have hih := ih ks[i] (List.getElem_mem (by omega)) _ Gi e el (by rw [hL2] at hlen; (try simp only [List.length_append, List.length_singleton] at hlen); first | exact (show a + 1 + (L5 (ks.take i)).length + (P2 ks[i]).length ≤ L.length by omega) | exact (show a + (L5 (ks.take i)).length + (P2 ks[i]).length ≤ L.length by omega)) hLb (Tm.smallL_mem hks _ (List.getElem_mem (by omega))) (by omega) hre (hse.mono (by first | exact hle | exact hle3.trans hle)) (hel.mono (by first | exact hle | exact hle3.trans hle)); refine A1F rfl hih rfl rfl (fun v G7 outs hle7 hh => ?_); obtain ⟨rfl, cu, rfl, hru⟩ := hh; rw [← List.drop_drop] at hru; have hsn := E4.snoc (hst.mono hle7) hru; obtain ⟨u1, u2, u3, u4, u5, u6, u7, u8, u9, rfl⟩ : ∃ u1 u2 u3 u4 u5 u6 u7 u8 u9, cu = [u1, u2, u3, u4, u5, u6, u7, u8, u9] := (by obtain ⟨_, _, _, _, _, _, _, _, _, rfl, _⟩ := hru.open; exact ⟨_, _, _, _, _, _, _, _, _, rfl⟩); have huo := hru.one)
 refine B9 ?_
 refine sS rfl rfl rfl rfl huo rfl ?_
 refine B5 ?_
 (refine J5 (D2 rfl rfl rfl (by omega) (by unfold maxLen; omega) rfl) rfl ?_; rintro _ ⟨b333, rfl⟩)
 (refine A1h rfl rfl rfl rfl rfl (fun _ _ => by repeat (first | exact Sw.here | apply Sw.there)) (O2 (by repeat first | exact mH | apply mT)) rfl (fun u hu => List.all_eq_true.1 huo u hu) (by unfold maxLen; omega) (by omega) rfl (fun p4 c4 => ?_))
 refine B5 ?_
 refine sP (J6 rfl rfl (by omega) (by omega)) rfl rfl ?_
 refine A5 ?_
 (rw [← A7K (by omega)] at hsn; refine K3 (i + 1, p4, c4, es ++ [[u1, u2, u3, u4, u5, u6, u7, u8, u9]], G7) (by simp only [List.flatten_append, List.flatten_cons, List.flatten_nil, List.append_nil, e9, ← Nat.add_assoc]; exact (M0 (by repeat (first | exact E7.nil | refine E7.cons rfl ?_)) (by repeat (first | exact A0.refl | exact A0.nil | refine A0.cons (by repeat (first | exact Pk.here | apply Pk.there)) ?_ | apply A0.drop)))) ?_ ?_)
 exact A7O
 exact X7
 refine K4 ?_
 (refine H3 (cs := es.flatten) (by repeat (first | exact Pk.here | apply Pk.there)) (fun G9 hle9 hsl9 hno9 => ?_); obtain rfl : i = ks.length := (by omega); rw [List.take_length] at hst)
 refine tT ?_
 refine I5 (rC rfl (A6 rfl rfl)) (rT rfl) ?_
 (rw [hW2, hL2]; exact A3H.mk hk hnum hlb (by first | (rw [List.getD_eq_getElem?_getD, List.getElem?_drop, Nat.add_zero, List.getElem?_eq_getElem (by omega), Option.getD_some, ← hT0]; exact hr3.mono (hle.trans hle9)) | exact hr1.mono (hle2.trans (hle.trans hle9))) (by first | exact hr2.mono (hle3.trans (hle.trans hle9)) | exact hr2.mono (hle.trans hle9)) (by rw [A4E]) hsl9 (hst.mono hle9) (by (simp only [List.take_length, List.length_append, List.length_singleton]) <;> omega))
def A1x (t : Tm) (L : List Ty) : Option Tm := if S9 t = true ∧ (A0w t).length = L.length ∧ ∀ u ∈ L, F4 u = true then some (A0P t L) else none
theorem B71 {t : Tm} {L : List Ty} (h : S9 t = true) (hl : (A0w t).length = L.length) (ha : ∀ j, j < L.length → (h : j < L.length) → F4 L[j] = true) : A1x t L = some (A0P t L) := by
 unfold A1x
 rw [if_pos ⟨h, hl, fun u hu => by obtain ⟨i, hi, rfl⟩ := List.mem_iff_getElem.1 hu; exact ha i hi hi⟩]
theorem B72 {t : Tm} {L : List Ty} (h : ¬(S9 t = true ∧ (A0w t).length = L.length ∧ ∀ u ∈ L, F4 u = true)) : A1x t L = none := by
 unfold A1x; rw [if_neg h]
def TmB (o : Option Tm) : IM → Value → List A7 → Prop := M3 fun G' v => ∃ cu, v = .tuple ⟨[.agg ⟨cu⟩, .bool o.isSome]⟩ ∧ B3 G' (o.getD I3) cu
theorem B73 {t : Tm} (h : S9 t = true) : A0w t = P2 t := by unfold A0w; rw [if_pos h]
theorem A7P {Q : Prop} (h : Q := by (rw [hno (fun hc => by first | omega | exact Bool.noConfusion (hc.1.symm.trans (show S9 t = false by assumption)) | exact Bool.noConfusion ((hc.2.2 _ (List.getElem_mem (show i < L.length by omega))).symm.trans (by assumption)))]; exact ⟨rfl, _, rfl, (Q4.zero _).R⟩)) : Q := h
theorem B74 (t : Tm) (L : List Ty) (G : IM) (cells : List Value) (p : Option Addr) (c : Nat) (es : List (List Value)) (hts : t.small) (hcnt : D6 t ≤ 4000000) (hLb : L.length ≤ 4000000) (hsm : ∀ u ∈ L, u.small) (hr : B3 G t cells) (hse : E0 G p L.length c 2 es) (hel : D5 G L es) :
  Fn Tryz.prog 82 [.agg ⟨cells⟩, .slice p L.length c] [] G (TmB (A1x t L)) := by
 have hl := hr.len
 have hone := hr.one
 have hyes := @B71 t L
 have hno := @B72 t L
 have htv := @B73 t
 have hT := B17 t G cells hts hcnt hr
 generalize A1x t L = R at hyes hno ⊢
 obtain ⟨TT, hTT⟩ : ∃ TT, A0w t = TT := ⟨_, rfl⟩
 rw [hTT] at hyes hno htv hT
 refine C2 Tryz.func82 rfl Tryz.ntmps82 Tryz.results82 rfl ?_
 intro w0
 refine A5 ?_
 refine sE (C7 rfl rfl) rfl (fun b3 => ?_)
 refine sE (A8 rfl) rfl (fun b4 => ?_)
 refine B0 ?_
 refine sL (A3 rfl rfl (B1 (by repeat first | exact mH | apply mT)) hl) rfl rfl ?_
 (refine A1F rfl hT rfl rfl (fun v G1 outs hle1 hh => ?_); obtain ⟨p1, c1, e1, rfl, rfl, hr1⟩ := hh; replace hr := hr.mono hle1; replace hse := hse.mono hle1; replace hel := hel.mono hle1; have hv := A3h t G1 cells (by omega) hr)
 refine B9 ?_
 refine sB (M1 rfl rfl) rfl rfl (fun h16 => ?_) (fun h16 => ?_)
 refine U5 ?_
 refine I5 (rC rfl (A6 rfl rfl)) (rT rfl) ?_
 exact A7P
 refine F0 ?_
 refine sL (A3 rfl rfl (B1 (by repeat first | exact mH | apply mT)) hl) rfl rfl ?_
 refine E8 rfl (hv) rfl rfl (fun h38 => ?_) (fun h38 => ?_)
 refine J4 ?_
 refine C3 ?_
 (refine K2 (fun (x : Nat) => ⟨[(6, .int .i64 x), (1, .slice p L.length c), (2, .pointer (some ⟨b3, 0, none⟩)), (4, .pointer (some ⟨b4, 0, none⟩))], [.blk b4 [.int .i64 0, .string ⟨⟨[]⟩⟩, .int .i64 0, .int .i64 0, .slice none 0 0, .int .i64 0, .slice none 0 0, .int .i64 0, .slice none 0 0], .blk b3 cells], G1⟩) (fun x => x ≤ L.length ∧ ∀ j, j < x → (h : j < L.length) → F4 L[j] = true) (fun x => L.length - x) 0 ?_ ?_ ?_)
 exact E2
 (exact ⟨Nat.zero_le _, fun j hj => absurd hj (by omega)⟩)
 (rintro (i : Nat) ⟨hi, hval⟩)
 refine B0 ?_
 refine sB (J8 rfl rfl) rfl rfl (fun h63 => ?_) (fun h63 => ?_)
 refine B0 ?_
 refine C3 ?_
 refine B7 ?_
 (obtain ⟨b0, o0, p20, c20, rfl, hat0, hre0, hgb0⟩ := hse.kidTy hel (i := i) (by omega) (by omega); have hV := A1O _ G1 _ hre0; refine sP (B6 rfl rfl rfl (by omega)) rfl rfl ?_)
 refine sL (A3 rfl rfl (hat0 _) rfl) rfl rfl ?_
 refine E8 rfl (hV) rfl rfl (fun h77 => ?_) (fun h77 => ?_)
 refine E1 ?_
 refine sP (J6 rfl rfl (by omega) (by omega)) rfl rfl ?_
 refine A5 ?_
 refine K3 (i + 1) ?_ ?_ ?_
 exact E2
 (exact ⟨by omega, fun j hj hl => by rcases Nat.lt_succ_iff_lt_or_eq.1 hj with h | h; exact hval j h hl; subst h; assumption⟩)
 (show L.length - (i + 1) < L.length - i; omega)
 refine U5 ?_
 refine I5 (rC rfl (A6 rfl rfl)) (rT rfl) ?_
 exact A7P
 refine J0 ?_
 refine sL (A3 rfl rfl (B1 (by repeat first | exact mH | apply mT)) hl) rfl rfl ?_
 refine F0 ?_
 (have hTv := htv (by assumption); refine A1F rfl (B70 L p c hsm t 0 G1 cells es (by rw [← hTv]; omega) hLb hts hcnt hr hse hel) rfl rfl (fun v G3 outs hle3 hh => ?_); obtain ⟨rfl, cu, rfl, hru⟩ := hh; rw [List.drop_zero] at hru; have hul := hru.len; have huo := hru.one)
 refine B9 ?_
 refine sE (A8 rfl) rfl (fun b129 => ?_)
 refine sS rfl rfl rfl hul huo rfl ?_ (hu := by exact D4 hul.symm)
 refine B2 ?_
 refine sL (A3 rfl rfl (B1 (by repeat first | exact mH | apply mT)) hul) rfl rfl ?_
 refine sS rfl rfl rfl hul huo rfl ?_ (hu := by exact D4 hul.symm)
 refine B7 ?_
 refine I5 (rC rfl (A3 rfl rfl (B1 (by repeat first | exact mH | apply mT)) hul)) (rT rfl) ?_
 (rw [hyes (by assumption) (by omega) (fun j hj => hval j (by omega))]; exact ⟨rfl, _, rfl, hru⟩)
 refine J1 ?_
 refine I5 (rC rfl (A6 rfl rfl)) (rT rfl) ?_
 exact A7P
theorem B75 {e : Tm} (h : (P1 e).isSome = true) : S9 e = true := by
 unfold P1 T7 at h
 split at h
 ·rename_i u t hx
  split at hx
  ·assumption
  ·cases hx
 ·cases h
mutual
theorem B18 : ∀ (t : Tm) (d : Int), M8 12 14 t d = true → t.small
 | .mk k nm num ty fr lb ks, d, h => by
  obtain ⟨_, h2, h3, h4⟩ := A0s h
  obtain ⟨n1, n2, n3, n4, n5, n6, n7, n8, n9⟩ := U3.1 h3
  rw [Tm.small]
  refine ⟨by have := A9F h3; omega, (A3m h3).1.small, by rw [A18 (n9 h2).1]; exact A2M, ?_, B19 ks _ h4⟩
  have := A1m k; omega
theorem B19 : ∀ (ts : List Tm) (d : Int), O0 12 14 ts d = true → Tm.smallL ts
 | [], _, _ => by rw [Tm.smallL]; trivial
 | t :: ts, d, h => by
  rw [O0, Bool.and_eq_true] at h
  rw [Tm.smallL]
  exact ⟨B18 t d h.1, B19 ts d h.2⟩
end
theorem B76 {e : Tm} (h : S9 e = true) : e.fit 30 := by
 obtain ⟨h1, h2⟩ := (A0L e).1 h
 exact ⟨B18 e 1 h1, h2⟩
theorem Tm.fit.le {e : Tm} {n m : Nat} (h : e.fit n) (hm : n ≤ m) : e.fit m := ⟨h.1, Nat.le_trans h.2 hm⟩
mutual
theorem B2a : ∀ (t : Tm) (d : Int), M8 12 14 t d = true → ∀ u ∈ P2 t, F4 u = true
 | .mk k nm num ty fr lb ks, d, h => by
  obtain ⟨_, h2, h3, h4⟩ := A0s h
  obtain ⟨n1, n2, n3, n4, n5, n6, n7, n8, n9⟩ := U3.1 h3
  intro u hu
  rw [P2, List.mem_append] at hu
  rcases hu with hu | hu
  ·split at hu
   ·rename_i hk
    obtain rfl := List.mem_singleton.1 hu
    exact n6 (by omega)
   ·simp at hu
  ·exact B2b ks _ h4 u hu
theorem B2b : ∀ (ts : List Tm) (d : Int), O0 12 14 ts d = true → ∀ u ∈ L5 ts, F4 u = true
 | [], _, _ => by simp [L5]
 | t :: ts, d, h => by
  rw [O0, Bool.and_eq_true] at h
  intro u hu
  rw [L5, List.mem_append] at hu
  rcases hu with hu | hu
  ·exact B2a t d h.1 u hu
  ·exact B2b ts d h.2 u hu
end
theorem B77 (e : Tm) : (A0w e).length ≤ 30 ∧ ∀ u ∈ A0w e, F4 u = true := by
 unfold A0w
 split
 ·rename_i h
  obtain ⟨h1, h2⟩ := (A0L e).1 h
  exact ⟨by have := B13 e; omega, B2a e 1 h1⟩
 ·simp
mutual
theorem B2c : ∀ (t : Tm) (l : List Ty), t.small → (∀ u ∈ l, u.small) → (A0P t l).small ∧ D6 (A0P t l) = D6 t
 | .mk k nm num ty fr lb ks, l, h, hl => by
  obtain ⟨h1, h2, h3, h4, h5⟩ := A0t.1 h
  rw [A0P]
  have hd : ∀ u ∈ (if k = 5 ∨ k = 13 then l.drop 1 else l), u.small := by
   intro u hu
   split at hu
   ·exact hl u (List.mem_of_mem_drop hu)
   ·exact hl u hu
  obtain ⟨g1, g2⟩ := B2d ks _ h5 hd
  refine ⟨A0t.2 ⟨h1, ?_, h3, by rw [A4E]; exact h4, g1⟩, by rw [Z4, Z4, g2]⟩
  split
  ·rw [List.getD_eq_getElem?_getD]
   cases hx : l[0]? with
   | none => exact A2M
   | some t => exact hl t (List.mem_of_getElem? hx)
  ·exact h2
theorem B2d : ∀ (ts : List Tm) (l : List Ty), Tm.smallL ts → (∀ u ∈ l, u.small) → Tm.smallL (W3 ts l) ∧ E9 (W3 ts l) = E9 ts
 | [], l, _, _ => by simp [W3, Tm.smallL, E9]
 | t :: ts, l, h, hl => by
  simp only [Tm.smallL] at h
  obtain ⟨a1, a2⟩ := B2c t l h.1 hl
  obtain ⟨b1, b2⟩ := B2d ts (l.drop (P2 t).length) h.2 (fun u hu => hl u (List.mem_of_mem_drop hu))
  simp only [W3, Tm.smallL, E9, a2, b2]
  exact ⟨⟨a1, b1⟩, trivial⟩
end
theorem B78 {t : Tm} {l : List Ty} {N : Nat} (h : t.fit N) (hl : ∀ u ∈ l, u.small) : ((A1x t l).getD I3).fit N := by
 unfold A1x
 split
 ·obtain ⟨h1, h2⟩ := B2c t l h.1 hl
  exact ⟨h1, by rw [Option.getD_some, h2]; exact h.2⟩
 ·refine ⟨A4a, ?_⟩
  have h2 := h.2
  have : 1 ≤ D6 t := by cases t; rw [Z4]; omega
  show D6 I3 ≤ N
  rw [A9V]; omega
theorem B79 {es : List (List Value)} {i sz : Nat} (hi : i < es.length) (ha : ∀ e ∈ es, e.length = sz) : ∀ j v, es[i][j]? = some v → es.flatten[0 + i * sz + j]? = some v := by
 intro j v hj
 have h1 : es.flatten = (es.take i).flatten ++ (es[i] ++ (es.drop (i + 1)).flatten) := by
  conv => lhs; rw [← List.take_append_drop i es, List.drop_eq_getElem_cons hi]
  rw [List.flatten_append, List.flatten_cons]
 have hA : ((es.take i).flatten).length = 0 + i * sz := by rw [A0T (fun e he => ha e (List.mem_of_mem_take he)), List.length_take, Nat.min_eq_left (by omega)]; omega
 have hjl : j < es[i].length := by
  apply Classical.byContradiction
  intro hn
  rw [List.getElem?_eq_none (by omega)] at hj
  cases hj
 rw [h1, List.getElem?_append_right (by omega), hA, show 0 + i * sz + j - (0 + i * sz) = j by omega, List.getElem?_append_left hjl, hj]
theorem B2e (br : Nat) (pb : Option Addr) (nb cb : Nat) (bs : List UInt8) (hnb : nb ≤ 2000) (p : Nat) (G : IM) (hb : Sl G pb nb cb 1 (N9 bs)) (hp : p < 1099511627776) :
  Fn Tryz.prog 27 [.pointer (some ⟨br, 0, none⟩)] [rd br pb nb cb p] G
   (A0q br pb nb cb p 1 (fun _ v => ∃ k, v = .int .i64 k ∧ H1 k)) := by
 refine C2 Tryz.func27 rfl Tryz.ntmps27 Tryz.results27 rfl ?_
 intro w0
 refine D0 ?_
 (refine J5 (D2 rfl rfl rfl (by omega) (by unfold maxLen; omega) rfl) rfl ?_; rintro _ ⟨b9, rfl⟩)
 (refine V0 (by repeat (first | exact Pk.here | apply Pk.there)) (fun Gf hlef hslf _ => ?_); refine I9 rfl (A0k Gf br pb nb cb p bs _ _ _ _ (hb.mono hlef) hnb (by omega) hslf (by decide)) (Pk.perm (by repeat (first | exact Pk.here | apply Pk.there))) rfl rfl (fun v Gm outs hlen hh => ?_); obtain ⟨rfl, rfl, hv⟩ := hh; obtain ⟨kn, rfl, hkn⟩ : ∃ k, v = .int .i64 k ∧ H1 k := (by simp only [List.mem_cons, List.not_mem_nil, or_false] at hv; rcases hv with rfl | rfl | rfl | rfl | rfl | rfl | rfl | rfl <;> exact ⟨_, rfl, by unfold H1; omega⟩))
 refine B7 ?_
 refine H7 (outs := [rd br pb nb cb (p + 1)]) (rT rfl) (by repeat (first | exact A0.nil | refine A0.cons Pk.here ?_ | refine A0.cons (Pk.there Pk.here) ?_ | refine A0.cons (Pk.there (Pk.there Pk.here)) ?_ | apply A0.drop)) ?_
 (exact ⟨p + 1, by omega, by omega, rfl, kn, rfl, hkn⟩)
theorem A7Q (br : Nat) (pb : Option Addr) (nb cb : Nat) (bs : List UInt8) (hnb : nb ≤ 2000) (p : Nat) (G : IM) (hb : Sl G pb nb cb 1 (N9 bs)) (hp : p + 9000000 < 1099511627776) :
  Fn Tryz.prog 40 [.pointer (some ⟨br, 0, none⟩)] [rd br pb nb cb p] G
   (A0q br pb nb cb p 9000000 (fun G' v => ∃ e cells, v = .agg ⟨cells⟩ ∧ B3 G' e cells ∧ e.fit 1100)) := by
 have hm8 : mB 8 = 1968200 := by decide
 refine C2 Tryz.func40 rfl Tryz.ntmps40 Tryz.results40 rfl ?_
 intro w0
 refine A5 ?_
 refine sE (A8 rfl) rfl (fun b3 => ?_)
 refine D0 ?_
 refine C3 ?_
 (refine K2 (fun (x : Nat × Nat × IM) => ⟨[(3, .int .i64 x.1), (0, .pointer (some ⟨br, 0, none⟩)), (2, .pointer (some ⟨b3, 0, none⟩))], [rd br pb nb cb x.2.1, .blk b3 [.int .i64 0, .string ⟨⟨[]⟩⟩, .int .i64 0, .int .i64 0, .slice none 0 0, .int .i64 0, .slice none 0 0, .int .i64 0, .slice none 0 0]], x.2.2⟩) (fun x => x.1 ≤ 4 ∧ C6 G x.2.2 ∧ p ≤ x.2.1 ∧ x.2.1 ≤ p + x.1 * 2000000) (fun x => 4 - x.1) (0, p, G) ?_ ?_ ?_)
 (simp only [J9]; exact E2)
 (exact ⟨by omega, C6.refl _, Nat.le_refl _, by dsimp only; omega⟩)
 (rintro ⟨(i : Nat), (p1 : Nat), G1⟩ ⟨hi, hleL, hpL, hpL2⟩; simp only [] at hi hleL hpL hpL2 ⊢; replace hb := hb.mono hleL)
 refine B7 ?_
 refine sB (J8 rfl rfl) rfl rfl (fun h21 => ?_) (fun h21 => ?_)
 refine B0 ?_
 refine C3 ?_
 refine B2 ?_
 (refine J5 (D2 rfl rfl rfl (by omega) (by unfold maxLen; omega) rfl) rfl ?_; rintro _ ⟨b34, rfl⟩)
 (refine V0 (by repeat (first | exact Pk.here | apply Pk.there)) (fun Gf hlef hslf _ => ?_); refine I9 rfl (A0k Gf br pb nb cb (p1) bs _ _ _ _ (hb.mono hlef) hnb (by omega) hslf (by decide)) (Pk.perm (by repeat (first | exact Pk.here | apply Pk.there))) rfl rfl (fun v Gm outs hlen hh => ?_); obtain ⟨rfl, rfl, hv⟩ := hh; replace hb := hb.mono hlef; obtain ⟨dd, rfl, hdd⟩ : ∃ d : Nat, v = .int .i64 ((d + 1 : Nat) : Int) ∧ d ≤ 2 := (by simp only [List.mem_cons, List.not_mem_nil, or_false] at hv; rcases hv with rfl | rfl | rfl | rfl <;> first | exact ⟨0, rfl, by decide⟩ | exact ⟨1, rfl, by decide⟩ | exact ⟨2, rfl, by decide⟩); have hdB := A6D hdd; replace hleL := hleL.trans hlef)
 (have hcall := A35 br pb nb cb bs hnb dd (p1 + 1) _ (by omega) hb (by omega); refine I9 rfl hcall (Pk.perm (by repeat (first | exact Pk.here | apply Pk.there))) rfl rfl (fun v Gn outs hleD hh => ?_); obtain ⟨pD, hpD1, hpD2, rfl, uD, cD, rfl, hrD, hsD, haD⟩ := hh; obtain ⟨qD, dD, eD, rfl, _⟩ := hrD.open; replace hb := hb.mono hleD; replace hleL := hleL.trans hleD)
 refine F0 ?_
 (refine J5 (D2 rfl rfl rfl (by omega) (by unfold maxLen; omega) rfl) rfl ?_; rintro _ ⟨b38, rfl⟩)
 (refine V0 (by repeat (first | exact Pk.here | apply Pk.there)) (fun Gf hlef hslf _ => ?_); refine I9 rfl (A0k Gf br pb nb cb (pD) bs _ _ _ _ (hb.mono hlef) hnb (by omega) hslf (by decide)) (Pk.perm (by repeat (first | exact Pk.here | apply Pk.there))) rfl rfl (fun v Gm outs hlen hh => ?_); obtain ⟨rfl, rfl, hv⟩ := hh; replace hb := hb.mono hlef; replace hleL := hleL.trans hlef; replace hrD := hrD.mono hlef; obtain ⟨dp, rfl, hdp1, hdp2⟩ : ∃ d : Int, v = .int .i64 d ∧ 3 ≤ d ∧ d ≤ 5 := (by simp only [List.mem_cons, List.not_mem_nil, or_false] at hv; rcases hv with rfl | rfl | rfl | rfl <;> exact ⟨_, rfl, by decide, by decide⟩))
 (have hcall := B7T br pb nb cb bs hnb 8 dp uD (pD + 1) _ none 0 0 _ ⟨haD.le (by omega), by omega, by omega, .inr ⟨by omega, by omega⟩⟩ (by omega) (by omega) (by omega) (Z3.nil _) hrD hb (by omega); refine I9 rfl hcall (Pk.perm (by repeat (first | exact Pk.here | apply Pk.there))) rfl rfl (fun v Gn outs hleM hh => ?_); obtain ⟨pM, hpM1, hpM2, rfl, eM, cM, rfl, hrM, hsmM, hcM⟩ := hh; have hlM := hrM.len; have hoM := hrM.one; replace hb := hb.mono hleM; replace hleL := hleL.trans hleM)
 refine sE (A8 rfl) rfl (fun b41 => ?_)
 refine W7 rfl rfl rfl hlM hoM rfl (by repeat first | exact Sw.here | apply Sw.there) (by exact D4 (by first | exact hlM.symm | omega)) ?_
 refine B7 ?_
 refine sL (A3 rfl rfl (B1 (by repeat first | exact mH | apply mT)) hlM) rfl rfl ?_
 (refine E5 rfl (A7C eM _ _ (by omega) hrM) rfl rfl (fun v G9 hle9 hh => ?_); have hmv := @B75 eM; obtain ⟨mc, mt, rfl, hmr, hmu⟩ := hh; obtain ⟨pt, ct, et, rfl, _⟩ := hmr.open; replace hb := hb.mono hle9; replace hleL := hleL.trans hle9; replace hrM := hrM.mono hle9; generalize (P1 eM).isSome = mx at *; cases mx)
 refine B9 ?_
 refine sE (A8 rfl) rfl (fun b52 => ?_)
 refine H6 ?_
 refine sP (J6 rfl rfl (by omega) (by omega)) rfl rfl ?_
 refine A5 ?_
 refine K3 (i + 1, pM, G9) ?_ ?_ ?_
 (simp only [J9]; exact E2)
 (dsimp only; exact ⟨by omega, hleL, by omega, by omega⟩)
 (show 4 - (i + 1) < 4 - i; omega)
 refine B9 ?_
 refine sE (A8 rfl) rfl (fun b78 => ?_)
 refine N5 ?_
 refine sL (A3 rfl rfl (B1 (by repeat first | exact mH | apply mT)) hlM) rfl rfl ?_
 refine W7 rfl rfl rfl hlM hoM rfl (by repeat first | exact Sw.here | apply Sw.there) (by exact D4 (by first | exact hlM.symm | omega)) ?_
 refine D0 ?_
 refine H7 (outs := [rd br pb nb cb pM]) (rC rfl (A3 rfl rfl (B1 (by repeat first | exact mH | apply mT)) hlM)) (by repeat (first | exact A0.nil | refine A0.cons Pk.here ?_ | refine A0.cons (Pk.there Pk.here) ?_ | refine A0.cons (Pk.there (Pk.there Pk.here)) ?_ | apply A0.drop)) ?_
 (exact ⟨pM, by omega, by omega, rfl, eM, _, rfl, hrM, (B76 (hmv rfl)).le (by omega)⟩)
 refine I8 ?_
 (have hcall := B4d br pb nb cb bs hnb p1 _ hb (by omega); refine I9 rfl hcall (Pk.perm (by repeat (first | exact Pk.here | apply Pk.there))) rfl rfl (fun v Gn outs hleC hh => ?_); obtain ⟨pC, hpC1, hpC2, rfl, eC, cC, rfl, hrC, hcC⟩ := hh; have hlC := hrC.len; have hoC := hrC.one; have hcnt := A6l eC)
 refine W7 rfl rfl rfl hlC hoC rfl (by repeat first | exact Sw.here | apply Sw.there) (by exact D4 (by first | exact hlC.symm | omega)) ?_
 refine B9 ?_
 refine H7 (outs := [rd br pb nb cb pC]) (rC rfl (A3 rfl rfl (B1 (by repeat first | exact mH | apply mT)) hlC)) (by repeat (first | exact A0.nil | refine A0.cons Pk.here ?_ | refine A0.cons (Pk.there Pk.here) ?_ | refine A0.cons (Pk.there (Pk.there Pk.here)) ?_ | apply A0.drop)) ?_
 (exact ⟨pC, by omega, by omega, rfl, eC, _, rfl, hrC, A8Z _ (by omega), by omega⟩)
theorem A7R (br : Nat) (pb : Option Addr) (nb cb : Nat) (bs : List UInt8) (hnb : nb ≤ 2000) (p : Nat) (G : IM) (hb : Sl G pb nb cb 1 (N9 bs)) (hp : p + 1000 < 1099511627776) (e : Tm) (ce : List Value) (N : Nat) (hfit : e.fit N) (hN : N ≤ 4000000) (hr : B3 G e ce) :
  Fn Tryz.prog 42 [.pointer (some ⟨br, 0, none⟩), .agg ⟨ce⟩] [rd br pb nb cb p] G
   (A0q br pb nb cb p 1000 (fun G' v => ∃ u cu, v = .agg ⟨cu⟩ ∧ B3 G' u cu ∧ u.fit N)) := by
 have hl := hr.len
 have hone := hr.one
 have hcnt := hfit.2
 obtain ⟨hTl, hTv⟩ := B77 e
 have hT := B17 e G ce hfit.1 (by omega) hr
 generalize A0w e = L0 at hTl hTv hT
 refine C2 Tryz.func42 rfl Tryz.ntmps42 Tryz.results42 rfl ?_
 intro w0
 refine A5 ?_
 refine sE (C7 rfl rfl) rfl (fun b3 => ?_)
 refine sE (A8 rfl) rfl (fun b4 => ?_)
 refine B7 ?_
 refine sL (A3 rfl rfl (B1 (by repeat first | exact mH | apply mT)) hl) rfl rfl ?_
 (refine A1F rfl hT rfl rfl (fun v G1 outs hle1 hh => ?_); obtain ⟨q, c, es0, rfl, rfl, hr1⟩ := hh; replace hb := hb.mono hle1; replace hr := hr.mono hle1)
 refine E1 ?_
 refine C3 ?_
 (refine B2R (fun a w hs => hs.slc_ptT (p := q) (c := c) (el := 25) (sz := 2) (n := L0.length) (cs := es0.flatten) (by repeat first | exact mH | apply mT)) (fun hq => ?_); refine K2 (fun (x : Nat × Nat × List (List Value) × IM) => ⟨[(6, .int .i64 x.1), (5, .slice q L0.length c), (0, .pointer (some ⟨br, 0, none⟩)), (3, .pointer (some ⟨b3, 0, none⟩)), (4, .pointer (some ⟨b4, 0, none⟩))], [.slc q c 25 2 L0.length x.2.2.1.flatten, rd br pb nb cb x.2.1, .blk b4 [.int .i64 0, .string ⟨⟨[]⟩⟩, .int .i64 0, .int .i64 0, .slice none 0 0, .int .i64 0, .slice none 0 0, .int .i64 0, .slice none 0 0], .blk b3 ce], x.2.2.2⟩) (fun x => x.1 ≤ L0.length ∧ C6 G1 x.2.2.2 ∧ p ≤ x.2.1 ∧ x.2.1 ≤ p + x.1 * 31 ∧ ∃ L, L.length = L0.length ∧ D5 x.2.2.2 L x.2.2.1 ∧ ∀ u ∈ L, F8 u ∧ K6 u ≤ 30) (fun x => L0.length - x.1) (0, p, es0, G1) ?_ ?_ ?_)
 (simp only [J9]; exact E2)
 (exact ⟨Nat.zero_le _, C6.refl _, Nat.le_refl _, by dsimp only; omega, L0, rfl, hr1, fun u hu => A37 (hTv u hu)⟩)
 (rintro ⟨(i : Nat), (p1 : Nat), es, Gi⟩ ⟨hi, hle, hp1, hp2, L, hL, hst, hal⟩; simp only [] at hi hle hp1 hp2 hst ⊢; replace hb := hb.mono hle; have hesl : es.length = L0.length := (by have h0 := hst.len; omega))
 refine B0 ?_
 refine sB (J8 rfl rfl) rfl rfl (fun h31 => ?_) (fun h31 => ?_)
 refine B0 ?_
 refine C3 ?_
 refine B0 ?_
 (obtain ⟨g, rfl, hgc⟩ := hq.resolve_left (by omega); obtain ⟨hai, hsi⟩ := hal L[i] (List.getElem_mem (by omega)); have hri : C1 Gi L[i] (es[i]'(by omega)) := (by have h0 := (hst.inv (i := i) (List.getElem?_eq_getElem (by omega)) B4).2; rw [List.getD_eq_getElem?_getD, List.getElem?_eq_getElem (by omega), Option.getD_some] at h0; exact h0); have hei := hri.len; refine sP (B6 (j := i) rfl rfl rfl (by omega)) rfl rfl ?_)
 refine sL (A3 rfl rfl (A7X (by repeat first | exact mH | apply mT) (B79 (by omega) (fun e he => (hst.each e he).1))) hei) rfl rfl ?_
 (have hcall := A5c br pb nb cb bs hnb _ p1 _ _ hai hri hb (by omega); refine I9 rfl hcall (Pk.perm (by repeat (first | exact Pk.here | apply Pk.there))) rfl rfl (fun v Gn outs hleu hh => ?_); obtain ⟨p2, hp21, hp22, rfl, u, cu, rfl, hru, hua, hus, huh⟩ := hh; have hul := hru.len; have huo := hru.one; replace hb := hb.mono hleu; replace hle := hle.trans hleu; replace hst := hst.mono hleu)
 refine sP (B6 (j := i) rfl rfl rfl (by omega)) rfl rfl ?_
 refine B7X rfl rfl rfl hul huo rfl (by repeat first | exact Sw.here | apply Sw.there) (B7Y (by omega) (fun e he => (hst.each e he).1) hul) ?_
 refine B2 ?_
 refine sP (J6 rfl rfl (by omega) (by omega)) rfl rfl ?_
 refine A5 ?_
 (refine K3 (i + 1, p2, es.set i cu, Gn) ?_ ?_ ?_)
 (simp only [J9]; exact E2)
 (dsimp only; exact ⟨by omega, hle, by omega, by omega, L.set i u, by rw [List.length_set]; exact hL, hst.set i hru, fun w hw => by rcases List.mem_or_eq_of_mem_set hw with h | h; exact hal w h; rw [h]; exact ⟨hua, by omega⟩⟩)
 (show L0.length - (i + 1) < L0.length - i; omega)
 refine J0 ?_
 refine sL (A3 rfl rfl (B1 (by repeat first | exact mH | apply mT)) hl) rfl rfl ?_
 refine F0 ?_
 (refine V0 (cs := es.flatten) (by repeat (first | exact Pk.here | apply Pk.there)) (fun G2 hle2 hsl2 hno2 => ?_); have hw := B74 e L G2 ce q c es hfit.1 (by omega) (by omega) (fun u hu => (hal u hu).1.small) ((hr.mono hle).mono hle2) (E0.of (by rw [hL]; exact hsl2) (by omega) hst.all (fun e he => (hst.each e he).2)) (hst.mono hle2); rw [hL] at hw; refine E5 rfl hw rfl rfl (fun v G3 hle3 hh => ?_); obtain ⟨cu, rfl, hru⟩ := hh; have hfu := B78 hfit (fun u hu => (hal u hu).1.small); generalize (A1x e L).isSome = bx; generalize (A1x e L).getD I3 = ux at *; have hul := hru.len; have huo := hru.one)
 refine B9 ?_
 refine sE (A8 rfl) rfl (fun b78 => ?_)
 refine sS rfl rfl rfl hul huo rfl ?_ (hu := by exact D4 hul.symm)
 refine B2 ?_
 refine sL (A3 rfl rfl (B1 (by repeat first | exact mH | apply mT)) hul) rfl rfl ?_
 refine sS rfl rfl rfl hul huo rfl ?_ (hu := by exact D4 hul.symm)
 refine B9 ?_
 refine H7 (outs := [rd br pb nb cb p1]) (rC rfl (A3 rfl rfl (B1 (by repeat first | exact mH | apply mT)) hul)) (by repeat (first | exact A0.nil | refine A0.cons Pk.here ?_ | refine A0.cons (Pk.there Pk.here) ?_ | refine A0.cons (Pk.there (Pk.there Pk.here)) ?_ | apply A0.drop)) ?_
 (exact ⟨p1, by omega, by omega, rfl, ux, cu, rfl, hru, hfu⟩)
def B8a (G : IM) : IM → Value → List A7 → Prop := M3 fun G' v => ∃ a ca b cb f, v = .tuple ⟨[.agg ⟨ca⟩, .agg ⟨cb⟩, .int .i64 f]⟩ ∧ B3 G' a ca ∧ a.fit 1100 ∧ B3 G' b cb ∧ b.fit 1100 ∧ H1 f
theorem B8b (G : IM) (q : Option Addr) (n c : Nat) (bs : List UInt8) (hb : Sl G q n c 1 (N9 bs)) : Fn Tryz.prog 23 [.slice q n c] [] G (B8a G) := by
 refine C2 Tryz.func23 rfl Tryz.ntmps23 Tryz.results23 rfl ?_
 intro w0
 refine A5 ?_
 refine sE (A8 rfl) rfl (fun b3 => ?_)
 refine sE (A8 rfl) rfl (fun b4 => ?_)
 refine B0 ?_
 (refine I9 rfl (A9A G q n c bs hb) (List.Perm.refl _) rfl rfl (fun v G1 outs hle1 hh => ?_); obtain ⟨rfl, br, pb, nb, cb, bs', rfl, rfl, hnb, hb'⟩ := hh)
 refine B5 ?_
 (have hcall := A7Q br pb nb cb bs' hnb 0 _ hb' (by omega); refine I9 rfl hcall (Pk.perm (by repeat (first | exact Pk.here | apply Pk.there))) rfl rfl (fun v Gn outs hle1 hh => ?_); obtain ⟨p1, hp11, hp12, rfl, e0, ce0, rfl, hr0, hf0⟩ := hh; replace hb' := hb'.mono hle1)
 (have hcall := B4n br pb nb cb bs' hnb p1 _ hb' (by omega) e0 ce0 1100 hf0 hr0; refine I9 rfl hcall (Pk.perm (by repeat (first | exact Pk.here | apply Pk.there))) rfl rfl (fun v Gn outs hle2 hh => ?_); obtain ⟨p2, hp21, hp22, rfl, e, ce, rfl, hre, hfe⟩ := hh; have hl1 := hre.len; have ho1 := hre.one; replace hb' := hb'.mono hle2)
 refine sE (A8 rfl) rfl (fun b21 => ?_)
 refine W7 rfl rfl rfl hl1 ho1 rfl (by repeat first | exact Sw.here | apply Sw.there) (by exact D4 (by first | exact hl1.symm | omega)) ?_
 refine B2 ?_
 refine sL (A3 rfl rfl (B1 (by repeat first | exact mH | apply mT)) hl1) rfl rfl ?_
 (have hcall := A7R br pb nb cb bs' hnb p2 _ hb' (by omega) e ce 1100 hfe (by omega) hre; refine I9 rfl hcall (Pk.perm (by repeat (first | exact Pk.here | apply Pk.there))) rfl rfl (fun v Gn outs hle3 hh => ?_); obtain ⟨p3, hp31, hp32, rfl, b, cb1, rfl, hrb, hfb⟩ := hh; have hl2 := hrb.len; have ho2 := hrb.one; replace hb' := hb'.mono hle3; replace hre := hre.mono hle3)
 refine sE (A8 rfl) rfl (fun b30 => ?_)
 refine W7 rfl rfl rfl hl2 ho2 rfl (by repeat first | exact Sw.here | apply Sw.there) (by exact D4 (by first | exact hl2.symm | omega)) ?_
 refine B0 ?_
 (refine I9 rfl (Z1 _ br pb nb cb (p3) bs' 12 hb' hnb (by omega)) (Pk.perm (by repeat (first | exact Pk.here | apply Pk.there))) rfl rfl (fun v Gp outs hle38 hh => ?_); obtain ⟨rfl, rfl, j38, rfl, hj38, hk38⟩ := hh; skip)
 replace hrb := hrb.mono hle38
 replace hb' := hb'.mono hle38
 replace hre := hre.mono hle38
 refine sB (qE rfl rfl) rfl rfl (fun h39 => ?_) (fun h39 => ?_)
 refine B2 ?_
 (have hcall := A7Q br pb nb cb bs' hnb (p3 + 1) _ hb' (by omega); refine I9 rfl hcall (Pk.perm (by repeat (first | exact Pk.here | apply Pk.there))) rfl rfl (fun v Gn outs hle4 hh => ?_); obtain ⟨p4, hp41, hp42, rfl, b2, cb2, rfl, hrb2, hfb2⟩ := hh; have hl3 := hrb2.len; have ho3 := hrb2.one; replace hb' := hb'.mono hle4; replace hre := hre.mono hle4)
 refine W7 rfl rfl rfl hl3 ho3 rfl (by repeat first | exact Sw.here | apply Sw.there) (by exact D4 (by first | exact (hl3.trans hl2.symm).symm | omega)) ?_
 refine B9 ?_
 refine D8 D9 rfl ?_
 refine L3 (i := 0) (l' := [tt,ff,ff,ff,ff,ff,ff]) rfl D3 (A3 rfl rfl (B1 (by repeat first | exact mH | apply mT)) hl1) rfl (by kernel_rfl) rfl rfl ?_
 refine aL 1 rfl (A3 rfl rfl (B1 (by repeat first | exact mH | apply mT)) hl3) rfl ?_
 refine aP 2 rfl (qM rfl) rfl ?_
 refine A4 3 ?_
 (have hcall := B2e br pb nb cb bs' hnb p4 _ hb' (by omega); refine X8 (l' := [tt,tt,tt,tt,ff,ff,ff]) rfl rfl hcall (Pk.perm (by repeat (first | exact Pk.here | apply Pk.there))) rfl rfl rfl (by repeat (first | exact A9.nil | apply A9.dep (by decide +kernel) | apply A9.blk (by decide +kernel) (by repeat (first | exact Pk.here | apply Pk.there)) (by repeat first | exact mH | apply mT))) (fun v Gn outs hle5 hh => ?_); obtain ⟨p5, hp51, hp52, rfl, fl, rfl, hfl⟩ := hh; replace hre := hre.mono hle5; replace hrb2 := hrb2.mono hle5)
 refine A4 4 ?_
 refine A1i rfl rfl rfl rfl hl1 ho1 rfl rfl (by repeat first | exact Sw.here | apply Sw.there) (by exact D4 hl1.symm) (by repeat (first | exact A9.nil | apply A9.dep (by decide +kernel) | apply A9.blk (by decide +kernel) (by repeat (first | exact Pk.here | apply Pk.there)) (by repeat first | exact mH | apply mT))) ?_
 refine A4 5 ?_
 refine A1i rfl rfl rfl rfl hl3 ho3 rfl rfl (by repeat first | exact Sw.here | apply Sw.there) (by exact D4 hl3.symm) (by repeat (first | exact A9.nil | apply A9.dep (by decide +kernel) | apply A9.blk (by decide +kernel) (by repeat (first | exact Pk.here | apply Pk.there)) (by repeat first | exact mH | apply mT))) ?_
 refine aP 6 rfl (qA rfl) rfl ?_
 refine B9 ?_
 refine D1 (rC rfl (A3 rfl rfl (B1 (by repeat first | exact mH | apply mT)) hl1)) (rC rfl (A3 rfl rfl (B1 (by repeat first | exact mH | apply mT)) hl3)) (rT rfl) ?_
 (exact ⟨rfl, e, ce, b2, cb2, fl, rfl, hre, hfe, hrb2, hfb2, hfl⟩)
 refine B0 ?_
 refine D8 D9 rfl ?_
 refine L3 (i := 0) (l' := [tt,ff,ff,ff,ff,ff,ff]) rfl D3 (A3 rfl rfl (B1 (by repeat first | exact mH | apply mT)) hl1) rfl (by kernel_rfl) rfl rfl ?_
 refine aL 1 rfl (A3 rfl rfl (B1 (by repeat first | exact mH | apply mT)) hl2) rfl ?_
 refine aP 2 rfl (qM rfl) rfl ?_
 refine A4 3 ?_
 (have hcall := B2e br pb nb cb bs' hnb (p3 + 1) _ hb' (by omega); refine X8 (l' := [tt,tt,tt,tt,ff,ff,ff]) rfl rfl hcall (Pk.perm (by repeat (first | exact Pk.here | apply Pk.there))) rfl rfl rfl (by repeat (first | exact A9.nil | apply A9.dep (by decide +kernel) | apply A9.blk (by decide +kernel) (by repeat (first | exact Pk.here | apply Pk.there)) (by repeat first | exact mH | apply mT))) (fun v Gn outs hle5 hh => ?_); obtain ⟨p5, hp51, hp52, rfl, fl, rfl, hfl⟩ := hh; replace hre := hre.mono hle5; replace hrb := hrb.mono hle5)
 refine A4 4 ?_
 refine A1i rfl rfl rfl rfl hl1 ho1 rfl rfl (by repeat first | exact Sw.here | apply Sw.there) (by exact D4 hl1.symm) (by repeat (first | exact A9.nil | apply A9.dep (by decide +kernel) | apply A9.blk (by decide +kernel) (by repeat (first | exact Pk.here | apply Pk.there)) (by repeat first | exact mH | apply mT))) ?_
 refine A4 5 ?_
 refine A1i rfl rfl rfl rfl hl2 ho2 rfl rfl (by repeat first | exact Sw.here | apply Sw.there) (by exact D4 hl2.symm) (by repeat (first | exact A9.nil | apply A9.dep (by decide +kernel) | apply A9.blk (by decide +kernel) (by repeat (first | exact Pk.here | apply Pk.there)) (by repeat first | exact mH | apply mT))) ?_
 refine aP 6 rfl (qA rfl) rfl ?_
 refine B9 ?_
 refine D1 (rC rfl (A3 rfl rfl (B1 (by repeat first | exact mH | apply mT)) hl1)) (rC rfl (A3 rfl rfl (B1 (by repeat first | exact mH | apply mT)) hl2)) (rT rfl) ?_
 (exact ⟨rfl, e, ce, b, cb1, fl, rfl, hre, hfe, hrb, hfb, hfl⟩)
def B8c (G : IM) : IM → Value → List A7 → Prop := M3 fun G' v => ∃ a ca b cb d cd, v = .tuple ⟨[.agg ⟨ca⟩, .agg ⟨cb⟩, .agg ⟨cd⟩]⟩ ∧ B3 G' a ca ∧ a.fit 1100 ∧ B3 G' b cb ∧ b.fit 1100 ∧ B3 G' d cd ∧ d.fit 1100
theorem B8d (G : IM) (q : Option Addr) (n c : Nat) (bs : List UInt8) (hb : Sl G q n c 1 (N9 bs)) : Fn Tryz.prog 20 [.slice q n c] [] G (B8c G) := by
 refine C2 Tryz.func20 rfl Tryz.ntmps20 Tryz.results20 rfl ?_
 intro w0
 refine A5 ?_
 refine sE (A8 rfl) rfl (fun b3 => ?_)
 refine sE (A8 rfl) rfl (fun b4 => ?_)
 refine sE (A8 rfl) rfl (fun b5 => ?_)
 refine B2 ?_
 (refine I9 rfl (A9A G q n c bs hb) (List.Perm.refl _) rfl rfl (fun v G1 outs hle1 hh => ?_); obtain ⟨rfl, br, pb, nb, cb, bs', rfl, rfl, hnb, hb'⟩ := hh)
 refine B0 ?_
 (have hcall := A7Q br pb nb cb bs' hnb 0 _ hb' (by omega); refine I9 rfl hcall (Pk.perm (by repeat (first | exact Pk.here | apply Pk.there))) rfl rfl (fun v Gn outs hle1 hh => ?_); obtain ⟨p1, hp11, hp12, rfl, e, ce, rfl, hre, hfe⟩ := hh; have hl1 := hre.len; have ho1 := hre.one; replace hb' := hb'.mono hle1)
 refine sE (A8 rfl) rfl (fun b19 => ?_)
 refine W7 rfl rfl rfl hl1 ho1 rfl (by repeat first | exact Sw.here | apply Sw.there) (by exact D4 (by first | exact hl1.symm | omega)) ?_
 refine B2 ?_
 refine sL (A3 rfl rfl (B1 (by repeat first | exact mH | apply mT)) hl1) rfl rfl ?_
 (have hcall := A7R br pb nb cb bs' hnb p1 _ hb' (by omega) e ce 1100 hfe (by omega) hre; refine I9 rfl hcall (Pk.perm (by repeat (first | exact Pk.here | apply Pk.there))) rfl rfl (fun v Gn outs hle3 hh => ?_); obtain ⟨p3, hp31, hp32, rfl, b, cb1, rfl, hrb, hfb⟩ := hh; have hl2 := hrb.len; have ho2 := hrb.one; replace hb' := hb'.mono hle3; replace hre := hre.mono hle3)
 refine sE (A8 rfl) rfl (fun b28 => ?_)
 refine W7 rfl rfl rfl hl2 ho2 rfl (by repeat first | exact Sw.here | apply Sw.there) (by exact D4 (by first | exact hl2.symm | omega)) ?_
 refine B9 ?_
 refine D8 D9 rfl ?_
 refine L3 (i := 0) (l' := [tt,ff,ff,ff,ff,ff,ff,ff]) rfl D3 (A3 rfl rfl (B1 (by repeat first | exact mH | apply mT)) hl1) rfl (by kernel_rfl) rfl rfl ?_
 refine aL 1 rfl (A3 rfl rfl (B1 (by repeat first | exact mH | apply mT)) hl2) rfl ?_
 refine aL 3 rfl (A3 rfl rfl (B1 (by repeat first | exact mH | apply mT)) hl2) rfl ?_
 refine aP 2 rfl (qM rfl) rfl ?_
 refine A4 4 ?_
 (have hcall := A7R br pb nb cb bs' hnb p3 _ hb' (by omega) b cb1 1100 hfb (by omega) hrb; refine X8 (l' := [tt,tt,tt,tt,tt,ff,ff,ff]) rfl rfl hcall (Pk.perm (by repeat (first | exact Pk.here | apply Pk.there))) rfl rfl rfl (by repeat (first | exact A9.nil | apply A9.dep (by decide +kernel) | apply A9.blk (by decide +kernel) (by repeat (first | exact Pk.here | apply Pk.there)) (by repeat first | exact mH | apply mT))) (fun v Gn outs hle5 hh => ?_); obtain ⟨p5, hp51, hp52, rfl, d, cd, rfl, hrd, hfd⟩ := hh; have hl3 := hrd.len; have ho3 := hrd.one; replace hre := hre.mono hle5; replace hrb := hrb.mono hle5)
 refine A4 5 ?_
 refine A1i rfl rfl rfl rfl hl1 ho1 rfl rfl (by repeat first | exact Sw.here | apply Sw.there) (by exact D4 hl1.symm) (by repeat (first | exact A9.nil | apply A9.dep (by decide +kernel) | apply A9.blk (by decide +kernel) (by repeat (first | exact Pk.here | apply Pk.there)) (by repeat first | exact mH | apply mT))) ?_
 refine A4 6 ?_
 refine A1i rfl rfl rfl rfl hl2 ho2 rfl rfl (by repeat first | exact Sw.here | apply Sw.there) (by exact D4 hl2.symm) (by repeat (first | exact A9.nil | apply A9.dep (by decide +kernel) | apply A9.blk (by decide +kernel) (by repeat (first | exact Pk.here | apply Pk.there)) (by repeat first | exact mH | apply mT))) ?_
 refine A4 7 ?_
 refine A1i rfl rfl rfl rfl hl3 ho3 rfl rfl (by repeat first | exact Sw.here | apply Sw.there) (by exact D4 hl3.symm) (by repeat (first | exact A9.nil | apply A9.dep (by decide +kernel) | apply A9.blk (by decide +kernel) (by repeat (first | exact Pk.here | apply Pk.there)) (by repeat first | exact mH | apply mT))) ?_
 refine B9 ?_
 refine D1 (rC rfl (A3 rfl rfl (B1 (by repeat first | exact mH | apply mT)) hl1)) (rC rfl (A3 rfl rfl (B1 (by repeat first | exact mH | apply mT)) hl2)) (rC rfl (A3 rfl rfl (B1 (by repeat first | exact mH | apply mT)) hl3)) ?_
 (exact ⟨rfl, e, ce, b, cb1, d, cd, rfl, hre, hfe, hrb, hfb, hrd, hfd⟩)
def B8y (N : Nat) (G : IM) : IM → Value → List A7 → Prop := M3 fun G' v => ∃ a ca f, v = .tuple ⟨[.agg ⟨ca⟩, .int .i64 f]⟩ ∧ B3 G' a ca ∧ a.fit N ∧ H1 f
theorem B8e (bs : List UInt8) (G : IM) (p : Option Addr) (n c : Nat) (hT : A0K G) (hb : Sl G p n c 1 (N9 bs)) : Fn Tryz.prog 5 [.slice p n c] [] G (M3 fun _ v => v = .bool true) := by
 have hn := hb.le
 refine C2 Tryz.func5 rfl Tryz.ntmps5 Tryz.results5 rfl ?_
 intro w0
 refine J0 ?_
 refine sB (Y9 rfl rfl) rfl rfl (fun h11 => ?_) (fun h11 => ?_)
 refine I8 ?_
 (exact ⟨rfl, rfl⟩)
 refine D0 ?_
 (refine E5 rfl (B8d G _ _ _ bs hb) rfl rfl (fun v G1 hle1 hh => ?_); obtain ⟨a, ca, b, cb, d, cd, rfl, hra, hfa, hrb, hfb, hrd, hfd⟩ := hh; replace hT := hT.mono hle1; have hca := hfa.2; have hcb := hfb.2; have hla := hra.len; have hoa := hra.one; have hlb := hrb.len; have hob := hrb.one; have hld := hrd.len; have hod := hrd.one; have hI := A5H a b 100 G1 ca cb hT hra hrb; have hk := B7N a b 100; have hS := B1Q a b 100; have hI2 := A5H b d 100; have hI3 := A5H a d 100; have hch := @B7Q a b d 100; generalize Y0 a b 100 = R1 at *; generalize Y0 b d 100 = R2 at *; generalize Y0 a d 100 = R3 at *)
 refine B7 ?_
 refine sE (A8 rfl) rfl (fun b37 => ?_)
 refine sE (A8 rfl) rfl (fun b38 => ?_)
 refine sE (A8 rfl) rfl (fun b39 => ?_)
 refine sS rfl rfl rfl hla hoa rfl ?_ (hu := by exact D4 hla.symm)
 refine sS rfl rfl rfl hlb hob rfl ?_ (hu := by exact D4 hlb.symm)
 refine sS rfl rfl rfl hld hod rfl ?_ (hu := by exact D4 hld.symm)
 refine B7 ?_
 refine sL (A3 rfl rfl (B1 (by repeat first | exact mH | apply mT)) hla) rfl rfl ?_
 refine sL (A3 rfl rfl (B1 (by repeat first | exact mH | apply mT)) hlb) rfl rfl ?_
 (refine E5 rfl hI rfl rfl (fun v2 G2 hle2 hh => ?_); subst hh; replace hra := hra.mono hle2; replace hrb := hrb.mono hle2; replace hrd := hrd.mono hle2; have hJ2 := hI2 G2 cb cd (hT.mono hle2) hrb hrd)
 refine B2 ?_
 refine sL (A3 rfl rfl (B1 (by repeat first | exact mH | apply mT)) hlb) rfl rfl ?_
 refine sL (A3 rfl rfl (B1 (by repeat first | exact mH | apply mT)) hld) rfl rfl ?_
 (refine E5 rfl hJ2 rfl rfl (fun v3 G3 hle3 hh => ?_); subst hh; replace hra := hra.mono hle3; replace hrb := hrb.mono hle3; replace hrd := hrd.mono hle3; have hS2 := hS G3 ca cb (by omega) (by omega) hra hrb)
 refine B5 ?_
 refine sL (A3 rfl rfl (B1 (by repeat first | exact mH | apply mT)) hla) rfl rfl ?_
 refine sL (A3 rfl rfl (B1 (by repeat first | exact mH | apply mT)) hlb) rfl rfl ?_
 (refine E5 rfl hS2 rfl rfl (fun v4 G4 hle4 hh => ?_); subst hh; replace hra := hra.mono hle4; replace hrd := hrd.mono hle4; replace hrb := hrb.mono hle4; have hJ3 := hI3 G4 ca cd (((hT.mono hle2).mono hle3).mono hle4) hra hrd; have hS3 := hS G4 ca cb (by omega) (by omega) hra hrb)
 refine sP (A28 rfl rfl (by omega)) rfl rfl ?_
 refine A5 ?_
 refine sB (M1 rfl rfl) rfl rfl (fun h71 => ?_) (fun h71 => ?_)
 refine I8 ?_
 refine sL (A3 rfl rfl (B1 (by repeat first | exact mH | apply mT)) hla) rfl rfl ?_
 refine sL (A3 rfl rfl (B1 (by repeat first | exact mH | apply mT)) hlb) rfl rfl ?_
 (refine E5 rfl hS3 rfl rfl (fun v5 G5 hle5 hh => ?_); subst hh)
 refine sP (W8 rfl rfl (by omega)) rfl rfl ?_
 refine A5 ?_
 refine sP (W9 rfl rfl (by omega)) rfl rfl ?_
 refine B5 ?_
 (exact ⟨rfl, rfl⟩)
 refine B9 ?_
 refine sB (M1 rfl rfl) rfl rfl (fun h101 => ?_) (fun h101 => ?_)
 refine B5 ?_
 refine sL (A3 rfl rfl (B1 (by repeat first | exact mH | apply mT)) hla) rfl rfl ?_
 refine sL (A3 rfl rfl (B1 (by repeat first | exact mH | apply mT)) hlb) rfl rfl ?_
 (refine E5 rfl hS3 rfl rfl (fun v5 G5 hle5 hh => ?_); subst hh)
 refine sP (W8 rfl rfl (by omega)) rfl rfl ?_
 refine A5 ?_
 refine sP (W9 rfl rfl (by omega)) rfl rfl ?_
 refine B5 ?_
 (exact ⟨rfl, rfl⟩)
 refine D0 ?_
 refine sL (A3 rfl rfl (B1 (by repeat first | exact mH | apply mT)) hla) rfl rfl ?_
 refine sL (A3 rfl rfl (B1 (by repeat first | exact mH | apply mT)) hld) rfl rfl ?_
 (refine E5 rfl hJ3 rfl rfl (fun v5 G5 hle5 hh => ?_); subst hh; have hR3 := hch (by omega) (by omega))
 refine sP (W8 rfl rfl (by omega)) rfl rfl ?_
 refine B2 ?_
 (exact ⟨rfl, rfl⟩)
theorem B8f (bs : List UInt8) (G : IM) (p : Option Addr) (n c : Nat) (hT : A0K G) (hb : Sl G p n c 1 (N9 bs)) : Fn Tryz.prog 7 [.slice p n c] [] G (M3 fun _ v => v = .bool true) := by
 have hn := hb.le
 refine C2 Tryz.func7 rfl Tryz.ntmps7 Tryz.results7 rfl ?_
 intro w0
 refine J0 ?_
 refine sB (Y9 rfl rfl) rfl rfl (fun h11 => ?_) (fun h11 => ?_)
 refine I8 ?_
 (exact ⟨rfl, rfl⟩)
 refine D0 ?_
 (refine E5 rfl (B8b G _ _ _ bs hb) rfl rfl (fun v G1 hle1 hh => ?_); obtain ⟨a, ca, b, cb, fl, rfl, hra, hfa, hrb, hfb, hfl⟩ := hh; replace hT := hT.mono hle1; have hca := hfa.2; have hcb := hfb.2; have hla := hra.len; have hoa := hra.one; have hlb := hrb.len; have hob := hrb.one; have hI := A5H a b fl G1 ca cb hT hra hrb; have hk := @B7O a b fl; have hS := B1Q a b fl; have hA := A5A a fl; have hB := A5A b fl; obtain ⟨R, hR⟩ : ∃ R, Y0 a b fl = R := ⟨_, rfl⟩; rw [hR] at hI hk hS; obtain ⟨⟨s1, c1, l1⟩, hr1⟩ : ∃ r, O1 a fl = r := ⟨_, rfl⟩; obtain ⟨⟨s2, c2, l2⟩, hr2⟩ : ∃ r, O1 b fl = r := ⟨_, rfl⟩; rw [hr1] at hA hk; rw [hr2] at hB hk; replace hk : R ≠ 0 → (c2 ≠ 2 ∨ c1 ≠ 0) ∧ c1 ≠ 3 ∧ c2 ≠ 3 := hk)
 refine B7 ?_
 refine sE (A8 rfl) rfl (fun b37 => ?_)
 refine sE (A8 rfl) rfl (fun b38 => ?_)
 refine sS rfl rfl rfl hla hoa rfl ?_ (hu := by exact D4 hla.symm)
 refine sS rfl rfl rfl hlb hob rfl ?_ (hu := by exact D4 hlb.symm)
 refine B2 ?_
 refine sL (A3 rfl rfl (B1 (by repeat first | exact mH | apply mT)) hla) rfl rfl ?_
 refine sL (A3 rfl rfl (B1 (by repeat first | exact mH | apply mT)) hlb) rfl rfl ?_
 refine F0 ?_
 (refine E5 rfl hI rfl rfl (fun v2 G2 hle2 hh => ?_); subst hh; replace hra := hra.mono hle2; replace hrb := hrb.mono hle2; have hB2 := hB G2 cb (hT.mono hle2) hrb)
 refine B2 ?_
 refine sL (A3 rfl rfl (B1 (by repeat first | exact mH | apply mT)) hlb) rfl rfl ?_
 refine F0 ?_
 (refine E5 rfl hB2 rfl rfl (fun v3 G3 hle3 hh => ?_); replace hh : v3 = .tuple ⟨[.string s2, .int .i64 c2, .int .i64 l2]⟩ := hh; subst hh; replace hra := hra.mono hle3; replace hrb := hrb.mono hle3; have hA3 := hA G3 ca ((hT.mono hle2).mono hle3) hra)
 refine I8 ?_
 refine sL (A3 rfl rfl (B1 (by repeat first | exact mH | apply mT)) hla) rfl rfl ?_
 refine F0 ?_
 (refine E5 rfl hA3 rfl rfl (fun v4 G4 hle4 hh => ?_); replace hh : v4 = .tuple ⟨[.string s1, .int .i64 c1, .int .i64 l1]⟩ := hh; subst hh; replace hra := hra.mono hle4; replace hrb := hrb.mono hle4; have hS2 := hS G4 ca cb (by omega) (by omega) hra hrb)
 refine N5 ?_
 refine sL (A3 rfl rfl (B1 (by repeat first | exact mH | apply mT)) hla) rfl rfl ?_
 refine sL (A3 rfl rfl (B1 (by repeat first | exact mH | apply mT)) hlb) rfl rfl ?_
 refine F0 ?_
 (refine E5 rfl hS2 rfl rfl (fun v5 G5 hle5 hh => ?_); subst hh)
 refine sP (W8 rfl rfl (by omega)) rfl rfl ?_
 refine A5 ?_
 refine sB (qE rfl rfl) rfl rfl (fun h91 => ?_) (fun h91 => ?_)
 refine I8 ?_
 refine sP (W8 rfl rfl (by omega)) rfl rfl ?_
 refine J1 ?_
 (exact ⟨rfl, rfl⟩)
 refine A5 ?_
 refine sB (M1 rfl rfl) rfl rfl (fun h121 => ?_) (fun h121 => ?_)
 refine D0 ?_
 refine sP (I7 rfl rfl (by omega)) rfl rfl ?_
 refine A5 ?_
 refine sP (W9 rfl rfl (by omega)) rfl rfl ?_
 refine A5 ?_
 refine sP (W9 rfl rfl (by omega)) rfl rfl ?_
 refine D0 ?_
 (exact ⟨rfl, rfl⟩)
 refine B9 ?_
 refine sP (W9 rfl rfl (by omega)) rfl rfl ?_
 refine B7 ?_
 refine sP (I7 rfl rfl (by omega)) rfl rfl ?_
 refine A5 ?_
 refine sP (W9 rfl rfl (by omega)) rfl rfl ?_
 refine A5 ?_
 refine sP (W9 rfl rfl (by omega)) rfl rfl ?_
 refine D0 ?_
 (exact ⟨rfl, rfl⟩)
end Gw
end Go.Proofs.YthpdjmbpbdbodaaGreatDoor
