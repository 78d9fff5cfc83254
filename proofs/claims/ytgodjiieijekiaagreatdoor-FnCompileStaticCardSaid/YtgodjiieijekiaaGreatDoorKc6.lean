/-
  Drawn terms that often have a type.
-/
import Derived.Test.YtgodjiieijekiaaGreatDoorKc5
import Derived.Test.YtgodjiieijekiaaGreatDoorKc4
import Derived.Test.YtgodjiieijekiaaGreatDoorKc3
import Derived.Test.YtgodjiieijekiaaGreatDoorKc1
import Derived.Test.YtgodjiieijekiaaGreatDoorKc2
set_option linter.unusedVariables false
set_option linter.unusedSimpArgs false
set_option maxHeartbeats 0
set_option maxRecDepth 100000
set_option synthInstance.maxSize 4000
set_option synthInstance.maxHeartbeats 0
namespace Go.Proofs.YtgodjiieijekiaaGreatDoor
open Go Go.RowKit
namespace Gw
structure A4m {ι : Type} (S : ι → Sy) (φ : ι → Prop) (K : Po) (e : Exit) (σ : Sy) : Prop where
 run : match e with
  | .normal => ∃ i, φ i ∧ Sub σ (S i)
  | e => K e σ
section cut
variable {P : Program} {Γ : I3} {K : Po} {σ : Sy} {ι : Type}
theorem B0l {c y : Code} (S : ι → Sy) (φ : ι → Prop) (h : H5 P Γ c (A4m S φ K) σ) (k : ∀ i, φ i → H5 P Γ y K (S i)) : H5 P Γ c (A02 P Γ y K) σ := by
 refine A5L h ?_
 rintro e σ ⟨hk⟩
 cases e with
 | normal => obtain ⟨i, hi, hs⟩ := hk; exact ⟨A7D hs (k i hi)⟩
 | _ => exact ⟨hk⟩
theorem A4n {S : ι → Sy} {φ : ι → Prop} {σ : Sy} (i : ι) (hs : Sub σ (S i)) (h : φ i) : A4m S φ K .normal σ := ⟨⟨i, h, hs⟩⟩
theorem A01 {S : ι → Sy} {φ : ι → Prop} {σ : Sy} (h : K .ret σ) : A4m S φ K .ret σ := ⟨h⟩
theorem B5y {S : ι → Sy} {φ : ι → Prop} (h : Z7 K) : Z7 (A4m S φ K) := fun c σ hk => h c σ hk.run
instance npC6 {S : ι → Sy} {φ : ι → Prop} [h : NpC K] : NpC (A4m S φ K) := ⟨B5y h.h⟩
end cut
theorem A2m (G : IM) (nm : ByteArray) (num : Int) {k : Int} (hk : C1 k) (hn : C1 num) : B5 G (.mk k nm num A5 A5 0 []) [.int .i64 k, .string nm, .int .i64 num, .int .i64 0, .slice none 0 0, .int .i64 0, .slice none 0 0, .int .i64 0, .slice none 0 0] := A1p hk hn
theorem A8.kidsM {G : IM} {k : Int} {ks : List Ty} {q : Option Addr} {c : Nat} (h : A8 G (.mk k ks) [.int .i64 k, .slice q ks.length c]) : ∃ es, C0 G q ks.length c 2 es ∧ C3 G ks es := by
 obtain ⟨q', c', es, he, _, h1, h2⟩ := h.open
 cases he
 exact ⟨es, h1, h2⟩
theorem B5z (br : Nat) (pb : Option Addr) (nb cb : Nat) (bs : List UInt8) (hnb : nb ≤ 2000) : ∀ n, B0j br pb nb cb bs n := by
 refine fun n => Nat.strongRecOn n fun n ih depth t p G pc nc cc cells hfu hd0 hd1 hnc hx hrt hb hp => ?_
 have hge := A1v n
 have har := hfu.1.ar
 have hszt := A4X hfu.1
 have hnn := A1a t
 have hncl := hx.le
 obtain ⟨k, ks⟩ := t
 obtain ⟨q, c, es, rfl, hk, _, _⟩ := hrt.open
 simp only [Ty.k, Ty.ks] at hk hrt ⊢
 have hsz30 : I0 (.mk k ks) ≤ 30 := hszt
 have hops : k = 4 ∨ k = 5 → ks.length = 2 := by have h2 := har; rw [E5] at h2; exact h2.1
 refine B6 Tryz.func110 rfl Tryz.ntmps110 Tryz.results110 rfl ?_
 intro w0
 refine tS (tR ?_)
 refine sE (E2 rfl rfl) rfl (fun b3 => ?_)
 refine sE (B0 rfl) rfl (fun b4 => ?_)
 refine C5 ?_
 refine sP (N1 rfl rfl (by omega) (by omega)) rfl rfl ?_
 refine sQ (qA rfl) rfl (sD (nS ?_))
 refine B2 ?_
 (refine J8 (fun (x : Nat × Nat × IM) => ⟨(9, .int .i64 ((x.1 : Int) - 1)) :: [(0, .pointer (some ⟨br, 0, none⟩)), (1, .slice pc nc cc), (3, .int .i64 depth), (6, .pointer (some ⟨b3, 0, none⟩)), (8, .pointer (some ⟨b4, 0, none⟩))], [rd br pb nb cb x.2.1, .blk b4 [.int .i64 0, .string ⟨⟨[]⟩⟩, .int .i64 0, .int .i64 0, .slice none 0 0, .int .i64 0, .slice none 0 0, .int .i64 0, .slice none 0 0], .blk b3 [.int .i64 k, .slice q ks.length c]], x.2.2⟩) (fun x => x.1 ≤ nc ∧ A7 G x.2.2 ∧ p ≤ x.2.1 ∧ x.2.1 + x.1 ≤ p + nc) (fun x => x.1) (nc, p, G) ?_ ?_ ?_)
 (simp only [E7]; exact C2)
 (exact ⟨Nat.le_refl _, A7.refl _, Nat.le_refl _, Nat.le_refl _⟩)
 (rintro ⟨(i : Nat), (p1 : Nat), G1⟩ ⟨hi, hleL, hpL, hpL2⟩; simp only [] at hi hleL hpL hpL2 ⊢; replace hx := hx.mono hleL; replace hb := hb.mono hleL; replace hrt := hrt.mono hleL;)
 refine tS (tS (tR (sQ (qM rfl) rfl ?_)))
 refine sB (Y2 rfl rfl) rfl rfl (fun h25 => ?_) (fun h25 => ?_)
 refine sD (nS (qT rfl (tK (nS (tS ?_)))))
 (show H5 _ _ (.block 1 ..) _ _; obtain ⟨j, rfl⟩ : ∃ j, i = j + 1 := ⟨i - 1, by omega⟩; rw [show ((j + 1 : Nat) : Int) - 1 = (j : Int) from by omega]; obtain ⟨b, o, nm1, t1, qq1, dd1, rfl, hat, hr1, ha1, hs1, hgb, hns1⟩ := hx.get (i := j) (by omega); refine B2 ?_)
 refine W1 ?_
 refine sP (B3 (j := j) rfl rfl rfl (by omega)) rfl rfl ?_
 refine sQ (qF rfl) rfl ?_
 refine sL (Q8 rfl rfl ((hat _).sub (j := 0) rfl)) rfl rfl ?_
 (refine M0 rfl (B3L _ _ nc cc nm1 hx) rfl rfl (fun v G2 hle2 hh => ?_); obtain ⟨ts, tcs, xs, rfl, hrs, has, hss⟩ := hh; obtain ⟨ps, cs, ess, rfl, _⟩ := hrs.open; obtain ⟨b, o, nm1, t1, qq1, dd1, hpp, hat, hr1, ha1, hs1, hgb, hns1⟩ := (hx.mono hle2).get (i := j) (by omega); cases hpp; replace hx := hx.mono hle2; replace hb := hb.mono hle2; replace hrt := hrt.mono hle2;)
 refine M3 ?_
 refine sE (B0 rfl) rfl (fun b45 => ?_)
 refine C5 ?_
 (have hinloop := hrs; refine C6 rfl (Y6 _ br pb nb cb (p1) bs 3 hb hnb (by omega)) (Pk.perm (by repeat (first | exact Pk.here | apply Pk.there))) rfl rfl (fun v Gp outs hle53 hh => ?_); obtain ⟨rfl, rfl, j53, rfl, hj53, hk53⟩ := hh; have hinl := hj53)
 replace hrs := hrs.mono hle53
 replace hr1 := hr1.mono hle53
 replace hb := hb.mono hle53
 replace hrt := hrt.mono hle53
 replace hinloop := hinloop.mono hle53
 refine sB (qE rfl rfl) rfl rfl (fun h54 => ?_) (fun h54 => ?_)
 refine sQ (qM rfl) rfl (sL (A3 rfl rfl) rfl rfl ?_)
 refine H8 rfl ((A28 ts _ _ hrs)) rfl rfl (fun h57 => ?_) (fun h57 => ?_)
 refine K5 ?_
 refine H8 rfl ((A1U ts (.mk k ks) _ _ _ has har hrs hrt)) rfl rfl (fun h62 => ?_) (fun h62 => ?_)
 refine E1 ?_
 refine sP (B3 (j := j) rfl rfl rfl (by omega)) rfl rfl ?_
 refine sQ (qF rfl) rfl ?_
 refine sL (Q8 rfl rfl ((hat _).sub (j := 0) rfl)) rfl rfl ?_
 refine H9 ?_
 refine E3 (outs := [rd br pb nb cb (p1 + 1)]) (rC rfl (A3 rfl rfl)) (by repeat (first | exact A0.nil | refine A0.cons Pk.here ?_ | refine A0.cons (Pk.there Pk.here) ?_ | refine A0.cons (Pk.there (Pk.there Pk.here)) ?_ | apply A0.drop)) ?_
 (exact ⟨(p1 + 1), by omega, by omega, rfl, _, _, rfl, A2m _ _ _ ⟨by omega, by omega⟩ (by first | exact ⟨by omega, by omega⟩ | exact hkn), by first | exact O3 (by first | assumption | decide) | exact A0H (by decide) (by assumption) (by assumption) (by assumption) | exact T5 (by decide) (by assumption) (by assumption) | exact K2 (by decide) Q1 (by assumption) | exact K2 (by decide) har.small (by assumption) | exact K2 (by decide) Q1 (T5 (by decide) (by assumption) (O3 (by decide))) | exact K2 (by decide) A0I (O3 (by decide)) | assumption, by simp only [C9, D2]; omega⟩)
 refine E8 ?_
 refine sP (N1 rfl rfl (by omega) (by omega)) rfl rfl ?_
 refine sQ (qA rfl) rfl (sD ?_)
 (have hinloop := hrs; refine J4 (j, p1 + 1, Gp) ?_ ?_ ?_)
 (simp only [E7]; exact C2)
 (dsimp only; exact ⟨by omega, hleL.trans hle2, by omega, by omega⟩)
 (show _ < _ + 1; omega)
 refine M5 ?_
 refine sP (N1 rfl rfl (by omega) (by omega)) rfl rfl ?_
 refine sQ (qA rfl) rfl (sD ?_)
 (have hinloop := hrs; refine J4 (j, p1 + 1, Gp) ?_ ?_ ?_)
 (simp only [E7]; exact C2)
 (dsimp only; exact ⟨by omega, hleL.trans hle2, by omega, by omega⟩)
 (show _ < _ + 1; omega)
 refine U8 ?_
 refine sP (N1 rfl rfl (by omega) (by omega)) rfl rfl ?_
 refine sQ (qA rfl) rfl (sD ?_)
 (have hinloop := hrs; refine J4 (j, p1 + 1, Gp) ?_ ?_ ?_)
 (simp only [E7]; exact C2)
 (dsimp only; exact ⟨by omega, hleL.trans hle2, by omega, by omega⟩)
 (show _ < _ + 1; omega)
 refine H9 ?_
 (show H5 _ _ (.region 7 ..) _ _; refine A0n (fun (x : Bool) => ⟨(49, .bool x) :: [(0, .pointer (some ⟨br, 0, none⟩)), (1, .slice pc nc cc), (3, .int .i64 depth), (6, .pointer (some ⟨b3, 0, none⟩)), (8, .pointer (some ⟨b4, 0, none⟩))], [rd br pb nb cb p1, .blk b4 [.int .i64 0, .string ⟨⟨[]⟩⟩, .int .i64 0, .int .i64 0, .slice none 0 0, .int .i64 0, .slice none 0 0, .int .i64 0, .slice none 0 0], .blk b3 [.int .i64 k, .slice q ks.length c]], G1⟩) (fun x => x = true → 1 < depth) ?_ ?_)
 refine tR (sQ (qM rfl) rfl ?_)
 refine sB (A0v rfl rfl) rfl rfl (fun h160 => ?_) (fun h160 => ?_)
 refine sD ?_
 refine P6 true (M4 (by repeat (first | exact C8.nil | refine C8.cons rfl ?_)) (by repeat (first | exact A0.refl | exact A0.nil | refine A0.cons (by repeat (first | exact Pk.here | apply Pk.there)) ?_ | apply A0.drop))) (fun _ => by omega)
 refine sD ?_
 refine P6 false (M4 (by repeat (first | exact C8.nil | refine C8.cons rfl ?_)) (by repeat (first | exact A0.refl | exact A0.nil | refine A0.cons (by repeat (first | exact Pk.here | apply Pk.there)) ?_ | apply A0.drop))) (fun h => absurd h (by decide))
 (rintro (x49 : Bool) hx49)
 (show H5 _ _ (.cond (.tmp 49) _ _) _ _; refine B0l (fun (x : Nat × IM) => ⟨[(0, .pointer (some ⟨br, 0, none⟩)), (1, .slice pc nc cc), (3, .int .i64 depth), (6, .pointer (some ⟨b3, 0, none⟩)), (8, .pointer (some ⟨b4, 0, none⟩))], [rd br pb nb cb x.1, .blk b4 [.int .i64 0, .string ⟨⟨[]⟩⟩, .int .i64 0, .int .i64 0, .slice none 0 0, .int .i64 0, .slice none 0 0, .int .i64 0, .slice none 0 0], .blk b3 [.int .i64 k, .slice q ks.length c]], x.2⟩) (fun x => A7 G1 x.2 ∧ p1 ≤ x.1 ∧ x.1 ≤ p1 + 1) (A3w rfl (fun hxt => ?_) (fun hxf => ?_)) ?_)
 refine tS (tR (sQ (qM rfl) rfl ?_))
 (have hx49b := hx49 hxt; refine C6 rfl (Y6 _ br pb nb cb (p1) bs 9 hb hnb (by omega)) (Pk.perm (by repeat (first | exact Pk.here | apply Pk.there))) rfl rfl (fun v Gp outs hle170 hh => ?_); obtain ⟨rfl, rfl, j170, rfl, hj170, hk170⟩ := hh; have hpk9 := hj170)
 replace hb := hb.mono hle170
 replace hrt := hrt.mono hle170
 refine sD (nS ?_)
 refine B2 (tS (tR (sB (qE rfl rfl) rfl rfl (fun h176 => ?_) (fun h176 => ?_))))
 refine sQ (qA rfl) rfl (sD (nS (qT rfl (tS ?_))))
 (obtain ⟨m, rfl⟩ := hfu.pos (.inl (by omega)); have hmB : mB (m + 1) = 3 * mB m + 200 := rfl; have hgm := A1v m; refine D7 D8 rfl ?_)
 refine V5 (i := 0) (l' := [tt,ff,ff,ff,ff,ff,ff,ff,ff,ff,ff,ff,ff]) rfl D3 (A3 rfl rfl) rfl (by kernel_rfl) rfl rfl ?_
 refine aP 2 rfl (qM rfl) rfl ?_
 refine aP 3 rfl (qM rfl) rfl ?_
 refine aP 4 rfl (qM rfl) rfl ?_
 refine aL 5 rfl (A3 rfl rfl) rfl ?_
 refine aP 7 rfl (qM rfl) rfl ?_
 refine aP 8 rfl (N1 rfl rfl (by omega) (by omega)) rfl ?_
 refine A2 1 ?_
 (refine P2 rfl rfl (A0k _ _ _ har.small hrt) rfl rfl rfl (fun v G6 hle6 hh => ?_); obtain ⟨Y3, F1, rfl, hs1, hn1⟩ := hh; obtain ⟨pz, cz, rfl, _⟩ := hs1.open; have hrz := hs1.R.mono (B7.le G6 _); replace hx := hx.mono hle6; replace hb := hb.mono hle6; replace hrt := hrt.mono hle6;)
 refine A2 6 ?_
 (have hcall := A6K br pb nb cb bs hnb (.mk k ks) (p1 + 1) _ _ har hrt hb (by omega); refine A0a (l' := [tt,tt,tt,tt,tt,tt,tt,tt,tt,ff,ff,ff,ff]) rfl rfl hcall (Pk.perm (by repeat (first | exact Pk.here | apply Pk.there))) rfl rfl rfl (by repeat (first | exact A4.nil | apply A4.dep (by decide +kernel) | apply A4.im (by decide +kernel) hg0 (by repeat first | exact mH | apply mT) | apply A4.im (by decide +kernel) hg1 (by repeat first | exact mH | apply mT) | apply A4.blk (by decide +kernel) (by repeat (first | exact Pk.here | apply Pk.there)) (by repeat first | exact mH | apply mT))) (fun v Gn outs hleA hh => ?_); obtain ⟨pA, hpA1, hpA2, rfl, uA, cuA, rfl, hruA, huaA, husA, huhA⟩ := hh; obtain ⟨quA, duA, euA, rfl, _⟩ := hruA.open; replace hrz := hrz.mono hleA; replace hx := hx.mono hleA; replace hb := hb.mono hleA; replace hrt := hrt.mono hleA;)
 refine A2 9 ?_
 (have hcall := ih m (by omega) (depth - 1) uA pA _ pc nc cc _ (hfu.sub (by omega) (huhA 4 hfu.1)) (by omega) (by omega) (by omega) hx hruA hb (by omega); refine A0a (l' := [tt,tt,tt,tt,tt,tt,tt,tt,tt,tt,ff,ff,ff]) rfl rfl hcall (Pk.perm (by repeat (first | exact Pk.here | apply Pk.there))) rfl rfl rfl (by repeat (first | exact A4.nil | apply A4.dep (by decide +kernel) | apply A4.im (by decide +kernel) hg0 (by repeat first | exact mH | apply mT) | apply A4.im (by decide +kernel) hg1 (by repeat first | exact mH | apply mT) | apply A4.blk (by decide +kernel) (by repeat (first | exact Pk.here | apply Pk.there)) (by repeat first | exact mH | apply mT))) (fun v Gn outs hlea hh => ?_); obtain ⟨pa, hpa1, hpa2, rfl, ea, ca, rfl, hra, hsma, hca⟩ := hh; obtain ⟨a1, a2, a3, a4, a5, a6, a7, a8, a9, rfl⟩ := hra.nine; replace hrz := hrz.mono hlea; replace hx := hx.mono hlea; replace hb := hb.mono hlea; replace hrt := hrt.mono hlea;)
 refine A2 10 ?_
 (refine D6 rfl (B4 rfl rfl rfl (by omega) (by unfold maxLen; omega) rfl) rfl rfl ?_; rintro _ ⟨b197, rfl⟩)
 refine aP 11 rfl (R6 rfl rfl) rfl ?_
 refine A2 12 ?_
 refine R2 rfl rfl rfl rfl rfl rfl rfl rfl (by decide +kernel) (by repeat first | exact Sw.here | apply Sw.there) (by rfl) ?_
 refine B9 (nS ?_)
 (refine I5 (cs := [a1, a2, a3, a4, a5, a6, a7, a8, a9]) (by repeat (first | exact Pk.here | apply Pk.there)) (fun G9 hle9 hsl9 hno9 => ?_); have hN := A4k (k := 13) (nm := ⟨⟨[]⟩⟩) ⟨by omega, by omega⟩ (hrz.mono hle9) (hra.mono hle9) hsl9)
 refine tT (rB ?_)
 refine A01 ?_
 refine E3 (outs := [rd br pb nb cb pa]) (rC rfl (A3 rfl rfl)) (by repeat (first | exact A0.nil | refine A0.cons Pk.here ?_ | refine A0.cons (Pk.there Pk.here) ?_ | refine A0.cons (Pk.there (Pk.there Pk.here)) ?_ | apply A0.drop)) ?_
 (exact ⟨pa, by omega, by omega, rfl, _, _, rfl, hN, by first | exact O3 (by first | assumption | decide) | exact A0H (by decide) (by assumption) (by assumption) (by assumption) | exact T5 (by decide) (by assumption) (by assumption) | exact K2 (by decide) Q1 (by assumption) | exact K2 (by decide) har.small (by assumption) | exact K2 (by decide) Q1 (T5 (by decide) (by assumption) (O3 (by decide))) | exact K2 (by decide) A0I (O3 (by decide)) | assumption, by simp only [C9, D2]; omega⟩)
 refine sQ (qA rfl) rfl (sD (nS (cF rfl (tS (tR ?_)))))
 refine sB (qE rfl rfl) rfl rfl (fun h215 => ?_) (fun h215 => ?_)
 refine sQ (qA rfl) rfl (sD (nS (qT rfl (tS ?_))))
 (obtain ⟨m, rfl⟩ := hfu.pos (.inl (by omega)); have hmB : mB (m + 1) = 3 * mB m + 200 := rfl; have hgm := A1v m; refine D7 D8 rfl ?_)
 refine H4 (i := 0) (l' := [tt,ff,ff,ff,ff,ff,ff,ff,ff,ff,ff,ff,ff,ff,ff,ff,ff,ff,ff,ff,ff]) rfl D3 (qM rfl) rfl (by kernel_rfl) rfl rfl ?_
 refine aP 1 rfl (qM rfl) rfl ?_
 refine aP 3 rfl (qM rfl) rfl ?_
 refine aP 4 rfl (N1 rfl rfl (by omega) (by omega)) rfl ?_
 refine aP 6 rfl (qM rfl) rfl ?_
 refine aP 7 rfl (qM rfl) rfl ?_
 refine aL 8 rfl (A3 rfl rfl) rfl ?_
 refine aP 9 rfl (qM rfl) rfl ?_
 refine aP 10 rfl (N1 rfl rfl (by omega) (by omega)) rfl ?_
 refine aP 12 rfl (qM rfl) rfl ?_
 refine aP 13 rfl (qM rfl) rfl ?_
 refine aL 14 rfl (A3 rfl rfl) rfl ?_
 refine aP 15 rfl (qM rfl) rfl ?_
 refine aP 16 rfl (N1 rfl rfl (by omega) (by omega)) rfl ?_
 refine A2 2 ?_
 refine S4 rfl rfl ((A34 _)) rfl rfl rfl ?_
 refine A2 5 ?_
 (have hcall := ih m (by omega) (depth - 1) (.mk 3 []) (p1 + 1) _ pc nc cc _ (hfu.sub (by omega) (A3b 4 (by decide) (by decide))) (by omega) (by omega) (by omega) hx (N8 _ ⟨by omega, by omega⟩) hb (by omega); refine A0a (l' := [tt,tt,tt,tt,tt,tt,tt,tt,tt,tt,tt,ff,tt,tt,tt,tt,tt,ff,ff,ff,ff]) rfl rfl hcall (Pk.perm (by repeat (first | exact Pk.here | apply Pk.there))) rfl rfl rfl (by repeat (first | exact A4.nil | apply A4.dep (by decide +kernel) | apply A4.im (by decide +kernel) hg0 (by repeat first | exact mH | apply mT) | apply A4.im (by decide +kernel) hg1 (by repeat first | exact mH | apply mT) | apply A4.blk (by decide +kernel) (by repeat (first | exact Pk.here | apply Pk.there)) (by repeat first | exact mH | apply mT))) (fun v Gn outs hlef hh => ?_); obtain ⟨pf, hpf1, hpf2, rfl, ef, cf, rfl, hrf, hsmf, hcf⟩ := hh; obtain ⟨f1, f2, f3, f4, f5, f6, f7, f8, f9, rfl⟩ := hrf.nine; replace hx := hx.mono hlef; replace hb := hb.mono hlef; replace hrt := hrt.mono hlef;)
 refine A2 11 ?_
 (have hcall := ih m (by omega) (depth - 1) (.mk k ks) pf _ pc nc cc _ (hfu.sub (by omega) hfu.1) (by omega) (by omega) (by omega) hx hrt hb (by omega); refine A0a (l' := [tt,tt,tt,tt,tt,tt,tt,tt,tt,tt,tt,tt,tt,tt,tt,tt,tt,ff,ff,ff,ff]) rfl rfl hcall (Pk.perm (by repeat (first | exact Pk.here | apply Pk.there))) rfl rfl rfl (by repeat (first | exact A4.nil | apply A4.dep (by decide +kernel) | apply A4.im (by decide +kernel) hg0 (by repeat first | exact mH | apply mT) | apply A4.im (by decide +kernel) hg1 (by repeat first | exact mH | apply mT) | apply A4.blk (by decide +kernel) (by repeat (first | exact Pk.here | apply Pk.there)) (by repeat first | exact mH | apply mT))) (fun v Gn outs hleg hh => ?_); obtain ⟨pg, hpg1, hpg2, rfl, eg, cg, rfl, hrg, hsmg, hcg⟩ := hh; obtain ⟨g1, g2, g3, g4, g5, g6, g7, g8, g9, rfl⟩ := hrg.nine; replace hrf := hrf.mono hleg; replace hx := hx.mono hleg; replace hb := hb.mono hleg; replace hrt := hrt.mono hleg;)
 refine A2 17 ?_
 (have hcall := ih m (by omega) (depth - 1) (.mk k ks) pg _ pc nc cc _ (hfu.sub (by omega) hfu.1) (by omega) (by omega) (by omega) hx hrt hb (by omega); refine A0a (l' := [tt,tt,tt,tt,tt,tt,tt,tt,tt,tt,tt,tt,tt,tt,tt,tt,tt,tt,ff,ff,ff]) rfl rfl hcall (Pk.perm (by repeat (first | exact Pk.here | apply Pk.there))) rfl rfl rfl (by repeat (first | exact A4.nil | apply A4.dep (by decide +kernel) | apply A4.im (by decide +kernel) hg0 (by repeat first | exact mH | apply mT) | apply A4.im (by decide +kernel) hg1 (by repeat first | exact mH | apply mT) | apply A4.blk (by decide +kernel) (by repeat (first | exact Pk.here | apply Pk.there)) (by repeat first | exact mH | apply mT))) (fun v Gn outs hlei hh => ?_); obtain ⟨pi, hpi1, hpi2, rfl, ei, ci, rfl, hri, hsmi, hci⟩ := hh; obtain ⟨i1, i2, i3, i4, i5, i6, i7, i8, i9, rfl⟩ := hri.nine; replace hrf := hrf.mono hlei; replace hrg := hrg.mono hlei; replace hx := hx.mono hlei; replace hb := hb.mono hlei; replace hrt := hrt.mono hlei;)
 refine A2 18 ?_
 (refine D6 rfl (B4 rfl rfl rfl (by omega) (by unfold maxLen; omega) rfl) rfl rfl ?_; rintro _ ⟨b245, rfl⟩)
 refine A2 19 ?_
 refine S4 rfl rfl ((A2G _ _ _ _ _)) rfl rfl rfl ?_
 refine A2 20 ?_
 refine R2 rfl rfl rfl rfl rfl rfl rfl rfl (by decide +kernel) (by repeat first | exact Sw.here | apply Sw.there) (by rfl) ?_
 refine B9 (nS ?_)
 (refine I5 (cs := [f1, f2, f3, f4, f5, f6, f7, f8, f9] ++ ([g1, g2, g3, g4, g5, g6, g7, g8, g9] ++ [i1, i2, i3, i4, i5, i6, i7, i8, i9])) (by repeat (first | exact Pk.here | apply Pk.there)) (fun G9 hle9 hsl9 hno9 => ?_); have hN := B5x (k := 9) (nm := ⟨⟨[]⟩⟩) ⟨by omega, by omega⟩ (hrf.mono hle9) (hrg.mono hle9) (hri.mono hle9) hsl9)
 refine tT (rB ?_)
 refine A01 ?_
 refine E3 (outs := [rd br pb nb cb pi]) (rC rfl (A3 rfl rfl)) (by repeat (first | exact A0.nil | refine A0.cons Pk.here ?_ | refine A0.cons (Pk.there Pk.here) ?_ | refine A0.cons (Pk.there (Pk.there Pk.here)) ?_ | apply A0.drop)) ?_
 (exact ⟨pi, by omega, by omega, rfl, _, _, rfl, hN, by first | exact O3 (by first | assumption | decide) | exact A0H (by decide) (by assumption) (by assumption) (by assumption) | exact T5 (by decide) (by assumption) (by assumption) | exact K2 (by decide) Q1 (by assumption) | exact K2 (by decide) har.small (by assumption) | exact K2 (by decide) Q1 (T5 (by decide) (by assumption) (O3 (by decide))) | exact K2 (by decide) A0I (O3 (by decide)) | assumption, by simp only [C9, D2]; omega⟩)
 refine sQ (qA rfl) rfl (sD (nS (cF rfl (tS (tR ?_)))))
 refine sB (qE rfl rfl) rfl rfl (fun h264 => ?_) (fun h264 => ?_)
 refine C5 ?_
 (have hcall := A3X br pb nb cb bs hnb 0 (p1 + 1) _ (by omega) hb (by have : dB (0 + 1) ≤ 6 := (by decide); omega); refine C6 rfl hcall (Pk.perm (by repeat (first | exact Pk.here | apply Pk.there))) rfl rfl (fun v Gn outs hleD hh => ?_); obtain ⟨pD, hpD1, hpD2, rfl, uD, cuD, rfl, hruD, husD, huhD⟩ := hh; have huaD := huhD.ar; obtain ⟨quD, duD, euD, rfl, _⟩ := hruD.open; have hdBD : dB (0 + 1) ≤ 6 := (by decide); replace hx := hx.mono hleD; replace hb := hb.mono hleD; replace hrt := hrt.mono hleD;)
 refine sE (B0 rfl) rfl (fun b273 => ?_)
 refine I1 ?_
 refine sD (nS (tS ?_))
 (obtain ⟨m, rfl⟩ := hfu.pos (.inl (by omega)); have hmB : mB (m + 1) = 3 * mB m + 200 := rfl; have hgm := A1v m; refine D7 D8 rfl ?_)
 refine H4 (i := 0) (l' := [tt,ff,ff,ff,ff,ff,ff,ff,ff,ff,ff,ff,ff,ff,ff,ff,ff,ff]) rfl D3 (qM rfl) rfl (by kernel_rfl) rfl rfl ?_
 refine aP 1 rfl (qM rfl) rfl ?_
 refine aL 2 rfl (A3 rfl rfl) rfl ?_
 refine aL 3 rfl (A3 rfl rfl) rfl ?_
 refine aP 4 rfl (qM rfl) rfl ?_
 refine aP 5 rfl (N1 rfl rfl (by omega) (by omega)) rfl ?_
 refine aP 7 rfl (qM rfl) rfl ?_
 refine aP 8 rfl (qM rfl) rfl ?_
 refine aP 9 rfl (qM rfl) rfl ?_
 refine aL 10 rfl (A3 rfl rfl) rfl ?_
 refine aP 12 rfl (qM rfl) rfl ?_
 refine aP 13 rfl (N1 rfl rfl (by omega) (by omega)) rfl ?_
 refine A2 6 ?_
 (have hcall := B0k br pb nb cb bs hnb m (ih m (by omega)) (depth - 1) uD (.mk k ks) (pD) _ pc nc cc _ _ (hfu.sub (by omega) hfu.1) (by omega) (by omega) (by omega) hx hruD ⟨huaD, by omega⟩ hrt hb (by omega); refine A0a (l' := [tt,tt,tt,tt,tt,tt,tt,tt,tt,tt,tt,ff,tt,tt,ff,ff,ff,ff]) rfl rfl hcall (Pk.perm (by repeat (first | exact Pk.here | apply Pk.there))) rfl rfl rfl (by repeat (first | exact A4.nil | apply A4.dep (by decide +kernel) | apply A4.im (by decide +kernel) hg0 (by repeat first | exact mH | apply mT) | apply A4.im (by decide +kernel) hg1 (by repeat first | exact mH | apply mT) | apply A4.blk (by decide +kernel) (by repeat (first | exact Pk.here | apply Pk.there)) (by repeat first | exact mH | apply mT))) (fun v Gn outs hlel hh => ?_); obtain ⟨pl, hpl1, hpl2, rfl, el, cl, rfl, hrl, hsml, hcl⟩ := hh; obtain ⟨l1, l2, l3, l4, l5, l6, l7, l8, l9, rfl⟩ := hrl.nine; replace hruD := hruD.mono hlel; replace hx := hx.mono hlel; replace hb := hb.mono hlel; replace hrt := hrt.mono hlel;)
 refine A2 11 ?_
 (have hcall := A6K br pb nb cb bs hnb uD (pl) _ _ huaD hruD hb (by omega); refine A0a (l' := [tt,tt,tt,tt,tt,tt,tt,tt,tt,tt,tt,tt,tt,tt,ff,ff,ff,ff]) rfl rfl hcall (Pk.perm (by repeat (first | exact Pk.here | apply Pk.there))) rfl rfl rfl (by repeat (first | exact A4.nil | apply A4.dep (by decide +kernel) | apply A4.im (by decide +kernel) hg0 (by repeat first | exact mH | apply mT) | apply A4.im (by decide +kernel) hg1 (by repeat first | exact mH | apply mT) | apply A4.blk (by decide +kernel) (by repeat (first | exact Pk.here | apply Pk.there)) (by repeat first | exact mH | apply mT))) (fun v Gn outs hleE hh => ?_); obtain ⟨pE, hpE1, hpE2, rfl, uE, cuE, rfl, hruE, huaE, husE, huhE⟩ := hh; obtain ⟨quE, duE, euE, rfl, _⟩ := hruE.open; replace hrl := hrl.mono hleE; replace hx := hx.mono hleE; replace hb := hb.mono hleE; replace hrt := hrt.mono hleE;)
 refine A2 14 ?_
 (have hcall := ih m (by omega) (depth - 1) uE pE _ pc nc cc _ (hfu.sub (by omega) (huhE 4 (huhD.le (by omega)))) (by omega) (by omega) (by omega) hx hruE hb (by omega); refine A0a (l' := [tt,tt,tt,tt,tt,tt,tt,tt,tt,tt,tt,tt,tt,tt,tt,ff,ff,ff]) rfl rfl hcall (Pk.perm (by repeat (first | exact Pk.here | apply Pk.there))) rfl rfl rfl (by repeat (first | exact A4.nil | apply A4.dep (by decide +kernel) | apply A4.im (by decide +kernel) hg0 (by repeat first | exact mH | apply mT) | apply A4.im (by decide +kernel) hg1 (by repeat first | exact mH | apply mT) | apply A4.blk (by decide +kernel) (by repeat (first | exact Pk.here | apply Pk.there)) (by repeat first | exact mH | apply mT))) (fun v Gn outs hled hh => ?_); obtain ⟨pd, hpd1, hpd2, rfl, ed, cd, rfl, hrd, hsmd, hcd⟩ := hh; obtain ⟨d1, d2, d3, d4, d5, d6, d7, d8, d9, rfl⟩ := hrd.nine; replace hrl := hrl.mono hled; replace hx := hx.mono hled; replace hb := hb.mono hled; replace hrt := hrt.mono hled;)
 refine A2 15 ?_
 (refine D6 rfl (B4 rfl rfl rfl (by omega) (by unfold maxLen; omega) rfl) rfl rfl ?_; rintro _ ⟨b298, rfl⟩)
 refine A2 16 ?_
 refine S4 rfl rfl ((A2G _ _ _ _ _)) rfl rfl rfl ?_
 refine A2 17 ?_
 refine R2 rfl rfl rfl rfl rfl rfl rfl rfl (by decide +kernel) (by repeat first | exact Sw.here | apply Sw.there) (by rfl) ?_
 refine B9 (nS ?_)
 (refine I5 (cs := [l1, l2, l3, l4, l5, l6, l7, l8, l9] ++ [d1, d2, d3, d4, d5, d6, d7, d8, d9]) (by repeat (first | exact Pk.here | apply Pk.there)) (fun G9 hle9 hsl9 hno9 => ?_); have hN := A4l (k := 6) (nm := ⟨⟨[]⟩⟩) ⟨by omega, by omega⟩ (hrl.mono hle9) (hrd.mono hle9) hsl9)
 refine tT (rB ?_)
 refine A01 ?_
 refine E3 (outs := [rd br pb nb cb pd]) (rC rfl (A3 rfl rfl)) (by repeat (first | exact A0.nil | refine A0.cons Pk.here ?_ | refine A0.cons (Pk.there Pk.here) ?_ | refine A0.cons (Pk.there (Pk.there Pk.here)) ?_ | apply A0.drop)) ?_
 (exact ⟨pd, by omega, by omega, rfl, _, _, rfl, hN, by first | exact O3 (by first | assumption | decide) | exact A0H (by decide) (by assumption) (by assumption) (by assumption) | exact T5 (by decide) (by assumption) (by assumption) | exact K2 (by decide) Q1 (by assumption) | exact K2 (by decide) har.small (by assumption) | exact K2 (by decide) Q1 (T5 (by decide) (by assumption) (O3 (by decide))) | exact K2 (by decide) A0I (O3 (by decide)) | assumption, by simp only [C9, D2]; omega⟩)
 refine sQ (qA rfl) rfl (sD (nS (cF rfl (tS (tR ?_)))))
 refine sB (qE rfl rfl) rfl rfl (fun h317 => ?_) (fun h317 => ?_)
 refine H9 ?_
 refine sP (N1 rfl rfl (by omega) (by omega)) rfl rfl ?_
 (have hpkq := hpk9; obtain ⟨m, rfl⟩ := hfu.pos (.inl (by omega)); have hmB : mB (m + 1) = 3 * mB m + 200 := rfl; have hgm := A1v m; have hcall := ih m (by omega) (depth - 1) (.mk k ks) (p1 + 1) _ pc nc cc _ (hfu.sub (by omega) hfu.1) (by omega) (by omega) (by omega) hx hrt hb (by omega); refine C6 rfl hcall (Pk.perm (by repeat (first | exact Pk.here | apply Pk.there))) rfl rfl (fun v Gn outs hleh hh => ?_); obtain ⟨ph, hph1, hph2, rfl, eh, ch, rfl, hrh, hsmh, hch⟩ := hh; obtain ⟨h1, h2, h3, h4, h5, h6, h7, h8, h9, rfl⟩ := hrh.nine; replace hx := hx.mono hleh; replace hb := hb.mono hleh; replace hrt := hrt.mono hleh;)
 refine H6 rfl ((A2F _ _)) rfl rfl ?_
 (refine E9 (B4 rfl rfl rfl (by omega) (by unfold maxLen; omega) rfl) rfl ?_; rintro _ ⟨b331, rfl⟩)
 refine H6 rfl ((A2G _ _ _ _ _)) rfl rfl ?_
 (refine E9 (B4 rfl rfl rfl (by omega) (by unfold maxLen; omega) rfl) rfl ?_; rintro _ ⟨b333, rfl⟩)
 refine H6 rfl ((A2G _ _ _ _ _)) rfl rfl ?_
 refine I1 ?_
 refine sD (nS ?_)
 (refine I5 (cs := [h1, h2, h3, h4, h5, h6, h7, h8, h9] ++ [.int .i64 2, .string ⟨⟨[]⟩⟩, .int .i64 1, .int .i64 0, .slice none 0 0, .int .i64 0, .slice none 0 0, .int .i64 0, .slice none 0 0]) (by repeat (first | exact Pk.here | apply Pk.there)) (fun G8 hle8 hsl8 hno8 => ?_); have hNi := A4l (k := 10) (nm := ⟨⟨[]⟩⟩) ⟨by omega, by omega⟩ (hrh.mono hle8) (A2m G8 ⟨⟨[]⟩⟩ 1 (k := 2) ⟨by omega, by omega⟩ ⟨by omega, by omega⟩) hsl8; refine I5 (by repeat (first | exact Pk.here | apply Pk.there)) (fun G9 hle9 hsl9 hno9 => ?_); have hN := A4k (k := 11) (nm := ⟨⟨[]⟩⟩) ⟨by omega, by omega⟩ (N8 G9 (k := 0) ⟨by omega, by omega⟩) (hNi.mono hle9) hsl9)
 refine tT (rB ?_)
 refine A01 ?_
 refine E3 (outs := [rd br pb nb cb ph]) (rC rfl (A3 rfl rfl)) (by repeat (first | exact A0.nil | refine A0.cons Pk.here ?_ | refine A0.cons (Pk.there Pk.here) ?_ | refine A0.cons (Pk.there (Pk.there Pk.here)) ?_ | apply A0.drop)) ?_
 (exact ⟨ph, by omega, by omega, rfl, _, _, rfl, hN, by first | exact O3 (by first | assumption | decide) | exact A0H (by decide) (by assumption) (by assumption) (by assumption) | exact T5 (by decide) (by assumption) (by assumption) | exact K2 (by decide) Q1 (by assumption) | exact K2 (by decide) har.small (by assumption) | exact K2 (by decide) Q1 (T5 (by decide) (by assumption) (O3 (by decide))) | exact K2 (by decide) A0I (O3 (by decide)) | assumption, by simp only [C9, D2]; omega⟩)
 refine sQ (qA rfl) rfl (sD (nS (cF rfl (tK (M2 ?_)))))
 refine A4n (p1 + 1, Gp) (M4 (by repeat (first | exact C8.nil | refine C8.cons rfl ?_)) (by repeat (first | exact A0.refl | exact A0.nil | refine A0.cons (by repeat (first | exact Pk.here | apply Pk.there)) ?_ | apply A0.drop))) ⟨A7.refl _, by dsimp only; omega, by dsimp only; omega⟩
 refine tK ?_
 refine A4n (p1, G1) (M4 (by repeat (first | exact C8.nil | refine C8.cons rfl ?_)) (by repeat (first | exact A0.refl | exact A0.nil | refine A0.cons (by repeat (first | exact Pk.here | apply Pk.there)) ?_ | apply A0.drop))) ⟨A7.refl _, by dsimp only; omega, by dsimp only; omega⟩
 (rintro ⟨(p2 : Nat), G2⟩ ⟨hle2c, hp2a, hp2b⟩; simp only [] at hle2c hp2a hp2b ⊢; have hcut1 := hp2a; replace hx := hx.mono hle2c; replace hb := hb.mono hle2c; replace hrt := hrt.mono hle2c;)
 refine C5 ?_
 (show H5 _ _ (.block 3 ..) _ _; refine B0l (fun (x : Nat × IM) => ⟨[(0, .pointer (some ⟨br, 0, none⟩)), (1, .slice pc nc cc), (3, .int .i64 depth), (6, .pointer (some ⟨b3, 0, none⟩)), (8, .pointer (some ⟨b4, 0, none⟩))], [rd br pb nb cb x.1, .blk b4 [.int .i64 0, .string ⟨⟨[]⟩⟩, .int .i64 0, .int .i64 0, .slice none 0 0, .int .i64 0, .slice none 0 0, .int .i64 0, .slice none 0 0], .blk b3 [.int .i64 k, .slice q ks.length c]], x.2⟩) (fun x => A7 G2 x.2 ∧ p2 ≤ x.1 ∧ x.1 ≤ p2 + 2) ?_ ?_)
 refine B2 (tS (tR (sB (qE rfl rfl) rfl rfl (fun h365 => ?_) (fun h365 => ?_))))
 refine E1 ?_
 refine sB (A0v rfl rfl) rfl rfl (fun h374 => ?_) (fun h374 => ?_)
 refine sQ (qM rfl) rfl (sQ (qM rfl) rfl ?_)
 (have hkk3 : k = 3 := (by omega); refine C6 rfl (Y6 _ br pb nb cb (p2) bs 2 hb hnb (by omega)) (Pk.perm (by repeat (first | exact Pk.here | apply Pk.there))) rfl rfl (fun v Gp outs hle377 hh => ?_); obtain ⟨rfl, rfl, j377, rfl, hj377, hk377⟩ := hh; have hpk22 := hj377)
 replace hb := hb.mono hle377
 replace hrt := hrt.mono hle377
 refine sB (qE rfl rfl) rfl rfl (fun h378 => ?_) (fun h378 => ?_)
 refine E1 ?_
 refine H6 rfl ((A1q _)) rfl rfl ?_
 refine sQ (qM rfl) rfl ?_
 refine sP (N1 rfl rfl (by omega) (by omega)) rfl rfl ?_
 (have hkk3q := hkk3; obtain ⟨m, rfl⟩ := hfu.pos (.inl (by omega)); have hmB : mB (m + 1) = 3 * mB m + 200 := rfl; have hgm := A1v m; have hcall := ih m (by omega) (depth - 1) (.mk 2 []) (p2 + 1) _ pc nc cc _ (hfu.sub (by omega) (A3b 4 (by decide) (by decide))) (by omega) (by omega) (by omega) hx (N8 _ ⟨by omega, by omega⟩) hb (by omega); refine C6 rfl hcall (Pk.perm (by repeat (first | exact Pk.here | apply Pk.there))) rfl rfl (fun v Gn outs hlen hh => ?_); obtain ⟨pn, hpn1, hpn2, rfl, en, cn, rfl, hrn, hsmn, hcn⟩ := hh; obtain ⟨n1, n2, n3, n4, n5, n6, n7, n8, n9, rfl⟩ := hrn.nine; replace hx := hx.mono hlen; replace hb := hb.mono hlen; replace hrt := hrt.mono hlen;)
 refine sQ (qM rfl) rfl (sQ (qM rfl) rfl ?_)
 refine H6 rfl ((A1q _)) rfl rfl ?_
 refine sQ (qM rfl) rfl ?_
 refine sP (N1 rfl rfl (by omega) (by omega)) rfl rfl ?_
 (have hcall := ih m (by omega) (depth - 1) (.mk 2 []) pn _ pc nc cc _ (hfu.sub (by omega) (A3b 4 (by decide) (by decide))) (by omega) (by omega) (by omega) hx (N8 _ ⟨by omega, by omega⟩) hb (by omega); refine C6 rfl hcall (Pk.perm (by repeat (first | exact Pk.here | apply Pk.there))) rfl rfl (fun v Gn outs hleo hh => ?_); obtain ⟨po, hpo1, hpo2, rfl, eo, co, rfl, hro, hsmo, hco⟩ := hh; obtain ⟨o1, o2, o3, o4, o5, o6, o7, o8, o9, rfl⟩ := hro.nine; replace hrn := hrn.mono hleo; replace hx := hx.mono hleo; replace hb := hb.mono hleo; replace hrt := hrt.mono hleo;)
 (refine E9 (B4 rfl rfl rfl (by omega) (by unfold maxLen; omega) rfl) rfl ?_; rintro _ ⟨b397, rfl⟩)
 refine H6 rfl ((A2G _ _ _ _ _)) rfl rfl ?_
 refine I1 ?_
 refine sD (nS ?_)
 (refine I5 (cs := [n1, n2, n3, n4, n5, n6, n7, n8, n9] ++ [o1, o2, o3, o4, o5, o6, o7, o8, o9]) (by repeat (first | exact Pk.here | apply Pk.there)) (fun G9 hle9 hsl9 hno9 => ?_); have hN := A4l (k := 8) (nm := ⟨⟨[]⟩⟩) ⟨by omega, by omega⟩ (hrn.mono hle9) (hro.mono hle9) hsl9)
 refine tT (rS (rB ?_))
 refine A01 ?_
 refine E3 (outs := [rd br pb nb cb po]) (rC rfl (A3 rfl rfl)) (by repeat (first | exact A0.nil | refine A0.cons Pk.here ?_ | refine A0.cons (Pk.there Pk.here) ?_ | refine A0.cons (Pk.there (Pk.there Pk.here)) ?_ | apply A0.drop)) ?_
 (exact ⟨po, by omega, by omega, rfl, _, _, rfl, hN, by first | exact O3 (by first | assumption | decide) | exact A0H (by decide) (by assumption) (by assumption) (by assumption) | exact T5 (by decide) (by assumption) (by assumption) | exact K2 (by decide) Q1 (by assumption) | exact K2 (by decide) har.small (by assumption) | exact K2 (by decide) Q1 (T5 (by decide) (by assumption) (O3 (by decide))) | exact K2 (by decide) A0I (O3 (by decide)) | assumption, by simp only [C9, D2]; omega⟩)
 refine M5 ?_
 refine A01 ?_
 refine E3 (outs := [rd br pb nb cb (p2 + 1)]) (rC rfl (A3 rfl rfl)) (by repeat (first | exact A0.nil | refine A0.cons Pk.here ?_ | refine A0.cons (Pk.there Pk.here) ?_ | refine A0.cons (Pk.there (Pk.there Pk.here)) ?_ | apply A0.drop)) ?_
 (exact ⟨(p2 + 1), by omega, by omega, rfl, _, _, rfl, A2m _ _ _ ⟨by omega, by omega⟩ (by first | exact ⟨by omega, by omega⟩ | exact hkn), by first | exact O3 (by first | assumption | decide) | exact A0H (by decide) (by assumption) (by assumption) (by assumption) | exact T5 (by decide) (by assumption) (by assumption) | exact K2 (by decide) Q1 (by assumption) | exact K2 (by decide) har.small (by assumption) | exact K2 (by decide) Q1 (T5 (by decide) (by assumption) (O3 (by decide))) | exact K2 (by decide) A0I (O3 (by decide)) | assumption, by simp only [C9, D2]; omega⟩)
 refine A0g ?_
 refine A01 ?_
 refine E3 (outs := [rd br pb nb cb p2]) (rC rfl (A3 rfl rfl)) (by repeat (first | exact A0.nil | refine A0.cons Pk.here ?_ | refine A0.cons (Pk.there Pk.here) ?_ | refine A0.cons (Pk.there (Pk.there Pk.here)) ?_ | apply A0.drop)) ?_
 (exact ⟨p2, by omega, by omega, rfl, _, _, rfl, A2m _ _ _ ⟨by omega, by omega⟩ (by first | exact ⟨by omega, by omega⟩ | exact hkn), by first | exact O3 (by first | assumption | decide) | exact A0H (by decide) (by assumption) (by assumption) (by assumption) | exact T5 (by decide) (by assumption) (by assumption) | exact K2 (by decide) Q1 (by assumption) | exact K2 (by decide) har.small (by assumption) | exact K2 (by decide) Q1 (T5 (by decide) (by assumption) (O3 (by decide))) | exact K2 (by decide) A0I (O3 (by decide)) | assumption, by simp only [C9, D2]; omega⟩)
 refine sQ (qA rfl) rfl (sD (nS (cF rfl (tS (tR ?_)))))
 refine sB (qE rfl rfl) rfl rfl (fun h453 => ?_) (fun h453 => ?_)
 refine sQ (qA rfl) rfl (sD (nS (qT rfl (tS ?_))))
 (have hk45 : k = 4 ∨ k = 5 := (by omega); have hl2 := hops hk45; obtain ⟨m, rfl⟩ := hfu.pos (.inr hk45); have hmB : mB (m + 1) = 3 * mB m + 200 := rfl; have hgm := A1v m; obtain ⟨es9, hsl, hkl⟩ := hrt.kidsM; obtain ⟨b0, o0, q0, d0, hp0, hat0, hre0, hg0⟩ := hsl.kidTy hkl (i := 0) (by omega) (by omega); obtain ⟨b1, o1, q1, d1, hp1, hat1, hre1, hg1⟩ := hsl.kidTy hkl (i := 1) (by omega) (by omega); cases hp0; cases hp1; have hmem0 := List.getElem_mem (l := ks) (n := 0) (by omega); have hmem1 := List.getElem_mem (l := ks) (n := 1) (by omega); refine D7 D8 rfl ?_)
 refine H4 (i := 0) (l' := [tt,ff,ff,ff,ff,ff,ff,ff,ff,ff,ff,ff,ff,ff]) rfl D3 (qM rfl) rfl (by kernel_rfl) rfl rfl ?_
 refine aP 1 rfl (qM rfl) rfl ?_
 refine aP 2 rfl (B1 rfl) rfl ?_
 refine aL 3 rfl (D4 rfl rfl) rfl ?_
 refine aP 4 rfl (B3 (j := 0) rfl rfl rfl (by omega)) rfl ?_
 refine aL 5 rfl (A6 rfl rfl (hat0 _) rfl) rfl ?_
 refine aP 6 rfl (B1 rfl) rfl ?_
 refine aL 7 rfl (D4 rfl rfl) rfl ?_
 refine aP 8 rfl (B3 (j := 1) rfl rfl rfl (by omega)) rfl ?_
 refine aL 9 rfl (A6 rfl rfl (hat1 _) rfl) rfl ?_
 refine aP 10 rfl (qM rfl) rfl ?_
 refine aP 11 rfl (N1 rfl rfl (by omega) (by omega)) rfl ?_
 refine A2 12 ?_
 (have hcall := B0k br pb nb cb bs hnb m (ih m (by omega)) (depth - 1) ks[0] ks[1] (p2) _ pc nc cc _ _ (hfu.kid hmem1) (by omega) (by omega) (by omega) hx hre0 ⟨har.kid _ hmem0, by have := B3J (k := k) hmem0; omega⟩ hre1 hb (by omega); refine A0a (l' := [tt,tt,tt,tt,tt,tt,tt,tt,tt,tt,tt,tt,tt,ff]) rfl rfl hcall (Pk.perm (by repeat (first | exact Pk.here | apply Pk.there))) rfl rfl rfl (by repeat (first | exact A4.nil | apply A4.dep (by decide +kernel) | apply A4.im (by decide +kernel) hg0 (by repeat first | exact mH | apply mT) | apply A4.im (by decide +kernel) hg1 (by repeat first | exact mH | apply mT) | apply A4.blk (by decide +kernel) (by repeat (first | exact Pk.here | apply Pk.there)) (by repeat first | exact mH | apply mT))) (fun v Gn outs hlek hh => ?_); obtain ⟨pk, hpk1, hpk2, rfl, ek, ck, rfl, hrk, hsmk, hck⟩ := hh; obtain ⟨k1, k2, k3, k4, k5, k6, k7, k8, k9, rfl⟩ := hrk.nine; replace hx := hx.mono hlek; replace hb := hb.mono hlek; replace hrt := hrt.mono hlek;)
 refine A2 13 ?_
 refine R2 rfl rfl rfl rfl rfl hrk.one rfl rfl (by kernel_rfl) (by repeat first | exact Sw.here | apply Sw.there) (by rfl) ?_
 refine B9 (nS (tT (rB ?_)))
 refine A01 ?_
 refine E3 (outs := [rd br pb nb cb pk]) (rC rfl (A3 rfl rfl)) (by repeat (first | exact A0.nil | refine A0.cons Pk.here ?_ | refine A0.cons (Pk.there Pk.here) ?_ | refine A0.cons (Pk.there (Pk.there Pk.here)) ?_ | apply A0.drop)) ?_
 (exact ⟨pk, by omega, by omega, rfl, _, _, rfl, hrk, hsmk, by omega⟩)
 refine sQ (qA rfl) rfl (sD (nS (cF rfl (tS (tR ?_)))))
 refine sB (qE rfl rfl) rfl rfl (fun h489 => ?_) (fun h489 => ?_)
 refine sQ (qA rfl) rfl (sD (nS (qT rfl (tS ?_))))
 (have hk45 : k = 4 ∨ k = 5 := (by omega); have hl2 := hops hk45; obtain ⟨m, rfl⟩ := hfu.pos (.inr hk45); have hmB : mB (m + 1) = 3 * mB m + 200 := rfl; have hgm := A1v m; obtain ⟨es9, hsl, hkl⟩ := hrt.kidsM; obtain ⟨b0, o0, q0, d0, hp0, hat0, hre0, hg0⟩ := hsl.kidTy hkl (i := 0) (by omega) (by omega); obtain ⟨b1, o1, q1, d1, hp1, hat1, hre1, hg1⟩ := hsl.kidTy hkl (i := 1) (by omega) (by omega); cases hp0; cases hp1; have hmem0 := List.getElem_mem (l := ks) (n := 0) (by omega); have hmem1 := List.getElem_mem (l := ks) (n := 1) (by omega); refine D7 D8 rfl ?_)
 refine H4 (i := 0) (l' := [tt,ff,ff,ff,ff,ff,ff,ff,ff,ff,ff,ff,ff,ff,ff,ff,ff,ff,ff,ff,ff]) rfl D3 (qM rfl) rfl (by kernel_rfl) rfl rfl ?_
 refine aP 1 rfl (qM rfl) rfl ?_
 refine aP 2 rfl (B1 rfl) rfl ?_
 refine aL 3 rfl (D4 rfl rfl) rfl ?_
 refine aP 4 rfl (B3 (j := 0) rfl rfl rfl (by omega)) rfl ?_
 refine aL 5 rfl (A6 rfl rfl (hat0 _) rfl) rfl ?_
 refine aP 6 rfl (qM rfl) rfl ?_
 refine aP 7 rfl (N1 rfl rfl (by omega) (by omega)) rfl ?_
 refine aP 9 rfl (qM rfl) rfl ?_
 refine aP 10 rfl (qM rfl) rfl ?_
 refine aP 11 rfl (B1 rfl) rfl ?_
 refine aL 12 rfl (D4 rfl rfl) rfl ?_
 refine aP 13 rfl (B3 (j := 1) rfl rfl rfl (by omega)) rfl ?_
 refine aL 14 rfl (A6 rfl rfl (hat1 _) rfl) rfl ?_
 refine aP 15 rfl (qM rfl) rfl ?_
 refine aP 16 rfl (N1 rfl rfl (by omega) (by omega)) rfl ?_
 refine A2 8 ?_
 (have hcall := ih m (by omega) (depth - 1) ks[0] p2 _ pc nc cc _ (hfu.kid hmem0) (by omega) (by omega) (by omega) hx hre0 hb (by omega); refine A0a (l' := [tt,tt,tt,tt,tt,tt,tt,tt,tt,tt,tt,tt,tt,tt,tt,tt,tt,ff,ff,ff,ff]) rfl rfl hcall (Pk.perm (by repeat (first | exact Pk.here | apply Pk.there))) rfl rfl rfl (by repeat (first | exact A4.nil | apply A4.dep (by decide +kernel) | apply A4.im (by decide +kernel) hg0 (by repeat first | exact mH | apply mT) | apply A4.im (by decide +kernel) hg1 (by repeat first | exact mH | apply mT) | apply A4.blk (by decide +kernel) (by repeat (first | exact Pk.here | apply Pk.there)) (by repeat first | exact mH | apply mT))) (fun v Gn outs hles hh => ?_); obtain ⟨ps, hps1, hps2, rfl, es, cs, rfl, hrs, hsms, hcs⟩ := hh; obtain ⟨s1, s2, s3, s4, s5, s6, s7, s8, s9, rfl⟩ := hrs.nine; replace hre1 := hre1.mono hles; replace hx := hx.mono hles; replace hb := hb.mono hles; replace hrt := hrt.mono hles;)
 refine A2 17 ?_
 (have hcall := ih m (by omega) (depth - 1) ks[1] ps _ pc nc cc _ (hfu.kid hmem1) (by omega) (by omega) (by omega) hx hre1 hb (by omega); refine A0a (l' := [tt,tt,tt,tt,tt,tt,tt,tt,tt,tt,tt,tt,tt,tt,tt,tt,tt,tt,ff,ff,ff]) rfl rfl hcall (Pk.perm (by repeat (first | exact Pk.here | apply Pk.there))) rfl rfl rfl (by repeat (first | exact A4.nil | apply A4.dep (by decide +kernel) | apply A4.im (by decide +kernel) hg0 (by repeat first | exact mH | apply mT) | apply A4.im (by decide +kernel) hg1 (by repeat first | exact mH | apply mT) | apply A4.blk (by decide +kernel) (by repeat (first | exact Pk.here | apply Pk.there)) (by repeat first | exact mH | apply mT))) (fun v Gn outs hlew hh => ?_); obtain ⟨pw, hpw1, hpw2, rfl, ew, cw, rfl, hrw, hsmw, hcw⟩ := hh; obtain ⟨w1, w2, w3, w4, w5, w6, w7, w8, w9, rfl⟩ := hrw.nine; replace hrs := hrs.mono hlew; replace hx := hx.mono hlew; replace hb := hb.mono hlew; replace hrt := hrt.mono hlew;)
 refine A2 18 ?_
 (refine D6 rfl (B4 rfl rfl rfl (by omega) (by unfold maxLen; omega) rfl) rfl rfl ?_; rintro _ ⟨b517, rfl⟩)
 refine A2 19 ?_
 refine S4 rfl rfl ((A2G _ _ _ _ _)) rfl rfl rfl ?_
 refine A2 20 ?_
 refine R2 rfl rfl rfl rfl rfl rfl rfl rfl (by decide +kernel) (by repeat first | exact Sw.here | apply Sw.there) (by rfl) ?_
 refine B9 (nS ?_)
 (refine I5 (cs := [s1, s2, s3, s4, s5, s6, s7, s8, s9] ++ [w1, w2, w3, w4, w5, w6, w7, w8, w9]) (by repeat (first | exact Pk.here | apply Pk.there)) (fun G9 hle9 hsl9 hno9 => ?_); have hN := A4l (k := 10) (nm := ⟨⟨[]⟩⟩) ⟨by omega, by omega⟩ (hrs.mono hle9) (hrw.mono hle9) hsl9)
 refine tT (rB ?_)
 refine A01 ?_
 refine E3 (outs := [rd br pb nb cb pw]) (rC rfl (A3 rfl rfl)) (by repeat (first | exact A0.nil | refine A0.cons Pk.here ?_ | refine A0.cons (Pk.there Pk.here) ?_ | refine A0.cons (Pk.there (Pk.there Pk.here)) ?_ | apply A0.drop)) ?_
 (exact ⟨pw, by omega, by omega, rfl, _, _, rfl, hN, by first | exact O3 (by first | assumption | decide) | exact A0H (by decide) (by assumption) (by assumption) (by assumption) | exact T5 (by decide) (by assumption) (by assumption) | exact K2 (by decide) Q1 (by assumption) | exact K2 (by decide) har.small (by assumption) | exact K2 (by decide) Q1 (T5 (by decide) (by assumption) (O3 (by decide))) | exact K2 (by decide) A0I (O3 (by decide)) | assumption, by simp only [C9, D2]; omega⟩)
 refine sQ (qA rfl) rfl (sD (nS (cF rfl (tS (tR ?_)))))
 refine sB (qE rfl rfl) rfl rfl (fun h536 => ?_) (fun h536 => ?_)
 refine E1 ?_
 refine sB (A0v rfl rfl) rfl rfl (fun h545 => ?_) (fun h545 => ?_)
 refine sQ (qM rfl) rfl (sQ (qM rfl) rfl ?_)
 (have hkk1 : k = 1 := (by omega); refine C6 rfl (Y6 _ br pb nb cb (p2) bs 3 hb hnb (by omega)) (Pk.perm (by repeat (first | exact Pk.here | apply Pk.there))) rfl rfl (fun v Gp outs hle548 hh => ?_); obtain ⟨rfl, rfl, j548, rfl, hj548, hk548⟩ := hh; have hpk23 := hj548)
 replace hb := hb.mono hle548
 replace hrt := hrt.mono hle548
 refine sB (qE rfl rfl) rfl rfl (fun h549 => ?_) (fun h549 => ?_)
 refine E8 ?_
 (have hcall := A3X br pb nb cb bs hnb 1 (p2 + 1) _ (by omega) hb (by have : dB (1 + 1) ≤ 6 := (by decide); omega); refine C6 rfl hcall (Pk.perm (by repeat (first | exact Pk.here | apply Pk.there))) rfl rfl (fun v Gn outs hleF hh => ?_); obtain ⟨pF, hpF1, hpF2, rfl, uF, cuF, rfl, hruF, husF, huhF⟩ := hh; have huaF := huhF.ar; obtain ⟨quF, duF, euF, rfl, _⟩ := hruF.open; have hdBF : dB (1 + 1) ≤ 6 := (by decide); replace hx := hx.mono hleF; replace hb := hb.mono hleF; replace hrt := hrt.mono hleF;)
 refine sQ (qM rfl) rfl ?_
 refine sP (N1 rfl rfl (by omega) (by omega)) rfl rfl ?_
 (obtain ⟨m, rfl⟩ := hfu.pos (.inl (by omega)); have hmB : mB (m + 1) = 3 * mB m + 200 := rfl; have hgm := A1v m; have hcall := ih m (by omega) (depth - 1) uF pF _ pc nc cc _ (hfu.sub (by omega) (huhF.le (by omega))) (by omega) (by omega) (by omega) hx hruF hb (by omega); refine C6 rfl hcall (Pk.perm (by repeat (first | exact Pk.here | apply Pk.there))) rfl rfl (fun v Gn outs hlex hh => ?_); obtain ⟨px, hpx1, hpx2, rfl, ex, cx, rfl, hrx, hsmx, hcx⟩ := hh; obtain ⟨x1, x2, x3, x4, x5, x6, x7, x8, x9, rfl⟩ := hrx.nine; replace hx := hx.mono hlex; replace hb := hb.mono hlex; replace hrt := hrt.mono hlex;)
 refine sS rfl rfl rfl rfl hrx.one rfl ?_
 refine sD (nS (tT (rS (rB ?_))))
 refine A01 ?_
 refine E3 (outs := [rd br pb nb cb px]) (rC rfl (A3 rfl rfl)) (by repeat (first | exact A0.nil | refine A0.cons Pk.here ?_ | refine A0.cons (Pk.there Pk.here) ?_ | refine A0.cons (Pk.there (Pk.there Pk.here)) ?_ | apply A0.drop)) ?_
 (exact ⟨px, by omega, by omega, rfl, _, _, rfl, hrx, hsmx, by omega⟩)
 refine E8 ?_
 (refine C6 rfl (Y6 _ br pb nb cb (p2 + 1) bs 3 hb hnb (by omega)) (Pk.perm (by repeat (first | exact Pk.here | apply Pk.there))) rfl rfl (fun v Gp outs hle581 hh => ?_); obtain ⟨rfl, rfl, j581, rfl, hj581, hk581⟩ := hh; have hpk21 := hj581)
 replace hb := hb.mono hle581
 replace hrt := hrt.mono hle581
 refine sB (qE rfl rfl) rfl rfl (fun h582 => ?_) (fun h582 => ?_)
 refine sD (nS (qT rfl (tS (tR ?_))))
 refine H6 rfl ((A1R _)) rfl rfl ?_
 refine sQ (R6 rfl rfl) rfl ?_
 (refine E9 (B4 rfl rfl rfl (by omega) (by unfold maxLen; omega) rfl) rfl ?_; rintro _ ⟨b590, rfl⟩)
 refine sQ (R6 rfl rfl) rfl (I1 ?_)
 refine sD (nS ?_)
 (refine I5 (cs := [.int .i64 4, .string ⟨⟨[]⟩⟩, .int .i64 0, .int .i64 0, .slice none 0 0, .int .i64 0, .slice none 0 0, .int .i64 0, .slice none 0 0]) (by repeat (first | exact Pk.here | apply Pk.there)) (fun G9 hle9 hsl9 hno9 => ?_); have hN := A4k (k := 13) (nm := ⟨⟨[]⟩⟩) ⟨by omega, by omega⟩ (A1o _) (A2m G9 ⟨⟨[]⟩⟩ 0 (k := 4) ⟨by omega, by omega⟩ ⟨by omega, by omega⟩) hsl9)
 refine tT (rB ?_)
 refine A01 ?_
 refine E3 (outs := [rd br pb nb cb (p2 + 1 + 1)]) (rC rfl (A3 rfl rfl)) (by repeat (first | exact A0.nil | refine A0.cons Pk.here ?_ | refine A0.cons (Pk.there Pk.here) ?_ | refine A0.cons (Pk.there (Pk.there Pk.here)) ?_ | apply A0.drop)) ?_
 (exact ⟨(p2 + 1 + 1), by omega, by omega, rfl, _, _, rfl, hN, by first | exact O3 (by first | assumption | decide) | exact A0H (by decide) (by assumption) (by assumption) (by assumption) | exact T5 (by decide) (by assumption) (by assumption) | exact K2 (by decide) Q1 (by assumption) | exact K2 (by decide) har.small (by assumption) | exact K2 (by decide) Q1 (T5 (by decide) (by assumption) (O3 (by decide))) | exact K2 (by decide) A0I (O3 (by decide)) | assumption, by simp only [C9, D2]; omega⟩)
 refine sD (nS (cF rfl (tK (M2 ?_))))
 refine A4n (p2 + 1 + 1, Gp) (M4 (by repeat (first | exact C8.nil | refine C8.cons rfl ?_)) (by repeat (first | exact A0.refl | exact A0.nil | refine A0.cons (by repeat (first | exact Pk.here | apply Pk.there)) ?_ | apply A0.drop))) ⟨A7.refl _, by dsimp only; omega, by dsimp only; omega⟩
 refine L7 ?_
 (have hkk1 : k = 1 := (by omega); refine C6 rfl (Y6 _ br pb nb cb (p2) bs 3 hb hnb (by omega)) (Pk.perm (by repeat (first | exact Pk.here | apply Pk.there))) rfl rfl (fun v Gp outs hle620 hh => ?_); obtain ⟨rfl, rfl, j620, rfl, hj620, hk620⟩ := hh; have hpk23 := hj620)
 replace hb := hb.mono hle620
 replace hrt := hrt.mono hle620
 refine sB (qE rfl rfl) rfl rfl (fun h621 => ?_) (fun h621 => ?_)
 refine sD (nS (qT rfl (tS (tR ?_))))
 refine H6 rfl ((A1R _)) rfl rfl ?_
 refine sQ (R6 rfl rfl) rfl ?_
 (refine E9 (B4 rfl rfl rfl (by omega) (by unfold maxLen; omega) rfl) rfl ?_; rintro _ ⟨b629, rfl⟩)
 refine sQ (R6 rfl rfl) rfl (I1 ?_)
 refine sD (nS ?_)
 (refine I5 (cs := [.int .i64 4, .string ⟨⟨[]⟩⟩, .int .i64 0, .int .i64 0, .slice none 0 0, .int .i64 0, .slice none 0 0, .int .i64 0, .slice none 0 0]) (by repeat (first | exact Pk.here | apply Pk.there)) (fun G9 hle9 hsl9 hno9 => ?_); have hN := A4k (k := 13) (nm := ⟨⟨[]⟩⟩) ⟨by omega, by omega⟩ (A1o _) (A2m G9 ⟨⟨[]⟩⟩ 0 (k := 4) ⟨by omega, by omega⟩ ⟨by omega, by omega⟩) hsl9)
 refine tT (rB ?_)
 refine A01 ?_
 refine E3 (outs := [rd br pb nb cb (p2 + 1)]) (rC rfl (A3 rfl rfl)) (by repeat (first | exact A0.nil | refine A0.cons Pk.here ?_ | refine A0.cons (Pk.there Pk.here) ?_ | refine A0.cons (Pk.there (Pk.there Pk.here)) ?_ | apply A0.drop)) ?_
 (exact ⟨(p2 + 1), by omega, by omega, rfl, _, _, rfl, hN, by first | exact O3 (by first | assumption | decide) | exact A0H (by decide) (by assumption) (by assumption) (by assumption) | exact T5 (by decide) (by assumption) (by assumption) | exact K2 (by decide) Q1 (by assumption) | exact K2 (by decide) har.small (by assumption) | exact K2 (by decide) Q1 (T5 (by decide) (by assumption) (O3 (by decide))) | exact K2 (by decide) A0I (O3 (by decide)) | assumption, by simp only [C9, D2]; omega⟩)
 refine sD (nS (cF rfl (tK (M2 ?_))))
 refine A4n (p2 + 1, Gp) (M4 (by repeat (first | exact C8.nil | refine C8.cons rfl ?_)) (by repeat (first | exact A0.refl | exact A0.nil | refine A0.cons (by repeat (first | exact Pk.here | apply Pk.there)) ?_ | apply A0.drop))) ⟨A7.refl _, by dsimp only; omega, by dsimp only; omega⟩
 refine sQ (qA rfl) rfl (sD (nS (cF rfl (tK (M2 ?_)))))
 refine A4n (p2, G2) (M4 (by repeat (first | exact C8.nil | refine C8.cons rfl ?_)) (by repeat (first | exact A0.refl | exact A0.nil | refine A0.cons (by repeat (first | exact Pk.here | apply Pk.there)) ?_ | apply A0.drop))) ⟨A7.refl _, by dsimp only; omega, by dsimp only; omega⟩
 (have hq := hcut1; rintro ⟨(p5 : Nat), G5⟩ ⟨hle5c, hp5a, hp5b⟩; simp only [] at hle5c hp5a hp5b ⊢; have hcut2 := hp5a; replace hx := hx.mono hle5c; replace hb := hb.mono hle5c; replace hrt := hrt.mono hle5c;)
 refine tS (tS (tR (sQ (qM rfl) rfl ?_)))
 refine sB (A0v rfl rfl) rfl rfl (fun h658 => ?_) (fun h658 => ?_)
 refine sQ (qM rfl) rfl (sQ (qM rfl) rfl ?_)
 (refine C6 rfl (Y6 _ br pb nb cb (p5) bs 2 hb hnb (by omega)) (Pk.perm (by repeat (first | exact Pk.here | apply Pk.there))) rfl rfl (fun v Gp outs hle661 hh => ?_); obtain ⟨rfl, rfl, j661, rfl, hj661, hk661⟩ := hh; have hpk5 := hj661)
 replace hb := hb.mono hle661
 replace hrt := hrt.mono hle661
 refine sB (qE rfl rfl) rfl rfl (fun h662 => ?_) (fun h662 => ?_)
 refine E8 ?_
 refine H6 rfl ((A1q _)) rfl rfl ?_
 (have hz2 : I0 (.mk 2 []) = 0 := rfl; have hcall := A6K br pb nb cb bs hnb (.mk 2 []) (p5 + 1) _ _ (V1 (by decide) (by decide)) (N8 _ ⟨by omega, by omega⟩) hb (by omega); refine C6 rfl hcall (Pk.perm (by repeat (first | exact Pk.here | apply Pk.there))) rfl rfl (fun v Gn outs hleG hh => ?_); obtain ⟨pG, hpG1, hpG2, rfl, uG, cuG, rfl, hruG, huaG, husG, huhG⟩ := hh; obtain ⟨quG, duG, euG, rfl, _⟩ := hruG.open; replace hx := hx.mono hleG; replace hb := hb.mono hleG; replace hrt := hrt.mono hleG;)
 refine sQ (qM rfl) rfl ?_
 refine sP (N1 rfl rfl (by omega) (by omega)) rfl rfl ?_
 (obtain ⟨m, rfl⟩ := hfu.pos (.inl (by omega)); have hmB : mB (m + 1) = 3 * mB m + 200 := rfl; have hgm := A1v m; have hcall := ih m (by omega) (depth - 1) uG pG _ pc nc cc _ (hfu.sub (by omega) (huhG 4 (A3b 4 (by decide) (by decide)))) (by omega) (by omega) (by omega) hx hruG hb (by omega); refine C6 rfl hcall (Pk.perm (by repeat (first | exact Pk.here | apply Pk.there))) rfl rfl (fun v Gn outs hley hh => ?_); obtain ⟨py, hpy1, hpy2, rfl, ey, cy, rfl, hry, hsmy, hcy⟩ := hh; obtain ⟨y1, y2, y3, y4, y5, y6, y7, y8, y9, rfl⟩ := hry.nine; replace hx := hx.mono hley; replace hb := hb.mono hley; replace hrt := hrt.mono hley;)
 refine sQ (qM rfl) rfl (sQ (qM rfl) rfl ?_)
 refine H6 rfl ((A1q _)) rfl rfl ?_
 refine sQ (qM rfl) rfl ?_
 refine sP (N1 rfl rfl (by omega) (by omega)) rfl rfl ?_
 (have hcall := ih m (by omega) (depth - 1) (.mk 2 []) py _ pc nc cc _ (hfu.sub (by omega) (A3b 4 (by decide) (by decide))) (by omega) (by omega) (by omega) hx (N8 _ ⟨by omega, by omega⟩) hb (by omega); refine C6 rfl hcall (Pk.perm (by repeat (first | exact Pk.here | apply Pk.there))) rfl rfl (fun v Gn outs hlec hh => ?_); obtain ⟨pc, hpc1, hpc2, rfl, ec, cc, rfl, hrc, hsmc, hcc⟩ := hh; obtain ⟨c1, c2, c3, c4, c5, c6, c7, c8, c9, rfl⟩ := hrc.nine; replace hry := hry.mono hlec; replace hx := hx.mono hlec; replace hb := hb.mono hlec; replace hrt := hrt.mono hlec;)
 (refine E9 (B4 rfl rfl rfl (by omega) (by unfold maxLen; omega) rfl) rfl ?_; rintro _ ⟨b683, rfl⟩)
 refine H6 rfl ((A2G _ _ _ _ _)) rfl rfl ?_
 refine I1 ?_
 refine sD (nS ?_)
 (refine I5 (cs := [y1, y2, y3, y4, y5, y6, y7, y8, y9] ++ [c1, c2, c3, c4, c5, c6, c7, c8, c9]) (by repeat (first | exact Pk.here | apply Pk.there)) (fun G9 hle9 hsl9 hno9 => ?_); have hN := A4l (k := 7) (nm := ⟨⟨[]⟩⟩) ⟨by omega, by omega⟩ (hry.mono hle9) (hrc.mono hle9) hsl9)
 refine tT (rS ?_)
 refine E3 (outs := [rd br pb nb cb pc]) (rC rfl (A3 rfl rfl)) (by repeat (first | exact A0.nil | refine A0.cons Pk.here ?_ | refine A0.cons (Pk.there Pk.here) ?_ | refine A0.cons (Pk.there (Pk.there Pk.here)) ?_ | apply A0.drop)) ?_
 (exact ⟨pc, by omega, by omega, rfl, _, _, rfl, hN, by first | exact O3 (by first | assumption | decide) | exact A0H (by decide) (by assumption) (by assumption) (by assumption) | exact T5 (by decide) (by assumption) (by assumption) | exact K2 (by decide) Q1 (by assumption) | exact K2 (by decide) har.small (by assumption) | exact K2 (by decide) Q1 (T5 (by decide) (by assumption) (O3 (by decide))) | exact K2 (by decide) A0I (O3 (by decide)) | assumption, by simp only [C9, D2]; omega⟩)
 refine E8 ?_
 (refine E9 (B4 rfl rfl rfl (by omega) (by unfold maxLen; omega) rfl) rfl ?_; rintro _ ⟨b702, rfl⟩)
 (refine S9 (by repeat (first | exact Pk.here | apply Pk.there)) (fun G4 hle4 hsl4 _ => ?_); refine C6 rfl (A0o G4 br pb nb cb (p5 + 1) bs _ _ _ _ (hb.mono hle4) hnb (by omega) hsl4 (by decide)) (Pk.perm (by repeat (first | exact Pk.here | apply Pk.there))) rfl rfl (fun v G7 outs hle7 hh => ?_); obtain ⟨rfl, rfl, hv⟩ := hh; obtain ⟨kn, rfl, hkn⟩ : ∃ k, v = .int .i64 k ∧ C1 k := (by simp only [List.mem_cons, List.not_mem_nil, or_false] at hv; rcases hv with rfl | rfl | rfl | rfl | rfl <;> exact ⟨_, rfl, by unfold C1; omega⟩))
 refine H6 rfl ((A2F _ _)) rfl rfl ?_
 refine I1 ?_
 refine sD (nS (tT ?_))
 refine E3 (outs := [rd br pb nb cb (p5 + 1 + 1)]) (rC rfl (A3 rfl rfl)) (by repeat (first | exact A0.nil | refine A0.cons Pk.here ?_ | refine A0.cons (Pk.there Pk.here) ?_ | refine A0.cons (Pk.there (Pk.there Pk.here)) ?_ | apply A0.drop)) ?_
 (exact ⟨(p5 + 1 + 1), by omega, by omega, rfl, _, _, rfl, A2m _ _ _ ⟨by omega, by omega⟩ (by first | exact ⟨by omega, by omega⟩ | exact hkn), by first | exact O3 (by first | assumption | decide) | exact A0H (by decide) (by assumption) (by assumption) (by assumption) | exact T5 (by decide) (by assumption) (by assumption) | exact K2 (by decide) Q1 (by assumption) | exact K2 (by decide) har.small (by assumption) | exact K2 (by decide) Q1 (T5 (by decide) (by assumption) (O3 (by decide))) | exact K2 (by decide) A0I (O3 (by decide)) | assumption, by simp only [C9, D2]; omega⟩)
 refine L7 ?_
 (refine E9 (B4 rfl rfl rfl (by omega) (by unfold maxLen; omega) rfl) rfl ?_; rintro _ ⟨b724, rfl⟩)
 (refine S9 (by repeat (first | exact Pk.here | apply Pk.there)) (fun G4 hle4 hsl4 _ => ?_); refine C6 rfl (A0o G4 br pb nb cb p5 bs _ _ _ _ (hb.mono hle4) hnb (by omega) hsl4 (by decide)) (Pk.perm (by repeat (first | exact Pk.here | apply Pk.there))) rfl rfl (fun v G7 outs hle7 hh => ?_); obtain ⟨rfl, rfl, hv⟩ := hh; obtain ⟨kn, rfl, hkn⟩ : ∃ k, v = .int .i64 k ∧ C1 k := (by simp only [List.mem_cons, List.not_mem_nil, or_false] at hv; rcases hv with rfl | rfl | rfl | rfl | rfl <;> exact ⟨_, rfl, by unfold C1; omega⟩))
 refine H6 rfl ((A2F _ _)) rfl rfl ?_
 refine I1 ?_
 refine sD (nS (tT ?_))
 refine E3 (outs := [rd br pb nb cb (p5 + 1)]) (rC rfl (A3 rfl rfl)) (by repeat (first | exact A0.nil | refine A0.cons Pk.here ?_ | refine A0.cons (Pk.there Pk.here) ?_ | refine A0.cons (Pk.there (Pk.there Pk.here)) ?_ | apply A0.drop)) ?_
 (exact ⟨(p5 + 1), by omega, by omega, rfl, _, _, rfl, A2m _ _ _ ⟨by omega, by omega⟩ (by first | exact ⟨by omega, by omega⟩ | exact hkn), by first | exact O3 (by first | assumption | decide) | exact A0H (by decide) (by assumption) (by assumption) (by assumption) | exact T5 (by decide) (by assumption) (by assumption) | exact K2 (by decide) Q1 (by assumption) | exact K2 (by decide) har.small (by assumption) | exact K2 (by decide) Q1 (T5 (by decide) (by assumption) (O3 (by decide))) | exact K2 (by decide) A0I (O3 (by decide)) | assumption, by simp only [C9, D2]; omega⟩)
def P7 (o : Option Ty) (G : IM) : IM → Value → List A1 → Prop := I8 fun G' v => ∃ t cells, v = .tuple ⟨[.agg ⟨cells⟩, .bool o.isSome]⟩ ∧ A8 G' t cells ∧ E5 t ∧ ∀ u, o = some u → u = t
theorem P7.yes {G G' : IM} {o : Option Ty} {t : Ty} {cells : List Value} (h : o = some t) (hr : A8 G' t cells) (ha : E5 t) : P7 o G G' (.tuple ⟨[.agg ⟨cells⟩, .bool true]⟩) [] := by
 subst h; exact ⟨rfl, t, cells, rfl, hr, ha, fun u h => (by cases h; rfl)⟩
theorem P7.no {G G' : IM} {o : Option Ty} {t : Ty} {cells : List Value} (h : o = none) (hr : A8 G' t cells) (ha : E5 t) : P7 o G G' (.tuple ⟨[.agg ⟨cells⟩, .bool false]⟩) [] := by
 subst h; exact ⟨rfl, t, cells, rfl, hr, ha, fun u h => (by cases h)⟩
theorem P7.mk {G G' : IM} {o : Option Ty} {b : Bool} {t : Ty} {cells : List Value} (h : o = if b = true then some t else none) (hr : A8 G' t cells) (ha : E5 t) : P7 o G G' (.tuple ⟨[.agg ⟨cells⟩, .bool b]⟩) [] := by
 cases b
 ·exact P7.no h hr ha
 ·exact P7.yes h hr ha
theorem B5A {t : Ty} (h : E4 t = true) : E5 t := (A47 h).1
theorem A5r (k : Int) (a b : Ty) (G : IM) (ca cb : List Value) (hk : k = 4 ∨ k = 5) (ha : E5 a) (hb : E5 b) (hra : A8 G a ca) (hrb : A8 G b cb) :
  Fn Tryz.prog 218 [.int .i64 k, .agg ⟨ca⟩, .agg ⟨cb⟩] [] G (I8 fun G' v => ∃ cells, v = .tuple ⟨[.agg ⟨cells⟩, .bool (E4 (.mk k [a, b]))]⟩ ∧ A8 G' (.mk k [a, b]) cells) := by
 obtain ⟨ak, aks⟩ := a
 obtain ⟨bk, bks⟩ := b
 obtain ⟨pa, cca, ea, rfl, _⟩ := hra.open
 obtain ⟨pb, ccb, eb, rfl, _⟩ := hrb.open
 have hki : C1 k := ⟨by omega, by omega⟩
 refine B6 Tryz.func218 rfl Tryz.ntmps218 Tryz.results218 rfl ?_
 intro w0
 refine tS (tR ?_)
 refine sE (E2 rfl rfl) rfl (fun b3 => ?_)
 refine sE (E2 rfl rfl) rfl (fun b4 => ?_)
 refine sE (B0 rfl) rfl (fun b5 => ?_)
 refine sQ (qA rfl) rfl (sD (nS (tS ?_)))
 refine D7 D8 rfl ?_
 refine H4 (i := 0) (l' := [tt,ff,ff,ff,ff,ff,ff,ff,ff]) rfl D3 (qM rfl) rfl (by kernel_rfl) rfl rfl ?_
 refine aL 1 rfl (A3 rfl rfl) rfl ?_
 refine aL 3 rfl (A3 rfl rfl) rfl ?_
 refine U7 (j := 2) (j' := 7) (by kernel_rfl) ?_ ?_
 (refine P2 rfl rfl (A0k _ G _ ha.small hra) rfl rfl rfl (fun v G1 hle1 hh => ?_); obtain ⟨Y3, F1, rfl, hs1, hn1⟩ := hh; obtain ⟨p1, c1, rfl, _⟩ := hs1.open; have hC2 := A0k _ G1 _ hb.small (hrb.mono hle1))
 refine U7 (j := 4) (j' := 7) (by kernel_rfl) ?_ ?_
 (refine P2 rfl rfl hC2 rfl rfl rfl (fun v G2 hle2 hh => ?_); obtain ⟨cs2, F2, rfl, hs2, hn2⟩ := hh; obtain ⟨p2, c2, rfl, _⟩ := hs2.open; have hr1 := hs1.R.mono ((B7.le G1 G).trans hle2); have hr2 := hs2.R.mono (B7.le G2 G1))
 refine U7 (j := 5) (j' := 7) (by kernel_rfl) ?_ ?_
 (refine D6 rfl (B4 rfl rfl rfl (by omega) (by unfold maxLen; omega) rfl) rfl rfl ?_; rintro _ ⟨b19, rfl⟩)
 refine aP 6 rfl (R6 rfl rfl) rfl ?_
 refine A2 7 ?_
 (refine D6 rfl (B0 rfl) rfl rfl ?_; rintro _ ⟨b22, rfl⟩)
 refine A2 8 ?_
 refine H3 rfl ?_
 refine B9 (nS (tS ?_))
 (have hr1' := hr1; refine A1k (by repeat (first | exact Pk.here | apply Pk.there)) (fun G5 hle5 hsl5 hno5 => ?_); have hRT : A8 G5 (.mk k [.mk ak aks, .mk bk bks]) _ := C3.ty (ts := [.mk ak aks, .mk bk bks]) (es := [[.int .i64 ak, .slice p1 aks.length c1], [.int .i64 bk, .slice p2 bks.length c2]]) ⟨_, _, rfl, hr1.mono hle5, _, _, rfl, hr2.mono hle5, rfl⟩ rfl hsl5 hki; have hV := A28 _ G5 _ hRT; refine D7 D8 rfl ?_)
 refine V5 (i := 0) (l' := [tt,ff,ff,ff,ff]) rfl D3 (A3 rfl rfl) rfl (by kernel_rfl) rfl rfl ?_
 refine aL 1 rfl (A3 rfl rfl) rfl ?_
 refine A2 2 ?_
 refine S4 rfl rfl (hV) rfl rfl rfl ?_
 refine A2 3 ?_
 refine H3 rfl ?_
 refine aP 4 rfl (qA rfl) rfl ?_
 refine B9 (nS (tT ?_))
 refine K0 (rC rfl (A3 rfl rfl)) (rT rfl) ?_
 (exact ⟨rfl, _, rfl, hRT⟩)
 (refine D6 rfl (B0 rfl) rfl rfl ?_; rintro _ ⟨b41, rfl⟩)
 refine A2 5 ?_
 (refine D6 rfl (B4 rfl rfl rfl (by omega) (by unfold maxLen; omega) rfl) rfl rfl ?_; rintro _ ⟨b43, rfl⟩)
 refine aP 6 rfl (R6 rfl rfl) rfl ?_
 refine A2 8 ?_
 refine H3 rfl ?_
 refine B9 (nS (tS ?_))
 (have hr1' := hr1; refine A1k (by repeat (first | exact Pk.here | apply Pk.there)) (fun G5 hle5 hsl5 hno5 => ?_); have hRT : A8 G5 (.mk k [.mk ak aks, .mk bk bks]) _ := C3.ty (ts := [.mk ak aks, .mk bk bks]) (es := [[.int .i64 ak, .slice p1 aks.length c1], [.int .i64 bk, .slice p2 bks.length c2]]) ⟨_, _, rfl, hr1.mono hle5, _, _, rfl, hr2.mono hle5, rfl⟩ rfl hsl5 hki; have hV := A28 _ G5 _ hRT; refine D7 D8 rfl ?_)
 refine V5 (i := 0) (l' := [tt,ff,ff,ff,ff]) rfl D3 (A3 rfl rfl) rfl (by kernel_rfl) rfl rfl ?_
 refine aL 1 rfl (A3 rfl rfl) rfl ?_
 refine A2 2 ?_
 refine S4 rfl rfl (hV) rfl rfl rfl ?_
 refine A2 3 ?_
 refine H3 rfl ?_
 refine aP 4 rfl (qA rfl) rfl ?_
 refine B9 (nS (tT ?_))
 refine K0 (rC rfl (A3 rfl rfl)) (rT rfl) ?_
 (exact ⟨rfl, _, rfl, hRT⟩)
 (refine D6 rfl (B0 rfl) rfl rfl ?_; rintro _ ⟨b63, rfl⟩)
 refine A2 4 ?_
 (refine P2 rfl rfl hC2 rfl rfl rfl (fun v G2 hle2 hh => ?_); obtain ⟨cs2, F2, rfl, hs2, hn2⟩ := hh; obtain ⟨p2, c2, rfl, _⟩ := hs2.open; have hr1 := hs1.R.mono ((B7.le G1 G).trans hle2); have hr2 := hs2.R.mono (B7.le G2 G1))
 refine A2 5 ?_
 (refine D6 rfl (B4 rfl rfl rfl (by omega) (by unfold maxLen; omega) rfl) rfl rfl ?_; rintro _ ⟨b67, rfl⟩)
 refine aP 6 rfl (R6 rfl rfl) rfl ?_
 refine A2 8 ?_
 refine H3 rfl ?_
 refine B9 (nS (tS ?_))
 (have hr1' := hr1; refine A1k (by repeat (first | exact Pk.here | apply Pk.there)) (fun G5 hle5 hsl5 hno5 => ?_); have hRT : A8 G5 (.mk k [.mk ak aks, .mk bk bks]) _ := C3.ty (ts := [.mk ak aks, .mk bk bks]) (es := [[.int .i64 ak, .slice p1 aks.length c1], [.int .i64 bk, .slice p2 bks.length c2]]) ⟨_, _, rfl, hr1.mono hle5, _, _, rfl, hr2.mono hle5, rfl⟩ rfl hsl5 hki; have hV := A28 _ G5 _ hRT; refine D7 D8 rfl ?_)
 refine V5 (i := 0) (l' := [tt,ff,ff,ff,ff]) rfl D3 (A3 rfl rfl) rfl (by kernel_rfl) rfl rfl ?_
 refine aL 1 rfl (A3 rfl rfl) rfl ?_
 refine A2 2 ?_
 refine S4 rfl rfl (hV) rfl rfl rfl ?_
 refine A2 3 ?_
 refine H3 rfl ?_
 refine aP 4 rfl (qA rfl) rfl ?_
 refine B9 (nS (tT ?_))
 refine K0 (rC rfl (A3 rfl rfl)) (rT rfl) ?_
 (exact ⟨rfl, _, rfl, hRT⟩)
 (refine D6 rfl (B0 rfl) rfl rfl ?_; rintro _ ⟨b87, rfl⟩)
 refine A2 2 ?_
 (refine P2 rfl rfl (A0k _ G _ ha.small hra) rfl rfl rfl (fun v G1 hle1 hh => ?_); obtain ⟨Y3, F1, rfl, hs1, hn1⟩ := hh; obtain ⟨p1, c1, rfl, _⟩ := hs1.open; have hC2 := A0k _ G1 _ hb.small (hrb.mono hle1))
 refine A2 4 ?_
 (refine P2 rfl rfl hC2 rfl rfl rfl (fun v G2 hle2 hh => ?_); obtain ⟨cs2, F2, rfl, hs2, hn2⟩ := hh; obtain ⟨p2, c2, rfl, _⟩ := hs2.open; have hr1 := hs1.R.mono ((B7.le G1 G).trans hle2); have hr2 := hs2.R.mono (B7.le G2 G1))
 refine A2 5 ?_
 (refine D6 rfl (B4 rfl rfl rfl (by omega) (by unfold maxLen; omega) rfl) rfl rfl ?_; rintro _ ⟨b93, rfl⟩)
 refine aP 6 rfl (R6 rfl rfl) rfl ?_
 refine A2 8 ?_
 refine H3 rfl ?_
 refine B9 (nS (tS ?_))
 (have hr1' := hr1; refine A1k (by repeat (first | exact Pk.here | apply Pk.there)) (fun G5 hle5 hsl5 hno5 => ?_); have hRT : A8 G5 (.mk k [.mk ak aks, .mk bk bks]) _ := C3.ty (ts := [.mk ak aks, .mk bk bks]) (es := [[.int .i64 ak, .slice p1 aks.length c1], [.int .i64 bk, .slice p2 bks.length c2]]) ⟨_, _, rfl, hr1.mono hle5, _, _, rfl, hr2.mono hle5, rfl⟩ rfl hsl5 hki; have hV := A28 _ G5 _ hRT; refine D7 D8 rfl ?_)
 refine V5 (i := 0) (l' := [tt,ff,ff,ff,ff]) rfl D3 (A3 rfl rfl) rfl (by kernel_rfl) rfl rfl ?_
 refine aL 1 rfl (A3 rfl rfl) rfl ?_
 refine A2 2 ?_
 refine S4 rfl rfl (hV) rfl rfl rfl ?_
 refine A2 3 ?_
 refine H3 rfl ?_
 refine aP 4 rfl (qA rfl) rfl ?_
 refine B9 (nS (tT ?_))
 refine K0 (rC rfl (A3 rfl rfl)) (rT rfl) ?_
 (exact ⟨rfl, _, rfl, hRT⟩)
theorem A7f (k : Int) (t : Ty) (G : IM) (cells : List Value) (hk : k = 4 ∨ k = 5) (ha : E5 t) (hr : A8 G t cells) :
  Fn Tryz.prog 234 [.int .i64 k, .agg ⟨cells⟩] [] G (A9t k t G) := by
 obtain ⟨tk, ks⟩ := t
 have ha2 := ha
 rw [E5] at ha2
 have hkid := ha.kid
 obtain ⟨p, c, es, rfl, htk, hsl, hkl⟩ := hr.open
 simp only [Ty.k, Ty.ks] at htk hsl hkl ⊢
 refine B6 Tryz.func234 rfl Tryz.ntmps234 Tryz.results234 rfl ?_
 intro w0
 refine tS (tR ?_)
 refine sE (E2 rfl rfl) rfl (fun b3 => ?_)
 refine sE (B0 rfl) rfl (fun b4 => ?_)
 refine sE (B0 rfl) rfl (fun b5 => ?_)
 refine E1 ?_
 refine sB (qE rfl rfl) rfl rfl (fun h14 => ?_) (fun h14 => ?_)
 refine sD (nS (qT rfl (tS (tR ?_))))
 refine H6 rfl ((A1R _)) rfl rfl ?_
 refine H6 rfl ((A1R _)) rfl rfl ?_
 refine I1 ?_
 refine I1 ?_
 refine sQ (qA rfl) rfl (sD (nS (tT (rS ?_))))
 refine K7 (rC rfl (A3 rfl rfl)) (rC rfl (A3 rfl rfl)) (rT rfl) ?_
 (refine ⟨rfl, _, _, _, _, ?_, A1o _, A1o _, A3W, A3W, ?_⟩ <;> rw [A1Y, if_neg (by omega), if_pos (by omega)] <;> first | rfl | (intro p hp; cases hp; rfl))
 refine J3 ?_
 refine sB (X4 rfl rfl) rfl rfl (fun h42 => ?_) (fun h42 => ?_)
 refine M5 ?_
 refine K7 (rC rfl (A3 rfl rfl)) (rC rfl (A3 rfl rfl)) (rT rfl) ?_
 (refine ⟨rfl, A5, _, A5, _, ?_, N8 _ ⟨by omega, by omega⟩, N8 _ ⟨by omega, by omega⟩, V1 (by omega) (by omega), V1 (by omega) (by omega), ?_⟩ <;> rw [A1Y, if_neg (by omega), if_neg (by omega)] <;> first | rfl | (intro p hp; cases hp))
 refine sD (nS (cF rfl (tK (nS (tS ?_)))))
 (have hlen : ks.length = 2 := ha2.1 (by omega); obtain ⟨b, o, q0, d0, hp0, hat0, hre0, hg0⟩ := hsl.kidTy hkl (i := 0) (by omega) (by omega); obtain ⟨b', o', q1, d1, hp1, hat1, hre1, hg1⟩ := hsl.kidTy hkl (i := 1) (by omega) (by omega); subst hp0; cases hp1; have hC1 := A0k _ G _ (hkid _ (List.getElem_mem (by omega))).small hre0; refine D7 D8 rfl ?_)
 refine H4 (i := 0) (l' := [tt,ff,ff,ff,ff,ff,ff,ff,ff,ff,ff,ff,ff]) rfl D3 (B1 rfl) rfl (by kernel_rfl) rfl rfl ?_
 refine aL 1 rfl (D4 rfl rfl) rfl ?_
 refine aP 2 rfl (B3 (j := 0) rfl rfl rfl (by omega)) rfl ?_
 refine aL 3 rfl (A6 rfl rfl (hat0 _) rfl) rfl ?_
 refine aP 5 rfl (B1 rfl) rfl ?_
 refine aL 6 rfl (D4 rfl rfl) rfl ?_
 refine aP 7 rfl (B3 (j := 1) rfl rfl rfl (by omega)) rfl ?_
 refine aL 8 rfl (A6 rfl rfl (hat1 _) rfl) rfl ?_
 refine A2 4 ?_
 (refine P2 rfl rfl hC1 rfl rfl rfl (fun v G1 hle1 hh => ?_); obtain ⟨Y3, F1, rfl, hs1, hn1⟩ := hh; obtain ⟨p1, c1, rfl, _⟩ := hs1.open; have hC2 := A0k _ G1 _ (hkid _ (List.getElem_mem (by omega))).small (hre1.mono hle1))
 refine A2 9 ?_
 (refine P2 rfl rfl hC2 rfl rfl rfl (fun v G2 hle2 hh => ?_); obtain ⟨cs2, F2, rfl, hs2, hn2⟩ := hh; obtain ⟨p2, c2, rfl, _⟩ := hs2.open; have hr1 := hs1.R.mono ((B7.le G1 G).trans hle2); have hr2 := hs2.R.mono (B7.le G2 G1))
 refine A2 10 ?_
 refine H3 rfl ?_
 refine A2 11 ?_
 refine R2 rfl rfl rfl rfl rfl rfl rfl rfl (by decide +kernel) (by repeat first | exact Sw.here | apply Sw.there) (by rfl) ?_
 refine aP 12 rfl (qA rfl) rfl ?_
 refine B9 (nS (tT ?_))
 refine K7 (rC rfl (A3 rfl rfl)) (rC rfl (A3 rfl rfl)) (rT rfl) ?_
 (refine ⟨rfl, _, _, _, _, ?_, hr1, hr2, hkid _ (List.getElem_mem (by omega)), hkid _ (List.getElem_mem (by omega)), ?_⟩ <;> rw [A1Y, if_pos (by omega)] <;> first | rfl | (intro p hp; cases hp; simp [hlen]))
theorem B5B (G : IM) (cx : Cx) (hv : Y9 cx) (p : Option Addr) (n c : Nat) (nm : ByteArray) (hx : U4 G cx p n c) :
  Fn Tryz.prog 169 [.slice p n c, .string nm] [] G (P7 (W5 cx nm) G) := by
 have hn := hx.le
 refine B6 Tryz.func169 rfl Tryz.ntmps169 Tryz.results169 rfl ?_
 intro w0
 refine tS (tR ?_)
 refine sE (B0 rfl) rfl (fun b3 => ?_)
 refine E1 ?_
 refine sP (N1 rfl rfl (by omega) (by omega)) rfl rfl ?_
 refine sQ (qA rfl) rfl (sD (nS ?_))
 refine B2 ?_
 (refine J8 (fun (i : Nat) => ⟨[(6, .int .i64 ((i : Int) - 1)), (0, .slice p n c), (1, .string nm), (4, .pointer (some ⟨b3, 0, none⟩))], [.blk b3 [.int .i64 0, .slice none 0 0]], G⟩) (fun i => i ≤ n ∧ W5 cx nm = X9 cx nm i) (fun i => i) n ?_ ?_ ?_)
 exact C2
 (exact ⟨Nat.le_refl _, by unfold W5; rw [hx.1]⟩)
 (rintro i ⟨hi, hlk⟩)
 refine tS (tS (tR (sQ (qM rfl) rfl ?_)))
 refine sB (Y2 rfl rfl) rfl rfl (fun h25 => ?_) (fun h25 => ?_)
 refine sD (nS (qT rfl (tK (nS (tS ?_)))))
 (show H5 _ _ (.block 1 _) _ _; obtain ⟨j, rfl⟩ : ∃ j, i = j + 1 := ⟨i - 1, by omega⟩; rw [show ((j + 1 : Nat) : Int) - 1 = (j : Int) from by omega]; obtain ⟨b, o, nm1, t1, q1, d1, hcx, rfl, hat, hr1, hgb⟩ := hx.get (i := j) (by omega); have ha1 := B5A (hv _ (List.mem_of_getElem? hcx)); refine B2 ?_)
 refine tS (tR (sQ (qM rfl) rfl (sQ (qM rfl) rfl ?_)))
 refine sP (B3 rfl rfl rfl (by omega)) rfl rfl ?_
 refine sQ (qF rfl) rfl ?_
 refine sL (Q8 rfl rfl ((hat _).sub (j := 0) rfl)) rfl rfl ?_
 refine sQ (qM rfl) rfl ?_
 refine sB (A2u rfl rfl) rfl rfl (fun h41 => ?_) (fun h41 => ?_)
 refine C5 ?_
 refine sP (B3 rfl rfl rfl (by omega)) rfl rfl ?_
 refine sQ (qF rfl) rfl ?_
 refine sL (A6 rfl rfl (hat _).drop rfl) rfl rfl ?_
 (refine M0 rfl (A0k _ G _ ha1.small hr1) rfl rfl (fun v G1 hle1 hh => ?_); obtain ⟨Y3, F1, rfl, hs1', hn1⟩ := hh; obtain ⟨p1, c1, rfl, _⟩ := hs1'.open; have hrr := hs1'.R.mono (B7.le G1 G))
 refine H9 ?_
 refine K0 (rC rfl (A3 rfl rfl)) (rT rfl) ?_
 (exact P7.yes (by rw [hlk]; exact A6S hcx (by assumption)) hrr ha1)
 refine E1 ?_
 refine sP (N1 rfl rfl (by omega) (by omega)) rfl rfl ?_
 refine sQ (qA rfl) rfl (sD ?_)
 refine J4 j ?_ ?_ ?_
 exact C2
 (exact ⟨by omega, by rw [hlk]; exact A6T hcx (by assumption)⟩)
 (show _ < _ + 1; omega)
 refine N9 ?_
 refine K0 (rC rfl (A3 rfl rfl)) (rT rfl) ?_
 (obtain rfl : i = 0 := (by omega); exact P7.no (by rw [hlk]; rfl) (N8 _ ⟨by omega, by omega⟩) (V1 (by omega) (by omega)))
theorem A5s : ∀ (xs ys : List Ty), xs.length = ys.length → (T4 xs ys).length = xs.length
 | [], [], _ => rfl
 | a :: xs, b :: ys, h => by simp only [T4, List.length_cons]; rw [A5s xs ys (by simpa using h)]
 | [], b :: ys, h => by simp at h
 | a :: xs, [], h => by simp at h
theorem A7g : ∀ (xs ys : List Ty) (i : Nat) (h : i < xs.length) (h' : i < ys.length) (hl : i < (T4 xs ys).length), (T4 xs ys)[i] = V2 xs[i] ys[i]
 | [], _, i, h, _, _ => by simp at h
 | a :: xs, [], i, _, h', _ => by simp at h'
 | a :: xs, b :: ys, 0, _, _, _ => by simp [T4]
 | a :: xs, b :: ys, i + 1, h, h', hl => by
  simp only [T4, List.getElem_cons_succ]
  exact A7g xs ys i (by simpa using h) (by simpa using h') _
theorem B5C {xs ys : List Ty} {i : Nat} (hl : xs.length = ys.length) (h : i < xs.length) : (T4 xs ys).take (i + 1) = (T4 xs ys).take i ++ [V2 xs[i] (ys[i]'(by omega))] := by
 rw [List.take_succ_eq_append_getElem (by rw [A5s _ _ hl]; exact h), A7g _ _ i h (by omega)]
theorem B5D : ∀ (a b : Ty) (G : IM) (ca cb : List Value), J6 a b = true → E5 a → E5 b → A8 G a ca → A8 G b cb → Fn Tryz.prog 246 [.agg ⟨ca⟩, .agg ⟨cb⟩] [] G (I8 fun G' v => ∃ cells, v = .agg ⟨cells⟩ ∧ A8 G' (V2 a b) cells) := by
 refine Ty.ind fun ak aks ih b G ca cb hc ha hb hra hrb => ?_
 obtain ⟨bk, bks⟩ := b
 have hka := ha.kid
 have hkb := hb.kid
 have hca := A0k _ G _ ha.small hra
 have hcb := A0k _ G _ hb.small hrb
 have hcc : ak ≠ 1 → bk ≠ 1 → aks.length = bks.length ∧ ∀ i, (h : i < aks.length) → (h' : i < bks.length) → J6 aks[i] bks[i] = true := by
  intro h1 h2
  rw [T0, decide_eq_false h1, decide_eq_false h2] at hc
  simp only [Bool.false_or, Bool.and_eq_true, decide_eq_true_eq] at hc
  exact (A2z _ _).1 hc.2
 rw [A1d]
 obtain ⟨pa, cca, ea, rfl, hak, hsla, hkla⟩ := hra.open
 obtain ⟨pb, ccb, eb, rfl, hbk, hslb, hklb⟩ := hrb.open
 simp only [Ty.k, Ty.ks] at hak hsla hkla hbk hslb hklb ⊢
 have hna := hsla.le
 have hnb := hslb.le
 have hl2 := ha.two
 refine B6 Tryz.func246 rfl Tryz.ntmps246 Tryz.results246 rfl ?_
 intro w0
 refine tS (tR ?_)
 refine sE (E2 rfl rfl) rfl (fun b3 => ?_)
 refine sE (E2 rfl rfl) rfl (fun b4 => ?_)
 refine sE (B0 rfl) rfl (fun b5 => ?_)
 refine C5 ?_
 refine sB (qE rfl rfl) rfl rfl (fun h13 => ?_) (fun h13 => ?_)
 refine sD (nS (qT rfl (tS (tR (sL (A3 rfl rfl) rfl rfl ?_)))))
 (refine M0 rfl (by first | exact hcb | exact hca) rfl rfl (fun v G1 hle1 hh => ?_); obtain ⟨Y3, F1, rfl, hs1, hn1⟩ := hh; obtain ⟨p1, c1, rfl, _⟩ := hs1.open; have hr1 := hs1.R.mono (B7.le G1 G))
 refine I1 ?_
 refine sD (nS (tT (rS ?_)))
 refine I6 (rC rfl (A3 rfl rfl)) ?_
 (rw [if_pos (by omega)]; exact ⟨rfl, _, rfl, hr1⟩)
 refine H9 ?_
 refine sB (qE rfl rfl) rfl rfl (fun h38 => ?_) (fun h38 => ?_)
 refine sD (nS (qT rfl (tS (tR (sL (A3 rfl rfl) rfl rfl ?_)))))
 (refine M0 rfl (by first | exact hcb | exact hca) rfl rfl (fun v G1 hle1 hh => ?_); obtain ⟨Y3, F1, rfl, hs1, hn1⟩ := hh; obtain ⟨p1, c1, rfl, _⟩ := hs1.open; have hr1 := hs1.R.mono (B7.le G1 G))
 refine I1 ?_
 refine sD (nS (tT (rS ?_)))
 refine I6 (rC rfl (A3 rfl rfl)) ?_
 (rw [if_neg (by omega), if_pos (by omega)]; exact ⟨rfl, _, rfl, hr1⟩)
 refine H9 ?_
 refine sE (B0 rfl) rfl (fun b63 => ?_)
 refine I1 ?_
 refine sD (nS (tS (tS (tR (sQ (qA rfl) rfl (sD (nS ?_)))))))
 refine B2 ?_
 (obtain ⟨hlab, hcab⟩ := hcc (by omega) (by omega); refine W9 25 2 ?_; refine J8 (fun (x : Nat × Option Addr × Nat × List Ty × List (List Value) × IM) => ⟨[(6, .int .i64 x.1), (5, .pointer (some ⟨b63, 0, none⟩)), (4, .pointer (some ⟨b5, 0, none⟩)), (2, .pointer (some ⟨b3, 0, none⟩)), (3, .pointer (some ⟨b4, 0, none⟩))], [.blk b63 [.int .i64 ak, .slice x.2.1 x.1 x.2.2.1], .slc x.2.1 x.2.2.1 25 2 x.1 x.2.2.2.2.1.flatten, .blk b5 [.int .i64 0, .slice none 0 0], .blk b4 [.int .i64 bk, .slice pb bks.length ccb], .blk b3 [.int .i64 ak, .slice pa aks.length cca]], x.2.2.2.2.2⟩) (fun x => x.1 ≤ aks.length ∧ A7 G x.2.2.2.2.2 ∧ x.2.2.2.1.length = x.1 ∧ C3 x.2.2.2.2.2 x.2.2.2.1 x.2.2.2.2.1 ∧ x.2.2.2.1 = (T4 aks bks).take x.1) (fun x => aks.length - x.1) (0, none, 0, [], [], G) ?_ ?_ ?_)
 (simp only [E7]; exact C2)
 (exact ⟨by simp, A7.refl _, rfl, by simp [C3], rfl⟩)
 (rintro ⟨i, pn, cn, us, es', Gi⟩ ⟨hi, hle, hlu, hst, hus⟩; simp only [] at hi hle hlu hst hus ⊢; replace hsla := hsla.mono hle; replace hkla := hkla.mono hle; replace hslb := hslb.mono hle; replace hklb := hklb.mono hle)
 refine C5 ?_
 refine sB (I7 rfl rfl) rfl rfl (fun h85 => ?_) (fun h85 => ?_)
 refine sD (nS (qT rfl (tK (nS (tS ?_)))))
 refine B2 ?_
 (obtain ⟨b, o, q0, d0, hp0, hat0, hre0, hg0⟩ := hsla.kidTy hkla (i := i) (by omega) (by omega); obtain ⟨b', o', q1, d1, hp1, hat1, hre1, hg1⟩ := hslb.kidTy hklb (i := i) (by omega) (by omega); subst hp0; subst hp1; have hih := ih aks[i] (List.getElem_mem (by omega)) bks[i] Gi _ _ (hcab i (by omega) (by omega)) (hka _ (List.getElem_mem (by omega))) (hkb _ (List.getElem_mem (by omega))) hre0 hre1; refine D7 D8 rfl ?_)
 refine H4 (i := 0) (l' := [tt,ff,ff,ff,ff,ff,ff,ff,ff,ff,ff,ff,ff,ff,ff,ff,ff]) rfl D3 (B1 rfl) rfl (by kernel_rfl) rfl rfl ?_
 refine aL 1 rfl (D4 rfl rfl) rfl ?_
 refine aP 2 rfl (B1 rfl) rfl ?_
 refine aL 3 rfl (D4 rfl rfl) rfl ?_
 refine aP 4 rfl (qM rfl) rfl ?_
 refine aP 5 rfl (B3 rfl rfl rfl (by omega)) rfl ?_
 refine aL 6 rfl (A6 rfl rfl (hat0 _) rfl) rfl ?_
 refine aP 7 rfl (B1 rfl) rfl ?_
 refine aL 8 rfl (D4 rfl rfl) rfl ?_
 refine aP 9 rfl (qM rfl) rfl ?_
 refine aP 10 rfl (B3 rfl rfl rfl (by omega)) rfl ?_
 refine aL 11 rfl (A6 rfl rfl (hat1 _) rfl) rfl ?_
 refine A2 12 ?_
 (refine P2 rfl rfl hih rfl rfl rfl (fun v G1 hle1 hh => ?_); obtain ⟨cells', rfl, hru⟩ := hh; generalize hu : V2 aks[i] bks[i] = u at hru; obtain ⟨p3, c3, es3, rfl, _⟩ := hru.open)
 refine A2 13 ?_
 (refine D6 rfl (B4 rfl rfl rfl (by omega) (by unfold maxLen; omega) rfl) rfl rfl ?_; rintro _ ⟨b109, rfl⟩)
 refine A2 14 ?_
 refine Q9 rfl rfl rfl rfl rfl rfl (fun _ _ => by repeat (first | exact Sw.here | apply Sw.there)) (J9 (by repeat first | exact mH | apply mT)) rfl (by simp [Value.oneCell']) (by unfold maxLen; omega) (by omega) rfl rfl (by repeat (first | exact A4.nil | apply A4.dep (by decide +kernel) | apply A4.blk (by decide +kernel) (by repeat (first | exact Pk.here | apply Pk.there)) (by repeat first | exact mH | apply mT))) (fun pn' cn' => ?_)
 refine aP 15 rfl (B1 rfl) rfl ?_
 refine A2 16 ?_
 refine R2 rfl rfl rfl rfl rfl rfl rfl rfl (by decide +kernel) (by repeat first | exact Sw.here | apply Sw.there) (by rfl) ?_
 refine B9 (M2 (nS (tR (sQ (qM rfl) rfl ?_))))
 refine sP (H2 rfl rfl (by omega) (by omega)) rfl rfl ?_
 refine sQ (qA rfl) rfl (sD ?_)
 refine J4 (i + 1, pn', cn', us ++ [u], es' ++ [[.int .i64 u.k, .slice p3 u.ks.length c3]], G1) ?_ ?_ ?_
 (simp only [E7]; exact C2)
 (dsimp only; exact ⟨by omega, hle.trans hle1, by simp [hlu], C3.snoc (hst.mono hle1) hru, by rw [B5C hlab (by omega), ← hus, hu]⟩)
 (show aks.length - (i + 1) < aks.length - i; omega)
 refine M5 ?_
 (refine I5 (by repeat (first | exact Pk.here | apply Pk.there)) (fun G2 hle2 hsl2 hno2 => ?_); obtain rfl : i = aks.length := (by omega))
 refine tT ?_
 refine I6 (rC rfl (A3 rfl rfl)) ?_
 (rw [List.take_of_length_le (by rw [A5s _ _ hlab]; omega)] at hus; rw [if_neg (by omega), if_neg (by omega), ← hus]; exact ⟨rfl, _, rfl, (hst.mono hle2).ty hlu hsl2 hak⟩)
theorem gD {ts : List Ty} {i : Nat} (h : i < ts.length) : ts.getD i A5 = ts[i] := by rw [List.getD_eq_getElem?_getD, List.getElem?_eq_getElem h, Option.getD_some]
section
variable {cx : Cx} {k : Int} {nm : ByteArray} {ty : Ty} {ts : List Ty}
theorem B0m (h : 1 < ts.length) : Y0 cx 6 nm ty ts = match R3 4 ts[0] with | some (a, b) => if J6 ts[1] a = true then some b else none | none => none := by
 unfold Y0 M8
 rw [gD (i := 0) (by omega), gD (i := 1) h]
 simp only [show ¬((6 : Int) = 1) by decide, show ¬((6 : Int) = 2) by decide, show ¬((6 : Int) = 3 ∨ (6 : Int) = 4) by decide, show ¬((6 : Int) = 5) by decide, if_false, if_true]
 cases R3 4 ts[0] with
 | none => rfl
 | some p =>
  obtain ⟨a, b⟩ := p
  by_cases hc : J6 ts[1] a = true
  ·simp [hc]
  ·simp [hc]
theorem A5t (hk : k = 7 ∨ k = 8) (h : 1 < ts.length) : Y0 cx k nm ty ts = if J6 ts[0] T7 = true ∧ J6 ts[1] T7 = true then some (if k = 8 then Y7 else T7) else none := by
 unfold Y0 M8
 rw [gD (i := 0) (by omega), gD (i := 1) h, if_neg (by omega), if_neg (by omega), if_neg (by omega), if_neg (by omega), if_neg (by omega), if_pos hk]
 by_cases hc : J6 ts[0] T7 = true ∧ J6 ts[1] T7 = true
 ·rw [if_pos hc, if_pos hc]; simp only; rw [if_neg (by omega)]
 ·rw [if_neg hc, if_neg hc]
theorem B0n (h : 2 < ts.length) : Y0 cx 9 nm ty ts = if J6 ts[0] Y7 = true ∧ J6 ts[1] ts[2] = true then some (V2 ts[1] ts[2]) else none := by
 unfold Y0 M8
 rw [gD (i := 0) (by omega), gD (i := 1) (by omega), gD (i := 2) h, if_neg (by omega), if_neg (by omega), if_neg (by omega), if_neg (by omega), if_neg (by omega), if_neg (by omega), if_pos rfl]
 by_cases hc : J6 ts[0] Y7 = true ∧ J6 ts[1] ts[2] = true
 ·rw [if_pos hc, if_pos hc]; simp
 ·rw [if_neg hc, if_neg hc]
theorem B5E (h : 1 < ts.length) : Y0 cx 10 nm ty ts = if E4 (.mk 5 [ts[0], ts[1]]) = true then some (.mk 5 [ts[0], ts[1]]) else none := by
 unfold Y0 M8
 rw [gD (i := 0) (by omega), gD (i := 1) h, if_neg (by omega), if_neg (by omega), if_neg (by omega), if_neg (by omega), if_neg (by omega), if_neg (by omega), if_neg (by omega), if_pos rfl]
 cases hv : E4 (.mk 5 [ts[0], ts[1]]) <;> simp [hv]
theorem B5F (h : 0 < ts.length) : Y0 cx 13 nm ty ts = if J6 ts[0] ty = true then some ty else none := by
 unfold Y0 M8
 rw [gD (i := 0) h, if_neg (by omega), if_neg (by omega), if_neg (by omega), if_neg (by omega), if_neg (by omega), if_neg (by omega), if_neg (by omega), if_neg (by omega), if_pos rfl]
 by_cases hc : J6 ts[0] ty = true
 ·rw [if_pos hc, if_pos hc]; simp
 ·rw [if_neg hc, if_neg hc]
theorem A5u (hk : k = 11 ∨ k = 12) (h : 0 < ts.length) : Y0 cx k nm ty ts = match R3 5 ts[0] with | some (a, b) => some (if k = 12 then b else a) | none => none := by
 unfold Y0 M8
 rw [gD (i := 0) h, if_neg (by omega), if_neg (by omega), if_neg (by omega), if_neg (by omega), if_neg (by omega), if_neg (by omega), if_neg (by omega), if_neg (by omega), if_neg (by omega)]
 cases R3 5 ts[0] with
 | none => rfl
 | some p =>
  obtain ⟨a, b⟩ := p
  simp only
  rw [if_neg (by omega)]
end
theorem B5G : ∀ (a b : Ty), J6 a b = true → E5 a → E5 b → E5 (V2 a b) := by
 refine Ty.ind fun k ks ih b hc ha hb => ?_
 obtain ⟨k', ks'⟩ := b
 rw [A1d]
 split
 ·exact hb
 ·split
  ·exact ha
  ·rw [T0] at hc
   simp only [Bool.or_eq_true, Bool.and_eq_true, decide_eq_true_eq] at hc
   obtain ⟨hk, hl⟩ : k = k' ∧ M6 ks ks' = true := by
    rcases hc with (h | h) | h
    ·contradiction
    ·contradiction
    ·exact h
   obtain ⟨hll, hcc⟩ := (A2z _ _).1 hl
   have hlen := A5s ks ks' hll
   refine A88 ha hlen fun u hu => ?_
   obtain ⟨i, hi, rfl⟩ := List.mem_iff_getElem.1 hu
   rw [A7g ks ks' i (by omega) (by omega)]
   exact ih _ (List.getElem_mem _) _ (hcc i (by omega) (by omega)) (ha.kid _ (List.getElem_mem _)) (hb.kid _ (List.getElem_mem _))
theorem B5H (cx : Cx) (k : Int) (nm : ByteArray) (num : Int) (ty fr : Ty) (lb : Int) (ks : List Tm) (ts : List Ty) (G : IM) (cells : List Value) (p : Option Addr) (c : Nat) (es : List (List Value))
  (hops : D5 k = ts.length) (hk6 : 6 ≤ k ∧ k ≤ 13) (hty : E5 ty) (hr : B5 G (.mk k nm num ty fr lb ks) cells) (hsl : C0 G p ts.length c 2 es) (hkl : C3 G ts es) (har : ∀ t ∈ ts, E5 t) :
  Fn Tryz.prog 219 [.agg ⟨cells⟩, .slice p ts.length c] [] G (P7 (Y0 cx k nm ty ts) G) := by
 have hone := hr.one
 have hop := A46 hops
 have ha0 := fun h : 0 < ts.length => har _ (List.getElem_mem h)
 have ha1 := fun h : 1 < ts.length => har _ (List.getElem_mem h)
 have ha2 := fun h : 2 < ts.length => har _ (List.getElem_mem h)
 obtain ⟨tk, tks⟩ := ty
 obtain ⟨fk, fks⟩ := fr
 obtain ⟨pt, ct, pf, cf, pk, ck, ek, rfl, hk, hnum, hlb, hrty, hrfr, _, _⟩ := hr.open9
 refine B6 Tryz.func219 rfl Tryz.ntmps219 Tryz.results219 rfl ?_
 intro w0
 refine tS (tR ?_)
 refine sE (E2 rfl rfl) rfl (fun b3 => ?_)
 refine sE (B0 rfl) rfl (fun b4 => ?_)
 refine H9 ?_
 refine B2 (tS (tR (sB (qE rfl rfl) rfl rfl (fun h18 => ?_) (fun h18 => ?_))))
 refine C5 ?_
 (have hl2 : ts.length = 2 := hop.1 (by omega); obtain ⟨b0, o0, q0, d0, hp0, hat0, hre0, hg0⟩ := hsl.kidTy hkl (i := 0) (by omega) (by omega); obtain ⟨b1, o1, q1, d1, hp1, hat1, hre1, hg1⟩ := hsl.kidTy hkl (i := 1) (by omega) (by omega); cases hp0; cases hp1; refine sP (B3 (j := 0) rfl rfl rfl (by omega)) rfl rfl ?_)
 refine sL (A6 rfl rfl (hat0 _) rfl) rfl rfl ?_
 focus (refine M0 rfl (A7f 4 ts[0] G _ (.inl rfl) (ha0 (by omega)) hre0) rfl rfl (fun v G1 hle1 hh => ?_); obtain ⟨ma, mca, mb, mcb, rfl, hma, hmb, hma2, hmb2, hpp⟩ := hh; obtain ⟨p1, c1, e1, rfl, _⟩ := hma.open; obtain ⟨p2, c2, e2, rfl, _⟩ := hmb.open; replace hsl := hsl.mono hle1; replace hkl := hkl.mono hle1; rcases hm : R3 4 ts[0] with _ | pr; rotate_left; obtain rfl := hpp _ hm; rotate_left; all_goals simp only [Option.isSome])
 refine K5 ?_
 refine sE (B0 rfl) rfl (fun b33 => ?_)
 refine sE (B0 rfl) rfl (fun b34 => ?_)
 refine I1 ?_
 refine I1 ?_
 refine sQ (qA rfl) rfl (sD (nS (tS ?_)))
 (have hl2 : ts.length = 2 := hop.1 (by omega); obtain ⟨b0, o0, q0, d0, hp0, hat0, hre0, hg0⟩ := hsl.kidTy hkl (i := 0) (by omega) (by omega); obtain ⟨b1, o1, q1, d1, hp1, hat1, hre1, hg1⟩ := hsl.kidTy hkl (i := 1) (by omega) (by omega); cases hp0; cases hp1; refine D7 D8 rfl ?_)
 refine V5 (i := 0) (l' := [tt,ff,ff,ff,ff,ff,ff,ff,ff,ff,ff]) rfl D3 (A3 rfl rfl) rfl (by kernel_rfl) rfl rfl ?_
 refine aP 1 rfl (qM rfl) rfl ?_
 refine aP 2 rfl (qM rfl) rfl ?_
 refine E0 3 rfl rfl rfl ?_
 refine E0 4 rfl rfl rfl ?_
 refine E0 5 rfl rfl rfl ?_
 refine E0 6 rfl rfl rfl ?_
 refine E0 7 rfl rfl rfl ?_
 refine aP 8 rfl (S2 rfl rfl) rfl ?_
 refine A2 9 ?_
 refine H3 rfl ?_
 refine aP 10 rfl (qA rfl) rfl ?_
 refine B9 (nS (tT (rB (rS ?_))))
 refine K0 (rC rfl (A3 rfl rfl)) (rT rfl) ?_
 (obtain rfl : k = 6 := (by omega); exact P7.no (by rw [B0m (by omega), hm]) hmb hmb2)
 refine K5 ?_
 refine sE (B0 rfl) rfl (fun b65 => ?_)
 refine sE (B0 rfl) rfl (fun b66 => ?_)
 refine I1 ?_
 refine I1 ?_
 refine sQ (qA rfl) rfl (sD (nS (tS ?_)))
 (have hl2 : ts.length = 2 := hop.1 (by omega); obtain ⟨b0, o0, q0, d0, hp0, hat0, hre0, hg0⟩ := hsl.kidTy hkl (i := 0) (by omega) (by omega); obtain ⟨b1, o1, q1, d1, hp1, hat1, hre1, hg1⟩ := hsl.kidTy hkl (i := 1) (by omega) (by omega); cases hp0; cases hp1; refine D7 D8 rfl ?_)
 refine V5 (i := 0) (l' := [tt,ff,ff,ff,ff,ff,ff,ff,ff,ff,ff]) rfl D3 (A3 rfl rfl) rfl (by kernel_rfl) rfl rfl ?_
 refine aP 1 rfl (qM rfl) rfl ?_
 refine aP 2 rfl (qM rfl) rfl ?_
 refine aP 3 rfl (qM rfl) rfl ?_
 refine aP 4 rfl (B3 (j := 1) rfl rfl rfl (by omega)) rfl ?_
 refine aL 5 rfl (A6 rfl rfl (hat1 _) rfl) rfl ?_
 refine aL 6 rfl (A3 rfl rfl) rfl ?_
 refine A2 7 ?_
 refine S4 rfl rfl ((A1U ts[1] ma _ _ _ (ha1 (by omega)) hma2 hre1 hma)) rfl rfl rfl ?_
 refine aP 8 rfl (N4 rfl rfl) rfl ?_
 refine A2 9 ?_
 refine H3 rfl ?_
 refine aP 10 rfl (qA rfl) rfl ?_
 refine B9 (nS (tT (rB (rS ?_))))
 refine K0 (rC rfl (A3 rfl rfl)) (rT rfl) ?_
 (obtain rfl : k = 6 := (by omega); exact P7.mk (by rw [B0m (by omega), hm]) hmb hmb2)
 refine sQ (qA rfl) rfl (sD (nS (cF rfl (tS (tR ?_)))))
 refine sB (qE rfl rfl) rfl rfl (fun h100 => ?_) (fun h100 => ?_)
 refine sQ (qA rfl) rfl (sD (nS (qT rfl (tS ?_))))
 (have hl2 : ts.length = 2 := hop.1 (by omega); obtain ⟨b0, o0, q0, d0, hp0, hat0, hre0, hg0⟩ := hsl.kidTy hkl (i := 0) (by omega) (by omega); obtain ⟨b1, o1, q1, d1, hp1, hat1, hre1, hg1⟩ := hsl.kidTy hkl (i := 1) (by omega) (by omega); cases hp0; cases hp1; refine D7 D8 rfl ?_)
 refine H4 (i := 1) (l' := [ff,tt,ff,ff,ff,ff,ff,ff,ff,ff,ff,ff,ff,ff,ff]) rfl D3 (qM rfl) rfl (by kernel_rfl) rfl rfl ?_
 refine aP 2 rfl (B3 (j := 0) rfl rfl rfl (by omega)) rfl ?_
 refine aL 3 rfl (A6 rfl rfl (hat0 _) rfl) rfl ?_
 refine A2 0 ?_
 refine S4 rfl rfl ((A1q _)) rfl rfl rfl ?_
 refine A2 4 ?_
 refine S4 rfl rfl ((A1q _)) rfl rfl rfl ?_
 refine A2 5 ?_
 refine W2 rfl rfl ((A1U ts[0] (.mk 2 []) _ _ _ (ha0 (by omega)) (V1 (by decide) (by decide)) hre0 (N8 _ ⟨by omega, by omega⟩))) rfl rfl rfl (fun h115 => ?_) (fun h115 => ?_)
 refine aP 6 rfl (qM rfl) rfl ?_
 refine aP 7 rfl (qM rfl) rfl ?_
 refine aP 8 rfl (B3 (j := 1) rfl rfl rfl (by omega)) rfl ?_
 refine aL 9 rfl (A6 rfl rfl (hat1 _) rfl) rfl ?_
 refine A2 10 ?_
 refine S4 rfl rfl ((A1q _)) rfl rfl rfl ?_
 refine A2 11 ?_
 refine S4 rfl rfl ((A1U ts[1] (.mk 2 []) _ _ _ (ha1 (by omega)) (V1 (by decide) (by decide)) hre1 (N8 _ ⟨by omega, by omega⟩))) rfl rfl rfl ?_
 refine aP 12 rfl (N4 rfl rfl) rfl ?_
 refine A2 13 ?_
 refine H3 rfl ?_
 refine aP 14 rfl (qA rfl) rfl ?_
 refine B9 (nS (tT (rB (rS ?_))))
 refine K0 (rC rfl (A3 rfl rfl)) (rT rfl) ?_
 (have hk7 : k = 7 := (by omega); exact P7.mk (by rw [A5t (.inl hk7) (by omega)]; simp_all [T7]) (N8 _ ⟨by omega, by omega⟩) (V1 (by omega) (by omega)))
 refine aP 6 rfl (qM rfl) rfl ?_
 refine E0 7 rfl rfl rfl ?_
 refine E0 8 rfl rfl rfl ?_
 refine E0 9 rfl rfl rfl ?_
 refine E0 10 rfl rfl rfl ?_
 refine E0 11 rfl rfl rfl ?_
 refine aP 12 rfl (S2 rfl rfl) rfl ?_
 refine A2 13 ?_
 refine H3 rfl ?_
 refine aP 14 rfl (qA rfl) rfl ?_
 refine B9 (nS (tT (rB (rS ?_))))
 refine K0 (rC rfl (A3 rfl rfl)) (rT rfl) ?_
 (have hk7 : k = 7 := (by omega); exact P7.mk (by rw [A5t (.inl hk7) (by omega)]; simp_all [T7]) (N8 _ ⟨by omega, by omega⟩) (V1 (by omega) (by omega)))
 refine sQ (qA rfl) rfl (sD (nS (cF rfl (tS (tR ?_)))))
 refine sB (qE rfl rfl) rfl rfl (fun h158 => ?_) (fun h158 => ?_)
 refine sQ (qA rfl) rfl (sD (nS (qT rfl (tS ?_))))
 (have hl2 : ts.length = 2 := hop.1 (by omega); obtain ⟨b0, o0, q0, d0, hp0, hat0, hre0, hg0⟩ := hsl.kidTy hkl (i := 0) (by omega) (by omega); obtain ⟨b1, o1, q1, d1, hp1, hat1, hre1, hg1⟩ := hsl.kidTy hkl (i := 1) (by omega) (by omega); cases hp0; cases hp1; refine D7 D8 rfl ?_)
 refine H4 (i := 1) (l' := [ff,tt,ff,ff,ff,ff,ff,ff,ff,ff,ff,ff,ff,ff,ff]) rfl D3 (qM rfl) rfl (by kernel_rfl) rfl rfl ?_
 refine aP 2 rfl (B3 (j := 0) rfl rfl rfl (by omega)) rfl ?_
 refine aL 3 rfl (A6 rfl rfl (hat0 _) rfl) rfl ?_
 refine A2 0 ?_
 refine S4 rfl rfl ((A34 _)) rfl rfl rfl ?_
 refine A2 4 ?_
 refine S4 rfl rfl ((A1q _)) rfl rfl rfl ?_
 refine A2 5 ?_
 refine W2 rfl rfl ((A1U ts[0] (.mk 2 []) _ _ _ (ha0 (by omega)) (V1 (by decide) (by decide)) hre0 (N8 _ ⟨by omega, by omega⟩))) rfl rfl rfl (fun h173 => ?_) (fun h173 => ?_)
 refine aP 6 rfl (qM rfl) rfl ?_
 refine aP 7 rfl (qM rfl) rfl ?_
 refine aP 8 rfl (B3 (j := 1) rfl rfl rfl (by omega)) rfl ?_
 refine aL 9 rfl (A6 rfl rfl (hat1 _) rfl) rfl ?_
 refine A2 10 ?_
 refine S4 rfl rfl ((A1q _)) rfl rfl rfl ?_
 refine A2 11 ?_
 refine S4 rfl rfl ((A1U ts[1] (.mk 2 []) _ _ _ (ha1 (by omega)) (V1 (by decide) (by decide)) hre1 (N8 _ ⟨by omega, by omega⟩))) rfl rfl rfl ?_
 refine aP 12 rfl (N4 rfl rfl) rfl ?_
 refine A2 13 ?_
 refine H3 rfl ?_
 refine aP 14 rfl (qA rfl) rfl ?_
 refine B9 (nS (tT (rB (rS ?_))))
 refine K0 (rC rfl (A3 rfl rfl)) (rT rfl) ?_
 (have hk8 : k = 8 := (by omega); exact P7.mk (by rw [A5t (.inr hk8) (by omega)]; simp_all [T7, Y7]) (N8 _ ⟨by omega, by omega⟩) (V1 (by omega) (by omega)))
 refine aP 6 rfl (qM rfl) rfl ?_
 refine E0 7 rfl rfl rfl ?_
 refine E0 8 rfl rfl rfl ?_
 refine E0 9 rfl rfl rfl ?_
 refine E0 10 rfl rfl rfl ?_
 refine E0 11 rfl rfl rfl ?_
 refine aP 12 rfl (S2 rfl rfl) rfl ?_
 refine A2 13 ?_
 refine H3 rfl ?_
 refine aP 14 rfl (qA rfl) rfl ?_
 refine B9 (nS (tT (rB (rS ?_))))
 refine K0 (rC rfl (A3 rfl rfl)) (rT rfl) ?_
 (have hk8 : k = 8 := (by omega); exact P7.mk (by rw [A5t (.inr hk8) (by omega)]; simp_all [T7, Y7]) (N8 _ ⟨by omega, by omega⟩) (V1 (by omega) (by omega)))
 refine sQ (qA rfl) rfl (sD (nS (cF rfl (tS (tR ?_)))))
 refine sB (qE rfl rfl) rfl rfl (fun h216 => ?_) (fun h216 => ?_)
 refine sQ (qA rfl) rfl (sD (nS (qT rfl (tS (tS ?_)))))
 (have hl3 : ts.length = 3 := hop.2.1 (by omega); obtain ⟨b0, o0, q0, d0, hp0, hat0, hre0, hg0⟩ := hsl.kidTy hkl (i := 0) (by omega) (by omega); obtain ⟨b1, o1, q1, d1, hp1, hat1, hre1, hg1⟩ := hsl.kidTy hkl (i := 1) (by omega) (by omega); obtain ⟨b2, o2, q2, d2, hp2, hat2, hre2, hg2⟩ := hsl.kidTy hkl (i := 2) (by omega) (by omega); cases hp0; cases hp1; cases hp2; refine D7 D8 rfl ?_)
 refine H4 (i := 0) (l' := [tt,ff,ff,ff,ff,ff,ff,ff]) rfl D3 (qM rfl) rfl (by kernel_rfl) rfl rfl ?_
 refine aP 1 rfl (B3 (j := 1) rfl rfl rfl (by omega)) rfl ?_
 refine aL 2 rfl (A6 rfl rfl (hat1 _) rfl) rfl ?_
 refine aP 3 rfl (qM rfl) rfl ?_
 refine aP 4 rfl (B3 (j := 2) rfl rfl rfl (by omega)) rfl ?_
 refine aL 5 rfl (A6 rfl rfl (hat2 _) rfl) rfl ?_
 refine A2 6 ?_
 refine W2 rfl rfl ((A1U ts[1] ts[2] _ _ _ (ha1 (by omega)) (ha2 (by omega)) hre1 hre2)) rfl rfl rfl (fun h231 => ?_) (fun h231 => ?_)
 refine aP 7 rfl (pNt rfl) rfl ?_
 refine B9 (nS (cF rfl (tK (nS (tS ?_)))))
 (have hl3 : ts.length = 3 := hop.2.1 (by omega); obtain ⟨b0, o0, q0, d0, hp0, hat0, hre0, hg0⟩ := hsl.kidTy hkl (i := 0) (by omega) (by omega); obtain ⟨b1, o1, q1, d1, hp1, hat1, hre1, hg1⟩ := hsl.kidTy hkl (i := 1) (by omega) (by omega); obtain ⟨b2, o2, q2, d2, hp2, hat2, hre2, hg2⟩ := hsl.kidTy hkl (i := 2) (by omega) (by omega); cases hp0; cases hp1; cases hp2; refine D7 D8 rfl ?_)
 refine H4 (i := 0) (l' := [tt,ff,ff,ff,ff,ff,ff,ff,ff,ff,ff,ff,ff,ff]) rfl D3 (qM rfl) rfl (by kernel_rfl) rfl rfl ?_
 refine aP 1 rfl (B3 (j := 1) rfl rfl rfl (by omega)) rfl ?_
 refine aL 2 rfl (A6 rfl rfl (hat1 _) rfl) rfl ?_
 refine aP 3 rfl (qM rfl) rfl ?_
 refine aP 4 rfl (B3 (j := 2) rfl rfl rfl (by omega)) rfl ?_
 refine aL 5 rfl (A6 rfl rfl (hat2 _) rfl) rfl ?_
 refine aP 7 rfl (qM rfl) rfl ?_
 refine aP 8 rfl (B3 (j := 0) rfl rfl rfl (by omega)) rfl ?_
 refine aL 9 rfl (A6 rfl rfl (hat0 _) rfl) rfl ?_
 refine A2 6 ?_
 (refine P2 rfl rfl (B5D ts[1] ts[2] G _ _ (by assumption) (ha1 (by omega)) (ha2 (by omega)) hre1 hre2) rfl rfl rfl (fun v G1 hle1 hh => ?_); obtain ⟨mc, rfl, hmr⟩ := hh; obtain ⟨mt, hmt⟩ : ∃ mt, V2 ts[1] ts[2] = mt := ⟨_, rfl⟩; rw [hmt] at hmr; have hma : E5 mt := (hmt ▸ B5G ts[1] ts[2] (by assumption) (ha1 (by omega)) (ha2 (by omega))); obtain ⟨p1, c1, e1, rfl, _⟩ := hmr.open; have hre0q := hre0.mono hle1)
 refine A2 10 ?_
 refine S4 rfl rfl ((A34 _)) rfl rfl rfl ?_
 refine A2 11 ?_
 refine S4 rfl rfl ((A1U ts[0] (.mk 3 []) _ _ _ (ha0 (by omega)) (V1 (by decide) (by decide)) hre0q (N8 _ ⟨by omega, by omega⟩))) rfl rfl rfl ?_
 refine A2 12 ?_
 refine H3 rfl ?_
 refine aP 13 rfl (qA rfl) rfl ?_
 refine B9 (nS (tT (rB (rS ?_))))
 refine K0 (rC rfl (A3 rfl rfl)) (rT rfl) ?_
 (obtain rfl : k = 9 := (by omega); exact P7.mk (by rw [B0n (by omega), hmt]; simp_all [Y7]) hmr hma)
 refine aP 7 rfl (pNf rfl) rfl ?_
 refine M5 ?_
 refine K0 (rC rfl (A3 rfl rfl)) (rT rfl) ?_
 (obtain rfl : k = 9 := (by omega); exact P7.no (by rw [B0n (by omega)]; simp_all) (N8 _ ⟨by omega, by omega⟩) (V1 (by omega) (by omega)))
 refine sQ (qA rfl) rfl (sD (nS (cF rfl (tS (tR ?_)))))
 refine sB (qE rfl rfl) rfl rfl (fun h288 => ?_) (fun h288 => ?_)
 refine sQ (qA rfl) rfl (sD (nS (qT rfl (tS ?_))))
 (have hl2 : ts.length = 2 := hop.1 (by omega); obtain ⟨b0, o0, q0, d0, hp0, hat0, hre0, hg0⟩ := hsl.kidTy hkl (i := 0) (by omega) (by omega); obtain ⟨b1, o1, q1, d1, hp1, hat1, hre1, hg1⟩ := hsl.kidTy hkl (i := 1) (by omega) (by omega); cases hp0; cases hp1; refine D7 D8 rfl ?_)
 refine H4 (i := 0) (l' := [tt,ff,ff,ff,ff,ff,ff,ff,ff,ff,ff]) rfl D3 (qM rfl) rfl (by kernel_rfl) rfl rfl ?_
 refine aP 1 rfl (B3 (j := 0) rfl rfl rfl (by omega)) rfl ?_
 refine aL 2 rfl (A6 rfl rfl (hat0 _) rfl) rfl ?_
 refine aP 3 rfl (qM rfl) rfl ?_
 refine aP 4 rfl (B3 (j := 1) rfl rfl rfl (by omega)) rfl ?_
 refine aL 5 rfl (A6 rfl rfl (hat1 _) rfl) rfl ?_
 refine A2 6 ?_
 (refine P2 rfl rfl (A5r 5 ts[0] ts[1] G _ _ (.inr rfl) (ha0 (by omega)) (ha1 (by omega)) hre0 hre1) rfl rfl rfl (fun v G1 hle1 hh => ?_); obtain ⟨mc, rfl, hmr⟩ := hh; have hma := A45 (.inr rfl) (ha0 (by omega)) (ha1 (by omega)); obtain ⟨p1, c1, e1, rfl, _⟩ := hmr.open)
 refine aP 7 rfl (pX rfl rfl) rfl ?_
 refine aP 8 rfl (pX rfl rfl) rfl ?_
 refine A2 9 ?_
 refine H3 rfl ?_
 refine aP 10 rfl (qA rfl) rfl ?_
 refine B9 (nS (tT (rB (rS ?_))))
 refine K0 (rC rfl (A3 rfl rfl)) (rT rfl) ?_
 (obtain rfl : k = 10 := (by omega); exact P7.mk (by rw [B5E (by omega)]) hmr hma)
 refine sQ (qA rfl) rfl (sD (nS (cF rfl (tS (tR ?_)))))
 refine sB (qE rfl rfl) rfl rfl (fun h321 => ?_) (fun h321 => ?_)
 refine C5 ?_
 (have hl1 : ts.length = 1 := hop.2.2 (by omega); obtain ⟨b0, o0, q0, d0, hp0, hat0, hre0, hg0⟩ := hsl.kidTy hkl (i := 0) (by omega) (by omega); cases hp0; refine sP (B3 (j := 0) rfl rfl rfl (by omega)) rfl rfl ?_)
 refine sL (A6 rfl rfl (hat0 _) rfl) rfl rfl ?_
 focus (refine M0 rfl (A7f 5 ts[0] G _ (.inr rfl) (ha0 (by omega)) hre0) rfl rfl (fun v G1 hle1 hh => ?_); obtain ⟨ma, mca, mb, mcb, rfl, hma, hmb, hma2, hmb2, hpp⟩ := hh; obtain ⟨p1, c1, e1, rfl, _⟩ := hma.open; obtain ⟨p2, c2, e2, rfl, _⟩ := hmb.open; rcases hm : R3 5 ts[0] with _ | pr; rotate_left; obtain rfl := hpp _ hm; rotate_left; all_goals simp only [Option.isSome])
 refine K5 ?_
 refine sE (B0 rfl) rfl (fun b336 => ?_)
 refine sE (B0 rfl) rfl (fun b337 => ?_)
 refine N9 ?_
 refine K0 (rC rfl (A3 rfl rfl)) (rT rfl) ?_
 (have hk11 : k = 11 := (by omega); exact P7.no (by rw [A5u (.inl hk11) (by omega), hm]) hma hma2)
 refine K5 ?_
 refine sE (B0 rfl) rfl (fun b360 => ?_)
 refine sE (B0 rfl) rfl (fun b361 => ?_)
 refine N9 ?_
 refine K0 (rC rfl (A3 rfl rfl)) (rT rfl) ?_
 (have hk11 : k = 11 := (by omega); exact P7.yes (by rw [A5u (.inl hk11) (by omega), hm]; simp only; rw [if_neg (by omega)]) hma hma2)
 refine sQ (qA rfl) rfl (sD (nS (cF rfl (tS (tR ?_)))))
 refine sB (qE rfl rfl) rfl rfl (fun h386 => ?_) (fun h386 => ?_)
 refine C5 ?_
 (have hl1 : ts.length = 1 := hop.2.2 (by omega); obtain ⟨b0, o0, q0, d0, hp0, hat0, hre0, hg0⟩ := hsl.kidTy hkl (i := 0) (by omega) (by omega); cases hp0; refine sP (B3 (j := 0) rfl rfl rfl (by omega)) rfl rfl ?_)
 refine sL (A6 rfl rfl (hat0 _) rfl) rfl rfl ?_
 focus (refine M0 rfl (A7f 5 ts[0] G _ (.inr rfl) (ha0 (by omega)) hre0) rfl rfl (fun v G1 hle1 hh => ?_); obtain ⟨ma, mca, mb, mcb, rfl, hma, hmb, hma2, hmb2, hpp⟩ := hh; obtain ⟨p1, c1, e1, rfl, _⟩ := hma.open; obtain ⟨p2, c2, e2, rfl, _⟩ := hmb.open; rcases hm : R3 5 ts[0] with _ | pr; rotate_left; obtain rfl := hpp _ hm; rotate_left; all_goals simp only [Option.isSome])
 refine K5 ?_
 refine sE (B0 rfl) rfl (fun b401 => ?_)
 refine sE (B0 rfl) rfl (fun b402 => ?_)
 refine N9 ?_
 refine K0 (rC rfl (A3 rfl rfl)) (rT rfl) ?_
 (have hk12 : k = 12 := (by omega); exact P7.no (by rw [A5u (.inr hk12) (by omega), hm]) hmb hmb2)
 refine K5 ?_
 refine sE (B0 rfl) rfl (fun b425 => ?_)
 refine sE (B0 rfl) rfl (fun b426 => ?_)
 refine N9 ?_
 refine K0 (rC rfl (A3 rfl rfl)) (rT rfl) ?_
 (have hk12 : k = 12 := (by omega); exact P7.yes (by rw [A5u (.inr hk12) (by omega), hm]; simp only; rw [if_pos (by omega)]) hmb hmb2)
 refine sQ (qA rfl) rfl (sD (nS (cF rfl (tS (tR ?_)))))
 refine sP (A1i rfl rfl (by omega)) rfl rfl ?_
 refine sQ (qA rfl) rfl (sD (nS (qT rfl (tS ?_))))
 (have hl1 : ts.length = 1 := hop.2.2 (by omega); obtain ⟨b0, o0, q0, d0, hp0, hat0, hre0, hg0⟩ := hsl.kidTy hkl (i := 0) (by omega) (by omega); cases hp0; refine D7 D8 rfl ?_)
 refine H4 (i := 0) (l' := [tt,ff,ff,ff,ff,ff,ff,ff,ff,ff,ff]) rfl D3 (B1 rfl) rfl (by kernel_rfl) rfl rfl ?_
 refine aL 1 rfl (A3 rfl rfl) rfl ?_
 refine aP 3 rfl (qM rfl) rfl ?_
 refine aP 4 rfl (B3 (j := 0) rfl rfl rfl (by omega)) rfl ?_
 refine aL 5 rfl (A6 rfl rfl (hat0 _) rfl) rfl ?_
 refine aP 6 rfl (B1 rfl) rfl ?_
 refine aL 7 rfl (A3 rfl rfl) rfl ?_
 refine A2 2 ?_
 (refine P2 rfl rfl (A0k (.mk tk tks) G _ hty.small hrty) rfl rfl rfl (fun v G1 hle1 hh => ?_); obtain ⟨Y3, F1, rfl, hs1, hn1⟩ := hh; obtain ⟨p1, c1, rfl, _⟩ := hs1.open; have hmr := hs1.R.mono (B7.le G1 G); have hre0q := hre0.mono hle1; have hrtyq := hrty.mono hle1)
 refine A2 8 ?_
 refine S4 rfl rfl ((A1U ts[0] (.mk tk tks) _ _ _ (ha0 (by omega)) hty hre0q hrtyq)) rfl rfl rfl ?_
 refine A2 9 ?_
 refine H3 rfl ?_
 refine aP 10 rfl (qA rfl) rfl ?_
 refine B9 (nS (tT (rB (rS ?_))))
 refine K0 (rC rfl (A3 rfl rfl)) (rT rfl) ?_
 (obtain rfl : k = 13 := (by omega); exact P7.mk (by rw [B5F (by omega)]) hmr hty)
section
variable {ak bk : Int} {aks bks : List Ty}
end
theorem B5I (G : IM) (cx : Cx) (p : Option Addr) (n c : Nat) (nm : ByteArray) (t : Ty) (cells : List Value) (hx : U4 G cx p n c) (hn : n ≤ 1000) (hr : A8 G t cells) :
  Fn Tryz.prog 195 [.slice p n c, .string nm, .agg ⟨cells⟩] [] G (I8 fun G' v => ∃ p' c', v = .slice p' (n + 1) c' ∧ U4 G' (cx ++ [(nm, t)]) p' (n + 1) c') := by
 obtain ⟨k, ks⟩ := t
 obtain ⟨q, d, es0, rfl, _⟩ := hr.open
 simp only [Ty.k, Ty.ks] at hr ⊢
 obtain ⟨hx1, es, h2, h3⟩ := id hx
 have hSl : Sl G p n c 3 es.flatten := h2.1
 have h1c : ∀ u ∈ es.flatten, u.oneCell' = true := by
  intro u hu
  obtain ⟨e, he, hue⟩ := List.mem_flatten.1 hu
  exact List.all_eq_true.1 (h2.one e he) u hue
 refine B6 Tryz.func195 rfl Tryz.ntmps195 Tryz.results195 rfl ?_
 intro w0
 refine tS (tR ?_)
 refine sE (E2 rfl rfl) rfl (fun b3 => ?_)
 refine sQ (qA rfl) rfl (sD (nS (tS ?_)))
 refine D7 D8 rfl ?_
 refine H4 (i := 1) (l' := [ff,tt,ff,ff,ff,ff,ff,ff,ff]) rfl D3 (qM rfl) rfl (by kernel_rfl) rfl rfl ?_
 refine aP 3 rfl (qM rfl) rfl ?_
 refine aL 4 rfl (A3 rfl rfl) rfl ?_
 refine aP 5 rfl (R6 rfl rfl) rfl ?_
 refine U7 (j := 0) (j' := 6) (by kernel_rfl) ?_ ?_
 (refine D6 rfl (B4 rfl rfl rfl (by omega) (by unfold maxLen; omega) rfl) rfl rfl ?_; rintro _ ⟨b14, rfl⟩)
 refine U7 (j := 2) (j' := 6) (by kernel_rfl) ?_ ?_
 (refine A29 rfl rfl rfl rfl rfl rfl (fun _ _ => by repeat (first | exact Sw.here | apply Sw.there)) hSl h1c (Nat.zero_le _) (by unfold maxLen; omega) (by omega) rfl rfl (by repeat (first | exact A4.nil | apply A4.dep (by decide +kernel) | apply A4.blk (by decide +kernel) (by repeat (first | exact Pk.here | apply Pk.there)) (by repeat first | exact mH | apply mT))) (fun p4 c4 => ?_); simp only [Nat.zero_add, List.nil_append])
 refine A2 6 ?_
 (refine D6 rfl (B4 rfl rfl rfl (by omega) (by unfold maxLen; omega) rfl) rfl rfl ?_; rintro _ ⟨b18, rfl⟩)
 refine A2 7 ?_
 (refine Q9 rfl rfl rfl rfl rfl rfl (fun _ _ => by repeat (first | exact Sw.here | apply Sw.there)) (J9 (by repeat first | exact mH | apply mT)) rfl (by simp [Value.oneCell']) (by unfold maxLen; omega) (by omega) rfl rfl (by repeat (first | exact A4.nil | apply A4.dep (by decide +kernel) | apply A4.blk (by decide +kernel) (by repeat (first | exact Pk.here | apply Pk.there)) (by repeat first | exact mH | apply mT))) (fun p5 c5 => ?_))
 refine aP 8 rfl (qA rfl) rfl ?_
 refine B9 (nS ?_)
 (refine I5 (cs := es.flatten ++ [.string nm, .int .i64 k, .slice q ks.length d]) (by repeat (first | exact Pk.here | apply Pk.there)) (fun G5 hle5 hsl5 hno5 => ?_))
 refine tT (I6 (rT rfl) ?_)
 (exact ⟨rfl, _, _, rfl, U4.snoc (nm := nm) (t := .mk k ks) hx1 h2.len h2.all h2.one h3 hle5 ⟨_, _, rfl, hr.mono hle5⟩ hsl5⟩)
 (refine D6 rfl (B4 rfl rfl rfl (by omega) (by unfold maxLen; omega) rfl) rfl rfl ?_; rintro _ ⟨b28, rfl⟩)
 refine A2 2 ?_
 (refine A29 rfl rfl rfl rfl rfl rfl (fun _ _ => by repeat (first | exact Sw.here | apply Sw.there)) hSl h1c (Nat.zero_le _) (by unfold maxLen; omega) (by omega) rfl rfl (by repeat (first | exact A4.nil | apply A4.dep (by decide +kernel) | apply A4.blk (by decide +kernel) (by repeat (first | exact Pk.here | apply Pk.there)) (by repeat first | exact mH | apply mT))) (fun p4 c4 => ?_); simp only [Nat.zero_add, List.nil_append])
 refine A2 7 ?_
 (refine Q9 rfl rfl rfl rfl rfl rfl (fun _ _ => by repeat (first | exact Sw.here | apply Sw.there)) (J9 (by repeat first | exact mH | apply mT)) rfl (by simp [Value.oneCell']) (by unfold maxLen; omega) (by omega) rfl rfl (by repeat (first | exact A4.nil | apply A4.dep (by decide +kernel) | apply A4.blk (by decide +kernel) (by repeat (first | exact Pk.here | apply Pk.there)) (by repeat first | exact mH | apply mT))) (fun p5 c5 => ?_))
 refine aP 8 rfl (qA rfl) rfl ?_
 refine B9 (nS ?_)
 (refine I5 (cs := es.flatten ++ [.string nm, .int .i64 k, .slice q ks.length d]) (by repeat (first | exact Pk.here | apply Pk.there)) (fun G5 hle5 hsl5 hno5 => ?_))
 refine tT (I6 (rT rfl) ?_)
 (exact ⟨rfl, _, _, rfl, U4.snoc (nm := nm) (t := .mk k ks) hx1 h2.len h2.all h2.one h3 hle5 ⟨_, _, rfl, hr.mono hle5⟩ hsl5⟩)
 (refine D6 rfl (B4 rfl rfl rfl (by omega) (by unfold maxLen; omega) rfl) rfl rfl ?_; rintro _ ⟨b40, rfl⟩)
 refine A2 0 ?_
 (refine D6 rfl (B4 rfl rfl rfl (by omega) (by unfold maxLen; omega) rfl) rfl rfl ?_; rintro _ ⟨b42, rfl⟩)
 refine A2 2 ?_
 (refine A29 rfl rfl rfl rfl rfl rfl (fun _ _ => by repeat (first | exact Sw.here | apply Sw.there)) hSl h1c (Nat.zero_le _) (by unfold maxLen; omega) (by omega) rfl rfl (by repeat (first | exact A4.nil | apply A4.dep (by decide +kernel) | apply A4.blk (by decide +kernel) (by repeat (first | exact Pk.here | apply Pk.there)) (by repeat first | exact mH | apply mT))) (fun p4 c4 => ?_); simp only [Nat.zero_add, List.nil_append])
 refine A2 7 ?_
 (refine Q9 rfl rfl rfl rfl rfl rfl (fun _ _ => by repeat (first | exact Sw.here | apply Sw.there)) (J9 (by repeat first | exact mH | apply mT)) rfl (by simp [Value.oneCell']) (by unfold maxLen; omega) (by omega) rfl rfl (by repeat (first | exact A4.nil | apply A4.dep (by decide +kernel) | apply A4.blk (by decide +kernel) (by repeat (first | exact Pk.here | apply Pk.there)) (by repeat first | exact mH | apply mT))) (fun p5 c5 => ?_))
 refine aP 8 rfl (qA rfl) rfl ?_
 refine B9 (nS ?_)
 (refine I5 (cs := es.flatten ++ [.string nm, .int .i64 k, .slice q ks.length d]) (by repeat (first | exact Pk.here | apply Pk.there)) (fun G5 hle5 hsl5 hno5 => ?_))
 refine tT (I6 (rT rfl) ?_)
 (exact ⟨rfl, _, _, rfl, U4.snoc (nm := nm) (t := .mk k ks) hx1 h2.len h2.all h2.one h3 hle5 ⟨_, _, rfl, hr.mono hle5⟩ hsl5⟩)
theorem B0o {cx : Cx} : ∀ {ks : List Tm} {i : Nat} {us : List Ty} {u : Ty} (hi : i < ks.length), X1 cx (ks.take i) = some us → Q3 cx ks[i] = some u → X1 cx (ks.take (i + 1)) = some (us ++ [u])
 | [], i, us, u, hi, _, _ => by simp at hi
 | t :: ts, 0, us, u, _, h1, h2 => by
  simp only [List.take_zero, X1, Option.some.injEq] at h1
  subst h1
  simp only [List.getElem_cons_zero] at h2
  simp [X1, h2]
 | t :: ts, i + 1, us, u, hi, h1, h2 => by
  simp only [List.take_succ_cons, X1] at h1 ⊢
  split at h1
  ·cases h1
  ·rename_i a ha
   split at h1
   ·cases h1
   ·rename_i bs has
    simp only [Option.some.injEq] at h1
    subst h1
    simp only [List.getElem_cons_succ] at h2
    have := B0o (ks := ts) (i := i) (by simpa using hi) has h2
    simp only [this, List.cons_append]
theorem B0p {cx : Cx} : ∀ {ks : List Tm} {i : Nat} (hi : i < ks.length), Q3 cx ks[i] = none → X1 cx ks = none
 | [], i, hi, _ => by simp at hi
 | t :: ts, 0, _, h => by simp only [List.getElem_cons_zero] at h; rw [X1, h]
 | t :: ts, i + 1, hi, h => by
  simp only [List.getElem_cons_succ] at h
  have := B0p (ks := ts) (i := i) (by simpa using hi) h
  rw [X1, this]
  cases Q3 cx t <;> rfl
section
variable {cx : Cx} {k : Int} {nm : ByteArray} {num : Int} {ty fr : Ty} {lb : Int} {ks : List Tm}
theorem B5J (hk : k = 1) (h0 : ks = []) : Q3 cx (.mk k nm num ty fr lb ks) = W5 cx nm := by
 subst hk h0
 rw [Q3, X1]
 simp only [Y0, mW1]
 cases W5 cx nm with
 | none => rfl
 | some t => simp
theorem B5K (hk : k = 2) (h0 : ks = []) : Q3 cx (.mk k nm num ty fr lb ks) = some T7 := by subst hk h0; rfl
theorem B5L (hk : k = 3 ∨ k = 4) (h0 : ks = []) : Q3 cx (.mk k nm num ty fr lb ks) = some Y7 := by subst h0; rcases hk with rfl | rfl <;> rfl
theorem B5M {b : Tm} (hk : k = 5) (h : Q3 (cx ++ [(nm, ty)]) b = none) : Q3 cx (.mk k nm num ty fr lb [b]) = none := by
 subst hk; rw [Q3, O8, if_pos rfl, X1, h]
theorem B5N {b : Tm} {t : Ty} (hk : k = 5) (h : Q3 (cx ++ [(nm, ty)]) b = some t) : Q3 cx (.mk k nm num ty fr lb [b]) = if E4 (.mk 4 [ty, t]) = true then some (.mk 4 [ty, t]) else none := by
 subst hk
 rw [Q3, O8, if_pos rfl, X1, h]
 simp only [X1, Y0, mW5, List.getD_cons_zero]
 cases E4 (.mk 4 [ty, t]) <;> simp
theorem B5O (hk : k ≠ 5) (h : X1 cx ks = none) : Q3 cx (.mk k nm num ty fr lb ks) = none := by rw [Q3, O8, if_neg hk, h]
theorem B5P {ts : List Ty} (hk : k ≠ 5) (h : X1 cx ks = some ts) : Q3 cx (.mk k nm num ty fr lb ks) = Y0 cx k nm ty ts := by rw [Q3, O8, if_neg hk, h]
end
theorem B5Q : ∀ (e : Tm) (d : Int) (cx : Cx) (G : IM) (p : Option Addr) (n c : Nat) (cells : List Value), I9 12 14 e d = true → (n : Int) ≤ d → Y9 cx → U4 G cx p n c → B5 G e cells →
  Fn Tryz.prog 198 [.slice p n c, .agg ⟨cells⟩] [] G (P7 (Q3 cx e) G) := by
 refine Tm.ind fun k nm num ty fr lb ks ih d cx G p n c cells hv hnd hcv hx hr => ?_
 have hr0 := hr
 have hone := hr.one
 obtain ⟨hv1, hv2, hv3, hv4⟩ := R8 hv
 have hvk := (A0U 12 14 ks _).1 hv4
 have har := (R7.1 hv3).1
 have hop := A46 har
 obtain ⟨hta, hts⟩ := A6N hv3
 have hkr : 1 ≤ k ∧ k ≤ 14 := A63 (by rw [har]; omega)
 have hcv5 : k = 5 → Y9 (cx ++ [(nm, ty)]) := fun hk => by have := A4c (k := k) (nm := nm) (ty := ty) hcv fun hk => (R7.1 hv3).2.2.2.2.2.1 (.inl hk); rwa [O8, if_pos hk] at this
 have h0 : k ≤ 4 → ks = [] := fun h => List.length_eq_zero_iff.1 (by
  have hk : k = 1 ∨ k = 2 ∨ k = 3 ∨ k = 4 := by omega
  rcases hk with rfl | rfl | rfl | rfl
  ·have : D5 1 = 0 := rfl; omega
  ·have : D5 2 = 0 := rfl; omega
  ·have : D5 3 = 0 := rfl; omega
  ·have : D5 4 = 0 := rfl; omega)
 have f1 := fun hk => @B5J cx k nm num ty fr lb ks hk (h0 (by omega))
 have f2 := fun hk => @B5K cx k nm num ty fr lb ks hk (h0 (by omega))
 have f3 := fun hk => @B5L cx k nm num ty fr lb ks hk (h0 (by omega))
 have f4 : ∀ (hk : k = 5) (hl : 0 < ks.length), Q3 (cx ++ [(nm, ty)]) ks[0] = none → Q3 cx (.mk k nm num ty fr lb ks) = none := fun hk hl h => by
  obtain ⟨b, rfl⟩ := ks1 (hop.2.2 (.inl hk)); exact B5M hk h
 have f5 : ∀ (t : Ty) (hk : k = 5) (hl : 0 < ks.length), Q3 (cx ++ [(nm, ty)]) ks[0] = some t → Q3 cx (.mk k nm num ty fr lb ks) = if E4 (.mk 4 [ty, t]) = true then some (.mk 4 [ty, t]) else none := fun t hk hl h => by
  obtain ⟨b, rfl⟩ := ks1 (hop.2.2 (.inl hk)); exact B5N hk h
 have f6 := @B5O cx k nm num ty fr lb ks
 have f7 := fun ts => @B5P cx k nm num ty fr lb ks ts
 generalize Q3 cx (.mk k nm num ty fr lb ks) = R at f1 f2 f3 f4 f5 f6 f7 ⊢
 obtain ⟨tk, tks⟩ := ty
 obtain ⟨fk, fks⟩ := fr
 obtain ⟨pt, ct, pf, cf, q, cq, es, rfl, hk, hnum, hlb, hty, hfr, hsl, hkl⟩ := hr.open9
 have hlen : ks.length ≤ 3 := by have := A32 k; omega
 refine B6 Tryz.func198 rfl Tryz.ntmps198 Tryz.results198 rfl ?_
 intro w0
 refine tS (tR ?_)
 refine sE (E2 rfl rfl) rfl (fun b3 => ?_)
 refine sE (B0 rfl) rfl (fun b4 => ?_)
 refine H9 ?_
 refine B2 (tS (tR (sB (qE rfl rfl) rfl rfl (fun h18 => ?_) (fun h18 => ?_))))
 refine E8 ?_
 (refine M0 rfl (B5B G cx hcv p n c nm hx) rfl rfl (fun v G1 hle1 hh => ?_); obtain ⟨mt, mc, rfl, hmr, hma, hmu⟩ := hh; obtain ⟨p1, c1, e1, rfl, _⟩ := hmr.open)
 refine E8 ?_
 refine K0 (rC rfl (A3 rfl rfl)) (rT rfl) ?_
 (rw [f1 (by omega)]; exact ⟨rfl, _, _, rfl, hmr, hma, hmu⟩)
 refine sQ (qA rfl) rfl (sD (nS (cF rfl (tS (tR ?_)))))
 refine sB (qE rfl rfl) rfl rfl (fun h46 => ?_) (fun h46 => ?_)
 refine sQ (qA rfl) rfl (sD (nS (qT rfl (tS (tR ?_)))))
 refine H6 rfl ((A1q _)) rfl rfl ?_
 refine I1 ?_
 refine sQ (qA rfl) rfl (sD (nS (tT (rB (rS ?_)))))
 refine K0 (rC rfl (A3 rfl rfl)) (rT rfl) ?_
 (rw [f2 (by omega)]; exact P7.yes rfl (K1 _) (V1 (by omega) (by omega)))
 refine sQ (qA rfl) rfl (sD (nS (cF rfl (tS (tS (tR ?_))))))
 refine sB (qE rfl rfl) rfl rfl (fun h70 => ?_) (fun h70 => ?_)
 refine E8 ?_
 refine H6 rfl ((A34 _)) rfl rfl ?_
 refine I1 ?_
 refine sQ (qA rfl) rfl (sD (nS (tT (rB (rS ?_)))))
 refine K0 (rC rfl (A3 rfl rfl)) (rT rfl) ?_
 (rw [f3 (by omega)]; exact P7.yes rfl (A0q _) (V1 (by omega) (by omega)))
 refine sQ (qA rfl) rfl (sD (nS (cF rfl (tR ?_))))
 refine sB (qE rfl rfl) rfl rfl (fun h95 => ?_) (fun h95 => ?_)
 refine sQ (qA rfl) rfl (sD (nS (qT rfl (tS (tR ?_)))))
 refine H6 rfl ((A34 _)) rfl rfl ?_
 refine I1 ?_
 refine sQ (qA rfl) rfl (sD (nS (tT (rB (rS ?_)))))
 refine K0 (rC rfl (A3 rfl rfl)) (rT rfl) ?_
 (rw [f3 (by omega)]; exact P7.yes rfl (A0q _) (V1 (by omega) (by omega)))
 refine sQ (qA rfl) rfl (sD (nS (cF rfl (tS (tR ?_)))))
 refine sB (qE rfl rfl) rfl rfl (fun h118 => ?_) (fun h118 => ?_)
 refine sQ (qA rfl) rfl (sD (nS (qT rfl (tS ?_))))
 (have hl1 : ks.length = 1 := hop.2.2 (by omega); obtain ⟨b, o, e, rfl, hl, hat, hre, hgb⟩ := hsl.kidTm hkl (i := 0) (by omega) (by omega); have hMore := B5I G cx p n c nm (.mk tk tks) _ hx (by omega) hty; refine D7 D8 rfl ?_)
 refine H4 (i := 0) (l' := [tt,ff,ff,ff,ff,ff,ff,ff,ff,ff,ff,ff,ff,ff,ff,ff,ff]) rfl D3 (qM rfl) rfl (by kernel_rfl) rfl rfl ?_
 refine aP 1 rfl (B1 rfl) rfl ?_
 refine aL 2 rfl (D4 rfl rfl) rfl ?_
 refine aP 3 rfl (B1 rfl) rfl ?_
 refine aL 4 rfl (A3 rfl rfl) rfl ?_
 refine aP 6 rfl (B1 rfl) rfl ?_
 refine aL 7 rfl (D4 rfl rfl) rfl ?_
 refine aP 8 rfl (B3 (j := 0) rfl rfl rfl (by omega)) rfl ?_
 refine aL 9 rfl (A6 rfl rfl (hat _) hl) rfl ?_
 refine U7 (j := 5) (j' := 14) (by kernel_rfl) ?_ ?_
 (refine P2 rfl rfl hMore rfl rfl rfl (fun v G1 hle1 hh => ?_); obtain ⟨pm, cm, rfl, hxm⟩ := hh; have hreM := hre.mono hle1; have hLam := ih ks[0] (List.getElem_mem (by omega)) (d + 1) _ G1 pm (n + 1) cm _ (hvk 0 (by omega)) (by omega) (hcv5 (by omega)) hxm hreM; have htyM := hty.mono hle1)
 refine U7 (j := 10) (j' := 14) (by kernel_rfl) ?_ ?_
 focus (refine P2 rfl rfl hLam rfl rfl rfl (fun v G2 hle2 hh => ?_); obtain ⟨mt, mc, rfl, hmr, hma, hmu⟩ := hh; obtain ⟨p1, c1, e1, rfl, _⟩ := hmr.open; have htyN := htyM.mono hle2; rcases hE : Q3 (cx ++ [(nm, Ty.mk tk tks)]) ks[0] with _ | mt2; rotate_left; obtain rfl := hmu _ hE; rotate_left; all_goals simp only [Option.isSome])
 refine aP 11 rfl (qM rfl) rfl ?_
 refine aP 12 rfl (pX rfl rfl) rfl ?_
 refine aP 13 rfl (pX rfl rfl) rfl ?_
 refine A2 14 ?_
 (refine D6 rfl (B0 rfl) rfl rfl ?_; rintro _ ⟨b142, rfl⟩)
 refine A2 15 ?_
 refine H3 rfl ?_
 refine aP 16 rfl (qA rfl) rfl ?_
 refine A1m ?_
 refine K0 (rC rfl (A3 rfl rfl)) (rT rfl) ?_
 (rw [f4 (by omega) (by omega) (by first | exact hE | assumption)]; exact P7.no rfl (N8 _ ⟨by omega, by omega⟩) (V1 (by omega) (by omega)))
 refine aP 11 rfl (qM rfl) rfl ?_
 refine aP 12 rfl (pX rfl rfl) rfl ?_
 refine aP 13 rfl (pX rfl rfl) rfl ?_
 refine A2 14 ?_
 (refine D6 rfl (B0 rfl) rfl rfl ?_; rintro _ ⟨b173, rfl⟩)
 refine A2 15 ?_
 refine H3 rfl ?_
 refine aP 16 rfl (qA rfl) rfl ?_
 refine U8 ?_
 (refine M0 rfl (A5r 4 (.mk tk tks) _ _ _ _ (.inl rfl) hta hma htyN hmr) rfl rfl (fun v G3 hle3 hh => ?_); obtain ⟨mc2, rfl, hmr2⟩ := hh; obtain ⟨p2, c2, e2, rfl, _⟩ := hmr2.open)
 refine E8 ?_
 refine K0 (rC rfl (A3 rfl rfl)) (rT rfl) ?_
 (rw [f5 _ (by omega) (by omega) (by first | exact hE | assumption)]; exact P7.mk rfl hmr2 (A45 (.inl rfl) hta hma))
 (refine D6 rfl (B0 rfl) rfl rfl ?_; rintro _ ⟨b206, rfl⟩)
 refine A2 10 ?_
 focus (refine P2 rfl rfl hLam rfl rfl rfl (fun v G2 hle2 hh => ?_); obtain ⟨mt, mc, rfl, hmr, hma, hmu⟩ := hh; obtain ⟨p1, c1, e1, rfl, _⟩ := hmr.open; have htyN := htyM.mono hle2; rcases hE : Q3 (cx ++ [(nm, Ty.mk tk tks)]) ks[0] with _ | mt2; rotate_left; obtain rfl := hmu _ hE; rotate_left; all_goals simp only [Option.isSome])
 refine aP 11 rfl (qM rfl) rfl ?_
 refine aP 12 rfl (pX rfl rfl) rfl ?_
 refine aP 13 rfl (pX rfl rfl) rfl ?_
 refine A2 15 ?_
 refine H3 rfl ?_
 refine aP 16 rfl (qA rfl) rfl ?_
 refine A1m ?_
 refine K0 (rC rfl (A3 rfl rfl)) (rT rfl) ?_
 (rw [f4 (by omega) (by omega) (by first | exact hE | assumption)]; exact P7.no rfl (N8 _ ⟨by omega, by omega⟩) (V1 (by omega) (by omega)))
 refine aP 11 rfl (qM rfl) rfl ?_
 refine aP 12 rfl (pX rfl rfl) rfl ?_
 refine aP 13 rfl (pX rfl rfl) rfl ?_
 refine A2 15 ?_
 refine H3 rfl ?_
 refine aP 16 rfl (qA rfl) rfl ?_
 refine U8 ?_
 (refine M0 rfl (A5r 4 (.mk tk tks) _ _ _ _ (.inl rfl) hta hma htyN hmr) rfl rfl (fun v G3 hle3 hh => ?_); obtain ⟨mc2, rfl, hmr2⟩ := hh; obtain ⟨p2, c2, e2, rfl, _⟩ := hmr2.open)
 refine E8 ?_
 refine K0 (rC rfl (A3 rfl rfl)) (rT rfl) ?_
 (rw [f5 _ (by omega) (by omega) (by first | exact hE | assumption)]; exact P7.mk rfl hmr2 (A45 (.inl rfl) hta hma))
 (refine D6 rfl (B0 rfl) rfl rfl ?_; rintro _ ⟨b273, rfl⟩)
 refine A2 5 ?_
 (refine P2 rfl rfl hMore rfl rfl rfl (fun v G1 hle1 hh => ?_); obtain ⟨pm, cm, rfl, hxm⟩ := hh; have hreM := hre.mono hle1; have hLam := ih ks[0] (List.getElem_mem (by omega)) (d + 1) _ G1 pm (n + 1) cm _ (hvk 0 (by omega)) (by omega) (hcv5 (by omega)) hxm hreM; have htyM := hty.mono hle1)
 refine A2 10 ?_
 focus (refine P2 rfl rfl hLam rfl rfl rfl (fun v G2 hle2 hh => ?_); obtain ⟨mt, mc, rfl, hmr, hma, hmu⟩ := hh; obtain ⟨p1, c1, e1, rfl, _⟩ := hmr.open; have htyN := htyM.mono hle2; rcases hE : Q3 (cx ++ [(nm, Ty.mk tk tks)]) ks[0] with _ | mt2; rotate_left; obtain rfl := hmu _ hE; rotate_left; all_goals simp only [Option.isSome])
 refine aP 11 rfl (qM rfl) rfl ?_
 refine aP 12 rfl (pX rfl rfl) rfl ?_
 refine aP 13 rfl (pX rfl rfl) rfl ?_
 refine A2 15 ?_
 refine H3 rfl ?_
 refine aP 16 rfl (qA rfl) rfl ?_
 refine A1m ?_
 refine K0 (rC rfl (A3 rfl rfl)) (rT rfl) ?_
 (rw [f4 (by omega) (by omega) (by first | exact hE | assumption)]; exact P7.no rfl (N8 _ ⟨by omega, by omega⟩) (V1 (by omega) (by omega)))
 refine aP 11 rfl (qM rfl) rfl ?_
 refine aP 12 rfl (pX rfl rfl) rfl ?_
 refine aP 13 rfl (pX rfl rfl) rfl ?_
 refine A2 15 ?_
 refine H3 rfl ?_
 refine aP 16 rfl (qA rfl) rfl ?_
 refine U8 ?_
 (refine M0 rfl (A5r 4 (.mk tk tks) _ _ _ _ (.inl rfl) hta hma htyN hmr) rfl rfl (fun v G3 hle3 hh => ?_); obtain ⟨mc2, rfl, hmr2⟩ := hh; obtain ⟨p2, c2, e2, rfl, _⟩ := hmr2.open)
 refine E8 ?_
 refine K0 (rC rfl (A3 rfl rfl)) (rT rfl) ?_
 (rw [f5 _ (by omega) (by omega) (by first | exact hE | assumption)]; exact P7.mk rfl hmr2 (A45 (.inl rfl) hta hma))
 refine E8 ?_
 (refine E9 (B4 rfl rfl rfl (by omega) (by unfold maxLen; omega) rfl) rfl ?_; rintro _ ⟨b351, rfl⟩)
 refine E8 ?_
 refine B2 ?_
 (refine J8 (fun (x : Nat × Option Addr × Nat × List Ty × List (List Value) × IM) => ⟨[(9, .int .i64 x.1), (8, .slice x.2.1 x.1 x.2.2.1), (3, .pointer (some ⟨b3, 0, none⟩)), (4, .pointer (some ⟨b4, 0, none⟩)), (0, .slice p n c)], [.slc x.2.1 x.2.2.1 25 2 x.1 x.2.2.2.2.1.flatten, .blk b4 [.int .i64 0, .slice none 0 0], .blk b3 [.int .i64 k, .string nm, .int .i64 num, .int .i64 tk, .slice pt tks.length ct, .int .i64 fk, .slice pf fks.length cf, .int .i64 lb, .slice q ks.length cq]], x.2.2.2.2.2⟩) (fun x => x.1 ≤ ks.length ∧ A7 G x.2.2.2.2.2 ∧ x.2.2.2.1.length = x.1 ∧ C3 x.2.2.2.2.2 x.2.2.2.1 x.2.2.2.2.1 ∧ (∀ u ∈ x.2.2.2.1, E5 u) ∧ X1 cx (ks.take x.1) = some x.2.2.2.1) (fun x => ks.length - x.1) (0, some ⟨b351, 0, none⟩, 0, [], [], G) ?_ ?_ ?_)
 (simp only [E7]; exact C2)
 (exact ⟨by simp, A7.refl _, rfl, by simp [C3], by simp, by simp [X1]⟩)
 (rintro ⟨i, pn, cn, us, es', Gi⟩ ⟨hi, hle, hlu, hst, hau, hsu⟩; simp only [] at hi hle hlu hst hau hsu ⊢; replace hsl := hsl.mono hle; replace hkl := hkl.mono hle; replace hx := hx.mono hle; replace hr0 := hr0.mono hle)
 refine C5 ?_
 refine sB (I7 rfl rfl) rfl rfl (fun h373 => ?_) (fun h373 => ?_)
 refine sD (nS (qT rfl (tK (nS (tS ?_)))))
 refine B2 ?_
 refine N6 ?_
 (obtain ⟨b, o, e, rfl, hl, hat, hre, hgb⟩ := hsl.kidTm hkl (i := i) (by omega) (by omega); refine sP (B3 rfl rfl rfl (by omega)) rfl rfl ?_)
 refine sL (A6 rfl rfl (hat _) hl) rfl rfl ?_
 focus (refine M0 rfl (ih ks[i] (List.getElem_mem (by omega)) (d + 1) cx Gi p n c _ (hvk i (by omega)) (by omega) hcv hx hre) rfl rfl (fun v G2 hle2 hh => ?_); obtain ⟨u, uc, rfl, hru, hua, huu⟩ := hh; obtain ⟨p3, c3, e3, rfl, _⟩ := hru.open; rcases hE : Q3 cx ks[i] with _ | u2; rotate_left; obtain rfl := huu _ hE; rotate_left; all_goals simp only [Option.isSome])
 refine M3 ?_
 refine sE (B0 rfl) rfl (fun b393 => ?_)
 refine A73 ?_
 refine K0 (rC rfl (A3 rfl rfl)) (rT rfl) ?_
 (rw [f6 (by omega) (B0p (by omega) hE)]; exact P7.no rfl (N8 _ ⟨by omega, by omega⟩) (V1 (by omega) (by omega)))
 refine M3 ?_
 refine sE (B0 rfl) rfl (fun b425 => ?_)
 refine U8 ?_
 (refine E9 (B4 rfl rfl rfl (by omega) (by unfold maxLen; omega) rfl) rfl ?_; rintro _ ⟨b443, rfl⟩)
 refine U9 rfl rfl rfl rfl rfl (fun _ _ => by repeat (first | exact Sw.here | apply Sw.there)) (J9 (by repeat first | exact mH | apply mT)) rfl (by simp [Value.oneCell']) (by unfold maxLen; omega) (by omega) rfl (fun pn' cn' => ?_)
 refine N6 ?_
 refine sP (H2 rfl rfl (by omega) (by omega)) rfl rfl ?_
 refine sQ (qA rfl) rfl (sD ?_)
 refine J4 (i + 1, pn', cn', us ++ [u2], es' ++ [[.int .i64 u2.k, .slice p3 u2.ks.length c3]], G2) ?_ ?_ ?_
 (simp only [E7]; exact C2)
 (dsimp only; exact ⟨by omega, hle.trans hle2, by simp [hlu], C3.snoc (hst.mono hle2) hru, A3d hau hua, B0o (by omega) hsu hE⟩)
 (show ks.length - (i + 1) < ks.length - i; omega)
 refine L4 ?_
 (obtain rfl : i = ks.length := (by omega); rw [List.take_length] at hsu; refine S9 (cs := es'.flatten) (by repeat (first | exact Pk.here | apply Pk.there)) (fun G3 hle3 hsl3 hno3 => ?_); have hst3 := hst.mono hle3; have hRes := B5H cx k nm num (.mk tk tks) (.mk fk fks) lb ks us G3 _ pn cn es' (by rw [hlu]; exact har) (by omega) hta (hr0.mono hle3) (by rw [hlu]; exact C0.of hsl3 (by rw [hst3.len, hlu]) hst3.all (fun e he => (hst3.each e he).2)) hst3 hau; rw [hlu] at hRes; refine M0 rfl hRes rfl rfl (fun v G4 hle4 hh => ?_); obtain ⟨mt, mc, rfl, hmr, hma, hmu⟩ := hh; obtain ⟨p1, c1, e1, rfl, _⟩ := hmr.open)
 refine C5 ?_
 refine K0 (rC rfl (A3 rfl rfl)) (rT rfl) ?_
 (rw [f7 us (by omega) hsu]; exact ⟨rfl, _, _, rfl, hmr, hma, hmu⟩)
theorem B5R {e : Tm} (h : O6 e = true) : U5 e = Q3 [] e := by
 have hs := ((A0b e).1 h).1
 obtain ⟨h1, h2⟩ := A4d e 1 [] 0 hs A4b
 unfold U5
 cases hE : L9 [] e 0 with
 | none => rw [A90 h hE, h2 hE]
 | some r =>
  obtain ⟨u, a, l⟩ := r
  rw [A91 h hE, (h1 u a l hE).1]
def A7h (t : Ty) (x : Bool) (G : IM) : IM → Value → List A1 → Prop := I8 fun G' v => ∃ cells, v = .tuple ⟨[.agg ⟨cells⟩, .bool x]⟩ ∧ A8 G' (if x = true then t else A5) cells
theorem B5S (t : Ty) (G : IM) (cells : List Value) (hr : A8 G t cells) : Fn Tryz.prog 197 [.agg ⟨cells⟩, .bool true] [] G (A7h t true G) := by
 obtain ⟨p, c, e, rfl, _⟩ := hr.open
 refine B6 Tryz.func197 rfl Tryz.ntmps197 Tryz.results197 rfl ?_
 intro w0
 refine tS (tR ?_)
 refine sE (E2 rfl rfl) rfl (fun b3 => ?_)
 refine sE (B0 rfl) rfl (fun b4 => ?_)
 refine A1m ?_
 refine K0 (rC rfl (A3 rfl rfl)) (rT rfl) ?_
 (exact ⟨rfl, _, rfl, hr⟩)
theorem B5T (t : Ty) (G : IM) (cells : List Value) (hr : A8 G t cells) : Fn Tryz.prog 197 [.agg ⟨cells⟩, .bool false] [] G (A7h t false G) := by
 obtain ⟨p, c, e, rfl, _⟩ := hr.open
 refine B6 Tryz.func197 rfl Tryz.ntmps197 Tryz.results197 rfl ?_
 intro w0
 refine tS (tR ?_)
 refine sE (E2 rfl rfl) rfl (fun b3 => ?_)
 refine sE (B0 rfl) rfl (fun b4 => ?_)
 refine A1K ?_
 refine K0 (rC rfl (A3 rfl rfl)) (rT rfl) ?_
 (exact ⟨rfl, _, rfl, N8 _ ⟨by omega, by omega⟩⟩)
theorem B5U (t : Ty) (x : Bool) (G : IM) (cells : List Value) (hr : A8 G t cells) : Fn Tryz.prog 197 [.agg ⟨cells⟩, .bool x] [] G (A7h t x G) := by
 cases x
 ·exact B5T t G cells hr
 ·exact B5S t G cells hr
theorem Y8.sure {o : Option Ty} {t : Ty} {G G' : IM} {cells : List Value} (h : ∀ u, o = some u → u = t) (hr : A8 G' (if o.isSome = true then t else A5) cells) : Y8 o G G' (.tuple ⟨[.agg ⟨cells⟩, .bool o.isSome]⟩) [] := by
 cases o with
 | none => exact ⟨rfl, cells, A5, rfl, hr, by simp⟩
 | some u => exact ⟨rfl, cells, t, rfl, hr, fun x hx => by cases hx; exact (h _ rfl).symm⟩
theorem B5V (e : Tm) (G : IM) (cells : List Value) (hcnt : C9 e ≤ 4294967296) (hr : B5 G e cells) :
  Fn Tryz.prog 176 [.slice none 0 0, .agg ⟨cells⟩] [] G (Y8 (U5 e) G) := by
 have hl := hr.len
 have hone := hr.one
 have hw := A4Z e G cells hcnt hr
 have hT := fun h : O6 e = true => B5Q e 1 [] G none 0 0 cells ((A0b e).1 h).1 (by omega) A4b (U4.nil G) hr
 have hts := fun h => @B5R e h
 have hno := @A92 e
 refine B6 Tryz.func176 rfl Tryz.ntmps176 Tryz.results176 rfl ?_
 intro w0
 refine tS (tR ?_)
 refine sE (E2 rfl rfl) rfl (fun b3 => ?_)
 refine sE (B0 rfl) rfl (fun b4 => ?_)
 refine C5 ?_
 refine H6 rfl ((B3N _)) rfl rfl ?_
 refine sQ (pNt rfl) rfl (sQ (qM rfl) rfl ?_)
 refine sL (A6 rfl rfl (H0 (by repeat first | exact mH | apply mT)) (by assumption)) rfl rfl ?_
 refine H8 rfl (hw) rfl rfl (fun h16 => ?_) (fun h16 => ?_)
 refine H9 ?_
 refine sL (A6 rfl rfl (H0 (by repeat first | exact mH | apply mT)) (by assumption)) rfl rfl ?_
 (refine M0 rfl (hT (by assumption)) rfl rfl (fun v G1 hle1 hh => ?_); obtain ⟨mt, mc, rfl, hmr, hma, hmu⟩ := hh; obtain ⟨p1, c1, e1, rfl, _⟩ := hmr.open; have hmo := hts (by assumption))
 refine sQ (pX rfl rfl) rfl (sQ (pX rfl rfl) rfl ?_)
 (refine M0 rfl (B5U mt _ _ _ hmr) rfl rfl (fun v G2 hle2 hh => ?_); obtain ⟨mc2, rfl, hmr2⟩ := hh; obtain ⟨p2, c2, e2, rfl, _⟩ := hmr2.open)
 refine C5 ?_
 refine K0 (rC rfl (A3 rfl rfl)) (rT rfl) ?_
 (rw [hmo]; exact Y8.sure hmu hmr2)
 refine M5 ?_
 refine K0 (rC rfl (A3 rfl rfl)) (rT rfl) ?_
 (exact Y8.no (u := A5) (N8 _ ⟨by omega, by omega⟩) rfl (hno (by assumption)))
theorem B5W (e : Tm) (G : IM) (cells : List Value) (hcnt : C9 e ≤ 4294967296) (hr : B5 G e cells) :
  Fn Tryz.prog 112 [.agg ⟨cells⟩] [] G (Y8 (U5 e) G) := by
 have hl := hr.len
 have hone := hr.one
 refine B6 Tryz.func112 rfl Tryz.ntmps112 Tryz.results112 rfl ?_
 intro w0
 refine tS (tR ?_)
 refine sE (E2 rfl rfl) rfl (fun b3 => ?_)
 refine sE (B0 rfl) rfl (fun b4 => ?_)
 refine sQ (qA rfl) rfl (sD (nS (tS (tR ?_))))
 refine sL (A6 rfl rfl (H0 (by repeat first | exact mH | apply mT)) (by assumption)) rfl rfl ?_
 (refine M0 rfl (B5V e G cells hcnt hr) rfl rfl (fun v G1 hle1 hh => ?_); obtain ⟨cu, u, rfl, hru, hu⟩ := hh; obtain ⟨p1, c1, e1, rfl, _⟩ := hru.open)
 refine C5 ?_
 refine K0 (rC rfl (A3 rfl rfl)) (rT rfl) ?_
 (exact ⟨rfl, _, u, rfl, hru, hu⟩)
def B8a (e : Tm) (a b : Ty) (l : Int) : IM → Value → List A1 → Prop := I8 fun G' v => ∃ cells, v = .tuple ⟨[.agg ⟨cells⟩, .int .i64 (if Q2 a b = true then l else l + 1)]⟩ ∧ B5 G' (if Q2 a b = true then e else R4 e a b l) cells
def B8b (w ts : List Ty) : List Ty := if w = [] then ts else w
def B8c (ws : List Ty) (n : Nat) (G : IM) : IM → Value → List A1 → Prop := I8 fun G' v => ∃ p c es, v = .slice p n c ∧ ws.length = n ∧ C0 G' p n c 2 es ∧ C3 G' ws es
section
variable {cx : Cx} {k : Int} {nm : ByteArray} {ty : Ty} {ts w : List Ty} {t : Ty}
end
def B8d (u : Tm) (t : Ty) (l : Int) (G : IM) : IM → Value → List A1 → Prop := I8 fun G' v => ∃ cu ct, v = .tuple ⟨[.agg ⟨cu⟩, .agg ⟨ct⟩, .int .i64 (l + 1)]⟩ ∧ B5 G' u cu ∧ A8 G' t ct
def B5X (t : Tm) : List Ty := if O6 t = true then V3 t else []
def B8e (u : Tm) (n : Int) : IM → Value → List A1 → Prop := fun G' v outs => outs = [] ∧ ∃ cu, v = .tuple ⟨[.agg ⟨cu⟩, .int .i64 n]⟩ ∧ B5 G' u cu
def B8f (t : Tm) (L : List Ty) : Option Tm := if O6 t = true ∧ (B5X t).length = L.length ∧ ∀ u ∈ L, E4 u = true then some (A7d t L) else none
def TmB (o : Option Tm) : IM → Value → List A1 → Prop := I8 fun G' v => ∃ cu, v = .tuple ⟨[.agg ⟨cu⟩, .bool o.isSome]⟩ ∧ B5 G' (o.getD I2) cu
theorem B0q {e : Tm} (h : (U5 e).isSome = true) : O6 e = true := by
 unfold U5 X6 at h
 split at h
 ·rename_i u t hx
  split at hx
  ·assumption
  ·cases hx
 ·cases h
mutual
theorem B0r : ∀ (t : Tm) (d : Int), I9 12 14 t d = true → t.small
 | .mk k nm num ty fr lb ks, d, h => by
  obtain ⟨_, h2, h3, h4⟩ := R8 h
  obtain ⟨n1, n2, n3, n4, n5, n6, n7, n8, n9⟩ := R7.1 h3
  rw [Tm.small]
  refine ⟨by have := A6L h3; omega, (A6N h3).1.small, by rw [A3c (n9 h2).1]; exact B4j, ?_, B0s ks _ h4⟩
  have := A32 k; omega
theorem B0s : ∀ (ts : List Tm) (d : Int), F8 12 14 ts d = true → Tm.smallL ts
 | [], _, _ => by rw [Tm.smallL]; trivial
 | t :: ts, d, h => by
  rw [F8, Bool.and_eq_true] at h
  rw [Tm.smallL]
  exact ⟨B0r t d h.1, B0s ts d h.2⟩
end
theorem A7i {e : Tm} (h : O6 e = true) : e.fit 30 := by
 obtain ⟨h1, h2⟩ := (A0b e).1 h
 exact ⟨B0r e 1 h1, h2⟩
theorem Tm.fit.le {e : Tm} {n m : Nat} (h : e.fit n) (hm : n ≤ m) : e.fit m := ⟨h.1, Nat.le_trans h.2 hm⟩
mutual
theorem B0t : ∀ (t : Tm) (d : Int), I9 12 14 t d = true → ∀ u ∈ V3 t, E4 u = true
 | .mk k nm num ty fr lb ks, d, h => by
  obtain ⟨_, h2, h3, h4⟩ := R8 h
  obtain ⟨n1, n2, n3, n4, n5, n6, n7, n8, n9⟩ := R7.1 h3
  intro u hu
  rw [V3, List.mem_append] at hu
  rcases hu with hu | hu
  ·split at hu
   ·rename_i hk
    obtain rfl := List.mem_singleton.1 hu
    exact n6 (by omega)
   ·simp at hu
  ·exact B0u ks _ h4 u hu
theorem B0u : ∀ (ts : List Tm) (d : Int), F8 12 14 ts d = true → ∀ u ∈ S0 ts, E4 u = true
 | [], _, _ => by simp [S0]
 | t :: ts, d, h => by
  rw [F8, Bool.and_eq_true] at h
  intro u hu
  rw [S0, List.mem_append] at hu
  rcases hu with hu | hu
  ·exact B0t t d h.1 u hu
  ·exact B0u ts d h.2 u hu
end
theorem B5Y (br : Nat) (pb : Option Addr) (nb cb : Nat) (bs : List UInt8) (hnb : nb ≤ 2000) (p : Nat) (G : IM) (hb : Sl G pb nb cb 1 (O7 bs)) (hp : p + 9000000 < 1099511627776) :
  Fn Tryz.prog 58 [.pointer (some ⟨br, 0, none⟩)] [rd br pb nb cb p] G
   (A0y br pb nb cb p 9000000 (fun G' v => ∃ e cells, v = .agg ⟨cells⟩ ∧ B5 G' e cells ∧ e.fit 1100)) := by
 have hm8 : mB 8 = 1968200 := by decide
 refine B6 Tryz.func58 rfl Tryz.ntmps58 Tryz.results58 rfl ?_
 intro w0
 refine tS (tR ?_)
 refine sE (B0 rfl) rfl (fun b3 => ?_)
 refine sD (nS (tS (tS (tR (sQ (qA rfl) rfl (sD (nS ?_)))))))
 refine B2 ?_
 (refine J8 (fun (x : Nat × Nat × IM) => ⟨[(3, .int .i64 x.1), (0, .pointer (some ⟨br, 0, none⟩)), (2, .pointer (some ⟨b3, 0, none⟩))], [rd br pb nb cb x.2.1, .blk b3 [.int .i64 0, .string ⟨⟨[]⟩⟩, .int .i64 0, .int .i64 0, .slice none 0 0, .int .i64 0, .slice none 0 0, .int .i64 0, .slice none 0 0]], x.2.2⟩) (fun x => x.1 ≤ 4 ∧ A7 G x.2.2 ∧ p ≤ x.2.1 ∧ x.2.1 ≤ p + x.1 * 2000000) (fun x => 4 - x.1) (0, p, G) ?_ ?_ ?_)
 (simp only [E7]; exact C2)
 (exact ⟨by omega, A7.refl _, Nat.le_refl _, by dsimp only; omega⟩)
 (rintro ⟨(i : Nat), (p1 : Nat), G1⟩ ⟨hi, hleL, hpL, hpL2⟩; simp only [] at hi hleL hpL hpL2 ⊢; replace hb := hb.mono hleL)
 refine tS (tS (tR (sQ (qM rfl) rfl ?_)))
 refine sB (I7 rfl rfl) rfl rfl (fun h21 => ?_) (fun h21 => ?_)
 refine sD (nS (qT rfl (tK (nS (tS ?_)))))
 refine B2 ?_
 refine W1 ?_
 (refine E9 (B4 rfl rfl rfl (by omega) (by unfold maxLen; omega) rfl) rfl ?_; rintro _ ⟨b34, rfl⟩)
 (refine S9 (by repeat (first | exact Pk.here | apply Pk.there)) (fun Gf hlef hslf _ => ?_); refine C6 rfl (A0o Gf br pb nb cb (p1) bs _ _ _ _ (hb.mono hlef) hnb (by omega) hslf (by decide)) (Pk.perm (by repeat (first | exact Pk.here | apply Pk.there))) rfl rfl (fun v Gm outs hlen hh => ?_); obtain ⟨rfl, rfl, hv⟩ := hh; replace hb := hb.mono hlef; obtain ⟨dd, rfl, hdd⟩ : ∃ d : Nat, v = .int .i64 ((d + 1 : Nat) : Int) ∧ d ≤ 2 := (by simp only [List.mem_cons, List.not_mem_nil, or_false] at hv; rcases hv with rfl | rfl | rfl | rfl <;> first | exact ⟨0, rfl, by decide⟩ | exact ⟨1, rfl, by decide⟩ | exact ⟨2, rfl, by decide⟩); have hdB := A6I hdd; replace hleL := hleL.trans hlef)
 (have hcall := A3X br pb nb cb bs hnb dd (p1 + 1) _ (by omega) hb (by omega); refine C6 rfl hcall (Pk.perm (by repeat (first | exact Pk.here | apply Pk.there))) rfl rfl (fun v Gn outs hleD hh => ?_); obtain ⟨pD, hpD1, hpD2, rfl, uD, cD, rfl, hrD, hsD, haD⟩ := hh; obtain ⟨qD, dD, eD, rfl, _⟩ := hrD.open; replace hb := hb.mono hleD; replace hleL := hleL.trans hleD)
 refine sQ (qM rfl) rfl ?_
 (refine E9 (B4 rfl rfl rfl (by omega) (by unfold maxLen; omega) rfl) rfl ?_; rintro _ ⟨b38, rfl⟩)
 (refine S9 (by repeat (first | exact Pk.here | apply Pk.there)) (fun Gf hlef hslf _ => ?_); refine C6 rfl (A0o Gf br pb nb cb (pD) bs _ _ _ _ (hb.mono hlef) hnb (by omega) hslf (by decide)) (Pk.perm (by repeat (first | exact Pk.here | apply Pk.there))) rfl rfl (fun v Gm outs hlen hh => ?_); obtain ⟨rfl, rfl, hv⟩ := hh; replace hb := hb.mono hlef; replace hleL := hleL.trans hlef; replace hrD := hrD.mono hlef; obtain ⟨dp, rfl, hdp1, hdp2⟩ : ∃ d : Int, v = .int .i64 d ∧ 3 ≤ d ∧ d ≤ 5 := (by simp only [List.mem_cons, List.not_mem_nil, or_false] at hv; rcases hv with rfl | rfl | rfl | rfl <;> exact ⟨_, rfl, by decide, by decide⟩))
 (have hcall := B5z br pb nb cb bs hnb 8 dp uD (pD + 1) _ none 0 0 _ ⟨haD.le (by omega), by omega, by omega, .inr ⟨by omega, by omega⟩⟩ (by omega) (by omega) (by omega) (X8.nil _) hrD hb (by omega); refine C6 rfl hcall (Pk.perm (by repeat (first | exact Pk.here | apply Pk.there))) rfl rfl (fun v Gn outs hleM hh => ?_); obtain ⟨pM, hpM1, hpM2, rfl, eM, cM, rfl, hrM, hsmM, hcM⟩ := hh; have hlM := hrM.len; have hoM := hrM.one; replace hb := hb.mono hleM; replace hleL := hleL.trans hleM)
 refine sE (B0 rfl) rfl (fun b41 => ?_)
 refine A1H rfl rfl rfl hlM hoM rfl (by repeat first | exact Sw.here | apply Sw.there) (by exact O5 (by first | exact hlM.symm | omega)) ?_
 refine sD (nS (tS (tR ?_)))
 refine sL (A6 rfl rfl (H0 (by repeat first | exact mH | apply mT)) hlM) rfl rfl ?_
 (refine M0 rfl (B5W eM _ _ (by omega) hrM) rfl rfl (fun v G9 hle9 hh => ?_); have hmv := @B0q eM; obtain ⟨mc, mt, rfl, hmr, hmu⟩ := hh; obtain ⟨pt, ct, et, rfl, _⟩ := hmr.open; replace hb := hb.mono hle9; replace hleL := hleL.trans hle9; replace hrM := hrM.mono hle9; generalize (U5 eM).isSome = mx at *; cases mx)
 refine M3 ?_
 refine sE (B0 rfl) rfl (fun b52 => ?_)
 refine J5 ?_
 refine sP (H2 rfl rfl (by omega) (by omega)) rfl rfl ?_
 refine sQ (qA rfl) rfl (sD ?_)
 refine J4 (i + 1, pM, G9) ?_ ?_ ?_
 (simp only [E7]; exact C2)
 (dsimp only; exact ⟨by omega, hleL, by omega, by omega⟩)
 (show 4 - (i + 1) < 4 - i; omega)
 refine M3 ?_
 refine sE (B0 rfl) rfl (fun b78 => ?_)
 refine L4 ?_
 refine sL (A6 rfl rfl (H0 (by repeat first | exact mH | apply mT)) hlM) rfl rfl ?_
 refine A1H rfl rfl rfl hlM hoM rfl (by repeat first | exact Sw.here | apply Sw.there) (by exact O5 (by first | exact hlM.symm | omega)) ?_
 refine sD (nS (tT (rB (rS (A7E (rB (rS ?_)))))))
 refine E3 (outs := [rd br pb nb cb pM]) (rC rfl (A6 rfl rfl (H0 (by repeat first | exact mH | apply mT)) hlM)) (by repeat (first | exact A0.nil | refine A0.cons Pk.here ?_ | refine A0.cons (Pk.there Pk.here) ?_ | refine A0.cons (Pk.there (Pk.there Pk.here)) ?_ | apply A0.drop)) ?_
 (exact ⟨pM, by omega, by omega, rfl, eM, _, rfl, hrM, (A7i (hmv rfl)).le (by omega)⟩)
 refine J3 ?_
 (have hcall := A86 br pb nb cb bs hnb p1 _ hb (by omega); refine C6 rfl hcall (Pk.perm (by repeat (first | exact Pk.here | apply Pk.there))) rfl rfl (fun v Gn outs hleC hh => ?_); obtain ⟨pC, hpC1, hpC2, rfl, eC, cC, rfl, hrC, hcC⟩ := hh; have hlC := hrC.len; have hoC := hrC.one; have hcnt := A3O eC)
 refine A1H rfl rfl rfl hlC hoC rfl (by repeat first | exact Sw.here | apply Sw.there) (by exact O5 (by first | exact hlC.symm | omega)) ?_
 refine sD (nS (tT ?_))
 refine E3 (outs := [rd br pb nb cb pC]) (rC rfl (A6 rfl rfl (H0 (by repeat first | exact mH | apply mT)) hlC)) (by repeat (first | exact A0.nil | refine A0.cons Pk.here ?_ | refine A0.cons (Pk.there Pk.here) ?_ | refine A0.cons (Pk.there (Pk.there Pk.here)) ?_ | apply A0.drop)) ?_
 (exact ⟨pC, by omega, by omega, rfl, eC, _, rfl, hrC, A6g _ (by omega), by omega⟩)
mutual
theorem B0v : ∀ a : Ty, A1Z a a = true
 | .mk k ks => by rw [A1t, B0w ks]; simp
theorem B0w : ∀ xs : List Ty, A0G xs xs = true
 | [] => rfl
 | a :: xs => by rw [A0G, B0v a, B0w xs]; rfl
end
def PLe (l l' : List Ty) : Prop := ∀ i, A1Z (l.getD i A5) (l'.getD i A5) = true
section masks
variable {P : Program} {Γ : I3} {env : J0} {hp : List A1} {G : IM} {ty : TypeId}
end masks
def mLb (t : Tm) : List Int := (A2R t).map Tm.lb
def B8g (ts : List Tm) : List Int := (A7b ts).map Tm.lb
structure Lbs (ls : List Int) (l l' : Int) : Prop where
 le : l ≤ l'
 nd : ls.Nodup
 len : (ls.length : Int) = l' - l
 mem : ∀ m ∈ ls, l < m ∧ m ≤ l'
theorem A7j {us : List Tm} {h w : List Ty} {l : Int} (hn : us = [] ∨ h = [] ∨ w = []) : D9 us h w l = (us, l) := by
 rcases hn with rfl | rfl | rfl
 ·simp [D9]
 ·simp [D9]
 ·simp [D9]
mutual
theorem B0x : ∀ a : Tm, A2N a a = true
 | .mk k nm num ty fr lb ks => A9G.2 ⟨rfl, rfl, rfl, fun _ => B0v ty, B0y ks⟩
theorem B0y : ∀ xs : List Tm, A2g xs xs = true
 | [] => rfl
 | a :: xs => by rw [A2g, B0x a, B0y xs]; rfl
end
theorem B5Z {e u : Tm} {t : Ty} (h : X6 e = some (u, t)) : ∃ g A g' A', u = g.tm ∧ t = A.ty ∧ GP P3 g g' A A' := by
 have hv : O6 e = true := B0q (by rw [B5q h]; rfl)
 obtain ⟨g, g', A, A', h1, h2, _, h4⟩ := B41 h (b := e) (by unfold A5h; rw [hv, B0x]; rfl)
 exact ⟨g, A, g', A', h1, h2, h4⟩
theorem B50 : ∀ g : GE, D0 g.tm = g.er.tm := by
 intro g
 induction g with
 | var x => rw [GE.er, GE.tm, D0, C4]; simp
 | num n => rw [GE.er, GE.tm, D0, C4]; simp
 | tru b => rw [GE.er, GE.tm, D0, C4]; cases b <;> simp
 | lam x A e i => rw [GE.er, GE.tm, GE.tm, D0, C4, C4, i]; rfl
 | app f a i j => rw [GE.er, GE.tm, GE.tm, D0, C4, C4, C4, i, j]; rfl
 | ar s a b i j => rw [GE.er, GE.tm, GE.tm, D0, C4, C4, C4, i, j]; cases s <;> rfl
 | ite c a b i j k => rw [GE.er, GE.tm, GE.tm, D0, C4, C4, C4, C4, i, j, k]; rfl
 | pair a b i j => rw [GE.er, GE.tm, GE.tm, D0, C4, C4, C4, i, j]; rfl
 | part s e i => rw [GE.er, GE.tm, GE.tm, D0, C4, C4, i]; cases s <;> rfl
 | cast A B l e i => rw [GE.er, GE.tm, D0, C4, C4, i]; rfl
theorem B51 (u : Tm) (a b : Ty) (l : Int) : D0 (R4 u a b l) = D0 u := by rw [R4, D0, C4, C4]; rfl
theorem A5v : ∀ (us : List Tm) (h w : List Ty) (l : Int), C4 (D9 us h w l).1 = C4 us
 | [], h, w, l => by rw [A7j (by simp)]
 | u :: us, [], w, l => by rw [A7j (by simp)]
 | u :: us, a :: h, [], l => by rw [A7j (by simp)]
 | u :: us, a :: h, b :: w, l => by
  rw [D9]
  split
  ·rw [C4, C4, A5v us h w l]
  ·rw [C4, C4, B51, A5v us h w (l + 1)]
theorem B52 : ∀ (us : List Tm), D0 (us.getD 0 I2) = (C4 us).headD (D0 I2)
 | [] => rfl
 | u :: us => by rw [C4]; rfl
theorem B53 (ks : List Tm) (ih : ∀ t ∈ ks, ∀ (d : Int) (cx : Cx) (l : Int) (u : Tm) (a : Ty) (l' : Int), I9 12 14 t d = true → L9 cx t l = some (u, a, l') → D0 u = D0 t) :
  ∀ (d : Int) (cx : Cx) (l : Int) (us : List Tm) (h : List Ty) (l' : Int), F8 12 14 ks d = true → L6 cx ks l = some (us, h, l') → C4 us = C4 ks := by
 induction ks with
 | nil =>
  intro d cx l us h l' _ hE
  rw [L6] at hE
  cases hE
  rfl
 | cons t ts ihl =>
  intro d cx l us h l' hs hE
  rw [F8, Bool.and_eq_true] at hs
  rw [L6] at hE
  split at hE
  ·cases hE
  ·rename_i u a l1 h1
   split at hE
   ·cases hE
   ·rename_i us2 h2 l2 hE2
    cases hE
    rw [C4, C4, ih t List.mem_cons_self d cx l u a l1 hs.1 h1, ihl (fun t ht => ih t (List.mem_cons_of_mem _ ht)) d cx l1 us2 h2 _ hs.2 hE2]
theorem B54 : ∀ (t : Tm) (d : Int) (cx : Cx) (l : Int) (u : Tm) (a : Ty) (l' : Int), I9 12 14 t d = true → L9 cx t l = some (u, a, l') → D0 u = D0 t := by
 refine Tm.ind fun k nm num ty fr lb ks ih d cx l u a l' hs hE => ?_
 obtain ⟨_, h2, h3, h4⟩ := R8 hs
 have hops := (R7.1 h3).1
 rw [L9] at hE
 split at hE
 ·cases hE
 ·rename_i us h l1 hL
  have g1 := B53 ks ih _ _ _ _ _ _ h4 hL
  rw [Q6] at hE
  split at hE
  ·cases hE
  ·rename_i w t' hN
   cases hE
   split
   ·rename_i hk
    subst hk
    rw [B52, A5v, g1, D0, if_pos (.inl rfl)]
    have hl : ks.length = 1 := by rw [show D5 13 = 1 from rfl] at hops; omega
    obtain ⟨x, hx⟩ : ∃ x, ks = [x] := List.length_eq_one_iff.1 hl
    rw [hx, C4]; rfl
   ·rename_i hk
    have hE : ∀ vs, D0 (.mk k nm num ty fr lb vs) = .mk k nm num (if k = 5 then O4 else A5) A5 0 (C4 vs) := fun vs => by rw [D0, if_neg (by omega)]
    rw [hE, hE, A5v, g1]
theorem B55 {e u : Tm} {t : Ty} (h : X6 e = some (u, t)) : D0 u = D0 e := by
 unfold X6 at h
 split at h
 ·rename_i hv
  split at h
  ·rename_i u' t' l' he
   cases h
   exact B54 e 1 [] 0 u t l' ((A0b e).1 hv).1 he
  ·cases h
 ·cases h
mutual
theorem A7k : ∀ (t : Tm) (d d' : Int), d' ≤ d → I9 12 14 t d = true → I9 12 14 (D0 t) d' = true
 | .mk k nm num ty fr lb ks, d, d', hd, h => by
  obtain ⟨h1, h2, h3, h4⟩ := R8 h
  obtain ⟨n1, n2, n3, n4, n5, n6, n7, n8, n9⟩ := R7.1 h3
  rw [D0]
  by_cases hk : k = 13 ∨ k = 14
  ·rw [if_pos hk]
   have hk13 : k = 13 := by omega
   subst hk13
   have hl : ks.length = 1 := by rw [show D5 13 = 1 from rfl] at n1; omega
   match ks, hl, h4 with
   | [x], _, h4 =>
    rw [F8, Bool.and_eq_true] at h4
    rw [C4]
    exact A7k x (d + 1) d' (by omega) h4.1
  ·rw [if_neg hk, A19 (by omega) h2]
   ·exact B0z ks (d + 1) (d' + 1) (by omega) h4
   ·have hlen : (C4 ks).length = ks.length := by rw [A1S, List.length_map]
    rw [hlen]
    obtain ⟨hf, hl⟩ := n9 h2
    refine R7.2 ⟨n1, n2, n3, n4, n5, fun h5 => ?_, fun h5 => ?_, fun h14 => absurd h14 h2, fun _ => ⟨by decide, rfl⟩⟩
    ·rw [if_pos (by omega)]; decide
    ·rw [if_neg (by omega)]; decide
theorem B0z : ∀ (ts : List Tm) (d d' : Int), d' ≤ d → F8 12 14 ts d = true → F8 12 14 (C4 ts) d' = true
 | [], _, _, _, _ => by rw [C4]; rfl
 | t :: ts, d, d', hd, h => by
  rw [F8, Bool.and_eq_true] at h
  rw [C4, F8, A7k t d d' hd h.1, B0z ts d d' hd h.2]; rfl
end
theorem B0A {e : Tm} (h : O6 e = true) : W4 (D0 e) = true := by
 obtain ⟨h1, h2⟩ := (A0b e).1 h
 refine B3A ((A0b _).2 ⟨A7k e 1 1 (Int.le_refl _) h1, ?_⟩)
 have := (A3Y e (A7i h).1).2
 omega
def GE.lt : GE → Prop
 | .var _ => True
 | .num _ => True
 | .tru _ => True
 | .lam _ A e => E4 A.ty = true ∧ e.lt
 | .app f a => f.lt ∧ a.lt
 | .ar _ a b => a.lt ∧ b.lt
 | .ite c a b => c.lt ∧ a.lt ∧ b.lt
 | .pair a b => a.lt ∧ b.lt
 | .part _ e => e.lt
 | .cast _ _ _ _ => False
theorem B56 {x : ByteArray} {v : GE} (hv : v.lt) : ∀ e : GE, e.lt → (e.sub x v).lt := by
 intro e
 induction e with
 | var y => intro _; rw [GE.sub]; split; exact hv; trivial
 | num n => intro h; exact h
 | tru b => intro h; exact h
 | lam y A e i => intro h; rw [GE.sub]; split; exact h; exact ⟨h.1, i h.2⟩
 | app f a i j => intro h; exact ⟨i h.1, j h.2⟩
 | ar s a b i j => intro h; exact ⟨i h.1, j h.2⟩
 | ite c a b i j k => intro h; exact ⟨i h.1, j h.2.1, k h.2.2⟩
 | pair a b i j => intro h; exact ⟨i h.1, j h.2⟩
 | part s e i => intro h; exact i h
 | cast A B l e i => intro h; exact h.elim
theorem B0B {e r : GE} (h : GS e r) : e.lt → GS e.er r.er ∧ r.lt := by
 induction h with
 | app1 _ i => exact fun h => ⟨.app1 (i h.1).1, (i h.1).2, h.2⟩
 | app2 v _ i => exact fun h => ⟨.app2 (A2j v) (i h.2).1, h.1, (i h.2).2⟩
 | ar1 _ i => exact fun h => ⟨.ar1 (i h.1).1, (i h.1).2, h.2⟩
 | ar2 v _ i => exact fun h => ⟨.ar2 (A2j v) (i h.2).1, h.1, (i h.2).2⟩
 | ite1 _ i => exact fun h => ⟨.ite1 (i h.1).1, (i h.1).2, h.2⟩
 | pair1 _ i => exact fun h => ⟨.pair1 (i h.1).1, (i h.1).2, h.2⟩
 | pair2 v _ i => exact fun h => ⟨.pair2 (A2j v) (i h.2).1, h.1, (i h.2).2⟩
 | part1 _ i => exact fun h => ⟨.part1 (i h).1, (i h).2⟩
 | cast1 _ _ => exact fun h => h.elim
 | beta v => exact fun h => ⟨by rw [B5r]; exact .beta (A2j v), B56 h.2 _ h.1.2⟩
 | appx _ _ => exact fun h => h.1.elim
 | @ar s m n => exact fun _ => ⟨by rw [show (A0D s m n).er = A0D s m n by unfold A0D; split <;> rfl]; exact .ar, by unfold A0D; split <;> trivial⟩
 | @ite b x y => exact fun h => ⟨by rw [show (if b = true then x else y).er = if b = true then x.er else y.er by split <;> rfl]; exact .ite, by cases b; exact h.2.2; exact h.2.1⟩
 | @part s a b v v2 => exact fun h => ⟨by rw [show (if s = true then b else a).er = if s = true then b.er else a.er by split <;> rfl]; exact .part (A2j v) (A2j v2), by cases s; exact h.1; exact h.2⟩
 | partx _ => exact fun h => h.elim
 | cid _ _ => exact fun h => h.elim
 | up _ _ _ => exact fun h => h.elim
 | down _ _ _ => exact fun h => h.elim
 | hit _ _ => exact fun h => h.elim
mutual
def M9 : Ty → Int
 | .mk k ks => if k = 1 then 1 else R5 ks
def R5 : List Ty → Int
 | [] => 0
 | t :: ts => M9 t + R5 ts
end
theorem B0C {k : Int} {ks : List Ty} (h : k = 1) : M9 (.mk k ks) = 1 := by rw [M9, if_pos h]
theorem B57 {k : Int} {ks : List Ty} (h : ¬k = 1) : M9 (.mk k ks) = R5 ks := by rw [M9, if_neg h]
mutual
theorem A3p : ∀ t : Ty, 0 ≤ M9 t ∧ M9 t ≤ I0 t + 1
 | .mk k ks => by
  have h := A2n ks
  rw [M9, I0]
  split
  ·have := A1M ks
   omega
  ·omega
theorem A2n : ∀ ts : List Ty, 0 ≤ R5 ts ∧ R5 ts ≤ O0 ts + ts.length
 | [] => by simp [R5, O0]
 | t :: ts => by
  have h1 := A3p t
  have h2 := A2n ts
  rw [R5, O0, List.length_cons]; omega
end
theorem A7l : ∀ (a b : List Ty), R5 (a ++ b) = R5 a + R5 b
 | [], b => by simp [R5]
 | t :: a, b => by rw [List.cons_append, R5, R5, A7l a b]; omega
theorem B0D {ks : List Ty} {i : Nat} (hi : i < ks.length) : R5 (ks.take (i + 1)) = R5 (ks.take i) + M9 ks[i] := by
 rw [List.take_succ_eq_append_getElem hi, A7l, R5, R5]; omega
theorem B58 {ks : List Ty} {i : Nat} (hi : i < ks.length) : R5 (ks.take i) + M9 ks[i] ≤ R5 ks := by
 have h : R5 ks = R5 (ks.take (i + 1)) + R5 (ks.drop (i + 1)) := by rw [← A7l, List.take_append_drop]
 have := (A2n (ks.drop (i + 1))).1
 rw [h, B0D hi]; omega
theorem B59 : ∀ (t : Ty) (G : IM) (cells : List Value), I0 t ≤ 4294967296 → A8 G t cells →
  Fn Tryz.prog 76 [.agg ⟨cells⟩] [] G (J1 (.int .i64 (M9 t)) G) := by
 refine Ty.ind fun k ks ih G cells hsz hr => ?_
 have hb := A2n ks
 have hyes := @B0C k ks
 have hno := @B57 k ks
 rw [I0] at hsz
 obtain ⟨p, c, es, rfl, hk, hsl, hkl⟩ := hr.open
 simp only [Ty.k, Ty.ks] at hk hsl hkl ⊢
 have hn := hsl.le
 obtain ⟨R, hR⟩ : ∃ R, M9 (.mk k ks) = R := ⟨_, rfl⟩
 rw [hR] at hyes hno ⊢
 refine B6 Tryz.func76 rfl Tryz.ntmps76 Tryz.results76 rfl ?_
 intro w0
 refine tS (tR ?_)
 refine sE (E2 rfl rfl) rfl (fun b3 => ?_)
 refine E1 ?_
 refine sB (qE rfl rfl) rfl rfl (fun h12 => ?_) (fun h12 => ?_)
 refine J3 ?_
 (exact ⟨rfl, by rw [hyes (by omega)], rfl⟩)
 refine A1l ?_
 refine B2 ?_
 (have hR2 := hno (by omega); refine J8 (fun (i : Nat) => ⟨[(12, .int .i64 i), (11, .int .i64 ks.length), (10, .slice p ks.length c), (3, .int .i64 (R5 (ks.take i)))], [], G⟩) (fun i => i ≤ ks.length) (fun i => ks.length - i) 0 ?_ ?_ ?_)
 exact C2
 (exact Nat.zero_le _)
 (rintro (i : Nat) hi)
 refine tS (tR ?_)
 refine sB (I7 rfl rfl) rfl rfl (fun h51 => ?_) (fun h51 => ?_)
 refine sD (nS (tS (qT rfl (tK (nS (tS ?_))))))
 refine B2 ?_
 refine tS (tR ?_)
 (obtain ⟨b, o, p2, c2, rfl, hat, hre, hgb⟩ := hsl.kidTy hkl (i := i) (by omega) (by omega); have hsi : I0 ks[i] ≤ O0 ks := A6J (List.getElem_mem (by omega)); have hti := B58 (ks := ks) (i := i) (by omega); have hs1 := B0D (ks := ks) (i := i) (by omega); have hb1 := A3p ks[i]; have hb2 := A2n (ks.take i); refine sP (B3 rfl rfl rfl (by omega)) rfl rfl ?_)
 refine sL (A6 rfl rfl (hat _) rfl) rfl rfl ?_
 refine sE (B0 rfl) rfl (fun b64 => ?_)
 refine N6 ?_
 refine H6 rfl (ih ks[i] (List.getElem_mem (by omega)) G _ (by omega) hre) rfl rfl ?_
 refine sP (H2 rfl rfl (by omega) (by omega)) rfl rfl ?_
 refine sQ (qA rfl) rfl (sD (M2 (nS (tR ?_))))
 refine sP (H2 rfl rfl (by omega) (by omega)) rfl rfl ?_
 refine sQ (qM rfl) rfl (sD ?_)
 refine J4 (i + 1) (by rw [hs1]; exact (M4 (by repeat (first | exact C8.nil | refine C8.cons rfl ?_)) (by repeat (first | exact A0.refl | exact A0.nil | refine A0.cons (by repeat (first | exact Pk.here | apply Pk.there)) ?_ | apply A0.drop)))) ?_ ?_
 (show i + 1 ≤ ks.length; omega)
 (show ks.length - (i + 1) < ks.length - i; omega)
 refine U8 ?_
 (obtain rfl : i = ks.length := (by omega); exact ⟨rfl, by rw [hR2, List.take_length], rfl⟩)
def tSt (t : Ty) : Bool := decide (M9 t = 0)
theorem B6a (G : IM) (t : Ty) (e : List Value) (hs : I0 t ≤ 4294967296) (hr : A8 G t e) :
  Fn Tryz.prog 75 [.agg ⟨e⟩] [] G (Z8 (.bool (!tSt t)) [] G) := by
 have hl := hr.len
 have hone := hr.one
 have hb := A3p t
 have hc := B59 t G e hs hr
 unfold tSt
 refine B6 Tryz.func75 rfl Tryz.ntmps75 Tryz.results75 rfl ?_
 intro w0
 refine tS (tR ?_)
 refine sE (E2 rfl rfl) rfl (fun b3 => ?_)
 refine sQ (qA rfl) rfl (sD (nS (tS (tR ?_))))
 refine sL (A6 rfl rfl (H0 (by repeat first | exact mH | apply mT)) hl) rfl rfl ?_
 refine H6 rfl (hc) rfl rfl ?_
 refine sB (A0v rfl rfl) rfl rfl (fun h11 => ?_) (fun h11 => ?_)
 refine sQ (qA rfl) rfl (sD (nS (tT (I6 (rT rfl) ?_))))
 (exact ⟨rfl, by rw [decide_eq_false (by omega)]; rfl, rfl⟩)
 refine sQ (qA rfl) rfl (sD (nS (tT (I6 (rT rfl) ?_))))
 (exact ⟨rfl, by rw [decide_eq_true (by omega)]; rfl, rfl⟩)
def A1x (e : Tm) : Bool := O6 e && (V3 e).all tSt
theorem B6b (e : Tm) (G : IM) (cells : List Value) (hr : B5 G e cells) : Fn Tryz.prog 30 [.agg ⟨cells⟩] [] G (I8 fun _ v => v = .bool (A1x e)) := by
 have hl := hr.len
 have hone := hr.one
 have hv := A6i e G cells hr
 have hno : O6 e = false → A1x e = false := fun h => by unfold A1x; rw [h]; rfl
 have hyes : O6 e = true → A1x e = (V3 e).all tSt := fun h => by unfold A1x; rw [h]; rfl
 have hfit := @A7i e
 have htv : O6 e = true → ∀ u ∈ V3 e, E4 u = true := fun h => B0t e 1 ((A0b e).1 h).1
 refine B6 Tryz.func30 rfl Tryz.ntmps30 Tryz.results30 rfl ?_
 intro w0
 refine tS (tR ?_)
 refine sE (E2 rfl rfl) rfl (fun b3 => ?_)
 refine sQ (qA rfl) rfl (sD (nS (tS (tR ?_))))
 refine sL (A6 rfl rfl (H0 (by repeat first | exact mH | apply mT)) hl) rfl rfl ?_
 refine H8 rfl (hv) rfl rfl (fun h10 => ?_) (fun h10 => ?_)
 refine sQ (qM rfl) rfl ?_
 refine sL (A6 rfl rfl (H0 (by repeat first | exact mH | apply mT)) hl) rfl rfl ?_
 (have hf := hfit (by assumption); have htv2 := htv (by assumption); have hy2 := hyes (by assumption); refine A3H rfl (B5w e G cells hf.1 (by have := hf.2; omega) hr) rfl rfl (fun v G1 outs hle1 hh => ?_); obtain ⟨p, c, es, rfl, rfl, hr1⟩ := hh; generalize V3 e = L at *; refine S9 (cs := es.flatten) (by repeat (first | exact Pk.here | apply Pk.there)) (fun G2 hle2 hsl2 hno2 => ?_); have hse := C0.of hsl2 hr1.len hr1.all (fun e he => (hr1.each e he).2); replace hr1 := hr1.mono hle2; obtain ⟨A, hA⟩ : ∃ A, L.all tSt = A := ⟨_, rfl⟩)
 refine A24 rfl (A27 _ _ _ _ _ hse _ [] _ [] tSt L rfl hA (fun i e he => B6a _ _ _ (by have := (A47 (htv2 _ (hr1.inv he A5).1)).2; omega) (hr1.inv he A5).2)) A1J rfl rfl (fun h14 => ?_) (fun h14 => ?_)
 simp only [Bool.not_eq_true', Bool.not_eq_false'] at h14
 refine C5 ?_
 (exact ⟨rfl, by rw [hy2, hA]; simp_all⟩)
 simp only [Bool.not_eq_true', Bool.not_eq_false'] at h14
 refine C5 ?_
 (exact ⟨rfl, by rw [hy2, hA]; simp_all⟩)
 refine J3 ?_
 (exact ⟨rfl, by rw [hno (by assumption)]⟩)
mutual
theorem A7m : ∀ (a b : Ty), J6 a b = true → M9 a = 0 → M9 b = 0 → a = b
 | .mk k ks, .mk k' ks', h, h1, h2 => by
  rw [T0] at h
  simp only [Bool.or_eq_true, Bool.and_eq_true, decide_eq_true_eq] at h
  rw [M9] at h1 h2
  have hk : k ≠ 1 := by intro hk; rw [if_pos hk] at h1; cases h1
  have hk' : k' ≠ 1 := by intro hk; rw [if_pos hk] at h2; cases h2
  rw [if_neg hk] at h1
  rw [if_neg hk'] at h2
  rcases h with (h | h) | ⟨rfl, h⟩
  ·exact absurd h hk
  ·exact absurd h hk'
  ·rw [B0E ks ks' h h1 h2]
theorem B0E : ∀ (xs ys : List Ty), M6 xs ys = true → R5 xs = 0 → R5 ys = 0 → xs = ys
 | [], [], _, _, _ => rfl
 | [], _ :: _, h, _, _ => by simp [M6] at h
 | _ :: _, [], h, _, _ => by simp [M6] at h
 | a :: xs, b :: ys, h, h1, h2 => by
  rw [M6, Bool.and_eq_true] at h
  rw [R5] at h1 h2
  have p1 := (A3p a).1
  have p2 := (A2n xs).1
  have p3 := (A3p b).1
  have p4 := (A2n ys).1
  rw [A7m a b h.1 (by omega) (by omega), B0E xs ys h.2 (by omega) (by omega)]
end
theorem A7n {h : List Ty} (hh : ∀ a ∈ h, M9 a = 0) (i : Nat) : M9 (h.getD i A5) = 0 := by
 rw [List.getD_eq_getElem?_getD]
 cases hx : h[i]? with
 | none => rfl
 | some t => exact hh t (List.mem_of_getElem? hx)
theorem B0F : ∀ {ks : List Ty}, R5 ks = 0 → ∀ u ∈ ks, M9 u = 0
 | [], _, u, hu => by simp at hu
 | a :: ks, h, u, hu => by
  rw [R5] at h
  have p1 := (A3p a).1
  have p2 := (A2n ks).1
  rcases List.mem_cons.1 hu with h1 | h1
  ·rw [h1]; omega
  ·exact B0F (by omega) u h1
theorem B0G {k : Int} {ks : List Ty} (h : M9 (.mk k ks) = 0) : ∀ u ∈ ks, M9 u = 0 := by
 rw [M9] at h
 split at h
 ·cases h
 ·exact B0F h
theorem A5w {k : Int} {a b : Ty} (hk : k ≠ 1) (ha : M9 a = 0) (hb : M9 b = 0) : M9 (.mk k [a, b]) = 0 := by
 rw [M9, if_neg hk, R5, R5, R5]; omega
theorem B0H {k : Int} {t a b : Ty} (ht : M9 t = 0) (h : R3 k t = some (a, b)) : M9 a = 0 ∧ M9 b = 0 := by
 obtain ⟨tk, ks⟩ := t
 rw [show R3 k (.mk tk ks) = (if tk = k then some (ks.getD 0 A5, ks.getD 1 A5) else if tk = 1 then some (O4, O4) else none) from rfl] at h
 split at h
 ·cases h; exact ⟨A7n (B0G ht) 0, A7n (B0G ht) 1⟩
 ·split at h
  ·rename_i h1; rw [B0C h1] at ht; cases ht
  ·cases h
theorem B6c {cx : Cx} {k : Int} {nm : ByteArray} {ty : Ty} {h w : List Ty} {t : Ty} (hcx : ∀ x u, W5 cx x = some u → M9 u = 0) (hh : ∀ a ∈ h, M9 a = 0) (hty : k = 5 ∨ k = 13 → M9 ty = 0) (hw : M8 cx k nm ty h = some (w, t)) :
  (∀ a ∈ w, M9 a = 0) ∧ M9 t = 0 := by
 have g := A7n hh
 unfold M8 at hw
 split at hw
 ·split at hw
  ·rename_i u hu; cases hw; exact ⟨by simp, hcx _ _ hu⟩
  ·cases hw
 split at hw
 ·cases hw; exact ⟨by simp, rfl⟩
 split at hw
 ·cases hw; exact ⟨by simp, rfl⟩
 split at hw
 ·rename_i hk; cases hw; exact ⟨by simp, A5w (by decide) (hty (.inl hk)) (g 0)⟩
 split at hw
 ·split at hw
  ·rename_i a b hm
   obtain ⟨h1, h2⟩ := B0H (g 0) hm
   split at hw
   ·cases hw
    exact ⟨by intro x hx; simp only [List.mem_cons, List.not_mem_nil, or_false] at hx; rcases hx with rfl | rfl; exact A5w (by decide) h1 h2; exact h1, h2⟩
   ·cases hw
  ·cases hw
 split at hw
 ·split at hw
  ·cases hw
   refine ⟨by intro x hx; simp only [List.mem_cons, List.not_mem_nil, or_false] at hx; rcases hx with rfl | rfl <;> rfl, ?_⟩
   split <;> rfl
  ·cases hw
 split at hw
 ·split at hw
  ·rename_i hc
   have he := A7m _ _ hc.2 (g 1) (g 2)
   rw [he, A6Z] at hw
   cases hw
   exact ⟨by intro x hx; simp only [List.mem_cons, List.not_mem_nil, or_false] at hx; rcases hx with rfl | rfl | rfl; rfl; exact g 2; exact g 2, g 2⟩
  ·cases hw
 split at hw
 ·cases hw; exact ⟨by simp, A5w (by decide) (g 0) (g 1)⟩
 split at hw
 ·rename_i hk
  split at hw
  ·cases hw; exact ⟨by intro x hx; simp only [List.mem_cons, List.not_mem_nil, or_false] at hx; rw [hx]; exact hty (.inr hk), hty (.inr hk)⟩
  ·cases hw
 ·split at hw
  ·rename_i a b hm
   obtain ⟨h1, h2⟩ := B0H (g 0) hm
   cases hw
   refine ⟨by intro x hx; simp only [List.mem_cons, List.not_mem_nil, or_false] at hx; rw [hx]; exact A5w (by decide) h1 h2, ?_⟩
   split
   ·exact h2
   ·exact h1
  ·cases hw
theorem B0I : ∀ (us : List Tm) (h w : List Ty) (l : Int), (∀ i, (hi : i < w.length) → (hh : i < h.length) → h[i] = w[i]) → D9 us h w l = (us, l)
 | [], h, w, l, _ => by simp [D9]
 | u :: us, [], w, l, _ => by simp [D9]
 | u :: us, a :: h, [], l, _ => by simp [D9]
 | u :: us, a :: h, b :: w, l, hs => by
  have h0 : a = b := hs 0 (by simp) (by simp)
  rw [D9, if_pos (by rw [h0]; exact A6R b), B0I us h w l (fun i hi hh => hs (i + 1) (by simpa using hi) (by simpa using hh))]
theorem B6d {cx : Cx} {k : Int} {nm : ByteArray} {ty : Ty} (hcx : ∀ x u, W5 cx x = some u → M9 u = 0) (hty : k = 5 → M9 ty = 0) : ∀ x u, W5 (O8 cx k nm ty) x = some u → M9 u = 0 := by
 intro x u hu
 unfold O8 at hu
 split at hu
 ·rw [A9E] at hu
  split at hu
  ·cases hu; exact hty (by assumption)
  ·exact hcx x u hu
 ·exact hcx x u hu
abbrev NoC (u : Tm) : Prop := A2P (fun _ => False) u
theorem B6e (ks : List Tm) (ih : ∀ t ∈ ks, ∀ (d : Int) (cx : Cx) (l : Int) (u : Tm) (a : Ty) (l' : Int), I9 12 14 t d = true → Y9 cx → (∀ x u, W5 cx x = some u → M9 u = 0) → (∀ u ∈ V3 t, M9 u = 0) → L9 cx t l = some (u, a, l') → NoC u ∧ M9 a = 0) :
  ∀ (d : Int) (cx : Cx) (l : Int) (us : List Tm) (h : List Ty) (l' : Int), F8 12 14 ks d = true → Y9 cx → (∀ x u, W5 cx x = some u → M9 u = 0) → (∀ u ∈ S0 ks, M9 u = 0) → L6 cx ks l = some (us, h, l') → (∀ u ∈ us, NoC u) ∧ (∀ a ∈ h, M9 a = 0) := by
 induction ks with
 | nil => intro d cx l us h l' _ _ _ _ he; rw [L6] at he; cases he; exact ⟨by simp, by simp⟩
 | cons t ts ihl =>
  intro d cx l us h l' hs hv hcx hts he
  rw [F8, Bool.and_eq_true] at hs
  rw [S0] at hts
  rw [L6] at he
  split at he
  ·cases he
  ·rename_i u a l1 h1
   split at he
   ·cases he
   ·rename_i us' h' l2 h2
    cases he
    obtain ⟨a1, a2⟩ := ih t List.mem_cons_self d cx l u a l1 hs.1 hv hcx (fun u hu => hts u (List.mem_append_left _ hu)) h1
    obtain ⟨b1, b2⟩ := ihl (fun x hx => ih x (List.mem_cons_of_mem _ hx)) d cx l1 us' h' _ hs.2 hv hcx (fun u hu => hts u (List.mem_append_right _ hu)) h2
    exact ⟨fun x hx => by rcases List.mem_cons.1 hx with e | e; rw [e]; exact a1; exact b1 x e, fun x hx => by rcases List.mem_cons.1 hx with e | e; rw [e]; exact a2; exact b2 x e⟩
theorem B6f : ∀ (t : Tm) (d : Int) (cx : Cx) (l : Int) (u : Tm) (a : Ty) (l' : Int), I9 12 14 t d = true → Y9 cx → (∀ x u, W5 cx x = some u → M9 u = 0) → (∀ u ∈ V3 t, M9 u = 0) → L9 cx t l = some (u, a, l') → NoC u ∧ M9 a = 0 := by
 refine Tm.ind fun k nm num ty fr lb ks ih d cx l u a l' hs hv hcx hts he => ?_
 obtain ⟨n1, n2, n3, n4, n5, n6, n7, n8, n9⟩ := A61 hs
 rw [V3] at hts
 have hty : k = 5 ∨ k = 13 → M9 ty = 0 := fun hk => hts ty (by rw [if_pos hk]; simp)
 have hcv : Y9 (O8 cx k nm ty) := A4c hv fun hk => n5 (.inl hk)
 rw [L9] at he
 split at he
 ·cases he
 ·rename_i us h l1 hL
  obtain ⟨e1, e2, e3, e4⟩ := (A9A ks (fun t _ d cx l => A4d t d cx l) (d + 1) (O8 cx k nm ty) l n9 hcv).1 us h l1 hL
  obtain ⟨g1, g2⟩ := B6e ks ih (d + 1) (O8 cx k nm ty) l us h l1 n9 hcv (B6d hcx fun hk => hty (.inl hk)) (fun u hu => hts u (List.mem_append_right _ hu)) hL
  obtain ⟨w, hw, _, hu⟩ := A1e he
  obtain ⟨w1, w2⟩ := B6c hcx g2 hty hw
  have hwt := A9S e2 (fun hk => n5 (.inr hk)) (by rw [e3]; exact n1) n2 hw
  have hsm : D9 us h w l1 = (us, l1) := B0I us h w l1 fun i hi hh => A7m _ _ (hwt.ok i hi hh).1 (g2 _ (List.getElem_mem hh)) (w1 _ (List.getElem_mem hi))
  refine ⟨?_, w2⟩
  rw [hu, hsm]
  split
  ·show NoC (us.getD 0 I2)
   rw [List.getD_eq_getElem?_getD]
   cases hx : us[0]? with
   | none => exact A11.2 ⟨fun e => absurd e (by decide), trivial⟩
   | some t => exact g1 t (List.mem_of_getElem? hx)
  ·exact A11.2 ⟨fun e => absurd e n2, A2i.2 g1⟩
theorem B6g : ∀ (g : GE) (d : Int), I9 40 13 g.tm d = true → NoC g.tm → g.lt := by
 intro g
 induction g with
 | var x => intro _ _ _; trivial
 | num n => intro _ _ _; trivial
 | tru b => intro _ _ _; trivial
 | lam x A e i =>
  intro d h hn
  rw [GE.tm] at h hn
  obtain ⟨_, _, h3, h4⟩ := R8 h
  rw [F8, Bool.and_eq_true] at h4
  exact ⟨(R7.1 h3).2.2.2.2.2.1 (.inl rfl), i _ h4.1 (A2i.1 (A11.1 hn).2 _ (by simp))⟩
 | app f a i j =>
  intro d h hn
  rw [GE.tm] at h hn
  obtain ⟨_, _, _, h4⟩ := R8 h
  rw [F8, F8, Bool.and_eq_true, Bool.and_eq_true] at h4
  have hm := A2i.1 (A11.1 hn).2
  exact ⟨i _ h4.1 (hm _ (by simp)), j _ h4.2.1 (hm _ (by simp))⟩
 | ar s f a i j =>
  intro d h hn
  rw [GE.tm] at h hn
  obtain ⟨_, _, _, h4⟩ := R8 h
  rw [F8, F8, Bool.and_eq_true, Bool.and_eq_true] at h4
  have hm := A2i.1 (A11.1 hn).2
  exact ⟨i _ h4.1 (hm _ (by simp)), j _ h4.2.1 (hm _ (by simp))⟩
 | ite c f a i j k =>
  intro d h hn
  rw [GE.tm] at h hn
  obtain ⟨_, _, _, h4⟩ := R8 h
  rw [F8, F8, F8, Bool.and_eq_true, Bool.and_eq_true, Bool.and_eq_true] at h4
  have hm := A2i.1 (A11.1 hn).2
  exact ⟨i _ h4.1 (hm _ (by simp)), j _ h4.2.1 (hm _ (by simp)), k _ h4.2.2.1 (hm _ (by simp))⟩
 | pair f a i j =>
  intro d h hn
  rw [GE.tm] at h hn
  obtain ⟨_, _, _, h4⟩ := R8 h
  rw [F8, F8, Bool.and_eq_true, Bool.and_eq_true] at h4
  have hm := A2i.1 (A11.1 hn).2
  exact ⟨i _ h4.1 (hm _ (by simp)), j _ h4.2.1 (hm _ (by simp))⟩
 | part s e i =>
  intro d h hn
  rw [GE.tm] at h hn
  obtain ⟨_, _, _, h4⟩ := R8 h
  rw [F8, Bool.and_eq_true] at h4
  exact i _ h4.1 (A2i.1 (A11.1 hn).2 _ (by simp))
 | cast A B l e i =>
  intro d h hn
  rw [GE.tm] at hn
  exact ((A11.1 hn).1 rfl).elim
theorem B6h {e u : Tm} {t : Ty} (h : A1x e = true) (hu : X6 e = some (u, t)) : NoC u := by
 unfold A1x at h
 rw [Bool.and_eq_true, List.all_eq_true] at h
 unfold X6 at hu
 rw [if_pos h.1] at hu
 split at hu
 ·rename_i u' t' l' he
  cases hu
  exact (B6f e 1 [] 0 u t l' ((A0b e).1 h.1).1 A4b (fun x u hx => by simp [W5, X9] at hx) (fun u hu => of_decide_eq_true (h.2 u hu)) he).1
 ·cases hu
def B8h (e : Tm) (fuel : Int) : ByteArray × Int × Int := if (O6 e || W4 e) = true then (if (A4h (D0 e) fuel).2.1 = 0 then (A4g (A4h (D0 e) fuel).1, 0, (A4h (D0 e) fuel).2.2) else (⟨⟨[]⟩⟩, (A4h (D0 e) fuel).2.1, (A4h (D0 e) fuel).2.2)) else (⟨⟨[]⟩⟩, 3, 0)
inductive Tg where
 | i | b | f | p
def Tg.ty : Tg → GT
 | .i => .int
 | .b => .bool
 | .f => .fn .any .any
 | .p => .pr .any .any
inductive DM where
 | a
 | r (t : Tg)
 | c (t : Tg)
def GE.dy : GE → DM → Prop
 | .var _, m => m = .a
 | .num _, m => m = .r .i ∨ m = .c .i
 | .tru _, m => m = .r .b ∨ m = .c .b
 | .lam _ A e, m => (m = .r .f ∨ m = .c .f) ∧ A = .any ∧ e.dy .a
 | .app f x, m => m = .a ∧ f.dy (.c .f) ∧ x.dy .a
 | .ar s x y, m => m = .r (if s = true then .b else .i) ∧ x.dy (.c .i) ∧ y.dy (.c .i)
 | .ite c x y, m => m = .a ∧ c.dy (.c .b) ∧ x.dy .a ∧ y.dy .a
 | .pair x y, m => (m = .r .p ∨ m = .c .p) ∧ x.dy .a ∧ y.dy .a
 | .part _ e, m => m = .a ∧ e.dy (.c .p)
 | .cast A B _ e, m => (m = .a ∧ B = .any ∧ ∃ t : Tg, A = t.ty ∧ e.dy (.r t)) ∨ ∃ t : Tg, m = .c t ∧ A = .any ∧ B = t.ty ∧ e.dy .a
def GE.evc : GE → Prop
 | .var _ => False
 | .num _ => True
 | .tru _ => True
 | .lam _ _ _ => True
 | .app f a => f.evc ∧ a.evc
 | .ar _ a b => a.evc ∧ b.evc
 | .ite c _ _ => c.evc
 | .pair a b => a.evc ∧ b.evc
 | .part _ e => e.evc
 | .cast _ _ _ e => e.evc
def GE.tg : GE → Option Tg
 | .num _ => some .i
 | .tru _ => some .b
 | .lam _ _ _ => some .f
 | .pair _ _ => some .p
 | _ => none
def Vl (e : GE) : Prop := ∃ w, Ss e w ∧ GV w
def Rs (t : Tg) (e : GE) : Prop := ∃ w, Ss e w ∧ GV w ∧ w.tg = some t
def Nv : DM → GE → Prop
 | .a, e => ¬Vl e.er
 | .r _, e => ¬Vl e.er
 | .c t, e => ¬Rs t e.er
def B0J (e : Tm) : Tm := .mk 13 ⟨#[]⟩ 0 O4 A5 0 [e]
mutual
def A7o : Tm → Tm
 | .mk k nm num ty fr lb ks => if k = 13 then (A5x ks).headD I2 else if k = 1 ∨ k = 6 ∨ k = 9 ∨ k = 11 ∨ k = 12 then .mk k nm num A5 A5 0 (A5x ks)
  else B0J (.mk k nm num (if k = 5 then O4 else A5) A5 0 (A5x ks))
def A5x : List Tm → List Tm
 | [] => []
 | t :: ts => A7o t :: A5x ts
end
mutual
def T6 : List ByteArray → Tm → Prop
 | b, .mk k nm _ _ _ _ ks => (k = 1 → nm ∈ b) ∧ T8 (if k = 5 then nm :: b else b) ks
def T8 : List ByteArray → List Tm → Prop
 | _, [] => True
 | b, t :: ts => T6 b t ∧ T8 b ts
end
def B8i (e : Tm) : Tm × Bool := if O6 e = true ∧ O6 (A7o e) = true then (A7o e, true) else (I2, false)
def B8j (cx : Cx) (t : Tm) : Prop := ∀ l, ∃ (g : GE) (l' : Int), L9 cx t l = some (g.tm, O4, l') ∧ g.dy .a
def B8k (cx : Cx) (t : Tm) (s : Tg) : Prop := ∀ l, ∃ (g : GE) (l' : Int), L9 cx t l = some (g.tm, s.ty.ty, l') ∧ g.dy (.r s)
section
variable {cx : Cx} {k : Int} {nm : ByteArray} {num : Int} {ty fr : Ty} {lb : Int} {a b c u v w : Tm} {A B C : Ty} {l l1 l2 l3 : Int}
end
section
variable {cx : Cx} {a b c : Tm}
end
theorem A5y {b : List ByteArray} : ∀ {ks : List Tm}, T8 b ks → ∀ t ∈ ks, T6 b t
 | [], _, t, ht => by cases ht
 | u :: us, h, t, ht => by
  rw [T8] at h
  rcases List.mem_cons.1 ht with rfl | ht
  ·exact h.1
  ·exact A5y h.2 t ht
theorem GE.inj : ∀ {e e' : GE}, e.tm = e'.tm → e = e' := by
 intro e
 induction e with
 | var x => intro e' h; cases e' with
  | var y => simp [GE.tm] at h; rw [h]
  | tru b => cases b <;> simp [GE.tm] at h
  | ar s _ _ => cases s <;> simp [GE.tm] at h
  | part s _ => cases s <;> simp [GE.tm] at h
  | _ => simp [GE.tm] at h
 | num n => intro e' h; cases e' with
  | num y => simp [GE.tm] at h; rw [h]
  | tru b => cases b <;> simp [GE.tm] at h
  | ar s _ _ => cases s <;> simp [GE.tm] at h
  | part s _ => cases s <;> simp [GE.tm] at h
  | _ => simp [GE.tm] at h
 | tru b => intro e' h; cases e' with
  | tru c => cases b <;> cases c <;> first | rfl | simp [GE.tm] at h
  | ar s _ _ => cases b <;> cases s <;> simp [GE.tm] at h
  | part s _ => cases b <;> cases s <;> simp [GE.tm] at h
  | _ => cases b <;> simp [GE.tm] at h
 | lam x A e i => intro e' h; cases e' with
  | lam y B e' => simp [GE.tm] at h; rw [h.1, GT.inj h.2.1, i h.2.2]
  | tru b => cases b <;> simp [GE.tm] at h
  | ar s _ _ => cases s <;> simp [GE.tm] at h
  | part s _ => cases s <;> simp [GE.tm] at h
  | _ => simp [GE.tm] at h
 | app f a i j => intro e' h; cases e' with
  | app f' a' => simp [GE.tm] at h; rw [i h.1, j h.2]
  | tru b => cases b <;> simp [GE.tm] at h
  | ar s _ _ => cases s <;> simp [GE.tm] at h
  | part s _ => cases s <;> simp [GE.tm] at h
  | _ => simp [GE.tm] at h
 | ar t f a i j => intro e' h; cases e' with
  | ar s f' a' => cases s <;> cases t <;> simp [GE.tm] at h <;> rw [i h.1, j h.2]
  | tru b => cases t <;> cases b <;> simp [GE.tm] at h
  | part s _ => cases t <;> cases s <;> simp [GE.tm] at h
  | _ => cases t <;> simp [GE.tm] at h
 | ite c a b i j k => intro e' h; cases e' with
  | ite c' a' b' => simp [GE.tm] at h; rw [i h.1, j h.2.1, k h.2.2]
  | tru b => cases b <;> simp [GE.tm] at h
  | ar s _ _ => cases s <;> simp [GE.tm] at h
  | part s _ => cases s <;> simp [GE.tm] at h
  | _ => simp [GE.tm] at h
 | pair f a i j => intro e' h; cases e' with
  | pair f' a' => simp [GE.tm] at h; rw [i h.1, j h.2]
  | tru b => cases b <;> simp [GE.tm] at h
  | ar s _ _ => cases s <;> simp [GE.tm] at h
  | part s _ => cases s <;> simp [GE.tm] at h
  | _ => simp [GE.tm] at h
 | part t a i => intro e' h; cases e' with
  | part s a' => cases s <;> cases t <;> simp [GE.tm] at h <;> rw [i h]
  | tru b => cases t <;> cases b <;> simp [GE.tm] at h
  | ar s _ _ => cases t <;> cases s <;> simp [GE.tm] at h
  | _ => cases t <;> simp [GE.tm] at h
 | cast A B l e i => intro e' h; cases e' with
  | cast A' B' l' e' => simp [GE.tm] at h; rw [GT.inj h.1, GT.inj h.2.1, h.2.2.1, i h.2.2.2]
  | tru b => cases b <;> simp [GE.tm] at h
  | ar s _ _ => cases s <;> simp [GE.tm] at h
  | part s _ => cases s <;> simp [GE.tm] at h
  | _ => simp [GE.tm] at h
section
variable {k : Int} {nm : ByteArray} {num : Int} {ty fr : Ty} {lb : Int} {a b c : Tm}
end
def GE.fv (x : ByteArray) : GE → Prop
 | .var y => y = x
 | .num _ => False
 | .tru _ => False
 | .lam y _ e => y ≠ x ∧ e.fv x
 | .app f a => f.fv x ∨ a.fv x
 | .ar _ a b => a.fv x ∨ b.fv x
 | .ite c a b => c.fv x ∨ a.fv x ∨ b.fv x
 | .pair a b => a.fv x ∨ b.fv x
 | .part _ e => e.fv x
 | .cast _ _ _ e => e.fv x
def GE.cl (e : GE) : Prop := ∀ x, ¬e.fv x
theorem B6i {x : ByteArray} {v : GE} : ∀ e : GE, ¬e.fv x → e.sub x v = e := by
 intro e
 induction e with
 | var y => intro h; rw [GE.sub]; exact if_neg h
 | num n => intro _; rfl
 | tru b => intro _; rfl
 | lam y A e i =>
  intro h
  rw [GE.sub]
  split
  ·rfl
  ·rename_i hy; rw [i (fun hf => h ⟨hy, hf⟩)]
 | app f a i j => intro h; rw [GE.sub, i (fun g => h (.inl g)), j (fun g => h (.inr g))]
 | ar s f a i j => intro h; rw [GE.sub, i (fun g => h (.inl g)), j (fun g => h (.inr g))]
 | ite c f a i j k => intro h; rw [GE.sub, i (fun g => h (.inl g)), j (fun g => h (.inr (.inl g))), k (fun g => h (.inr (.inr g)))]
 | pair f a i j => intro h; rw [GE.sub, i (fun g => h (.inl g)), j (fun g => h (.inr g))]
 | part s e i => intro h; rw [GE.sub, i h]
 | cast A B l e i => intro h; rw [GE.sub, i h]
theorem A5z {x : ByteArray} {v e : GE} (h : e.cl) : e.sub x v = e := B6i e (h x)
theorem B6j {x : ByteArray} {v w : GE} (hv : v.cl) : ∀ e : GE, (e.sub x v).sub x w = e.sub x v := by
 intro e
 induction e with
 | var y =>
  simp only [GE.sub]
  split
  ·exact A5z hv
  ·rename_i h; rw [GE.sub, if_neg h]
 | num n => rfl
 | tru b => rfl
 | lam y A e i =>
  simp only [GE.sub]
  split
  ·rename_i h; rw [GE.sub, if_pos h]
  ·rename_i h; rw [GE.sub, if_neg h, i]
 | app f a i j => simp only [GE.sub, i, j]
 | ar s f a i j => simp only [GE.sub, i, j]
 | ite c f a i j k => simp only [GE.sub, i, j, k]
 | pair f a i j => simp only [GE.sub, i, j]
 | part s e i => simp only [GE.sub, i]
 | cast A B l e i => simp only [GE.sub, i]
theorem B6k {x y : ByteArray} {v w : GE} (hxy : x ≠ y) (hv : v.cl) (hw : w.cl) : ∀ e : GE, (e.sub x v).sub y w = (e.sub y w).sub x v := by
 intro e
 induction e with
 | var z =>
  simp only [GE.sub]
  by_cases h1 : z = x
  ·rw [if_pos h1, if_neg (fun h => hxy (h1.symm.trans h)), GE.sub, if_pos h1]
   exact A5z hv
  ·rw [if_neg h1]
   by_cases h2 : z = y
   ·rw [if_pos h2, GE.sub, if_pos h2]
    exact (A5z hw).symm
   ·rw [if_neg h2, GE.sub, if_neg h2, GE.sub, if_neg h1]
 | num n => rfl
 | tru b => rfl
 | lam z A e i =>
  simp only [GE.sub]
  by_cases h1 : z = x
  ·by_cases h2 : z = y
   ·exact absurd (h1.symm.trans h2) hxy
   ·rw [if_pos h1, if_neg h2, GE.sub, if_neg h2, GE.sub, if_pos h1]
  ·by_cases h2 : z = y
   ·rw [if_neg h1, if_pos h2, GE.sub, if_pos h2, GE.sub, if_neg h1]
   ·rw [if_neg h1, if_neg h2, GE.sub, if_neg h2, GE.sub, if_neg h1, i]
 | app f a i j => simp only [GE.sub, i, j]
 | ar s f a i j => simp only [GE.sub, i, j]
 | ite c f a i j k => simp only [GE.sub, i, j, k]
 | pair f a i j => simp only [GE.sub, i, j]
 | part s e i => simp only [GE.sub, i]
 | cast A B l e i => simp only [GE.sub, i]
def J2 : List (ByteArray × GE) → GE → GE
 | [], e => e
 | (x, v) :: σ, e => J2 σ (e.sub x v)
def clS (σ : List (ByteArray × GE)) : Prop := ∀ p ∈ σ, p.2.cl
def A1y (x : ByteArray) (σ : List (ByteArray × GE)) : List (ByteArray × GE) := σ.filter fun p => decide (p.1 ≠ x)
theorem B0K {e : GE} (h : e.cl) : ∀ σ, J2 σ e = e
 | [] => rfl
 | (x, v) :: σ => by rw [J2, A5z h, B0K h σ]
theorem B0L (n : Int) : ∀ σ, J2 σ (.num n) = .num n
 | [] => rfl
 | (x, v) :: σ => by rw [J2, GE.sub, B0L n σ]
theorem B0M (b : Bool) : ∀ σ, J2 σ (.tru b) = .tru b
 | [] => rfl
 | (x, v) :: σ => by rw [J2, GE.sub, B0M b σ]
theorem B0N (f a : GE) : ∀ σ, J2 σ (.app f a) = .app (J2 σ f) (J2 σ a)
 | [] => rfl
 | (x, v) :: σ => by rw [J2, GE.sub, B0N _ _ σ]; rfl
theorem B0O (s : Bool) (f a : GE) : ∀ σ, J2 σ (.ar s f a) = .ar s (J2 σ f) (J2 σ a)
 | [] => rfl
 | (x, v) :: σ => by rw [J2, GE.sub, B0O s _ _ σ]; rfl
theorem B0P (f a : GE) : ∀ σ, J2 σ (.pair f a) = .pair (J2 σ f) (J2 σ a)
 | [] => rfl
 | (x, v) :: σ => by rw [J2, GE.sub, B0P _ _ σ]; rfl
theorem B0Q (s : Bool) (f : GE) : ∀ σ, J2 σ (.part s f) = .part s (J2 σ f)
 | [] => rfl
 | (x, v) :: σ => by rw [J2, GE.sub, B0Q s _ σ]; rfl
theorem B0R (c f a : GE) : ∀ σ, J2 σ (.ite c f a) = .ite (J2 σ c) (J2 σ f) (J2 σ a)
 | [] => rfl
 | (x, v) :: σ => by rw [J2, GE.sub, B0R _ _ _ σ]; rfl
theorem A7p (x : ByteArray) (A : GT) : ∀ (σ : List (ByteArray × GE)) (e : GE), J2 σ (.lam x A e) = .lam x A (J2 (A1y x σ) e)
 | [], _ => rfl
 | (y, v) :: σ, e => by
  rw [J2, GE.sub, A1y, List.filter_cons]
  by_cases h : x = y
  ·rw [if_pos h, if_neg (by simp [h]), A7p x A σ e]; rfl
  ·rw [if_neg h, if_pos (by simp; exact fun h2 => h h2.symm), A7p x A σ (e.sub y v)]; rfl
theorem A7q (x : ByteArray) (w : GE) (hw : w.cl) : ∀ (σ : List (ByteArray × GE)) (e : GE), clS σ → (J2 (A1y x σ) e).sub x w = J2 σ (e.sub x w)
 | [], _, _ => rfl
 | (y, v) :: σ, e, h => by
  have hv : v.cl := h (y, v) List.mem_cons_self
  have hs : clS σ := fun p hp => h p (List.mem_cons_of_mem _ hp)
  rw [A1y, List.filter_cons, J2]
  by_cases hx : y = x
  ·subst hx
   rw [if_neg (by simp), B6j hw e]
   exact A7q y w hw σ e hs
  ·rw [if_pos (by simp [hx]), J2, ← B6k hx hv hw e]
   exact A7q x w hw σ (e.sub y v) hs
end Gw
end Go.Proofs.YtgodjiieijekiaaGreatDoor
