/-
  Drawn terms that often have a type.
-/
import Derived.Test.YtgodjiieijekiaaGreatDoorKi4
import Derived.Test.YtgodjiieijekiaaGreatDoorKi3
set_option linter.unusedVariables false
set_option linter.unusedSimpArgs false
set_option maxHeartbeats 0
set_option maxRecDepth 100000
set_option synthInstance.maxSize 4000
set_option synthInstance.maxHeartbeats 0
namespace Go.Proofs.YtgodjiieijekiaaGreatDoor
open Go Go.RowKit
namespace Gw
structure A3U {ι : Type} (S : ι → Sy) (φ : ι → Prop) (K : Po) (e : Exit) (σ : Sy) : Prop where
 run : match e with
  | .normal => ∃ i, φ i ∧ Sub σ (S i)
  | e => K e σ
section cut
variable {P : Program} {Γ : K0} {K : Po} {σ : Sy} {ι : Type}
theorem A9A {c y : Code} (S : ι → Sy) (φ : ι → Prop) (h : I9 P Γ c (A3U S φ K) σ) (k : ∀ i, φ i → I9 P Γ y K (S i)) : I9 P Γ c (A0Z P Γ y K) σ := by
 refine A5l h ?_
 rintro e σ ⟨hk⟩
 cases e with
 | normal => obtain ⟨i, hi, hs⟩ := hk; exact ⟨A69 hs (k i hi)⟩
 | _ => exact ⟨hk⟩
theorem A3V {S : ι → Sy} {φ : ι → Prop} {σ : Sy} (i : ι) (hs : Sub σ (S i)) (h : φ i) : A3U S φ K .normal σ := ⟨⟨i, h, hs⟩⟩
theorem A0T {S : ι → Sy} {φ : ι → Prop} {σ : Sy} (h : K .ret σ) : A3U S φ K .ret σ := ⟨h⟩
theorem B3w {S : ι → Sy} {φ : ι → Prop} (h : Z7 K) : Z7 (A3U S φ K) := fun c σ hk => h c σ hk.run
instance npC6 {S : ι → Sy} {φ : ι → Prop} [h : NpC K] : NpC (A3U S φ K) := ⟨B3w h.h⟩
end cut
theorem A2a (G : IM) (nm : ByteArray) (num : Int) {k : Int} (hk : H4 k) (hn : H4 num) : B5 G (.mk k nm num A7 A7 0 []) [.int .i64 k, .string nm, .int .i64 num, .int .i64 0, .slice none 0 0, .int .i64 0, .slice none 0 0, .int .i64 0, .slice none 0 0] := A1b hk hn
theorem B3.kidsM {G : IM} {k : Int} {ks : List Ty} {q : Option Addr} {c : Nat} (h : B3 G (.mk k ks) [.int .i64 k, .slice q ks.length c]) : ∃ es, D5 G q ks.length c 2 es ∧ E1 G ks es := by
 obtain ⟨q', c', es, he, _, h1, h2⟩ := h.open
 cases he
 exact ⟨es, h1, h2⟩
theorem B3x (br : Nat) (pb : Option Addr) (nb cb : Nat) (bs : List UInt8) (hnb : nb ≤ 2000) : ∀ n, A9y br pb nb cb bs n := by
 refine fun n => Nat.strongRecOn n fun n ih depth t p G pc nc cc cells hfu hd0 hd1 hnc hx hrt hb hp => ?_
 have hge := A1q n
 have har := hfu.1.ar
 have hszt := A4x hfu.1
 have hnn := A0a t
 have hncl := hx.le
 obtain ⟨k, ks⟩ := t
 obtain ⟨q, c, es, rfl, hk, _, _⟩ := hrt.open
 simp only [Ty.k, Ty.ks] at hk hrt ⊢
 have hsz30 : F4 (.mk k ks) ≤ 30 := hszt
 have hops : k = 4 ∨ k = 5 → ks.length = 2 := by have h2 := har; rw [E4] at h2; exact h2.1
 refine B8 Tryz.func110 rfl Tryz.ntmps110 Tryz.results110 rfl ?_
 intro w0
 refine tS (tR ?_)
 refine sE (E7 rfl rfl) rfl (fun b3 => ?_)
 refine sE (A8 rfl) rfl (fun b4 => ?_)
 refine B7 ?_
 refine sP (Q9 rfl rfl (by omega) (by omega)) rfl rfl ?_
 refine sQ (qA rfl) rfl (sD (nS ?_))
 refine C6 ?_
 (refine N4 (fun (x : Nat × Nat × IM) => ⟨(9, .int .i64 ((x.1 : Int) - 1)) :: [(0, .pointer (some ⟨br, 0, none⟩)), (1, .slice pc nc cc), (3, .int .i64 depth), (6, .pointer (some ⟨b3, 0, none⟩)), (8, .pointer (some ⟨b4, 0, none⟩))], [rd br pb nb cb x.2.1, .blk b4 [.int .i64 0, .string ⟨⟨[]⟩⟩, .int .i64 0, .int .i64 0, .slice none 0 0, .int .i64 0, .slice none 0 0, .int .i64 0, .slice none 0 0], .blk b3 [.int .i64 k, .slice q ks.length c]], x.2.2⟩) (fun x => x.1 ≤ nc ∧ B2 G x.2.2 ∧ p ≤ x.2.1 ∧ x.2.1 + x.1 ≤ p + nc) (fun x => x.1) (nc, p, G) ?_ ?_ ?_)
 (simp only [J9]; exact E0)
 (exact ⟨Nat.le_refl _, B2.refl _, Nat.le_refl _, Nat.le_refl _⟩)
 (rintro ⟨(i : Nat), (p1 : Nat), G1⟩ ⟨hi, hleL, hpL, hpL2⟩; simp only [] at hi hleL hpL hpL2 ⊢; replace hx := hx.mono hleL; replace hb := hb.mono hleL; replace hrt := hrt.mono hleL;)
 refine tS (tS (tR (sQ (qM rfl) rfl ?_)))
 refine sB (S4 rfl rfl) rfl rfl (fun h25 => ?_) (fun h25 => ?_)
 refine sD (nS (qT rfl (tK (nS (tS ?_)))))
 (show I9 _ _ (.block 1 ..) _ _; obtain ⟨j, rfl⟩ : ∃ j, i = j + 1 := ⟨i - 1, by omega⟩; rw [show ((j + 1 : Nat) : Int) - 1 = (j : Int) from by omega]; obtain ⟨b, o, nm1, t1, qq1, dd1, rfl, hat, hr1, ha1, hs1, hgb, hns1⟩ := hx.get (i := j) (by omega); refine C6 ?_)
 refine S6 ?_
 refine sP (D0 (j := j) rfl rfl rfl (by omega)) rfl rfl ?_
 refine sQ (qF rfl) rfl ?_
 refine sL (M7 rfl rfl ((hat _).sub (j := 0) rfl)) rfl rfl ?_
 (refine D9 rfl (A8u _ _ nc cc nm1 hx) rfl rfl (fun v G2 hle2 hh => ?_); obtain ⟨ts, tcs, xs, rfl, hrs, has, hss⟩ := hh; obtain ⟨ps, cs, ess, rfl, _⟩ := hrs.open; obtain ⟨b, o, nm1, t1, qq1, dd1, hpp, hat, hr1, ha1, hs1, hgb, hns1⟩ := (hx.mono hle2).get (i := j) (by omega); cases hpp; replace hx := hx.mono hle2; replace hb := hb.mono hle2; replace hrt := hrt.mono hle2;)
 refine H0 ?_
 refine sE (A8 rfl) rfl (fun b45 => ?_)
 refine B7 ?_
 (have hinloop := hrs; refine C0 rfl (S0 _ br pb nb cb (p1) bs 3 hb hnb (by omega)) (Pk.perm (by repeat (first | exact Pk.here | apply Pk.there))) rfl rfl (fun v Gp outs hle53 hh => ?_); obtain ⟨rfl, rfl, j53, rfl, hj53, hk53⟩ := hh; have hinl := hj53)
 replace hrs := hrs.mono hle53
 replace hr1 := hr1.mono hle53
 replace hb := hb.mono hle53
 replace hrt := hrt.mono hle53
 replace hinloop := hinloop.mono hle53
 refine sB (qE rfl rfl) rfl rfl (fun h54 => ?_) (fun h54 => ?_)
 refine sQ (qM rfl) rfl (sL (A2 rfl rfl) rfl rfl ?_)
 refine J4 rfl ((A0L ts _ _ hrs)) rfl rfl (fun h57 => ?_) (fun h57 => ?_)
 refine H9 ?_
 refine J4 rfl ((W5 ts (.mk k ks) _ _ _ has har hrs hrt)) rfl rfl (fun h62 => ?_) (fun h62 => ?_)
 refine F8 ?_
 refine sP (D0 (j := j) rfl rfl rfl (by omega)) rfl rfl ?_
 refine sQ (qF rfl) rfl ?_
 refine sL (M7 rfl rfl ((hat _).sub (j := 0) rfl)) rfl rfl ?_
 refine M2 ?_
 refine C4 (outs := [rd br pb nb cb (p1 + 1)]) (rC rfl (A2 rfl rfl)) (by repeat (first | exact A0.nil | refine A0.cons Pk.here ?_ | refine A0.cons (Pk.there Pk.here) ?_ | refine A0.cons (Pk.there (Pk.there Pk.here)) ?_ | apply A0.drop)) ?_
 (exact ⟨(p1 + 1), by omega, by omega, rfl, _, _, rfl, A2a _ _ _ ⟨by omega, by omega⟩ (by first | exact ⟨by omega, by omega⟩ | exact hkn), by first | exact O6 (by first | assumption | decide) | exact A0w (by decide) (by assumption) (by assumption) (by assumption) | exact S8 (by decide) (by assumption) (by assumption) | exact K9 (by decide) Q6 (by assumption) | exact K9 (by decide) har.small (by assumption) | exact K9 (by decide) Q6 (S8 (by decide) (by assumption) (O6 (by decide))) | exact K9 (by decide) A0x (O6 (by decide)) | assumption, by simp only [C3, C9]; omega⟩)
 refine C7 ?_
 refine sP (Q9 rfl rfl (by omega) (by omega)) rfl rfl ?_
 refine sQ (qA rfl) rfl (sD ?_)
 (have hinloop := hrs; refine K5 (j, p1 + 1, Gp) ?_ ?_ ?_)
 (simp only [J9]; exact E0)
 (dsimp only; exact ⟨by omega, hleL.trans hle2, by omega, by omega⟩)
 (show _ < _ + 1; omega)
 refine O8 ?_
 refine sP (Q9 rfl rfl (by omega) (by omega)) rfl rfl ?_
 refine sQ (qA rfl) rfl (sD ?_)
 (have hinloop := hrs; refine K5 (j, p1 + 1, Gp) ?_ ?_ ?_)
 (simp only [J9]; exact E0)
 (dsimp only; exact ⟨by omega, hleL.trans hle2, by omega, by omega⟩)
 (show _ < _ + 1; omega)
 refine T5 ?_
 refine sP (Q9 rfl rfl (by omega) (by omega)) rfl rfl ?_
 refine sQ (qA rfl) rfl (sD ?_)
 (have hinloop := hrs; refine K5 (j, p1 + 1, Gp) ?_ ?_ ?_)
 (simp only [J9]; exact E0)
 (dsimp only; exact ⟨by omega, hleL.trans hle2, by omega, by omega⟩)
 (show _ < _ + 1; omega)
 refine M2 ?_
 (show I9 _ _ (.region 7 ..) _ _; refine A0b (fun (x : Bool) => ⟨(49, .bool x) :: [(0, .pointer (some ⟨br, 0, none⟩)), (1, .slice pc nc cc), (3, .int .i64 depth), (6, .pointer (some ⟨b3, 0, none⟩)), (8, .pointer (some ⟨b4, 0, none⟩))], [rd br pb nb cb p1, .blk b4 [.int .i64 0, .string ⟨⟨[]⟩⟩, .int .i64 0, .int .i64 0, .slice none 0 0, .int .i64 0, .slice none 0 0, .int .i64 0, .slice none 0 0], .blk b3 [.int .i64 k, .slice q ks.length c]], G1⟩) (fun x => x = true → 1 < depth) ?_ ?_)
 refine tR (sQ (qM rfl) rfl ?_)
 refine sB (Y2 rfl rfl) rfl rfl (fun h160 => ?_) (fun h160 => ?_)
 refine sD ?_
 refine P1 true (N7 (by repeat (first | exact E6.nil | refine E6.cons rfl ?_)) (by repeat (first | exact A0.refl | exact A0.nil | refine A0.cons (by repeat (first | exact Pk.here | apply Pk.there)) ?_ | apply A0.drop))) (fun _ => by omega)
 refine sD ?_
 refine P1 false (N7 (by repeat (first | exact E6.nil | refine E6.cons rfl ?_)) (by repeat (first | exact A0.refl | exact A0.nil | refine A0.cons (by repeat (first | exact Pk.here | apply Pk.there)) ?_ | apply A0.drop))) (fun h => absurd h (by decide))
 (rintro (x49 : Bool) hx49)
 (show I9 _ _ (.cond (.tmp 49) _ _) _ _; refine A9A (fun (x : Nat × IM) => ⟨[(0, .pointer (some ⟨br, 0, none⟩)), (1, .slice pc nc cc), (3, .int .i64 depth), (6, .pointer (some ⟨b3, 0, none⟩)), (8, .pointer (some ⟨b4, 0, none⟩))], [rd br pb nb cb x.1, .blk b4 [.int .i64 0, .string ⟨⟨[]⟩⟩, .int .i64 0, .int .i64 0, .slice none 0 0, .int .i64 0, .slice none 0 0, .int .i64 0, .slice none 0 0], .blk b3 [.int .i64 k, .slice q ks.length c]], x.2⟩) (fun x => B2 G1 x.2 ∧ p1 ≤ x.1 ∧ x.1 ≤ p1 + 1) (A2m rfl (fun hxt => ?_) (fun hxf => ?_)) ?_)
 refine tS (tR (sQ (qM rfl) rfl ?_))
 (have hx49b := hx49 hxt; refine C0 rfl (S0 _ br pb nb cb (p1) bs 9 hb hnb (by omega)) (Pk.perm (by repeat (first | exact Pk.here | apply Pk.there))) rfl rfl (fun v Gp outs hle170 hh => ?_); obtain ⟨rfl, rfl, j170, rfl, hj170, hk170⟩ := hh; have hpk9 := hj170)
 replace hb := hb.mono hle170
 replace hrt := hrt.mono hle170
 refine sD (nS ?_)
 refine C6 (tS (tR (sB (qE rfl rfl) rfl rfl (fun h176 => ?_) (fun h176 => ?_))))
 refine sQ (qA rfl) rfl (sD (nS (qT rfl (tS ?_))))
 (obtain ⟨m, rfl⟩ := hfu.pos (.inl (by omega)); have hmB : mB (m + 1) = 3 * mB m + 200 := rfl; have hgm := A1q m; refine D3 D4 rfl ?_)
 refine S3 (i := 0) (l' := [tt,ff,ff,ff,ff,ff,ff,ff,ff,ff,ff,ff,ff]) rfl C5 (A2 rfl rfl) rfl (by kernel_rfl) rfl rfl ?_
 refine aP 2 rfl (qM rfl) rfl ?_
 refine aP 3 rfl (qM rfl) rfl ?_
 refine aP 4 rfl (qM rfl) rfl ?_
 refine aL 5 rfl (A2 rfl rfl) rfl ?_
 refine aP 7 rfl (qM rfl) rfl ?_
 refine aP 8 rfl (Q9 rfl rfl (by omega) (by omega)) rfl ?_
 refine A1 1 ?_
 (refine M6 rfl rfl (R4 _ _ _ har.small hrt) rfl rfl rfl (fun v G6 hle6 hh => ?_); obtain ⟨Q0, F1, rfl, hs1, hn1⟩ := hh; obtain ⟨pz, cz, rfl, _⟩ := hs1.open; have hrz := hs1.R.mono (B6.le G6 _); replace hx := hx.mono hle6; replace hb := hb.mono hle6; replace hrt := hrt.mono hle6;)
 refine A1 6 ?_
 (have hcall := A4G br pb nb cb bs hnb (.mk k ks) (p1 + 1) _ _ har hrt hb (by omega); refine W4 (l' := [tt,tt,tt,tt,tt,tt,tt,tt,tt,ff,ff,ff,ff]) rfl rfl hcall (Pk.perm (by repeat (first | exact Pk.here | apply Pk.there))) rfl rfl rfl (by repeat (first | exact A5.nil | apply A5.dep (by decide +kernel) | apply A5.im (by decide +kernel) hg0 (by repeat first | exact mH | apply mT) | apply A5.im (by decide +kernel) hg1 (by repeat first | exact mH | apply mT) | apply A5.blk (by decide +kernel) (by repeat (first | exact Pk.here | apply Pk.there)) (by repeat first | exact mH | apply mT))) (fun v Gn outs hleA hh => ?_); obtain ⟨pA, hpA1, hpA2, rfl, uA, cuA, rfl, hruA, huaA, husA, huhA⟩ := hh; obtain ⟨quA, duA, euA, rfl, _⟩ := hruA.open; replace hrz := hrz.mono hleA; replace hx := hx.mono hleA; replace hb := hb.mono hleA; replace hrt := hrt.mono hleA;)
 refine A1 9 ?_
 (have hcall := ih m (by omega) (depth - 1) uA pA _ pc nc cc _ (hfu.sub (by omega) (huhA 4 hfu.1)) (by omega) (by omega) (by omega) hx hruA hb (by omega); refine W4 (l' := [tt,tt,tt,tt,tt,tt,tt,tt,tt,tt,ff,ff,ff]) rfl rfl hcall (Pk.perm (by repeat (first | exact Pk.here | apply Pk.there))) rfl rfl rfl (by repeat (first | exact A5.nil | apply A5.dep (by decide +kernel) | apply A5.im (by decide +kernel) hg0 (by repeat first | exact mH | apply mT) | apply A5.im (by decide +kernel) hg1 (by repeat first | exact mH | apply mT) | apply A5.blk (by decide +kernel) (by repeat (first | exact Pk.here | apply Pk.there)) (by repeat first | exact mH | apply mT))) (fun v Gn outs hlea hh => ?_); obtain ⟨pa, hpa1, hpa2, rfl, ea, ca, rfl, hra, hsma, hca⟩ := hh; obtain ⟨a1, a2, a3, a4, a5, a6, a7, a8, a9, rfl⟩ := hra.nine; replace hrz := hrz.mono hlea; replace hx := hx.mono hlea; replace hb := hb.mono hlea; replace hrt := hrt.mono hlea;)
 refine A1 10 ?_
 (refine I7 rfl (D1 rfl rfl rfl (by omega) (by unfold maxLen; omega) rfl) rfl rfl ?_; rintro _ ⟨b197, rfl⟩)
 refine aP 11 rfl (P6 rfl rfl) rfl ?_
 refine A1 12 ?_
 refine K6 rfl rfl rfl rfl rfl rfl rfl rfl (by decide +kernel) (by repeat first | exact Sw.here | apply Sw.there) (by rfl) ?_
 refine D8 (nS ?_)
 (refine L4 (cs := [a1, a2, a3, a4, a5, a6, a7, a8, a9]) (by repeat (first | exact Pk.here | apply Pk.there)) (fun G9 hle9 hsl9 hno9 => ?_); have hN := A3S (k := 13) (nm := ⟨⟨[]⟩⟩) ⟨by omega, by omega⟩ (hrz.mono hle9) (hra.mono hle9) hsl9)
 refine tT (rB ?_)
 refine A0T ?_
 refine C4 (outs := [rd br pb nb cb pa]) (rC rfl (A2 rfl rfl)) (by repeat (first | exact A0.nil | refine A0.cons Pk.here ?_ | refine A0.cons (Pk.there Pk.here) ?_ | refine A0.cons (Pk.there (Pk.there Pk.here)) ?_ | apply A0.drop)) ?_
 (exact ⟨pa, by omega, by omega, rfl, _, _, rfl, hN, by first | exact O6 (by first | assumption | decide) | exact A0w (by decide) (by assumption) (by assumption) (by assumption) | exact S8 (by decide) (by assumption) (by assumption) | exact K9 (by decide) Q6 (by assumption) | exact K9 (by decide) har.small (by assumption) | exact K9 (by decide) Q6 (S8 (by decide) (by assumption) (O6 (by decide))) | exact K9 (by decide) A0x (O6 (by decide)) | assumption, by simp only [C3, C9]; omega⟩)
 refine sQ (qA rfl) rfl (sD (nS (cF rfl (tS (tR ?_)))))
 refine sB (qE rfl rfl) rfl rfl (fun h215 => ?_) (fun h215 => ?_)
 refine sQ (qA rfl) rfl (sD (nS (qT rfl (tS ?_))))
 (obtain ⟨m, rfl⟩ := hfu.pos (.inl (by omega)); have hmB : mB (m + 1) = 3 * mB m + 200 := rfl; have hgm := A1q m; refine D3 D4 rfl ?_)
 refine E8 (i := 0) (l' := [tt,ff,ff,ff,ff,ff,ff,ff,ff,ff,ff,ff,ff,ff,ff,ff,ff,ff,ff,ff,ff]) rfl C5 (qM rfl) rfl (by kernel_rfl) rfl rfl ?_
 refine aP 1 rfl (qM rfl) rfl ?_
 refine aP 3 rfl (qM rfl) rfl ?_
 refine aP 4 rfl (Q9 rfl rfl (by omega) (by omega)) rfl ?_
 refine aP 6 rfl (qM rfl) rfl ?_
 refine aP 7 rfl (qM rfl) rfl ?_
 refine aL 8 rfl (A2 rfl rfl) rfl ?_
 refine aP 9 rfl (qM rfl) rfl ?_
 refine aP 10 rfl (Q9 rfl rfl (by omega) (by omega)) rfl ?_
 refine aP 12 rfl (qM rfl) rfl ?_
 refine aP 13 rfl (qM rfl) rfl ?_
 refine aL 14 rfl (A2 rfl rfl) rfl ?_
 refine aP 15 rfl (qM rfl) rfl ?_
 refine aP 16 rfl (Q9 rfl rfl (by omega) (by omega)) rfl ?_
 refine A1 2 ?_
 refine I1 rfl rfl ((A1c _)) rfl rfl rfl ?_
 refine A1 5 ?_
 (have hcall := ih m (by omega) (depth - 1) (.mk 3 []) (p1 + 1) _ pc nc cc _ (hfu.sub (by omega) (A2Y 4 (by decide) (by decide))) (by omega) (by omega) (by omega) hx (J6 _ ⟨by omega, by omega⟩) hb (by omega); refine W4 (l' := [tt,tt,tt,tt,tt,tt,tt,tt,tt,tt,tt,ff,tt,tt,tt,tt,tt,ff,ff,ff,ff]) rfl rfl hcall (Pk.perm (by repeat (first | exact Pk.here | apply Pk.there))) rfl rfl rfl (by repeat (first | exact A5.nil | apply A5.dep (by decide +kernel) | apply A5.im (by decide +kernel) hg0 (by repeat first | exact mH | apply mT) | apply A5.im (by decide +kernel) hg1 (by repeat first | exact mH | apply mT) | apply A5.blk (by decide +kernel) (by repeat (first | exact Pk.here | apply Pk.there)) (by repeat first | exact mH | apply mT))) (fun v Gn outs hlef hh => ?_); obtain ⟨pf, hpf1, hpf2, rfl, ef, cf, rfl, hrf, hsmf, hcf⟩ := hh; obtain ⟨f1, f2, f3, f4, f5, f6, f7, f8, f9, rfl⟩ := hrf.nine; replace hx := hx.mono hlef; replace hb := hb.mono hlef; replace hrt := hrt.mono hlef;)
 refine A1 11 ?_
 (have hcall := ih m (by omega) (depth - 1) (.mk k ks) pf _ pc nc cc _ (hfu.sub (by omega) hfu.1) (by omega) (by omega) (by omega) hx hrt hb (by omega); refine W4 (l' := [tt,tt,tt,tt,tt,tt,tt,tt,tt,tt,tt,tt,tt,tt,tt,tt,tt,ff,ff,ff,ff]) rfl rfl hcall (Pk.perm (by repeat (first | exact Pk.here | apply Pk.there))) rfl rfl rfl (by repeat (first | exact A5.nil | apply A5.dep (by decide +kernel) | apply A5.im (by decide +kernel) hg0 (by repeat first | exact mH | apply mT) | apply A5.im (by decide +kernel) hg1 (by repeat first | exact mH | apply mT) | apply A5.blk (by decide +kernel) (by repeat (first | exact Pk.here | apply Pk.there)) (by repeat first | exact mH | apply mT))) (fun v Gn outs hleg hh => ?_); obtain ⟨pg, hpg1, hpg2, rfl, eg, cg, rfl, hrg, hsmg, hcg⟩ := hh; obtain ⟨g1, g2, g3, g4, g5, g6, g7, g8, g9, rfl⟩ := hrg.nine; replace hrf := hrf.mono hleg; replace hx := hx.mono hleg; replace hb := hb.mono hleg; replace hrt := hrt.mono hleg;)
 refine A1 17 ?_
 (have hcall := ih m (by omega) (depth - 1) (.mk k ks) pg _ pc nc cc _ (hfu.sub (by omega) hfu.1) (by omega) (by omega) (by omega) hx hrt hb (by omega); refine W4 (l' := [tt,tt,tt,tt,tt,tt,tt,tt,tt,tt,tt,tt,tt,tt,tt,tt,tt,tt,ff,ff,ff]) rfl rfl hcall (Pk.perm (by repeat (first | exact Pk.here | apply Pk.there))) rfl rfl rfl (by repeat (first | exact A5.nil | apply A5.dep (by decide +kernel) | apply A5.im (by decide +kernel) hg0 (by repeat first | exact mH | apply mT) | apply A5.im (by decide +kernel) hg1 (by repeat first | exact mH | apply mT) | apply A5.blk (by decide +kernel) (by repeat (first | exact Pk.here | apply Pk.there)) (by repeat first | exact mH | apply mT))) (fun v Gn outs hlei hh => ?_); obtain ⟨pi, hpi1, hpi2, rfl, ei, ci, rfl, hri, hsmi, hci⟩ := hh; obtain ⟨i1, i2, i3, i4, i5, i6, i7, i8, i9, rfl⟩ := hri.nine; replace hrf := hrf.mono hlei; replace hrg := hrg.mono hlei; replace hx := hx.mono hlei; replace hb := hb.mono hlei; replace hrt := hrt.mono hlei;)
 refine A1 18 ?_
 (refine I7 rfl (D1 rfl rfl rfl (by omega) (by unfold maxLen; omega) rfl) rfl rfl ?_; rintro _ ⟨b245, rfl⟩)
 refine A1 19 ?_
 refine I1 rfl rfl ((A2z _ _ _ _ _)) rfl rfl rfl ?_
 refine A1 20 ?_
 refine K6 rfl rfl rfl rfl rfl rfl rfl rfl (by decide +kernel) (by repeat first | exact Sw.here | apply Sw.there) (by rfl) ?_
 refine D8 (nS ?_)
 (refine L4 (cs := [f1, f2, f3, f4, f5, f6, f7, f8, f9] ++ ([g1, g2, g3, g4, g5, g6, g7, g8, g9] ++ [i1, i2, i3, i4, i5, i6, i7, i8, i9])) (by repeat (first | exact Pk.here | apply Pk.there)) (fun G9 hle9 hsl9 hno9 => ?_); have hN := B3v (k := 9) (nm := ⟨⟨[]⟩⟩) ⟨by omega, by omega⟩ (hrf.mono hle9) (hrg.mono hle9) (hri.mono hle9) hsl9)
 refine tT (rB ?_)
 refine A0T ?_
 refine C4 (outs := [rd br pb nb cb pi]) (rC rfl (A2 rfl rfl)) (by repeat (first | exact A0.nil | refine A0.cons Pk.here ?_ | refine A0.cons (Pk.there Pk.here) ?_ | refine A0.cons (Pk.there (Pk.there Pk.here)) ?_ | apply A0.drop)) ?_
 (exact ⟨pi, by omega, by omega, rfl, _, _, rfl, hN, by first | exact O6 (by first | assumption | decide) | exact A0w (by decide) (by assumption) (by assumption) (by assumption) | exact S8 (by decide) (by assumption) (by assumption) | exact K9 (by decide) Q6 (by assumption) | exact K9 (by decide) har.small (by assumption) | exact K9 (by decide) Q6 (S8 (by decide) (by assumption) (O6 (by decide))) | exact K9 (by decide) A0x (O6 (by decide)) | assumption, by simp only [C3, C9]; omega⟩)
 refine sQ (qA rfl) rfl (sD (nS (cF rfl (tS (tR ?_)))))
 refine sB (qE rfl rfl) rfl rfl (fun h264 => ?_) (fun h264 => ?_)
 refine B7 ?_
 (have hcall := A3I br pb nb cb bs hnb 0 (p1 + 1) _ (by omega) hb (by have : dB (0 + 1) ≤ 6 := (by decide); omega); refine C0 rfl hcall (Pk.perm (by repeat (first | exact Pk.here | apply Pk.there))) rfl rfl (fun v Gn outs hleD hh => ?_); obtain ⟨pD, hpD1, hpD2, rfl, uD, cuD, rfl, hruD, husD, huhD⟩ := hh; have huaD := huhD.ar; obtain ⟨quD, duD, euD, rfl, _⟩ := hruD.open; have hdBD : dB (0 + 1) ≤ 6 := (by decide); replace hx := hx.mono hleD; replace hb := hb.mono hleD; replace hrt := hrt.mono hleD;)
 refine sE (A8 rfl) rfl (fun b273 => ?_)
 refine H2 ?_
 refine sD (nS (tS ?_))
 (obtain ⟨m, rfl⟩ := hfu.pos (.inl (by omega)); have hmB : mB (m + 1) = 3 * mB m + 200 := rfl; have hgm := A1q m; refine D3 D4 rfl ?_)
 refine E8 (i := 0) (l' := [tt,ff,ff,ff,ff,ff,ff,ff,ff,ff,ff,ff,ff,ff,ff,ff,ff,ff]) rfl C5 (qM rfl) rfl (by kernel_rfl) rfl rfl ?_
 refine aP 1 rfl (qM rfl) rfl ?_
 refine aL 2 rfl (A2 rfl rfl) rfl ?_
 refine aL 3 rfl (A2 rfl rfl) rfl ?_
 refine aP 4 rfl (qM rfl) rfl ?_
 refine aP 5 rfl (Q9 rfl rfl (by omega) (by omega)) rfl ?_
 refine aP 7 rfl (qM rfl) rfl ?_
 refine aP 8 rfl (qM rfl) rfl ?_
 refine aP 9 rfl (qM rfl) rfl ?_
 refine aL 10 rfl (A2 rfl rfl) rfl ?_
 refine aP 12 rfl (qM rfl) rfl ?_
 refine aP 13 rfl (Q9 rfl rfl (by omega) (by omega)) rfl ?_
 refine A1 6 ?_
 (have hcall := A9z br pb nb cb bs hnb m (ih m (by omega)) (depth - 1) uD (.mk k ks) (pD) _ pc nc cc _ _ (hfu.sub (by omega) hfu.1) (by omega) (by omega) (by omega) hx hruD ⟨huaD, by omega⟩ hrt hb (by omega); refine W4 (l' := [tt,tt,tt,tt,tt,tt,tt,tt,tt,tt,tt,ff,tt,tt,ff,ff,ff,ff]) rfl rfl hcall (Pk.perm (by repeat (first | exact Pk.here | apply Pk.there))) rfl rfl rfl (by repeat (first | exact A5.nil | apply A5.dep (by decide +kernel) | apply A5.im (by decide +kernel) hg0 (by repeat first | exact mH | apply mT) | apply A5.im (by decide +kernel) hg1 (by repeat first | exact mH | apply mT) | apply A5.blk (by decide +kernel) (by repeat (first | exact Pk.here | apply Pk.there)) (by repeat first | exact mH | apply mT))) (fun v Gn outs hlel hh => ?_); obtain ⟨pl, hpl1, hpl2, rfl, el, cl, rfl, hrl, hsml, hcl⟩ := hh; obtain ⟨l1, l2, l3, l4, l5, l6, l7, l8, l9, rfl⟩ := hrl.nine; replace hruD := hruD.mono hlel; replace hx := hx.mono hlel; replace hb := hb.mono hlel; replace hrt := hrt.mono hlel;)
 refine A1 11 ?_
 (have hcall := A4G br pb nb cb bs hnb uD (pl) _ _ huaD hruD hb (by omega); refine W4 (l' := [tt,tt,tt,tt,tt,tt,tt,tt,tt,tt,tt,tt,tt,tt,ff,ff,ff,ff]) rfl rfl hcall (Pk.perm (by repeat (first | exact Pk.here | apply Pk.there))) rfl rfl rfl (by repeat (first | exact A5.nil | apply A5.dep (by decide +kernel) | apply A5.im (by decide +kernel) hg0 (by repeat first | exact mH | apply mT) | apply A5.im (by decide +kernel) hg1 (by repeat first | exact mH | apply mT) | apply A5.blk (by decide +kernel) (by repeat (first | exact Pk.here | apply Pk.there)) (by repeat first | exact mH | apply mT))) (fun v Gn outs hleE hh => ?_); obtain ⟨pE, hpE1, hpE2, rfl, uE, cuE, rfl, hruE, huaE, husE, huhE⟩ := hh; obtain ⟨quE, duE, euE, rfl, _⟩ := hruE.open; replace hrl := hrl.mono hleE; replace hx := hx.mono hleE; replace hb := hb.mono hleE; replace hrt := hrt.mono hleE;)
 refine A1 14 ?_
 (have hcall := ih m (by omega) (depth - 1) uE pE _ pc nc cc _ (hfu.sub (by omega) (huhE 4 (huhD.le (by omega)))) (by omega) (by omega) (by omega) hx hruE hb (by omega); refine W4 (l' := [tt,tt,tt,tt,tt,tt,tt,tt,tt,tt,tt,tt,tt,tt,tt,ff,ff,ff]) rfl rfl hcall (Pk.perm (by repeat (first | exact Pk.here | apply Pk.there))) rfl rfl rfl (by repeat (first | exact A5.nil | apply A5.dep (by decide +kernel) | apply A5.im (by decide +kernel) hg0 (by repeat first | exact mH | apply mT) | apply A5.im (by decide +kernel) hg1 (by repeat first | exact mH | apply mT) | apply A5.blk (by decide +kernel) (by repeat (first | exact Pk.here | apply Pk.there)) (by repeat first | exact mH | apply mT))) (fun v Gn outs hled hh => ?_); obtain ⟨pd, hpd1, hpd2, rfl, ed, cd, rfl, hrd, hsmd, hcd⟩ := hh; obtain ⟨d1, d2, d3, d4, d5, d6, d7, d8, d9, rfl⟩ := hrd.nine; replace hrl := hrl.mono hled; replace hx := hx.mono hled; replace hb := hb.mono hled; replace hrt := hrt.mono hled;)
 refine A1 15 ?_
 (refine I7 rfl (D1 rfl rfl rfl (by omega) (by unfold maxLen; omega) rfl) rfl rfl ?_; rintro _ ⟨b298, rfl⟩)
 refine A1 16 ?_
 refine I1 rfl rfl ((A2z _ _ _ _ _)) rfl rfl rfl ?_
 refine A1 17 ?_
 refine K6 rfl rfl rfl rfl rfl rfl rfl rfl (by decide +kernel) (by repeat first | exact Sw.here | apply Sw.there) (by rfl) ?_
 refine D8 (nS ?_)
 (refine L4 (cs := [l1, l2, l3, l4, l5, l6, l7, l8, l9] ++ [d1, d2, d3, d4, d5, d6, d7, d8, d9]) (by repeat (first | exact Pk.here | apply Pk.there)) (fun G9 hle9 hsl9 hno9 => ?_); have hN := A3T (k := 6) (nm := ⟨⟨[]⟩⟩) ⟨by omega, by omega⟩ (hrl.mono hle9) (hrd.mono hle9) hsl9)
 refine tT (rB ?_)
 refine A0T ?_
 refine C4 (outs := [rd br pb nb cb pd]) (rC rfl (A2 rfl rfl)) (by repeat (first | exact A0.nil | refine A0.cons Pk.here ?_ | refine A0.cons (Pk.there Pk.here) ?_ | refine A0.cons (Pk.there (Pk.there Pk.here)) ?_ | apply A0.drop)) ?_
 (exact ⟨pd, by omega, by omega, rfl, _, _, rfl, hN, by first | exact O6 (by first | assumption | decide) | exact A0w (by decide) (by assumption) (by assumption) (by assumption) | exact S8 (by decide) (by assumption) (by assumption) | exact K9 (by decide) Q6 (by assumption) | exact K9 (by decide) har.small (by assumption) | exact K9 (by decide) Q6 (S8 (by decide) (by assumption) (O6 (by decide))) | exact K9 (by decide) A0x (O6 (by decide)) | assumption, by simp only [C3, C9]; omega⟩)
 refine sQ (qA rfl) rfl (sD (nS (cF rfl (tS (tR ?_)))))
 refine sB (qE rfl rfl) rfl rfl (fun h317 => ?_) (fun h317 => ?_)
 refine M2 ?_
 refine sP (Q9 rfl rfl (by omega) (by omega)) rfl rfl ?_
 (have hpkq := hpk9; obtain ⟨m, rfl⟩ := hfu.pos (.inl (by omega)); have hmB : mB (m + 1) = 3 * mB m + 200 := rfl; have hgm := A1q m; have hcall := ih m (by omega) (depth - 1) (.mk k ks) (p1 + 1) _ pc nc cc _ (hfu.sub (by omega) hfu.1) (by omega) (by omega) (by omega) hx hrt hb (by omega); refine C0 rfl hcall (Pk.perm (by repeat (first | exact Pk.here | apply Pk.there))) rfl rfl (fun v Gn outs hleh hh => ?_); obtain ⟨ph, hph1, hph2, rfl, eh, ch, rfl, hrh, hsmh, hch⟩ := hh; obtain ⟨h1, h2, h3, h4, h5, h6, h7, h8, h9, rfl⟩ := hrh.nine; replace hx := hx.mono hleh; replace hb := hb.mono hleh; replace hrt := hrt.mono hleh;)
 refine H7 rfl ((A10 _ _)) rfl rfl ?_
 (refine D7 (D1 rfl rfl rfl (by omega) (by unfold maxLen; omega) rfl) rfl ?_; rintro _ ⟨b331, rfl⟩)
 refine H7 rfl ((A2z _ _ _ _ _)) rfl rfl ?_
 (refine D7 (D1 rfl rfl rfl (by omega) (by unfold maxLen; omega) rfl) rfl ?_; rintro _ ⟨b333, rfl⟩)
 refine H7 rfl ((A2z _ _ _ _ _)) rfl rfl ?_
 refine H2 ?_
 refine sD (nS ?_)
 (refine L4 (cs := [h1, h2, h3, h4, h5, h6, h7, h8, h9] ++ [.int .i64 2, .string ⟨⟨[]⟩⟩, .int .i64 1, .int .i64 0, .slice none 0 0, .int .i64 0, .slice none 0 0, .int .i64 0, .slice none 0 0]) (by repeat (first | exact Pk.here | apply Pk.there)) (fun G8 hle8 hsl8 hno8 => ?_); have hNi := A3T (k := 10) (nm := ⟨⟨[]⟩⟩) ⟨by omega, by omega⟩ (hrh.mono hle8) (A2a G8 ⟨⟨[]⟩⟩ 1 (k := 2) ⟨by omega, by omega⟩ ⟨by omega, by omega⟩) hsl8; refine L4 (by repeat (first | exact Pk.here | apply Pk.there)) (fun G9 hle9 hsl9 hno9 => ?_); have hN := A3S (k := 11) (nm := ⟨⟨[]⟩⟩) ⟨by omega, by omega⟩ (J6 G9 (k := 0) ⟨by omega, by omega⟩) (hNi.mono hle9) hsl9)
 refine tT (rB ?_)
 refine A0T ?_
 refine C4 (outs := [rd br pb nb cb ph]) (rC rfl (A2 rfl rfl)) (by repeat (first | exact A0.nil | refine A0.cons Pk.here ?_ | refine A0.cons (Pk.there Pk.here) ?_ | refine A0.cons (Pk.there (Pk.there Pk.here)) ?_ | apply A0.drop)) ?_
 (exact ⟨ph, by omega, by omega, rfl, _, _, rfl, hN, by first | exact O6 (by first | assumption | decide) | exact A0w (by decide) (by assumption) (by assumption) (by assumption) | exact S8 (by decide) (by assumption) (by assumption) | exact K9 (by decide) Q6 (by assumption) | exact K9 (by decide) har.small (by assumption) | exact K9 (by decide) Q6 (S8 (by decide) (by assumption) (O6 (by decide))) | exact K9 (by decide) A0x (O6 (by decide)) | assumption, by simp only [C3, C9]; omega⟩)
 refine sQ (qA rfl) rfl (sD (nS (cF rfl (tK (O3 ?_)))))
 refine A3V (p1 + 1, Gp) (N7 (by repeat (first | exact E6.nil | refine E6.cons rfl ?_)) (by repeat (first | exact A0.refl | exact A0.nil | refine A0.cons (by repeat (first | exact Pk.here | apply Pk.there)) ?_ | apply A0.drop))) ⟨B2.refl _, by dsimp only; omega, by dsimp only; omega⟩
 refine tK ?_
 refine A3V (p1, G1) (N7 (by repeat (first | exact E6.nil | refine E6.cons rfl ?_)) (by repeat (first | exact A0.refl | exact A0.nil | refine A0.cons (by repeat (first | exact Pk.here | apply Pk.there)) ?_ | apply A0.drop))) ⟨B2.refl _, by dsimp only; omega, by dsimp only; omega⟩
 (rintro ⟨(p2 : Nat), G2⟩ ⟨hle2c, hp2a, hp2b⟩; simp only [] at hle2c hp2a hp2b ⊢; have hcut1 := hp2a; replace hx := hx.mono hle2c; replace hb := hb.mono hle2c; replace hrt := hrt.mono hle2c;)
 refine B7 ?_
 (show I9 _ _ (.block 3 ..) _ _; refine A9A (fun (x : Nat × IM) => ⟨[(0, .pointer (some ⟨br, 0, none⟩)), (1, .slice pc nc cc), (3, .int .i64 depth), (6, .pointer (some ⟨b3, 0, none⟩)), (8, .pointer (some ⟨b4, 0, none⟩))], [rd br pb nb cb x.1, .blk b4 [.int .i64 0, .string ⟨⟨[]⟩⟩, .int .i64 0, .int .i64 0, .slice none 0 0, .int .i64 0, .slice none 0 0, .int .i64 0, .slice none 0 0], .blk b3 [.int .i64 k, .slice q ks.length c]], x.2⟩) (fun x => B2 G2 x.2 ∧ p2 ≤ x.1 ∧ x.1 ≤ p2 + 2) ?_ ?_)
 refine C6 (tS (tR (sB (qE rfl rfl) rfl rfl (fun h365 => ?_) (fun h365 => ?_))))
 refine F8 ?_
 refine sB (Y2 rfl rfl) rfl rfl (fun h374 => ?_) (fun h374 => ?_)
 refine sQ (qM rfl) rfl (sQ (qM rfl) rfl ?_)
 (have hkk3 : k = 3 := (by omega); refine C0 rfl (S0 _ br pb nb cb (p2) bs 2 hb hnb (by omega)) (Pk.perm (by repeat (first | exact Pk.here | apply Pk.there))) rfl rfl (fun v Gp outs hle377 hh => ?_); obtain ⟨rfl, rfl, j377, rfl, hj377, hk377⟩ := hh; have hpk22 := hj377)
 replace hb := hb.mono hle377
 replace hrt := hrt.mono hle377
 refine sB (qE rfl rfl) rfl rfl (fun h378 => ?_) (fun h378 => ?_)
 refine F8 ?_
 refine H7 rfl ((U6 _)) rfl rfl ?_
 refine sQ (qM rfl) rfl ?_
 refine sP (Q9 rfl rfl (by omega) (by omega)) rfl rfl ?_
 (have hkk3q := hkk3; obtain ⟨m, rfl⟩ := hfu.pos (.inl (by omega)); have hmB : mB (m + 1) = 3 * mB m + 200 := rfl; have hgm := A1q m; have hcall := ih m (by omega) (depth - 1) (.mk 2 []) (p2 + 1) _ pc nc cc _ (hfu.sub (by omega) (A2Y 4 (by decide) (by decide))) (by omega) (by omega) (by omega) hx (J6 _ ⟨by omega, by omega⟩) hb (by omega); refine C0 rfl hcall (Pk.perm (by repeat (first | exact Pk.here | apply Pk.there))) rfl rfl (fun v Gn outs hlen hh => ?_); obtain ⟨pn, hpn1, hpn2, rfl, en, cn, rfl, hrn, hsmn, hcn⟩ := hh; obtain ⟨n1, n2, n3, n4, n5, n6, n7, n8, n9, rfl⟩ := hrn.nine; replace hx := hx.mono hlen; replace hb := hb.mono hlen; replace hrt := hrt.mono hlen;)
 refine sQ (qM rfl) rfl (sQ (qM rfl) rfl ?_)
 refine H7 rfl ((U6 _)) rfl rfl ?_
 refine sQ (qM rfl) rfl ?_
 refine sP (Q9 rfl rfl (by omega) (by omega)) rfl rfl ?_
 (have hcall := ih m (by omega) (depth - 1) (.mk 2 []) pn _ pc nc cc _ (hfu.sub (by omega) (A2Y 4 (by decide) (by decide))) (by omega) (by omega) (by omega) hx (J6 _ ⟨by omega, by omega⟩) hb (by omega); refine C0 rfl hcall (Pk.perm (by repeat (first | exact Pk.here | apply Pk.there))) rfl rfl (fun v Gn outs hleo hh => ?_); obtain ⟨po, hpo1, hpo2, rfl, eo, co, rfl, hro, hsmo, hco⟩ := hh; obtain ⟨o1, o2, o3, o4, o5, o6, o7, o8, o9, rfl⟩ := hro.nine; replace hrn := hrn.mono hleo; replace hx := hx.mono hleo; replace hb := hb.mono hleo; replace hrt := hrt.mono hleo;)
 (refine D7 (D1 rfl rfl rfl (by omega) (by unfold maxLen; omega) rfl) rfl ?_; rintro _ ⟨b397, rfl⟩)
 refine H7 rfl ((A2z _ _ _ _ _)) rfl rfl ?_
 refine H2 ?_
 refine sD (nS ?_)
 (refine L4 (cs := [n1, n2, n3, n4, n5, n6, n7, n8, n9] ++ [o1, o2, o3, o4, o5, o6, o7, o8, o9]) (by repeat (first | exact Pk.here | apply Pk.there)) (fun G9 hle9 hsl9 hno9 => ?_); have hN := A3T (k := 8) (nm := ⟨⟨[]⟩⟩) ⟨by omega, by omega⟩ (hrn.mono hle9) (hro.mono hle9) hsl9)
 refine tT (rS (rB ?_))
 refine A0T ?_
 refine C4 (outs := [rd br pb nb cb po]) (rC rfl (A2 rfl rfl)) (by repeat (first | exact A0.nil | refine A0.cons Pk.here ?_ | refine A0.cons (Pk.there Pk.here) ?_ | refine A0.cons (Pk.there (Pk.there Pk.here)) ?_ | apply A0.drop)) ?_
 (exact ⟨po, by omega, by omega, rfl, _, _, rfl, hN, by first | exact O6 (by first | assumption | decide) | exact A0w (by decide) (by assumption) (by assumption) (by assumption) | exact S8 (by decide) (by assumption) (by assumption) | exact K9 (by decide) Q6 (by assumption) | exact K9 (by decide) har.small (by assumption) | exact K9 (by decide) Q6 (S8 (by decide) (by assumption) (O6 (by decide))) | exact K9 (by decide) A0x (O6 (by decide)) | assumption, by simp only [C3, C9]; omega⟩)
 refine O8 ?_
 refine A0T ?_
 refine C4 (outs := [rd br pb nb cb (p2 + 1)]) (rC rfl (A2 rfl rfl)) (by repeat (first | exact A0.nil | refine A0.cons Pk.here ?_ | refine A0.cons (Pk.there Pk.here) ?_ | refine A0.cons (Pk.there (Pk.there Pk.here)) ?_ | apply A0.drop)) ?_
 (exact ⟨(p2 + 1), by omega, by omega, rfl, _, _, rfl, A2a _ _ _ ⟨by omega, by omega⟩ (by first | exact ⟨by omega, by omega⟩ | exact hkn), by first | exact O6 (by first | assumption | decide) | exact A0w (by decide) (by assumption) (by assumption) (by assumption) | exact S8 (by decide) (by assumption) (by assumption) | exact K9 (by decide) Q6 (by assumption) | exact K9 (by decide) har.small (by assumption) | exact K9 (by decide) Q6 (S8 (by decide) (by assumption) (O6 (by decide))) | exact K9 (by decide) A0x (O6 (by decide)) | assumption, by simp only [C3, C9]; omega⟩)
 refine A0i ?_
 refine A0T ?_
 refine C4 (outs := [rd br pb nb cb p2]) (rC rfl (A2 rfl rfl)) (by repeat (first | exact A0.nil | refine A0.cons Pk.here ?_ | refine A0.cons (Pk.there Pk.here) ?_ | refine A0.cons (Pk.there (Pk.there Pk.here)) ?_ | apply A0.drop)) ?_
 (exact ⟨p2, by omega, by omega, rfl, _, _, rfl, A2a _ _ _ ⟨by omega, by omega⟩ (by first | exact ⟨by omega, by omega⟩ | exact hkn), by first | exact O6 (by first | assumption | decide) | exact A0w (by decide) (by assumption) (by assumption) (by assumption) | exact S8 (by decide) (by assumption) (by assumption) | exact K9 (by decide) Q6 (by assumption) | exact K9 (by decide) har.small (by assumption) | exact K9 (by decide) Q6 (S8 (by decide) (by assumption) (O6 (by decide))) | exact K9 (by decide) A0x (O6 (by decide)) | assumption, by simp only [C3, C9]; omega⟩)
 refine sQ (qA rfl) rfl (sD (nS (cF rfl (tS (tR ?_)))))
 refine sB (qE rfl rfl) rfl rfl (fun h453 => ?_) (fun h453 => ?_)
 refine sQ (qA rfl) rfl (sD (nS (qT rfl (tS ?_))))
 (have hk45 : k = 4 ∨ k = 5 := (by omega); have hl2 := hops hk45; obtain ⟨m, rfl⟩ := hfu.pos (.inr hk45); have hmB : mB (m + 1) = 3 * mB m + 200 := rfl; have hgm := A1q m; obtain ⟨es9, hsl, hkl⟩ := hrt.kidsM; obtain ⟨b0, o0, q0, d0, hp0, hat0, hre0, hg0⟩ := hsl.kidTy hkl (i := 0) (by omega) (by omega); obtain ⟨b1, o1, q1, d1, hp1, hat1, hre1, hg1⟩ := hsl.kidTy hkl (i := 1) (by omega) (by omega); cases hp0; cases hp1; have hmem0 := List.getElem_mem (l := ks) (n := 0) (by omega); have hmem1 := List.getElem_mem (l := ks) (n := 1) (by omega); refine D3 D4 rfl ?_)
 refine E8 (i := 0) (l' := [tt,ff,ff,ff,ff,ff,ff,ff,ff,ff,ff,ff,ff,ff]) rfl C5 (qM rfl) rfl (by kernel_rfl) rfl rfl ?_
 refine aP 1 rfl (qM rfl) rfl ?_
 refine aP 2 rfl (A9 rfl) rfl ?_
 refine aL 3 rfl (C2 rfl rfl) rfl ?_
 refine aP 4 rfl (D0 (j := 0) rfl rfl rfl (by omega)) rfl ?_
 refine aL 5 rfl (A6 rfl rfl (hat0 _) rfl) rfl ?_
 refine aP 6 rfl (A9 rfl) rfl ?_
 refine aL 7 rfl (C2 rfl rfl) rfl ?_
 refine aP 8 rfl (D0 (j := 1) rfl rfl rfl (by omega)) rfl ?_
 refine aL 9 rfl (A6 rfl rfl (hat1 _) rfl) rfl ?_
 refine aP 10 rfl (qM rfl) rfl ?_
 refine aP 11 rfl (Q9 rfl rfl (by omega) (by omega)) rfl ?_
 refine A1 12 ?_
 (have hcall := A9z br pb nb cb bs hnb m (ih m (by omega)) (depth - 1) ks[0] ks[1] (p2) _ pc nc cc _ _ (hfu.kid hmem1) (by omega) (by omega) (by omega) hx hre0 ⟨har.kid _ hmem0, by have := A57 (k := k) hmem0; omega⟩ hre1 hb (by omega); refine W4 (l' := [tt,tt,tt,tt,tt,tt,tt,tt,tt,tt,tt,tt,tt,ff]) rfl rfl hcall (Pk.perm (by repeat (first | exact Pk.here | apply Pk.there))) rfl rfl rfl (by repeat (first | exact A5.nil | apply A5.dep (by decide +kernel) | apply A5.im (by decide +kernel) hg0 (by repeat first | exact mH | apply mT) | apply A5.im (by decide +kernel) hg1 (by repeat first | exact mH | apply mT) | apply A5.blk (by decide +kernel) (by repeat (first | exact Pk.here | apply Pk.there)) (by repeat first | exact mH | apply mT))) (fun v Gn outs hlek hh => ?_); obtain ⟨pk, hpk1, hpk2, rfl, ek, ck, rfl, hrk, hsmk, hck⟩ := hh; obtain ⟨k1, k2, k3, k4, k5, k6, k7, k8, k9, rfl⟩ := hrk.nine; replace hx := hx.mono hlek; replace hb := hb.mono hlek; replace hrt := hrt.mono hlek;)
 refine A1 13 ?_
 refine K6 rfl rfl rfl rfl rfl hrk.one rfl rfl (by kernel_rfl) (by repeat first | exact Sw.here | apply Sw.there) (by rfl) ?_
 refine D8 (nS (tT (rB ?_)))
 refine A0T ?_
 refine C4 (outs := [rd br pb nb cb pk]) (rC rfl (A2 rfl rfl)) (by repeat (first | exact A0.nil | refine A0.cons Pk.here ?_ | refine A0.cons (Pk.there Pk.here) ?_ | refine A0.cons (Pk.there (Pk.there Pk.here)) ?_ | apply A0.drop)) ?_
 (exact ⟨pk, by omega, by omega, rfl, _, _, rfl, hrk, hsmk, by omega⟩)
 refine sQ (qA rfl) rfl (sD (nS (cF rfl (tS (tR ?_)))))
 refine sB (qE rfl rfl) rfl rfl (fun h489 => ?_) (fun h489 => ?_)
 refine sQ (qA rfl) rfl (sD (nS (qT rfl (tS ?_))))
 (have hk45 : k = 4 ∨ k = 5 := (by omega); have hl2 := hops hk45; obtain ⟨m, rfl⟩ := hfu.pos (.inr hk45); have hmB : mB (m + 1) = 3 * mB m + 200 := rfl; have hgm := A1q m; obtain ⟨es9, hsl, hkl⟩ := hrt.kidsM; obtain ⟨b0, o0, q0, d0, hp0, hat0, hre0, hg0⟩ := hsl.kidTy hkl (i := 0) (by omega) (by omega); obtain ⟨b1, o1, q1, d1, hp1, hat1, hre1, hg1⟩ := hsl.kidTy hkl (i := 1) (by omega) (by omega); cases hp0; cases hp1; have hmem0 := List.getElem_mem (l := ks) (n := 0) (by omega); have hmem1 := List.getElem_mem (l := ks) (n := 1) (by omega); refine D3 D4 rfl ?_)
 refine E8 (i := 0) (l' := [tt,ff,ff,ff,ff,ff,ff,ff,ff,ff,ff,ff,ff,ff,ff,ff,ff,ff,ff,ff,ff]) rfl C5 (qM rfl) rfl (by kernel_rfl) rfl rfl ?_
 refine aP 1 rfl (qM rfl) rfl ?_
 refine aP 2 rfl (A9 rfl) rfl ?_
 refine aL 3 rfl (C2 rfl rfl) rfl ?_
 refine aP 4 rfl (D0 (j := 0) rfl rfl rfl (by omega)) rfl ?_
 refine aL 5 rfl (A6 rfl rfl (hat0 _) rfl) rfl ?_
 refine aP 6 rfl (qM rfl) rfl ?_
 refine aP 7 rfl (Q9 rfl rfl (by omega) (by omega)) rfl ?_
 refine aP 9 rfl (qM rfl) rfl ?_
 refine aP 10 rfl (qM rfl) rfl ?_
 refine aP 11 rfl (A9 rfl) rfl ?_
 refine aL 12 rfl (C2 rfl rfl) rfl ?_
 refine aP 13 rfl (D0 (j := 1) rfl rfl rfl (by omega)) rfl ?_
 refine aL 14 rfl (A6 rfl rfl (hat1 _) rfl) rfl ?_
 refine aP 15 rfl (qM rfl) rfl ?_
 refine aP 16 rfl (Q9 rfl rfl (by omega) (by omega)) rfl ?_
 refine A1 8 ?_
 (have hcall := ih m (by omega) (depth - 1) ks[0] p2 _ pc nc cc _ (hfu.kid hmem0) (by omega) (by omega) (by omega) hx hre0 hb (by omega); refine W4 (l' := [tt,tt,tt,tt,tt,tt,tt,tt,tt,tt,tt,tt,tt,tt,tt,tt,tt,ff,ff,ff,ff]) rfl rfl hcall (Pk.perm (by repeat (first | exact Pk.here | apply Pk.there))) rfl rfl rfl (by repeat (first | exact A5.nil | apply A5.dep (by decide +kernel) | apply A5.im (by decide +kernel) hg0 (by repeat first | exact mH | apply mT) | apply A5.im (by decide +kernel) hg1 (by repeat first | exact mH | apply mT) | apply A5.blk (by decide +kernel) (by repeat (first | exact Pk.here | apply Pk.there)) (by repeat first | exact mH | apply mT))) (fun v Gn outs hles hh => ?_); obtain ⟨ps, hps1, hps2, rfl, es, cs, rfl, hrs, hsms, hcs⟩ := hh; obtain ⟨s1, s2, s3, s4, s5, s6, s7, s8, s9, rfl⟩ := hrs.nine; replace hre1 := hre1.mono hles; replace hx := hx.mono hles; replace hb := hb.mono hles; replace hrt := hrt.mono hles;)
 refine A1 17 ?_
 (have hcall := ih m (by omega) (depth - 1) ks[1] ps _ pc nc cc _ (hfu.kid hmem1) (by omega) (by omega) (by omega) hx hre1 hb (by omega); refine W4 (l' := [tt,tt,tt,tt,tt,tt,tt,tt,tt,tt,tt,tt,tt,tt,tt,tt,tt,tt,ff,ff,ff]) rfl rfl hcall (Pk.perm (by repeat (first | exact Pk.here | apply Pk.there))) rfl rfl rfl (by repeat (first | exact A5.nil | apply A5.dep (by decide +kernel) | apply A5.im (by decide +kernel) hg0 (by repeat first | exact mH | apply mT) | apply A5.im (by decide +kernel) hg1 (by repeat first | exact mH | apply mT) | apply A5.blk (by decide +kernel) (by repeat (first | exact Pk.here | apply Pk.there)) (by repeat first | exact mH | apply mT))) (fun v Gn outs hlew hh => ?_); obtain ⟨pw, hpw1, hpw2, rfl, ew, cw, rfl, hrw, hsmw, hcw⟩ := hh; obtain ⟨w1, w2, w3, w4, w5, w6, w7, w8, w9, rfl⟩ := hrw.nine; replace hrs := hrs.mono hlew; replace hx := hx.mono hlew; replace hb := hb.mono hlew; replace hrt := hrt.mono hlew;)
 refine A1 18 ?_
 (refine I7 rfl (D1 rfl rfl rfl (by omega) (by unfold maxLen; omega) rfl) rfl rfl ?_; rintro _ ⟨b517, rfl⟩)
 refine A1 19 ?_
 refine I1 rfl rfl ((A2z _ _ _ _ _)) rfl rfl rfl ?_
 refine A1 20 ?_
 refine K6 rfl rfl rfl rfl rfl rfl rfl rfl (by decide +kernel) (by repeat first | exact Sw.here | apply Sw.there) (by rfl) ?_
 refine D8 (nS ?_)
 (refine L4 (cs := [s1, s2, s3, s4, s5, s6, s7, s8, s9] ++ [w1, w2, w3, w4, w5, w6, w7, w8, w9]) (by repeat (first | exact Pk.here | apply Pk.there)) (fun G9 hle9 hsl9 hno9 => ?_); have hN := A3T (k := 10) (nm := ⟨⟨[]⟩⟩) ⟨by omega, by omega⟩ (hrs.mono hle9) (hrw.mono hle9) hsl9)
 refine tT (rB ?_)
 refine A0T ?_
 refine C4 (outs := [rd br pb nb cb pw]) (rC rfl (A2 rfl rfl)) (by repeat (first | exact A0.nil | refine A0.cons Pk.here ?_ | refine A0.cons (Pk.there Pk.here) ?_ | refine A0.cons (Pk.there (Pk.there Pk.here)) ?_ | apply A0.drop)) ?_
 (exact ⟨pw, by omega, by omega, rfl, _, _, rfl, hN, by first | exact O6 (by first | assumption | decide) | exact A0w (by decide) (by assumption) (by assumption) (by assumption) | exact S8 (by decide) (by assumption) (by assumption) | exact K9 (by decide) Q6 (by assumption) | exact K9 (by decide) har.small (by assumption) | exact K9 (by decide) Q6 (S8 (by decide) (by assumption) (O6 (by decide))) | exact K9 (by decide) A0x (O6 (by decide)) | assumption, by simp only [C3, C9]; omega⟩)
 refine sQ (qA rfl) rfl (sD (nS (cF rfl (tS (tR ?_)))))
 refine sB (qE rfl rfl) rfl rfl (fun h536 => ?_) (fun h536 => ?_)
 refine F8 ?_
 refine sB (Y2 rfl rfl) rfl rfl (fun h545 => ?_) (fun h545 => ?_)
 refine sQ (qM rfl) rfl (sQ (qM rfl) rfl ?_)
 (have hkk1 : k = 1 := (by omega); refine C0 rfl (S0 _ br pb nb cb (p2) bs 3 hb hnb (by omega)) (Pk.perm (by repeat (first | exact Pk.here | apply Pk.there))) rfl rfl (fun v Gp outs hle548 hh => ?_); obtain ⟨rfl, rfl, j548, rfl, hj548, hk548⟩ := hh; have hpk23 := hj548)
 replace hb := hb.mono hle548
 replace hrt := hrt.mono hle548
 refine sB (qE rfl rfl) rfl rfl (fun h549 => ?_) (fun h549 => ?_)
 refine C7 ?_
 (have hcall := A3I br pb nb cb bs hnb 1 (p2 + 1) _ (by omega) hb (by have : dB (1 + 1) ≤ 6 := (by decide); omega); refine C0 rfl hcall (Pk.perm (by repeat (first | exact Pk.here | apply Pk.there))) rfl rfl (fun v Gn outs hleF hh => ?_); obtain ⟨pF, hpF1, hpF2, rfl, uF, cuF, rfl, hruF, husF, huhF⟩ := hh; have huaF := huhF.ar; obtain ⟨quF, duF, euF, rfl, _⟩ := hruF.open; have hdBF : dB (1 + 1) ≤ 6 := (by decide); replace hx := hx.mono hleF; replace hb := hb.mono hleF; replace hrt := hrt.mono hleF;)
 refine sQ (qM rfl) rfl ?_
 refine sP (Q9 rfl rfl (by omega) (by omega)) rfl rfl ?_
 (obtain ⟨m, rfl⟩ := hfu.pos (.inl (by omega)); have hmB : mB (m + 1) = 3 * mB m + 200 := rfl; have hgm := A1q m; have hcall := ih m (by omega) (depth - 1) uF pF _ pc nc cc _ (hfu.sub (by omega) (huhF.le (by omega))) (by omega) (by omega) (by omega) hx hruF hb (by omega); refine C0 rfl hcall (Pk.perm (by repeat (first | exact Pk.here | apply Pk.there))) rfl rfl (fun v Gn outs hlex hh => ?_); obtain ⟨px, hpx1, hpx2, rfl, ex, cx, rfl, hrx, hsmx, hcx⟩ := hh; obtain ⟨x1, x2, x3, x4, x5, x6, x7, x8, x9, rfl⟩ := hrx.nine; replace hx := hx.mono hlex; replace hb := hb.mono hlex; replace hrt := hrt.mono hlex;)
 refine sS rfl rfl rfl rfl hrx.one rfl ?_
 refine sD (nS (tT (rS (rB ?_))))
 refine A0T ?_
 refine C4 (outs := [rd br pb nb cb px]) (rC rfl (A2 rfl rfl)) (by repeat (first | exact A0.nil | refine A0.cons Pk.here ?_ | refine A0.cons (Pk.there Pk.here) ?_ | refine A0.cons (Pk.there (Pk.there Pk.here)) ?_ | apply A0.drop)) ?_
 (exact ⟨px, by omega, by omega, rfl, _, _, rfl, hrx, hsmx, by omega⟩)
 refine C7 ?_
 (refine C0 rfl (S0 _ br pb nb cb (p2 + 1) bs 3 hb hnb (by omega)) (Pk.perm (by repeat (first | exact Pk.here | apply Pk.there))) rfl rfl (fun v Gp outs hle581 hh => ?_); obtain ⟨rfl, rfl, j581, rfl, hj581, hk581⟩ := hh; have hpk21 := hj581)
 replace hb := hb.mono hle581
 replace hrt := hrt.mono hle581
 refine sB (qE rfl rfl) rfl rfl (fun h582 => ?_) (fun h582 => ?_)
 refine sD (nS (qT rfl (tS (tR ?_))))
 refine H7 rfl ((A09 _)) rfl rfl ?_
 refine sQ (P6 rfl rfl) rfl ?_
 (refine D7 (D1 rfl rfl rfl (by omega) (by unfold maxLen; omega) rfl) rfl ?_; rintro _ ⟨b590, rfl⟩)
 refine sQ (P6 rfl rfl) rfl (H2 ?_)
 refine sD (nS ?_)
 (refine L4 (cs := [.int .i64 4, .string ⟨⟨[]⟩⟩, .int .i64 0, .int .i64 0, .slice none 0 0, .int .i64 0, .slice none 0 0, .int .i64 0, .slice none 0 0]) (by repeat (first | exact Pk.here | apply Pk.there)) (fun G9 hle9 hsl9 hno9 => ?_); have hN := A3S (k := 13) (nm := ⟨⟨[]⟩⟩) ⟨by omega, by omega⟩ (A1a _) (A2a G9 ⟨⟨[]⟩⟩ 0 (k := 4) ⟨by omega, by omega⟩ ⟨by omega, by omega⟩) hsl9)
 refine tT (rB ?_)
 refine A0T ?_
 refine C4 (outs := [rd br pb nb cb (p2 + 1 + 1)]) (rC rfl (A2 rfl rfl)) (by repeat (first | exact A0.nil | refine A0.cons Pk.here ?_ | refine A0.cons (Pk.there Pk.here) ?_ | refine A0.cons (Pk.there (Pk.there Pk.here)) ?_ | apply A0.drop)) ?_
 (exact ⟨(p2 + 1 + 1), by omega, by omega, rfl, _, _, rfl, hN, by first | exact O6 (by first | assumption | decide) | exact A0w (by decide) (by assumption) (by assumption) (by assumption) | exact S8 (by decide) (by assumption) (by assumption) | exact K9 (by decide) Q6 (by assumption) | exact K9 (by decide) har.small (by assumption) | exact K9 (by decide) Q6 (S8 (by decide) (by assumption) (O6 (by decide))) | exact K9 (by decide) A0x (O6 (by decide)) | assumption, by simp only [C3, C9]; omega⟩)
 refine sD (nS (cF rfl (tK (O3 ?_))))
 refine A3V (p2 + 1 + 1, Gp) (N7 (by repeat (first | exact E6.nil | refine E6.cons rfl ?_)) (by repeat (first | exact A0.refl | exact A0.nil | refine A0.cons (by repeat (first | exact Pk.here | apply Pk.there)) ?_ | apply A0.drop))) ⟨B2.refl _, by dsimp only; omega, by dsimp only; omega⟩
 refine I5 ?_
 (have hkk1 : k = 1 := (by omega); refine C0 rfl (S0 _ br pb nb cb (p2) bs 3 hb hnb (by omega)) (Pk.perm (by repeat (first | exact Pk.here | apply Pk.there))) rfl rfl (fun v Gp outs hle620 hh => ?_); obtain ⟨rfl, rfl, j620, rfl, hj620, hk620⟩ := hh; have hpk23 := hj620)
 replace hb := hb.mono hle620
 replace hrt := hrt.mono hle620
 refine sB (qE rfl rfl) rfl rfl (fun h621 => ?_) (fun h621 => ?_)
 refine sD (nS (qT rfl (tS (tR ?_))))
 refine H7 rfl ((A09 _)) rfl rfl ?_
 refine sQ (P6 rfl rfl) rfl ?_
 (refine D7 (D1 rfl rfl rfl (by omega) (by unfold maxLen; omega) rfl) rfl ?_; rintro _ ⟨b629, rfl⟩)
 refine sQ (P6 rfl rfl) rfl (H2 ?_)
 refine sD (nS ?_)
 (refine L4 (cs := [.int .i64 4, .string ⟨⟨[]⟩⟩, .int .i64 0, .int .i64 0, .slice none 0 0, .int .i64 0, .slice none 0 0, .int .i64 0, .slice none 0 0]) (by repeat (first | exact Pk.here | apply Pk.there)) (fun G9 hle9 hsl9 hno9 => ?_); have hN := A3S (k := 13) (nm := ⟨⟨[]⟩⟩) ⟨by omega, by omega⟩ (A1a _) (A2a G9 ⟨⟨[]⟩⟩ 0 (k := 4) ⟨by omega, by omega⟩ ⟨by omega, by omega⟩) hsl9)
 refine tT (rB ?_)
 refine A0T ?_
 refine C4 (outs := [rd br pb nb cb (p2 + 1)]) (rC rfl (A2 rfl rfl)) (by repeat (first | exact A0.nil | refine A0.cons Pk.here ?_ | refine A0.cons (Pk.there Pk.here) ?_ | refine A0.cons (Pk.there (Pk.there Pk.here)) ?_ | apply A0.drop)) ?_
 (exact ⟨(p2 + 1), by omega, by omega, rfl, _, _, rfl, hN, by first | exact O6 (by first | assumption | decide) | exact A0w (by decide) (by assumption) (by assumption) (by assumption) | exact S8 (by decide) (by assumption) (by assumption) | exact K9 (by decide) Q6 (by assumption) | exact K9 (by decide) har.small (by assumption) | exact K9 (by decide) Q6 (S8 (by decide) (by assumption) (O6 (by decide))) | exact K9 (by decide) A0x (O6 (by decide)) | assumption, by simp only [C3, C9]; omega⟩)
 refine sD (nS (cF rfl (tK (O3 ?_))))
 refine A3V (p2 + 1, Gp) (N7 (by repeat (first | exact E6.nil | refine E6.cons rfl ?_)) (by repeat (first | exact A0.refl | exact A0.nil | refine A0.cons (by repeat (first | exact Pk.here | apply Pk.there)) ?_ | apply A0.drop))) ⟨B2.refl _, by dsimp only; omega, by dsimp only; omega⟩
 refine sQ (qA rfl) rfl (sD (nS (cF rfl (tK (O3 ?_)))))
 refine A3V (p2, G2) (N7 (by repeat (first | exact E6.nil | refine E6.cons rfl ?_)) (by repeat (first | exact A0.refl | exact A0.nil | refine A0.cons (by repeat (first | exact Pk.here | apply Pk.there)) ?_ | apply A0.drop))) ⟨B2.refl _, by dsimp only; omega, by dsimp only; omega⟩
 (have hq := hcut1; rintro ⟨(p5 : Nat), G5⟩ ⟨hle5c, hp5a, hp5b⟩; simp only [] at hle5c hp5a hp5b ⊢; have hcut2 := hp5a; replace hx := hx.mono hle5c; replace hb := hb.mono hle5c; replace hrt := hrt.mono hle5c;)
 refine tS (tS (tR (sQ (qM rfl) rfl ?_)))
 refine sB (Y2 rfl rfl) rfl rfl (fun h658 => ?_) (fun h658 => ?_)
 refine sQ (qM rfl) rfl (sQ (qM rfl) rfl ?_)
 (refine C0 rfl (S0 _ br pb nb cb (p5) bs 2 hb hnb (by omega)) (Pk.perm (by repeat (first | exact Pk.here | apply Pk.there))) rfl rfl (fun v Gp outs hle661 hh => ?_); obtain ⟨rfl, rfl, j661, rfl, hj661, hk661⟩ := hh; have hpk5 := hj661)
 replace hb := hb.mono hle661
 replace hrt := hrt.mono hle661
 refine sB (qE rfl rfl) rfl rfl (fun h662 => ?_) (fun h662 => ?_)
 refine C7 ?_
 refine H7 rfl ((U6 _)) rfl rfl ?_
 (have hz2 : F4 (.mk 2 []) = 0 := rfl; have hcall := A4G br pb nb cb bs hnb (.mk 2 []) (p5 + 1) _ _ (M8 (by decide) (by decide)) (J6 _ ⟨by omega, by omega⟩) hb (by omega); refine C0 rfl hcall (Pk.perm (by repeat (first | exact Pk.here | apply Pk.there))) rfl rfl (fun v Gn outs hleG hh => ?_); obtain ⟨pG, hpG1, hpG2, rfl, uG, cuG, rfl, hruG, huaG, husG, huhG⟩ := hh; obtain ⟨quG, duG, euG, rfl, _⟩ := hruG.open; replace hx := hx.mono hleG; replace hb := hb.mono hleG; replace hrt := hrt.mono hleG;)
 refine sQ (qM rfl) rfl ?_
 refine sP (Q9 rfl rfl (by omega) (by omega)) rfl rfl ?_
 (obtain ⟨m, rfl⟩ := hfu.pos (.inl (by omega)); have hmB : mB (m + 1) = 3 * mB m + 200 := rfl; have hgm := A1q m; have hcall := ih m (by omega) (depth - 1) uG pG _ pc nc cc _ (hfu.sub (by omega) (huhG 4 (A2Y 4 (by decide) (by decide)))) (by omega) (by omega) (by omega) hx hruG hb (by omega); refine C0 rfl hcall (Pk.perm (by repeat (first | exact Pk.here | apply Pk.there))) rfl rfl (fun v Gn outs hley hh => ?_); obtain ⟨py, hpy1, hpy2, rfl, ey, cy, rfl, hry, hsmy, hcy⟩ := hh; obtain ⟨y1, y2, y3, y4, y5, y6, y7, y8, y9, rfl⟩ := hry.nine; replace hx := hx.mono hley; replace hb := hb.mono hley; replace hrt := hrt.mono hley;)
 refine sQ (qM rfl) rfl (sQ (qM rfl) rfl ?_)
 refine H7 rfl ((U6 _)) rfl rfl ?_
 refine sQ (qM rfl) rfl ?_
 refine sP (Q9 rfl rfl (by omega) (by omega)) rfl rfl ?_
 (have hcall := ih m (by omega) (depth - 1) (.mk 2 []) py _ pc nc cc _ (hfu.sub (by omega) (A2Y 4 (by decide) (by decide))) (by omega) (by omega) (by omega) hx (J6 _ ⟨by omega, by omega⟩) hb (by omega); refine C0 rfl hcall (Pk.perm (by repeat (first | exact Pk.here | apply Pk.there))) rfl rfl (fun v Gn outs hlec hh => ?_); obtain ⟨pc, hpc1, hpc2, rfl, ec, cc, rfl, hrc, hsmc, hcc⟩ := hh; obtain ⟨c1, c2, c3, c4, c5, c6, c7, c8, c9, rfl⟩ := hrc.nine; replace hry := hry.mono hlec; replace hx := hx.mono hlec; replace hb := hb.mono hlec; replace hrt := hrt.mono hlec;)
 (refine D7 (D1 rfl rfl rfl (by omega) (by unfold maxLen; omega) rfl) rfl ?_; rintro _ ⟨b683, rfl⟩)
 refine H7 rfl ((A2z _ _ _ _ _)) rfl rfl ?_
 refine H2 ?_
 refine sD (nS ?_)
 (refine L4 (cs := [y1, y2, y3, y4, y5, y6, y7, y8, y9] ++ [c1, c2, c3, c4, c5, c6, c7, c8, c9]) (by repeat (first | exact Pk.here | apply Pk.there)) (fun G9 hle9 hsl9 hno9 => ?_); have hN := A3T (k := 7) (nm := ⟨⟨[]⟩⟩) ⟨by omega, by omega⟩ (hry.mono hle9) (hrc.mono hle9) hsl9)
 refine tT (rS ?_)
 refine C4 (outs := [rd br pb nb cb pc]) (rC rfl (A2 rfl rfl)) (by repeat (first | exact A0.nil | refine A0.cons Pk.here ?_ | refine A0.cons (Pk.there Pk.here) ?_ | refine A0.cons (Pk.there (Pk.there Pk.here)) ?_ | apply A0.drop)) ?_
 (exact ⟨pc, by omega, by omega, rfl, _, _, rfl, hN, by first | exact O6 (by first | assumption | decide) | exact A0w (by decide) (by assumption) (by assumption) (by assumption) | exact S8 (by decide) (by assumption) (by assumption) | exact K9 (by decide) Q6 (by assumption) | exact K9 (by decide) har.small (by assumption) | exact K9 (by decide) Q6 (S8 (by decide) (by assumption) (O6 (by decide))) | exact K9 (by decide) A0x (O6 (by decide)) | assumption, by simp only [C3, C9]; omega⟩)
 refine C7 ?_
 (refine D7 (D1 rfl rfl rfl (by omega) (by unfold maxLen; omega) rfl) rfl ?_; rintro _ ⟨b702, rfl⟩)
 (refine P2 (by repeat (first | exact Pk.here | apply Pk.there)) (fun G4 hle4 hsl4 _ => ?_); refine C0 rfl (Z3 G4 br pb nb cb (p5 + 1) bs _ _ _ _ (hb.mono hle4) hnb (by omega) hsl4 (by decide)) (Pk.perm (by repeat (first | exact Pk.here | apply Pk.there))) rfl rfl (fun v G7 outs hle7 hh => ?_); obtain ⟨rfl, rfl, hv⟩ := hh; obtain ⟨kn, rfl, hkn⟩ : ∃ k, v = .int .i64 k ∧ H4 k := (by simp only [List.mem_cons, List.not_mem_nil, or_false] at hv; rcases hv with rfl | rfl | rfl | rfl | rfl <;> exact ⟨_, rfl, by unfold H4; omega⟩))
 refine H7 rfl ((A10 _ _)) rfl rfl ?_
 refine H2 ?_
 refine sD (nS (tT ?_))
 refine C4 (outs := [rd br pb nb cb (p5 + 1 + 1)]) (rC rfl (A2 rfl rfl)) (by repeat (first | exact A0.nil | refine A0.cons Pk.here ?_ | refine A0.cons (Pk.there Pk.here) ?_ | refine A0.cons (Pk.there (Pk.there Pk.here)) ?_ | apply A0.drop)) ?_
 (exact ⟨(p5 + 1 + 1), by omega, by omega, rfl, _, _, rfl, A2a _ _ _ ⟨by omega, by omega⟩ (by first | exact ⟨by omega, by omega⟩ | exact hkn), by first | exact O6 (by first | assumption | decide) | exact A0w (by decide) (by assumption) (by assumption) (by assumption) | exact S8 (by decide) (by assumption) (by assumption) | exact K9 (by decide) Q6 (by assumption) | exact K9 (by decide) har.small (by assumption) | exact K9 (by decide) Q6 (S8 (by decide) (by assumption) (O6 (by decide))) | exact K9 (by decide) A0x (O6 (by decide)) | assumption, by simp only [C3, C9]; omega⟩)
 refine I5 ?_
 (refine D7 (D1 rfl rfl rfl (by omega) (by unfold maxLen; omega) rfl) rfl ?_; rintro _ ⟨b724, rfl⟩)
 (refine P2 (by repeat (first | exact Pk.here | apply Pk.there)) (fun G4 hle4 hsl4 _ => ?_); refine C0 rfl (Z3 G4 br pb nb cb p5 bs _ _ _ _ (hb.mono hle4) hnb (by omega) hsl4 (by decide)) (Pk.perm (by repeat (first | exact Pk.here | apply Pk.there))) rfl rfl (fun v G7 outs hle7 hh => ?_); obtain ⟨rfl, rfl, hv⟩ := hh; obtain ⟨kn, rfl, hkn⟩ : ∃ k, v = .int .i64 k ∧ H4 k := (by simp only [List.mem_cons, List.not_mem_nil, or_false] at hv; rcases hv with rfl | rfl | rfl | rfl | rfl <;> exact ⟨_, rfl, by unfold H4; omega⟩))
 refine H7 rfl ((A10 _ _)) rfl rfl ?_
 refine H2 ?_
 refine sD (nS (tT ?_))
 refine C4 (outs := [rd br pb nb cb (p5 + 1)]) (rC rfl (A2 rfl rfl)) (by repeat (first | exact A0.nil | refine A0.cons Pk.here ?_ | refine A0.cons (Pk.there Pk.here) ?_ | refine A0.cons (Pk.there (Pk.there Pk.here)) ?_ | apply A0.drop)) ?_
 (exact ⟨(p5 + 1), by omega, by omega, rfl, _, _, rfl, A2a _ _ _ ⟨by omega, by omega⟩ (by first | exact ⟨by omega, by omega⟩ | exact hkn), by first | exact O6 (by first | assumption | decide) | exact A0w (by decide) (by assumption) (by assumption) (by assumption) | exact S8 (by decide) (by assumption) (by assumption) | exact K9 (by decide) Q6 (by assumption) | exact K9 (by decide) har.small (by assumption) | exact K9 (by decide) Q6 (S8 (by decide) (by assumption) (O6 (by decide))) | exact K9 (by decide) A0x (O6 (by decide)) | assumption, by simp only [C3, C9]; omega⟩)
def P8 (o : Option Ty) (G : IM) : IM → Value → List A4 → Prop := L7 fun G' v => ∃ t cells, v = .tuple ⟨[.agg ⟨cells⟩, .bool o.isSome]⟩ ∧ B3 G' t cells ∧ E4 t ∧ ∀ u, o = some u → u = t
theorem P8.yes {G G' : IM} {o : Option Ty} {t : Ty} {cells : List Value} (h : o = some t) (hr : B3 G' t cells) (ha : E4 t) : P8 o G G' (.tuple ⟨[.agg ⟨cells⟩, .bool true]⟩) [] := by
 subst h; exact ⟨rfl, t, cells, rfl, hr, ha, fun u h => (by cases h; rfl)⟩
theorem P8.no {G G' : IM} {o : Option Ty} {t : Ty} {cells : List Value} (h : o = none) (hr : B3 G' t cells) (ha : E4 t) : P8 o G G' (.tuple ⟨[.agg ⟨cells⟩, .bool false]⟩) [] := by
 subst h; exact ⟨rfl, t, cells, rfl, hr, ha, fun u h => (by cases h)⟩
theorem P8.mk {G G' : IM} {o : Option Ty} {b : Bool} {t : Ty} {cells : List Value} (h : o = if b = true then some t else none) (hr : B3 G' t cells) (ha : E4 t) : P8 o G G' (.tuple ⟨[.agg ⟨cells⟩, .bool b]⟩) [] := by
 cases b
 ·exact P8.no h hr ha
 ·exact P8.yes h hr ha
theorem B3y {t : Ty} (h : H3 t = true) : E4 t := (A4H h).1
theorem A2H (k : Int) (a b : Ty) (G : IM) (ca cb : List Value) (hk : k = 4 ∨ k = 5) (ha : E4 a) (hb : E4 b) (hra : B3 G a ca) (hrb : B3 G b cb) :
  Fn Tryz.prog 218 [.int .i64 k, .agg ⟨ca⟩, .agg ⟨cb⟩] [] G (L7 fun G' v => ∃ cells, v = .tuple ⟨[.agg ⟨cells⟩, .bool (H3 (.mk k [a, b]))]⟩ ∧ B3 G' (.mk k [a, b]) cells) := by
 obtain ⟨ak, aks⟩ := a
 obtain ⟨bk, bks⟩ := b
 obtain ⟨pa, cca, ea, rfl, _⟩ := hra.open
 obtain ⟨pb, ccb, eb, rfl, _⟩ := hrb.open
 have hki : H4 k := ⟨by omega, by omega⟩
 refine B8 Tryz.func218 rfl Tryz.ntmps218 Tryz.results218 rfl ?_
 intro w0
 refine tS (tR ?_)
 refine sE (E7 rfl rfl) rfl (fun b3 => ?_)
 refine sE (E7 rfl rfl) rfl (fun b4 => ?_)
 refine sE (A8 rfl) rfl (fun b5 => ?_)
 refine sQ (qA rfl) rfl (sD (nS (tS ?_)))
 refine D3 D4 rfl ?_
 refine E8 (i := 0) (l' := [tt,ff,ff,ff,ff,ff,ff,ff,ff]) rfl C5 (qM rfl) rfl (by kernel_rfl) rfl rfl ?_
 refine aL 1 rfl (A2 rfl rfl) rfl ?_
 refine aL 3 rfl (A2 rfl rfl) rfl ?_
 refine Y5 (j := 2) (j' := 7) (by kernel_rfl) ?_ ?_
 (refine M6 rfl rfl (R4 _ G _ ha.small hra) rfl rfl rfl (fun v G1 hle1 hh => ?_); obtain ⟨Q0, F1, rfl, hs1, hn1⟩ := hh; obtain ⟨p1, c1, rfl, _⟩ := hs1.open; have hC2 := R4 _ G1 _ hb.small (hrb.mono hle1))
 refine Y5 (j := 4) (j' := 7) (by kernel_rfl) ?_ ?_
 (refine M6 rfl rfl hC2 rfl rfl rfl (fun v G2 hle2 hh => ?_); obtain ⟨cs2, F2, rfl, hs2, hn2⟩ := hh; obtain ⟨p2, c2, rfl, _⟩ := hs2.open; have hr1 := hs1.R.mono ((B6.le G1 G).trans hle2); have hr2 := hs2.R.mono (B6.le G2 G1))
 refine Y5 (j := 5) (j' := 7) (by kernel_rfl) ?_ ?_
 (refine I7 rfl (D1 rfl rfl rfl (by omega) (by unfold maxLen; omega) rfl) rfl rfl ?_; rintro _ ⟨b19, rfl⟩)
 refine aP 6 rfl (P6 rfl rfl) rfl ?_
 refine A1 7 ?_
 (refine I7 rfl (A8 rfl) rfl rfl ?_; rintro _ ⟨b22, rfl⟩)
 refine A1 8 ?_
 refine J7 rfl ?_
 refine D8 (nS (tS ?_))
 (have hr1' := hr1; refine A0H (by repeat (first | exact Pk.here | apply Pk.there)) (fun G5 hle5 hsl5 hno5 => ?_); have hRT : B3 G5 (.mk k [.mk ak aks, .mk bk bks]) _ := E1.ty (ts := [.mk ak aks, .mk bk bks]) (es := [[.int .i64 ak, .slice p1 aks.length c1], [.int .i64 bk, .slice p2 bks.length c2]]) ⟨_, _, rfl, hr1.mono hle5, _, _, rfl, hr2.mono hle5, rfl⟩ rfl hsl5 hki; have hV := A0L _ G5 _ hRT; refine D3 D4 rfl ?_)
 refine S3 (i := 0) (l' := [tt,ff,ff,ff,ff]) rfl C5 (A2 rfl rfl) rfl (by kernel_rfl) rfl rfl ?_
 refine aL 1 rfl (A2 rfl rfl) rfl ?_
 refine A1 2 ?_
 refine I1 rfl rfl (hV) rfl rfl rfl ?_
 refine A1 3 ?_
 refine J7 rfl ?_
 refine aP 4 rfl (qA rfl) rfl ?_
 refine D8 (nS (tT ?_))
 refine B4 (rC rfl (A2 rfl rfl)) (rT rfl) ?_
 (exact ⟨rfl, _, rfl, hRT⟩)
 (refine I7 rfl (A8 rfl) rfl rfl ?_; rintro _ ⟨b41, rfl⟩)
 refine A1 5 ?_
 (refine I7 rfl (D1 rfl rfl rfl (by omega) (by unfold maxLen; omega) rfl) rfl rfl ?_; rintro _ ⟨b43, rfl⟩)
 refine aP 6 rfl (P6 rfl rfl) rfl ?_
 refine A1 8 ?_
 refine J7 rfl ?_
 refine D8 (nS (tS ?_))
 (have hr1' := hr1; refine A0H (by repeat (first | exact Pk.here | apply Pk.there)) (fun G5 hle5 hsl5 hno5 => ?_); have hRT : B3 G5 (.mk k [.mk ak aks, .mk bk bks]) _ := E1.ty (ts := [.mk ak aks, .mk bk bks]) (es := [[.int .i64 ak, .slice p1 aks.length c1], [.int .i64 bk, .slice p2 bks.length c2]]) ⟨_, _, rfl, hr1.mono hle5, _, _, rfl, hr2.mono hle5, rfl⟩ rfl hsl5 hki; have hV := A0L _ G5 _ hRT; refine D3 D4 rfl ?_)
 refine S3 (i := 0) (l' := [tt,ff,ff,ff,ff]) rfl C5 (A2 rfl rfl) rfl (by kernel_rfl) rfl rfl ?_
 refine aL 1 rfl (A2 rfl rfl) rfl ?_
 refine A1 2 ?_
 refine I1 rfl rfl (hV) rfl rfl rfl ?_
 refine A1 3 ?_
 refine J7 rfl ?_
 refine aP 4 rfl (qA rfl) rfl ?_
 refine D8 (nS (tT ?_))
 refine B4 (rC rfl (A2 rfl rfl)) (rT rfl) ?_
 (exact ⟨rfl, _, rfl, hRT⟩)
 (refine I7 rfl (A8 rfl) rfl rfl ?_; rintro _ ⟨b63, rfl⟩)
 refine A1 4 ?_
 (refine M6 rfl rfl hC2 rfl rfl rfl (fun v G2 hle2 hh => ?_); obtain ⟨cs2, F2, rfl, hs2, hn2⟩ := hh; obtain ⟨p2, c2, rfl, _⟩ := hs2.open; have hr1 := hs1.R.mono ((B6.le G1 G).trans hle2); have hr2 := hs2.R.mono (B6.le G2 G1))
 refine A1 5 ?_
 (refine I7 rfl (D1 rfl rfl rfl (by omega) (by unfold maxLen; omega) rfl) rfl rfl ?_; rintro _ ⟨b67, rfl⟩)
 refine aP 6 rfl (P6 rfl rfl) rfl ?_
 refine A1 8 ?_
 refine J7 rfl ?_
 refine D8 (nS (tS ?_))
 (have hr1' := hr1; refine A0H (by repeat (first | exact Pk.here | apply Pk.there)) (fun G5 hle5 hsl5 hno5 => ?_); have hRT : B3 G5 (.mk k [.mk ak aks, .mk bk bks]) _ := E1.ty (ts := [.mk ak aks, .mk bk bks]) (es := [[.int .i64 ak, .slice p1 aks.length c1], [.int .i64 bk, .slice p2 bks.length c2]]) ⟨_, _, rfl, hr1.mono hle5, _, _, rfl, hr2.mono hle5, rfl⟩ rfl hsl5 hki; have hV := A0L _ G5 _ hRT; refine D3 D4 rfl ?_)
 refine S3 (i := 0) (l' := [tt,ff,ff,ff,ff]) rfl C5 (A2 rfl rfl) rfl (by kernel_rfl) rfl rfl ?_
 refine aL 1 rfl (A2 rfl rfl) rfl ?_
 refine A1 2 ?_
 refine I1 rfl rfl (hV) rfl rfl rfl ?_
 refine A1 3 ?_
 refine J7 rfl ?_
 refine aP 4 rfl (qA rfl) rfl ?_
 refine D8 (nS (tT ?_))
 refine B4 (rC rfl (A2 rfl rfl)) (rT rfl) ?_
 (exact ⟨rfl, _, rfl, hRT⟩)
 (refine I7 rfl (A8 rfl) rfl rfl ?_; rintro _ ⟨b87, rfl⟩)
 refine A1 2 ?_
 (refine M6 rfl rfl (R4 _ G _ ha.small hra) rfl rfl rfl (fun v G1 hle1 hh => ?_); obtain ⟨Q0, F1, rfl, hs1, hn1⟩ := hh; obtain ⟨p1, c1, rfl, _⟩ := hs1.open; have hC2 := R4 _ G1 _ hb.small (hrb.mono hle1))
 refine A1 4 ?_
 (refine M6 rfl rfl hC2 rfl rfl rfl (fun v G2 hle2 hh => ?_); obtain ⟨cs2, F2, rfl, hs2, hn2⟩ := hh; obtain ⟨p2, c2, rfl, _⟩ := hs2.open; have hr1 := hs1.R.mono ((B6.le G1 G).trans hle2); have hr2 := hs2.R.mono (B6.le G2 G1))
 refine A1 5 ?_
 (refine I7 rfl (D1 rfl rfl rfl (by omega) (by unfold maxLen; omega) rfl) rfl rfl ?_; rintro _ ⟨b93, rfl⟩)
 refine aP 6 rfl (P6 rfl rfl) rfl ?_
 refine A1 8 ?_
 refine J7 rfl ?_
 refine D8 (nS (tS ?_))
 (have hr1' := hr1; refine A0H (by repeat (first | exact Pk.here | apply Pk.there)) (fun G5 hle5 hsl5 hno5 => ?_); have hRT : B3 G5 (.mk k [.mk ak aks, .mk bk bks]) _ := E1.ty (ts := [.mk ak aks, .mk bk bks]) (es := [[.int .i64 ak, .slice p1 aks.length c1], [.int .i64 bk, .slice p2 bks.length c2]]) ⟨_, _, rfl, hr1.mono hle5, _, _, rfl, hr2.mono hle5, rfl⟩ rfl hsl5 hki; have hV := A0L _ G5 _ hRT; refine D3 D4 rfl ?_)
 refine S3 (i := 0) (l' := [tt,ff,ff,ff,ff]) rfl C5 (A2 rfl rfl) rfl (by kernel_rfl) rfl rfl ?_
 refine aL 1 rfl (A2 rfl rfl) rfl ?_
 refine A1 2 ?_
 refine I1 rfl rfl (hV) rfl rfl rfl ?_
 refine A1 3 ?_
 refine J7 rfl ?_
 refine aP 4 rfl (qA rfl) rfl ?_
 refine D8 (nS (tT ?_))
 refine B4 (rC rfl (A2 rfl rfl)) (rT rfl) ?_
 (exact ⟨rfl, _, rfl, hRT⟩)
theorem A3a (k : Int) (t : Ty) (G : IM) (cells : List Value) (hk : k = 4 ∨ k = 5) (ha : E4 t) (hr : B3 G t cells) :
  Fn Tryz.prog 234 [.int .i64 k, .agg ⟨cells⟩] [] G (B22 k t G) := by
 obtain ⟨tk, ks⟩ := t
 have ha2 := ha
 rw [E4] at ha2
 have hkid := ha.kid
 obtain ⟨p, c, es, rfl, htk, hsl, hkl⟩ := hr.open
 simp only [Ty.k, Ty.ks] at htk hsl hkl ⊢
 refine B8 Tryz.func234 rfl Tryz.ntmps234 Tryz.results234 rfl ?_
 intro w0
 refine tS (tR ?_)
 refine sE (E7 rfl rfl) rfl (fun b3 => ?_)
 refine sE (A8 rfl) rfl (fun b4 => ?_)
 refine sE (A8 rfl) rfl (fun b5 => ?_)
 refine F8 ?_
 refine sB (qE rfl rfl) rfl rfl (fun h14 => ?_) (fun h14 => ?_)
 refine sD (nS (qT rfl (tS (tR ?_))))
 refine H7 rfl ((A09 _)) rfl rfl ?_
 refine H7 rfl ((A09 _)) rfl rfl ?_
 refine H2 ?_
 refine H2 ?_
 refine sQ (qA rfl) rfl (sD (nS (tT (rS ?_))))
 refine rF3 (rC rfl (A2 rfl rfl)) (rC rfl (A2 rfl rfl)) (rT rfl) ?_
 (refine ⟨rfl, _, _, _, _, ?_, A1a _, A1a _, A2Z, A2Z, ?_⟩ <;> rw [A23, if_neg (by omega), if_pos (by omega)] <;> first | rfl | (intro p hp; cases hp; rfl))
 refine I6 ?_
 refine sB (P5 rfl rfl) rfl rfl (fun h42 => ?_) (fun h42 => ?_)
 refine O8 ?_
 refine rF3 (rC rfl (A2 rfl rfl)) (rC rfl (A2 rfl rfl)) (rT rfl) ?_
 (refine ⟨rfl, A7, _, A7, _, ?_, J6 _ ⟨by omega, by omega⟩, J6 _ ⟨by omega, by omega⟩, M8 (by omega) (by omega), M8 (by omega) (by omega), ?_⟩ <;> rw [A23, if_neg (by omega), if_neg (by omega)] <;> first | rfl | (intro p hp; cases hp))
 refine sD (nS (cF rfl (tK (nS (tS ?_)))))
 (have hlen : ks.length = 2 := ha2.1 (by omega); obtain ⟨b, o, q0, d0, hp0, hat0, hre0, hg0⟩ := hsl.kidTy hkl (i := 0) (by omega) (by omega); obtain ⟨b', o', q1, d1, hp1, hat1, hre1, hg1⟩ := hsl.kidTy hkl (i := 1) (by omega) (by omega); subst hp0; cases hp1; have hC1 := R4 _ G _ (hkid _ (List.getElem_mem (by omega))).small hre0; refine D3 D4 rfl ?_)
 refine E8 (i := 0) (l' := [tt,ff,ff,ff,ff,ff,ff,ff,ff,ff,ff,ff,ff]) rfl C5 (A9 rfl) rfl (by kernel_rfl) rfl rfl ?_
 refine aL 1 rfl (C2 rfl rfl) rfl ?_
 refine aP 2 rfl (D0 (j := 0) rfl rfl rfl (by omega)) rfl ?_
 refine aL 3 rfl (A6 rfl rfl (hat0 _) rfl) rfl ?_
 refine aP 5 rfl (A9 rfl) rfl ?_
 refine aL 6 rfl (C2 rfl rfl) rfl ?_
 refine aP 7 rfl (D0 (j := 1) rfl rfl rfl (by omega)) rfl ?_
 refine aL 8 rfl (A6 rfl rfl (hat1 _) rfl) rfl ?_
 refine A1 4 ?_
 (refine M6 rfl rfl hC1 rfl rfl rfl (fun v G1 hle1 hh => ?_); obtain ⟨Q0, F1, rfl, hs1, hn1⟩ := hh; obtain ⟨p1, c1, rfl, _⟩ := hs1.open; have hC2 := R4 _ G1 _ (hkid _ (List.getElem_mem (by omega))).small (hre1.mono hle1))
 refine A1 9 ?_
 (refine M6 rfl rfl hC2 rfl rfl rfl (fun v G2 hle2 hh => ?_); obtain ⟨cs2, F2, rfl, hs2, hn2⟩ := hh; obtain ⟨p2, c2, rfl, _⟩ := hs2.open; have hr1 := hs1.R.mono ((B6.le G1 G).trans hle2); have hr2 := hs2.R.mono (B6.le G2 G1))
 refine A1 10 ?_
 refine J7 rfl ?_
 refine A1 11 ?_
 refine K6 rfl rfl rfl rfl rfl rfl rfl rfl (by decide +kernel) (by repeat first | exact Sw.here | apply Sw.there) (by rfl) ?_
 refine aP 12 rfl (qA rfl) rfl ?_
 refine D8 (nS (tT ?_))
 refine rF3 (rC rfl (A2 rfl rfl)) (rC rfl (A2 rfl rfl)) (rT rfl) ?_
 (refine ⟨rfl, _, _, _, _, ?_, hr1, hr2, hkid _ (List.getElem_mem (by omega)), hkid _ (List.getElem_mem (by omega)), ?_⟩ <;> rw [A23, if_pos (by omega)] <;> first | rfl | (intro p hp; cases hp; simp [hlen]))
theorem B3z (G : IM) (cx : Cx) (hv : cxV cx) (p : Option Addr) (n c : Nat) (nm : ByteArray) (hx : V6 G cx p n c) :
  Fn Tryz.prog 169 [.slice p n c, .string nm] [] G (P8 (A1H cx nm) G) := by
 have hn := hx.le
 refine B8 Tryz.func169 rfl Tryz.ntmps169 Tryz.results169 rfl ?_
 intro w0
 refine tS (tR ?_)
 refine sE (A8 rfl) rfl (fun b3 => ?_)
 refine F8 ?_
 refine sP (Q9 rfl rfl (by omega) (by omega)) rfl rfl ?_
 refine sQ (qA rfl) rfl (sD (nS ?_))
 refine C6 ?_
 (refine N4 (fun (i : Nat) => ⟨[(6, .int .i64 ((i : Int) - 1)), (0, .slice p n c), (1, .string nm), (4, .pointer (some ⟨b3, 0, none⟩))], [.blk b3 [.int .i64 0, .slice none 0 0]], G⟩) (fun i => i ≤ n ∧ A1H cx nm = A0O cx nm i) (fun i => i) n ?_ ?_ ?_)
 exact E0
 (exact ⟨Nat.le_refl _, by unfold A1H; rw [hx.1]⟩)
 (rintro i ⟨hi, hlk⟩)
 refine tS (tS (tR (sQ (qM rfl) rfl ?_)))
 refine sB (S4 rfl rfl) rfl rfl (fun h25 => ?_) (fun h25 => ?_)
 refine sD (nS (qT rfl (tK (nS (tS ?_)))))
 (show I9 _ _ (.block 1 _) _ _; obtain ⟨j, rfl⟩ : ∃ j, i = j + 1 := ⟨i - 1, by omega⟩; rw [show ((j + 1 : Nat) : Int) - 1 = (j : Int) from by omega]; obtain ⟨b, o, nm1, t1, q1, d1, hcx, rfl, hat, hr1, hgb⟩ := hx.get (i := j) (by omega); have ha1 := B3y (hv _ (List.mem_of_getElem? hcx)); refine C6 ?_)
 refine tS (tR (sQ (qM rfl) rfl (sQ (qM rfl) rfl ?_)))
 refine sP (D0 rfl rfl rfl (by omega)) rfl rfl ?_
 refine sQ (qF rfl) rfl ?_
 refine sL (M7 rfl rfl ((hat _).sub (j := 0) rfl)) rfl rfl ?_
 refine sQ (qM rfl) rfl ?_
 refine sB (A02 rfl rfl) rfl rfl (fun h41 => ?_) (fun h41 => ?_)
 refine B7 ?_
 refine sP (D0 rfl rfl rfl (by omega)) rfl rfl ?_
 refine sQ (qF rfl) rfl ?_
 refine sL (A6 rfl rfl (hat _).drop rfl) rfl rfl ?_
 (refine D9 rfl (R4 _ G _ ha1.small hr1) rfl rfl (fun v G1 hle1 hh => ?_); obtain ⟨Q0, F1, rfl, hs1', hn1⟩ := hh; obtain ⟨p1, c1, rfl, _⟩ := hs1'.open; have hrr := hs1'.R.mono (B6.le G1 G))
 refine M2 ?_
 refine B4 (rC rfl (A2 rfl rfl)) (rT rfl) ?_
 (exact P8.yes (by rw [hlk]; exact B2t hcx (by assumption)) hrr ha1)
 refine F8 ?_
 refine sP (Q9 rfl rfl (by omega) (by omega)) rfl rfl ?_
 refine sQ (qA rfl) rfl (sD ?_)
 refine K5 j ?_ ?_ ?_
 exact E0
 (exact ⟨by omega, by rw [hlk]; exact B2u hcx (by assumption)⟩)
 (show _ < _ + 1; omega)
 refine N6 ?_
 refine B4 (rC rfl (A2 rfl rfl)) (rT rfl) ?_
 (obtain rfl : i = 0 := (by omega); exact P8.no (by rw [hlk]; rfl) (J6 _ ⟨by omega, by omega⟩) (M8 (by omega) (by omega)))
theorem A4T : ∀ (xs ys : List Ty), xs.length = ys.length → (W3 xs ys).length = xs.length
 | [], [], _ => rfl
 | a :: xs, b :: ys, h => by simp only [W3, List.length_cons]; rw [A4T xs ys (by simpa using h)]
 | [], b :: ys, h => by simp at h
 | a :: xs, [], h => by simp at h
theorem A6s : ∀ (xs ys : List Ty) (i : Nat) (h : i < xs.length) (h' : i < ys.length) (hl : i < (W3 xs ys).length), (W3 xs ys)[i] = X2 xs[i] ys[i]
 | [], _, i, h, _, _ => by simp at h
 | a :: xs, [], i, _, h', _ => by simp at h'
 | a :: xs, b :: ys, 0, _, _, _ => by simp [W3]
 | a :: xs, b :: ys, i + 1, h, h', hl => by
  simp only [W3, List.getElem_cons_succ]
  exact A6s xs ys i (by simpa using h) (by simpa using h') _
theorem B3A {xs ys : List Ty} {i : Nat} (hl : xs.length = ys.length) (h : i < xs.length) : (W3 xs ys).take (i + 1) = (W3 xs ys).take i ++ [X2 xs[i] (ys[i]'(by omega))] := by
 rw [List.take_succ_eq_append_getElem (by rw [A4T _ _ hl]; exact h), A6s _ _ i h (by omega)]
theorem B3B : ∀ (a b : Ty) (G : IM) (ca cb : List Value), K2 a b = true → E4 a → E4 b → B3 G a ca → B3 G b cb → Fn Tryz.prog 246 [.agg ⟨ca⟩, .agg ⟨cb⟩] [] G (L7 fun G' v => ∃ cells, v = .agg ⟨cells⟩ ∧ B3 G' (X2 a b) cells) := by
 refine Ty.ind fun ak aks ih b G ca cb hc ha hb hra hrb => ?_
 obtain ⟨bk, bks⟩ := b
 have hka := ha.kid
 have hkb := hb.kid
 have hca := R4 _ G _ ha.small hra
 have hcb := R4 _ G _ hb.small hrb
 have hcc : ak ≠ 1 → bk ≠ 1 → aks.length = bks.length ∧ ∀ i, (h : i < aks.length) → (h' : i < bks.length) → K2 aks[i] bks[i] = true := by
  intro h1 h2
  rw [Y9, decide_eq_false h1, decide_eq_false h2] at hc
  simp only [Bool.false_or, Bool.and_eq_true, decide_eq_true_eq] at hc
  exact (A1U _ _).1 hc.2
 rw [A3F]
 obtain ⟨pa, cca, ea, rfl, hak, hsla, hkla⟩ := hra.open
 obtain ⟨pb, ccb, eb, rfl, hbk, hslb, hklb⟩ := hrb.open
 simp only [Ty.k, Ty.ks] at hak hsla hkla hbk hslb hklb ⊢
 have hna := hsla.le
 have hnb := hslb.le
 have hl2 := ha.two
 refine B8 Tryz.func246 rfl Tryz.ntmps246 Tryz.results246 rfl ?_
 intro w0
 refine tS (tR ?_)
 refine sE (E7 rfl rfl) rfl (fun b3 => ?_)
 refine sE (E7 rfl rfl) rfl (fun b4 => ?_)
 refine sE (A8 rfl) rfl (fun b5 => ?_)
 refine B7 ?_
 refine sB (qE rfl rfl) rfl rfl (fun h13 => ?_) (fun h13 => ?_)
 refine sD (nS (qT rfl (tS (tR (sL (A2 rfl rfl) rfl rfl ?_)))))
 (refine D9 rfl (by first | exact hcb | exact hca) rfl rfl (fun v G1 hle1 hh => ?_); obtain ⟨Q0, F1, rfl, hs1, hn1⟩ := hh; obtain ⟨p1, c1, rfl, _⟩ := hs1.open; have hr1 := hs1.R.mono (B6.le G1 G))
 refine H2 ?_
 refine sD (nS (tT (rS ?_)))
 refine E9 (rC rfl (A2 rfl rfl)) ?_
 (rw [if_pos (by omega)]; exact ⟨rfl, _, rfl, hr1⟩)
 refine M2 ?_
 refine sB (qE rfl rfl) rfl rfl (fun h38 => ?_) (fun h38 => ?_)
 refine sD (nS (qT rfl (tS (tR (sL (A2 rfl rfl) rfl rfl ?_)))))
 (refine D9 rfl (by first | exact hcb | exact hca) rfl rfl (fun v G1 hle1 hh => ?_); obtain ⟨Q0, F1, rfl, hs1, hn1⟩ := hh; obtain ⟨p1, c1, rfl, _⟩ := hs1.open; have hr1 := hs1.R.mono (B6.le G1 G))
 refine H2 ?_
 refine sD (nS (tT (rS ?_)))
 refine E9 (rC rfl (A2 rfl rfl)) ?_
 (rw [if_neg (by omega), if_pos (by omega)]; exact ⟨rfl, _, rfl, hr1⟩)
 refine M2 ?_
 refine sE (A8 rfl) rfl (fun b63 => ?_)
 refine H2 ?_
 refine sD (nS (tS (tS (tR (sQ (qA rfl) rfl (sD (nS ?_)))))))
 refine C6 ?_
 (obtain ⟨hlab, hcab⟩ := hcc (by omega) (by omega); refine A0B 25 2 ?_; refine N4 (fun (x : Nat × Option Addr × Nat × List Ty × List (List Value) × IM) => ⟨[(6, .int .i64 x.1), (5, .pointer (some ⟨b63, 0, none⟩)), (4, .pointer (some ⟨b5, 0, none⟩)), (2, .pointer (some ⟨b3, 0, none⟩)), (3, .pointer (some ⟨b4, 0, none⟩))], [.blk b63 [.int .i64 ak, .slice x.2.1 x.1 x.2.2.1], .slc x.2.1 x.2.2.1 25 2 x.1 x.2.2.2.2.1.flatten, .blk b5 [.int .i64 0, .slice none 0 0], .blk b4 [.int .i64 bk, .slice pb bks.length ccb], .blk b3 [.int .i64 ak, .slice pa aks.length cca]], x.2.2.2.2.2⟩) (fun x => x.1 ≤ aks.length ∧ B2 G x.2.2.2.2.2 ∧ x.2.2.2.1.length = x.1 ∧ E1 x.2.2.2.2.2 x.2.2.2.1 x.2.2.2.2.1 ∧ x.2.2.2.1 = (W3 aks bks).take x.1) (fun x => aks.length - x.1) (0, none, 0, [], [], G) ?_ ?_ ?_)
 (simp only [J9]; exact E0)
 (exact ⟨by simp, B2.refl _, rfl, by simp [E1], rfl⟩)
 (rintro ⟨i, pn, cn, us, es', Gi⟩ ⟨hi, hle, hlu, hst, hus⟩; simp only [] at hi hle hlu hst hus ⊢; replace hsla := hsla.mono hle; replace hkla := hkla.mono hle; replace hslb := hslb.mono hle; replace hklb := hklb.mono hle)
 refine B7 ?_
 refine sB (L9 rfl rfl) rfl rfl (fun h85 => ?_) (fun h85 => ?_)
 refine sD (nS (qT rfl (tK (nS (tS ?_)))))
 refine C6 ?_
 (obtain ⟨b, o, q0, d0, hp0, hat0, hre0, hg0⟩ := hsla.kidTy hkla (i := i) (by omega) (by omega); obtain ⟨b', o', q1, d1, hp1, hat1, hre1, hg1⟩ := hslb.kidTy hklb (i := i) (by omega) (by omega); subst hp0; subst hp1; have hih := ih aks[i] (List.getElem_mem (by omega)) bks[i] Gi _ _ (hcab i (by omega) (by omega)) (hka _ (List.getElem_mem (by omega))) (hkb _ (List.getElem_mem (by omega))) hre0 hre1; refine D3 D4 rfl ?_)
 refine E8 (i := 0) (l' := [tt,ff,ff,ff,ff,ff,ff,ff,ff,ff,ff,ff,ff,ff,ff,ff,ff]) rfl C5 (A9 rfl) rfl (by kernel_rfl) rfl rfl ?_
 refine aL 1 rfl (C2 rfl rfl) rfl ?_
 refine aP 2 rfl (A9 rfl) rfl ?_
 refine aL 3 rfl (C2 rfl rfl) rfl ?_
 refine aP 4 rfl (qM rfl) rfl ?_
 refine aP 5 rfl (D0 rfl rfl rfl (by omega)) rfl ?_
 refine aL 6 rfl (A6 rfl rfl (hat0 _) rfl) rfl ?_
 refine aP 7 rfl (A9 rfl) rfl ?_
 refine aL 8 rfl (C2 rfl rfl) rfl ?_
 refine aP 9 rfl (qM rfl) rfl ?_
 refine aP 10 rfl (D0 rfl rfl rfl (by omega)) rfl ?_
 refine aL 11 rfl (A6 rfl rfl (hat1 _) rfl) rfl ?_
 refine A1 12 ?_
 (refine M6 rfl rfl hih rfl rfl rfl (fun v G1 hle1 hh => ?_); obtain ⟨cells', rfl, hru⟩ := hh; generalize hu : X2 aks[i] bks[i] = u at hru; obtain ⟨p3, c3, es3, rfl, _⟩ := hru.open)
 refine A1 13 ?_
 (refine I7 rfl (D1 rfl rfl rfl (by omega) (by unfold maxLen; omega) rfl) rfl rfl ?_; rintro _ ⟨b109, rfl⟩)
 refine A1 14 ?_
 refine W2 rfl rfl rfl rfl rfl rfl (fun _ _ => by repeat (first | exact Sw.here | apply Sw.there)) (R0 (by repeat first | exact mH | apply mT)) rfl (by simp [Value.oneCell']) (by unfold maxLen; omega) (by omega) rfl rfl (by repeat (first | exact A5.nil | apply A5.dep (by decide +kernel) | apply A5.blk (by decide +kernel) (by repeat (first | exact Pk.here | apply Pk.there)) (by repeat first | exact mH | apply mT))) (fun pn' cn' => ?_)
 refine aP 15 rfl (A9 rfl) rfl ?_
 refine A1 16 ?_
 refine K6 rfl rfl rfl rfl rfl rfl rfl rfl (by decide +kernel) (by repeat first | exact Sw.here | apply Sw.there) (by rfl) ?_
 refine D8 (O3 (nS (tR (sQ (qM rfl) rfl ?_))))
 refine sP (N0 rfl rfl (by omega) (by omega)) rfl rfl ?_
 refine sQ (qA rfl) rfl (sD ?_)
 refine K5 (i + 1, pn', cn', us ++ [u], es' ++ [[.int .i64 u.k, .slice p3 u.ks.length c3]], G1) ?_ ?_ ?_
 (simp only [J9]; exact E0)
 (dsimp only; exact ⟨by omega, hle.trans hle1, by simp [hlu], E1.snoc (hst.mono hle1) hru, by rw [B3A hlab (by omega), ← hus, hu]⟩)
 (show aks.length - (i + 1) < aks.length - i; omega)
 refine O8 ?_
 (refine L4 (by repeat (first | exact Pk.here | apply Pk.there)) (fun G2 hle2 hsl2 hno2 => ?_); obtain rfl : i = aks.length := (by omega))
 refine tT ?_
 refine E9 (rC rfl (A2 rfl rfl)) ?_
 (rw [List.take_of_length_le (by rw [A4T _ _ hlab]; omega)] at hus; rw [if_neg (by omega), if_neg (by omega), ← hus]; exact ⟨rfl, _, rfl, (hst.mono hle2).ty hlu hsl2 hak⟩)
theorem gD {ts : List Ty} {i : Nat} (h : i < ts.length) : ts.getD i A7 = ts[i] := by rw [List.getD_eq_getElem?_getD, List.getElem?_eq_getElem h, Option.getD_some]
section
variable {cx : Cx} {k : Int} {nm : ByteArray} {ty : Ty} {ts : List Ty}
theorem A9B (h : 1 < ts.length) : X6 cx 6 nm ty ts = match X3 4 ts[0] with | some (a, b) => if K2 ts[1] a = true then some b else none | none => none := by
 unfold X6 R3
 rw [gD (i := 0) (by omega), gD (i := 1) h]
 simp only [show ¬((6 : Int) = 1) by decide, show ¬((6 : Int) = 2) by decide, show ¬((6 : Int) = 3 ∨ (6 : Int) = 4) by decide, show ¬((6 : Int) = 5) by decide, if_false, if_true]
 cases X3 4 ts[0] with
 | none => rfl
 | some p =>
  obtain ⟨a, b⟩ := p
  by_cases hc : K2 ts[1] a = true
  ·simp [hc]
  ·simp [hc]
theorem A4U (hk : k = 7 ∨ k = 8) (h : 1 < ts.length) : X6 cx k nm ty ts = if K2 ts[0] T2 = true ∧ K2 ts[1] T2 = true then some (if k = 8 then Z1 else T2) else none := by
 unfold X6 R3
 rw [gD (i := 0) (by omega), gD (i := 1) h, if_neg (by omega), if_neg (by omega), if_neg (by omega), if_neg (by omega), if_neg (by omega), if_pos hk]
 by_cases hc : K2 ts[0] T2 = true ∧ K2 ts[1] T2 = true
 ·rw [if_pos hc, if_pos hc]; simp only; rw [if_neg (by omega)]
 ·rw [if_neg hc, if_neg hc]
theorem A9C (h : 2 < ts.length) : X6 cx 9 nm ty ts = if K2 ts[0] Z1 = true ∧ K2 ts[1] ts[2] = true then some (X2 ts[1] ts[2]) else none := by
 unfold X6 R3
 rw [gD (i := 0) (by omega), gD (i := 1) (by omega), gD (i := 2) h, if_neg (by omega), if_neg (by omega), if_neg (by omega), if_neg (by omega), if_neg (by omega), if_neg (by omega), if_pos rfl]
 by_cases hc : K2 ts[0] Z1 = true ∧ K2 ts[1] ts[2] = true
 ·rw [if_pos hc, if_pos hc]; simp
 ·rw [if_neg hc, if_neg hc]
theorem B3C (h : 1 < ts.length) : X6 cx 10 nm ty ts = if H3 (.mk 5 [ts[0], ts[1]]) = true then some (.mk 5 [ts[0], ts[1]]) else none := by
 unfold X6 R3
 rw [gD (i := 0) (by omega), gD (i := 1) h, if_neg (by omega), if_neg (by omega), if_neg (by omega), if_neg (by omega), if_neg (by omega), if_neg (by omega), if_neg (by omega), if_pos rfl]
 cases hv : H3 (.mk 5 [ts[0], ts[1]]) <;> simp [hv]
theorem B3D (h : 0 < ts.length) : X6 cx 13 nm ty ts = if K2 ts[0] ty = true then some ty else none := by
 unfold X6 R3
 rw [gD (i := 0) h, if_neg (by omega), if_neg (by omega), if_neg (by omega), if_neg (by omega), if_neg (by omega), if_neg (by omega), if_neg (by omega), if_neg (by omega), if_pos rfl]
 by_cases hc : K2 ts[0] ty = true
 ·rw [if_pos hc, if_pos hc]; simp
 ·rw [if_neg hc, if_neg hc]
theorem A4V (hk : k = 11 ∨ k = 12) (h : 0 < ts.length) : X6 cx k nm ty ts = match X3 5 ts[0] with | some (a, b) => some (if k = 12 then b else a) | none => none := by
 unfold X6 R3
 rw [gD (i := 0) h, if_neg (by omega), if_neg (by omega), if_neg (by omega), if_neg (by omega), if_neg (by omega), if_neg (by omega), if_neg (by omega), if_neg (by omega), if_neg (by omega)]
 cases X3 5 ts[0] with
 | none => rfl
 | some p =>
  obtain ⟨a, b⟩ := p
  simp only
  rw [if_neg (by omega)]
end
theorem B3E : ∀ (a b : Ty), K2 a b = true → E4 a → E4 b → E4 (X2 a b) := by
 refine Ty.ind fun k ks ih b hc ha hb => ?_
 obtain ⟨k', ks'⟩ := b
 rw [A3F]
 split
 ·exact hb
 ·split
  ·exact ha
  ·rw [Y9] at hc
   simp only [Bool.or_eq_true, Bool.and_eq_true, decide_eq_true_eq] at hc
   obtain ⟨hk, hl⟩ : k = k' ∧ R1 ks ks' = true := by
    rcases hc with (h | h) | h
    ·contradiction
    ·contradiction
    ·exact h
   obtain ⟨hll, hcc⟩ := (A1U _ _).1 hl
   have hlen := A4T ks ks' hll
   refine A4F ha hlen fun u hu => ?_
   obtain ⟨i, hi, rfl⟩ := List.mem_iff_getElem.1 hu
   rw [A6s ks ks' i (by omega) (by omega)]
   exact ih _ (List.getElem_mem _) _ (hcc i (by omega) (by omega)) (ha.kid _ (List.getElem_mem _)) (hb.kid _ (List.getElem_mem _))
theorem B3F (cx : Cx) (k : Int) (nm : ByteArray) (num : Int) (ty fr : Ty) (lb : Int) (ks : List Tm) (ts : List Ty) (G : IM) (cells : List Value) (p : Option Addr) (c : Nat) (es : List (List Value))
  (hops : H6 k = ts.length) (hk6 : 6 ≤ k ∧ k ≤ 13) (hty : E4 ty) (hr : B5 G (.mk k nm num ty fr lb ks) cells) (hsl : D5 G p ts.length c 2 es) (hkl : E1 G ts es) (har : ∀ t ∈ ts, E4 t) :
  Fn Tryz.prog 219 [.agg ⟨cells⟩, .slice p ts.length c] [] G (P8 (X6 cx k nm ty ts) G) := by
 have hone := hr.one
 have hop := A13 hops
 have ha0 := fun h : 0 < ts.length => har _ (List.getElem_mem h)
 have ha1 := fun h : 1 < ts.length => har _ (List.getElem_mem h)
 have ha2 := fun h : 2 < ts.length => har _ (List.getElem_mem h)
 obtain ⟨tk, tks⟩ := ty
 obtain ⟨fk, fks⟩ := fr
 obtain ⟨pt, ct, pf, cf, pk, ck, ek, rfl, hk, hnum, hlb, hrty, hrfr, _, _⟩ := hr.open9
 refine B8 Tryz.func219 rfl Tryz.ntmps219 Tryz.results219 rfl ?_
 intro w0
 refine tS (tR ?_)
 refine sE (E7 rfl rfl) rfl (fun b3 => ?_)
 refine sE (A8 rfl) rfl (fun b4 => ?_)
 refine M2 ?_
 refine C6 (tS (tR (sB (qE rfl rfl) rfl rfl (fun h18 => ?_) (fun h18 => ?_))))
 refine B7 ?_
 (have hl2 : ts.length = 2 := hop.1 (by omega); obtain ⟨b0, o0, q0, d0, hp0, hat0, hre0, hg0⟩ := hsl.kidTy hkl (i := 0) (by omega) (by omega); obtain ⟨b1, o1, q1, d1, hp1, hat1, hre1, hg1⟩ := hsl.kidTy hkl (i := 1) (by omega) (by omega); cases hp0; cases hp1; refine sP (D0 (j := 0) rfl rfl rfl (by omega)) rfl rfl ?_)
 refine sL (A6 rfl rfl (hat0 _) rfl) rfl rfl ?_
 focus (refine D9 rfl (A3a 4 ts[0] G _ (.inl rfl) (ha0 (by omega)) hre0) rfl rfl (fun v G1 hle1 hh => ?_); obtain ⟨ma, mca, mb, mcb, rfl, hma, hmb, hma2, hmb2, hpp⟩ := hh; obtain ⟨p1, c1, e1, rfl, _⟩ := hma.open; obtain ⟨p2, c2, e2, rfl, _⟩ := hmb.open; replace hsl := hsl.mono hle1; replace hkl := hkl.mono hle1; rcases hm : X3 4 ts[0] with _ | pr; rotate_left; obtain rfl := hpp _ hm; rotate_left; all_goals simp only [Option.isSome])
 refine H9 ?_
 refine sE (A8 rfl) rfl (fun b33 => ?_)
 refine sE (A8 rfl) rfl (fun b34 => ?_)
 refine H2 ?_
 refine H2 ?_
 refine sQ (qA rfl) rfl (sD (nS (tS ?_)))
 (have hl2 : ts.length = 2 := hop.1 (by omega); obtain ⟨b0, o0, q0, d0, hp0, hat0, hre0, hg0⟩ := hsl.kidTy hkl (i := 0) (by omega) (by omega); obtain ⟨b1, o1, q1, d1, hp1, hat1, hre1, hg1⟩ := hsl.kidTy hkl (i := 1) (by omega) (by omega); cases hp0; cases hp1; refine D3 D4 rfl ?_)
 refine S3 (i := 0) (l' := [tt,ff,ff,ff,ff,ff,ff,ff,ff,ff,ff]) rfl C5 (A2 rfl rfl) rfl (by kernel_rfl) rfl rfl ?_
 refine aP 1 rfl (qM rfl) rfl ?_
 refine aP 2 rfl (qM rfl) rfl ?_
 refine B1 3 rfl rfl rfl ?_
 refine B1 4 rfl rfl rfl ?_
 refine B1 5 rfl rfl rfl ?_
 refine B1 6 rfl rfl rfl ?_
 refine B1 7 rfl rfl rfl ?_
 refine aP 8 rfl (M4 rfl rfl) rfl ?_
 refine A1 9 ?_
 refine J7 rfl ?_
 refine aP 10 rfl (qA rfl) rfl ?_
 refine D8 (nS (tT (rB (rS ?_))))
 refine B4 (rC rfl (A2 rfl rfl)) (rT rfl) ?_
 (obtain rfl : k = 6 := (by omega); exact P8.no (by rw [A9B (by omega), hm]) hmb hmb2)
 refine H9 ?_
 refine sE (A8 rfl) rfl (fun b65 => ?_)
 refine sE (A8 rfl) rfl (fun b66 => ?_)
 refine H2 ?_
 refine H2 ?_
 refine sQ (qA rfl) rfl (sD (nS (tS ?_)))
 (have hl2 : ts.length = 2 := hop.1 (by omega); obtain ⟨b0, o0, q0, d0, hp0, hat0, hre0, hg0⟩ := hsl.kidTy hkl (i := 0) (by omega) (by omega); obtain ⟨b1, o1, q1, d1, hp1, hat1, hre1, hg1⟩ := hsl.kidTy hkl (i := 1) (by omega) (by omega); cases hp0; cases hp1; refine D3 D4 rfl ?_)
 refine S3 (i := 0) (l' := [tt,ff,ff,ff,ff,ff,ff,ff,ff,ff,ff]) rfl C5 (A2 rfl rfl) rfl (by kernel_rfl) rfl rfl ?_
 refine aP 1 rfl (qM rfl) rfl ?_
 refine aP 2 rfl (qM rfl) rfl ?_
 refine aP 3 rfl (qM rfl) rfl ?_
 refine aP 4 rfl (D0 (j := 1) rfl rfl rfl (by omega)) rfl ?_
 refine aL 5 rfl (A6 rfl rfl (hat1 _) rfl) rfl ?_
 refine aL 6 rfl (A2 rfl rfl) rfl ?_
 refine A1 7 ?_
 refine I1 rfl rfl ((W5 ts[1] ma _ _ _ (ha1 (by omega)) hma2 hre1 hma)) rfl rfl rfl ?_
 refine aP 8 rfl (J8 rfl rfl) rfl ?_
 refine A1 9 ?_
 refine J7 rfl ?_
 refine aP 10 rfl (qA rfl) rfl ?_
 refine D8 (nS (tT (rB (rS ?_))))
 refine B4 (rC rfl (A2 rfl rfl)) (rT rfl) ?_
 (obtain rfl : k = 6 := (by omega); exact P8.mk (by rw [A9B (by omega), hm]) hmb hmb2)
 refine sQ (qA rfl) rfl (sD (nS (cF rfl (tS (tR ?_)))))
 refine sB (qE rfl rfl) rfl rfl (fun h100 => ?_) (fun h100 => ?_)
 refine sQ (qA rfl) rfl (sD (nS (qT rfl (tS ?_))))
 (have hl2 : ts.length = 2 := hop.1 (by omega); obtain ⟨b0, o0, q0, d0, hp0, hat0, hre0, hg0⟩ := hsl.kidTy hkl (i := 0) (by omega) (by omega); obtain ⟨b1, o1, q1, d1, hp1, hat1, hre1, hg1⟩ := hsl.kidTy hkl (i := 1) (by omega) (by omega); cases hp0; cases hp1; refine D3 D4 rfl ?_)
 refine E8 (i := 1) (l' := [ff,tt,ff,ff,ff,ff,ff,ff,ff,ff,ff,ff,ff,ff,ff]) rfl C5 (qM rfl) rfl (by kernel_rfl) rfl rfl ?_
 refine aP 2 rfl (D0 (j := 0) rfl rfl rfl (by omega)) rfl ?_
 refine aL 3 rfl (A6 rfl rfl (hat0 _) rfl) rfl ?_
 refine A1 0 ?_
 refine I1 rfl rfl ((U6 _)) rfl rfl rfl ?_
 refine A1 4 ?_
 refine I1 rfl rfl ((U6 _)) rfl rfl rfl ?_
 refine A1 5 ?_
 refine A0J rfl rfl ((W5 ts[0] (.mk 2 []) _ _ _ (ha0 (by omega)) (M8 (by decide) (by decide)) hre0 (J6 _ ⟨by omega, by omega⟩))) rfl rfl rfl (fun h115 => ?_) (fun h115 => ?_)
 refine aP 6 rfl (qM rfl) rfl ?_
 refine aP 7 rfl (qM rfl) rfl ?_
 refine aP 8 rfl (D0 (j := 1) rfl rfl rfl (by omega)) rfl ?_
 refine aL 9 rfl (A6 rfl rfl (hat1 _) rfl) rfl ?_
 refine A1 10 ?_
 refine I1 rfl rfl ((U6 _)) rfl rfl rfl ?_
 refine A1 11 ?_
 refine I1 rfl rfl ((W5 ts[1] (.mk 2 []) _ _ _ (ha1 (by omega)) (M8 (by decide) (by decide)) hre1 (J6 _ ⟨by omega, by omega⟩))) rfl rfl rfl ?_
 refine aP 12 rfl (J8 rfl rfl) rfl ?_
 refine A1 13 ?_
 refine J7 rfl ?_
 refine aP 14 rfl (qA rfl) rfl ?_
 refine D8 (nS (tT (rB (rS ?_))))
 refine B4 (rC rfl (A2 rfl rfl)) (rT rfl) ?_
 (have hk7 : k = 7 := (by omega); exact P8.mk (by rw [A4U (.inl hk7) (by omega)]; simp_all [T2]) (J6 _ ⟨by omega, by omega⟩) (M8 (by omega) (by omega)))
 refine aP 6 rfl (qM rfl) rfl ?_
 refine B1 7 rfl rfl rfl ?_
 refine B1 8 rfl rfl rfl ?_
 refine B1 9 rfl rfl rfl ?_
 refine B1 10 rfl rfl rfl ?_
 refine B1 11 rfl rfl rfl ?_
 refine aP 12 rfl (M4 rfl rfl) rfl ?_
 refine A1 13 ?_
 refine J7 rfl ?_
 refine aP 14 rfl (qA rfl) rfl ?_
 refine D8 (nS (tT (rB (rS ?_))))
 refine B4 (rC rfl (A2 rfl rfl)) (rT rfl) ?_
 (have hk7 : k = 7 := (by omega); exact P8.mk (by rw [A4U (.inl hk7) (by omega)]; simp_all [T2]) (J6 _ ⟨by omega, by omega⟩) (M8 (by omega) (by omega)))
 refine sQ (qA rfl) rfl (sD (nS (cF rfl (tS (tR ?_)))))
 refine sB (qE rfl rfl) rfl rfl (fun h158 => ?_) (fun h158 => ?_)
 refine sQ (qA rfl) rfl (sD (nS (qT rfl (tS ?_))))
 (have hl2 : ts.length = 2 := hop.1 (by omega); obtain ⟨b0, o0, q0, d0, hp0, hat0, hre0, hg0⟩ := hsl.kidTy hkl (i := 0) (by omega) (by omega); obtain ⟨b1, o1, q1, d1, hp1, hat1, hre1, hg1⟩ := hsl.kidTy hkl (i := 1) (by omega) (by omega); cases hp0; cases hp1; refine D3 D4 rfl ?_)
 refine E8 (i := 1) (l' := [ff,tt,ff,ff,ff,ff,ff,ff,ff,ff,ff,ff,ff,ff,ff]) rfl C5 (qM rfl) rfl (by kernel_rfl) rfl rfl ?_
 refine aP 2 rfl (D0 (j := 0) rfl rfl rfl (by omega)) rfl ?_
 refine aL 3 rfl (A6 rfl rfl (hat0 _) rfl) rfl ?_
 refine A1 0 ?_
 refine I1 rfl rfl ((A1c _)) rfl rfl rfl ?_
 refine A1 4 ?_
 refine I1 rfl rfl ((U6 _)) rfl rfl rfl ?_
 refine A1 5 ?_
 refine A0J rfl rfl ((W5 ts[0] (.mk 2 []) _ _ _ (ha0 (by omega)) (M8 (by decide) (by decide)) hre0 (J6 _ ⟨by omega, by omega⟩))) rfl rfl rfl (fun h173 => ?_) (fun h173 => ?_)
 refine aP 6 rfl (qM rfl) rfl ?_
 refine aP 7 rfl (qM rfl) rfl ?_
 refine aP 8 rfl (D0 (j := 1) rfl rfl rfl (by omega)) rfl ?_
 refine aL 9 rfl (A6 rfl rfl (hat1 _) rfl) rfl ?_
 refine A1 10 ?_
 refine I1 rfl rfl ((U6 _)) rfl rfl rfl ?_
 refine A1 11 ?_
 refine I1 rfl rfl ((W5 ts[1] (.mk 2 []) _ _ _ (ha1 (by omega)) (M8 (by decide) (by decide)) hre1 (J6 _ ⟨by omega, by omega⟩))) rfl rfl rfl ?_
 refine aP 12 rfl (J8 rfl rfl) rfl ?_
 refine A1 13 ?_
 refine J7 rfl ?_
 refine aP 14 rfl (qA rfl) rfl ?_
 refine D8 (nS (tT (rB (rS ?_))))
 refine B4 (rC rfl (A2 rfl rfl)) (rT rfl) ?_
 (have hk8 : k = 8 := (by omega); exact P8.mk (by rw [A4U (.inr hk8) (by omega)]; simp_all [T2, Z1]) (J6 _ ⟨by omega, by omega⟩) (M8 (by omega) (by omega)))
 refine aP 6 rfl (qM rfl) rfl ?_
 refine B1 7 rfl rfl rfl ?_
 refine B1 8 rfl rfl rfl ?_
 refine B1 9 rfl rfl rfl ?_
 refine B1 10 rfl rfl rfl ?_
 refine B1 11 rfl rfl rfl ?_
 refine aP 12 rfl (M4 rfl rfl) rfl ?_
 refine A1 13 ?_
 refine J7 rfl ?_
 refine aP 14 rfl (qA rfl) rfl ?_
 refine D8 (nS (tT (rB (rS ?_))))
 refine B4 (rC rfl (A2 rfl rfl)) (rT rfl) ?_
 (have hk8 : k = 8 := (by omega); exact P8.mk (by rw [A4U (.inr hk8) (by omega)]; simp_all [T2, Z1]) (J6 _ ⟨by omega, by omega⟩) (M8 (by omega) (by omega)))
 refine sQ (qA rfl) rfl (sD (nS (cF rfl (tS (tR ?_)))))
 refine sB (qE rfl rfl) rfl rfl (fun h216 => ?_) (fun h216 => ?_)
 refine sQ (qA rfl) rfl (sD (nS (qT rfl (tS (tS ?_)))))
 (have hl3 : ts.length = 3 := hop.2.1 (by omega); obtain ⟨b0, o0, q0, d0, hp0, hat0, hre0, hg0⟩ := hsl.kidTy hkl (i := 0) (by omega) (by omega); obtain ⟨b1, o1, q1, d1, hp1, hat1, hre1, hg1⟩ := hsl.kidTy hkl (i := 1) (by omega) (by omega); obtain ⟨b2, o2, q2, d2, hp2, hat2, hre2, hg2⟩ := hsl.kidTy hkl (i := 2) (by omega) (by omega); cases hp0; cases hp1; cases hp2; refine D3 D4 rfl ?_)
 refine E8 (i := 0) (l' := [tt,ff,ff,ff,ff,ff,ff,ff]) rfl C5 (qM rfl) rfl (by kernel_rfl) rfl rfl ?_
 refine aP 1 rfl (D0 (j := 1) rfl rfl rfl (by omega)) rfl ?_
 refine aL 2 rfl (A6 rfl rfl (hat1 _) rfl) rfl ?_
 refine aP 3 rfl (qM rfl) rfl ?_
 refine aP 4 rfl (D0 (j := 2) rfl rfl rfl (by omega)) rfl ?_
 refine aL 5 rfl (A6 rfl rfl (hat2 _) rfl) rfl ?_
 refine A1 6 ?_
 refine A0J rfl rfl ((W5 ts[1] ts[2] _ _ _ (ha1 (by omega)) (ha2 (by omega)) hre1 hre2)) rfl rfl rfl (fun h231 => ?_) (fun h231 => ?_)
 refine aP 7 rfl (Y7 rfl) rfl ?_
 refine D8 (nS (cF rfl (tK (nS (tS ?_)))))
 (have hl3 : ts.length = 3 := hop.2.1 (by omega); obtain ⟨b0, o0, q0, d0, hp0, hat0, hre0, hg0⟩ := hsl.kidTy hkl (i := 0) (by omega) (by omega); obtain ⟨b1, o1, q1, d1, hp1, hat1, hre1, hg1⟩ := hsl.kidTy hkl (i := 1) (by omega) (by omega); obtain ⟨b2, o2, q2, d2, hp2, hat2, hre2, hg2⟩ := hsl.kidTy hkl (i := 2) (by omega) (by omega); cases hp0; cases hp1; cases hp2; refine D3 D4 rfl ?_)
 refine E8 (i := 0) (l' := [tt,ff,ff,ff,ff,ff,ff,ff,ff,ff,ff,ff,ff,ff]) rfl C5 (qM rfl) rfl (by kernel_rfl) rfl rfl ?_
 refine aP 1 rfl (D0 (j := 1) rfl rfl rfl (by omega)) rfl ?_
 refine aL 2 rfl (A6 rfl rfl (hat1 _) rfl) rfl ?_
 refine aP 3 rfl (qM rfl) rfl ?_
 refine aP 4 rfl (D0 (j := 2) rfl rfl rfl (by omega)) rfl ?_
 refine aL 5 rfl (A6 rfl rfl (hat2 _) rfl) rfl ?_
 refine aP 7 rfl (qM rfl) rfl ?_
 refine aP 8 rfl (D0 (j := 0) rfl rfl rfl (by omega)) rfl ?_
 refine aL 9 rfl (A6 rfl rfl (hat0 _) rfl) rfl ?_
 refine A1 6 ?_
 (refine M6 rfl rfl (B3B ts[1] ts[2] G _ _ (by assumption) (ha1 (by omega)) (ha2 (by omega)) hre1 hre2) rfl rfl rfl (fun v G1 hle1 hh => ?_); obtain ⟨mc, rfl, hmr⟩ := hh; obtain ⟨mt, hmt⟩ : ∃ mt, X2 ts[1] ts[2] = mt := ⟨_, rfl⟩; rw [hmt] at hmr; have hma : E4 mt := (hmt ▸ B3E ts[1] ts[2] (by assumption) (ha1 (by omega)) (ha2 (by omega))); obtain ⟨p1, c1, e1, rfl, _⟩ := hmr.open; have hre0q := hre0.mono hle1)
 refine A1 10 ?_
 refine I1 rfl rfl ((A1c _)) rfl rfl rfl ?_
 refine A1 11 ?_
 refine I1 rfl rfl ((W5 ts[0] (.mk 3 []) _ _ _ (ha0 (by omega)) (M8 (by decide) (by decide)) hre0q (J6 _ ⟨by omega, by omega⟩))) rfl rfl rfl ?_
 refine A1 12 ?_
 refine J7 rfl ?_
 refine aP 13 rfl (qA rfl) rfl ?_
 refine D8 (nS (tT (rB (rS ?_))))
 refine B4 (rC rfl (A2 rfl rfl)) (rT rfl) ?_
 (obtain rfl : k = 9 := (by omega); exact P8.mk (by rw [A9C (by omega), hmt]; simp_all [Z1]) hmr hma)
 refine aP 7 rfl (pNf rfl) rfl ?_
 refine O8 ?_
 refine B4 (rC rfl (A2 rfl rfl)) (rT rfl) ?_
 (obtain rfl : k = 9 := (by omega); exact P8.no (by rw [A9C (by omega)]; simp_all) (J6 _ ⟨by omega, by omega⟩) (M8 (by omega) (by omega)))
 refine sQ (qA rfl) rfl (sD (nS (cF rfl (tS (tR ?_)))))
 refine sB (qE rfl rfl) rfl rfl (fun h288 => ?_) (fun h288 => ?_)
 refine sQ (qA rfl) rfl (sD (nS (qT rfl (tS ?_))))
 (have hl2 : ts.length = 2 := hop.1 (by omega); obtain ⟨b0, o0, q0, d0, hp0, hat0, hre0, hg0⟩ := hsl.kidTy hkl (i := 0) (by omega) (by omega); obtain ⟨b1, o1, q1, d1, hp1, hat1, hre1, hg1⟩ := hsl.kidTy hkl (i := 1) (by omega) (by omega); cases hp0; cases hp1; refine D3 D4 rfl ?_)
 refine E8 (i := 0) (l' := [tt,ff,ff,ff,ff,ff,ff,ff,ff,ff,ff]) rfl C5 (qM rfl) rfl (by kernel_rfl) rfl rfl ?_
 refine aP 1 rfl (D0 (j := 0) rfl rfl rfl (by omega)) rfl ?_
 refine aL 2 rfl (A6 rfl rfl (hat0 _) rfl) rfl ?_
 refine aP 3 rfl (qM rfl) rfl ?_
 refine aP 4 rfl (D0 (j := 1) rfl rfl rfl (by omega)) rfl ?_
 refine aL 5 rfl (A6 rfl rfl (hat1 _) rfl) rfl ?_
 refine A1 6 ?_
 (refine M6 rfl rfl (A2H 5 ts[0] ts[1] G _ _ (.inr rfl) (ha0 (by omega)) (ha1 (by omega)) hre0 hre1) rfl rfl rfl (fun v G1 hle1 hh => ?_); obtain ⟨mc, rfl, hmr⟩ := hh; have hma := A11 (.inr rfl) (ha0 (by omega)) (ha1 (by omega)); obtain ⟨p1, c1, e1, rfl, _⟩ := hmr.open)
 refine aP 7 rfl (pX rfl rfl) rfl ?_
 refine aP 8 rfl (pX rfl rfl) rfl ?_
 refine A1 9 ?_
 refine J7 rfl ?_
 refine aP 10 rfl (qA rfl) rfl ?_
 refine D8 (nS (tT (rB (rS ?_))))
 refine B4 (rC rfl (A2 rfl rfl)) (rT rfl) ?_
 (obtain rfl : k = 10 := (by omega); exact P8.mk (by rw [B3C (by omega)]) hmr hma)
 refine sQ (qA rfl) rfl (sD (nS (cF rfl (tS (tR ?_)))))
 refine sB (qE rfl rfl) rfl rfl (fun h321 => ?_) (fun h321 => ?_)
 refine B7 ?_
 (have hl1 : ts.length = 1 := hop.2.2 (by omega); obtain ⟨b0, o0, q0, d0, hp0, hat0, hre0, hg0⟩ := hsl.kidTy hkl (i := 0) (by omega) (by omega); cases hp0; refine sP (D0 (j := 0) rfl rfl rfl (by omega)) rfl rfl ?_)
 refine sL (A6 rfl rfl (hat0 _) rfl) rfl rfl ?_
 focus (refine D9 rfl (A3a 5 ts[0] G _ (.inr rfl) (ha0 (by omega)) hre0) rfl rfl (fun v G1 hle1 hh => ?_); obtain ⟨ma, mca, mb, mcb, rfl, hma, hmb, hma2, hmb2, hpp⟩ := hh; obtain ⟨p1, c1, e1, rfl, _⟩ := hma.open; obtain ⟨p2, c2, e2, rfl, _⟩ := hmb.open; rcases hm : X3 5 ts[0] with _ | pr; rotate_left; obtain rfl := hpp _ hm; rotate_left; all_goals simp only [Option.isSome])
 refine H9 ?_
 refine sE (A8 rfl) rfl (fun b336 => ?_)
 refine sE (A8 rfl) rfl (fun b337 => ?_)
 refine N6 ?_
 refine B4 (rC rfl (A2 rfl rfl)) (rT rfl) ?_
 (have hk11 : k = 11 := (by omega); exact P8.no (by rw [A4V (.inl hk11) (by omega), hm]) hma hma2)
 refine H9 ?_
 refine sE (A8 rfl) rfl (fun b360 => ?_)
 refine sE (A8 rfl) rfl (fun b361 => ?_)
 refine N6 ?_
 refine B4 (rC rfl (A2 rfl rfl)) (rT rfl) ?_
 (have hk11 : k = 11 := (by omega); exact P8.yes (by rw [A4V (.inl hk11) (by omega), hm]; simp only; rw [if_neg (by omega)]) hma hma2)
 refine sQ (qA rfl) rfl (sD (nS (cF rfl (tS (tR ?_)))))
 refine sB (qE rfl rfl) rfl rfl (fun h386 => ?_) (fun h386 => ?_)
 refine B7 ?_
 (have hl1 : ts.length = 1 := hop.2.2 (by omega); obtain ⟨b0, o0, q0, d0, hp0, hat0, hre0, hg0⟩ := hsl.kidTy hkl (i := 0) (by omega) (by omega); cases hp0; refine sP (D0 (j := 0) rfl rfl rfl (by omega)) rfl rfl ?_)
 refine sL (A6 rfl rfl (hat0 _) rfl) rfl rfl ?_
 focus (refine D9 rfl (A3a 5 ts[0] G _ (.inr rfl) (ha0 (by omega)) hre0) rfl rfl (fun v G1 hle1 hh => ?_); obtain ⟨ma, mca, mb, mcb, rfl, hma, hmb, hma2, hmb2, hpp⟩ := hh; obtain ⟨p1, c1, e1, rfl, _⟩ := hma.open; obtain ⟨p2, c2, e2, rfl, _⟩ := hmb.open; rcases hm : X3 5 ts[0] with _ | pr; rotate_left; obtain rfl := hpp _ hm; rotate_left; all_goals simp only [Option.isSome])
 refine H9 ?_
 refine sE (A8 rfl) rfl (fun b401 => ?_)
 refine sE (A8 rfl) rfl (fun b402 => ?_)
 refine N6 ?_
 refine B4 (rC rfl (A2 rfl rfl)) (rT rfl) ?_
 (have hk12 : k = 12 := (by omega); exact P8.no (by rw [A4V (.inr hk12) (by omega), hm]) hmb hmb2)
 refine H9 ?_
 refine sE (A8 rfl) rfl (fun b425 => ?_)
 refine sE (A8 rfl) rfl (fun b426 => ?_)
 refine N6 ?_
 refine B4 (rC rfl (A2 rfl rfl)) (rT rfl) ?_
 (have hk12 : k = 12 := (by omega); exact P8.yes (by rw [A4V (.inr hk12) (by omega), hm]; simp only; rw [if_pos (by omega)]) hmb hmb2)
 refine sQ (qA rfl) rfl (sD (nS (cF rfl (tS (tR ?_)))))
 refine sP (A0G rfl rfl (by omega)) rfl rfl ?_
 refine sQ (qA rfl) rfl (sD (nS (qT rfl (tS ?_))))
 (have hl1 : ts.length = 1 := hop.2.2 (by omega); obtain ⟨b0, o0, q0, d0, hp0, hat0, hre0, hg0⟩ := hsl.kidTy hkl (i := 0) (by omega) (by omega); cases hp0; refine D3 D4 rfl ?_)
 refine E8 (i := 0) (l' := [tt,ff,ff,ff,ff,ff,ff,ff,ff,ff,ff]) rfl C5 (A9 rfl) rfl (by kernel_rfl) rfl rfl ?_
 refine aL 1 rfl (A2 rfl rfl) rfl ?_
 refine aP 3 rfl (qM rfl) rfl ?_
 refine aP 4 rfl (D0 (j := 0) rfl rfl rfl (by omega)) rfl ?_
 refine aL 5 rfl (A6 rfl rfl (hat0 _) rfl) rfl ?_
 refine aP 6 rfl (A9 rfl) rfl ?_
 refine aL 7 rfl (A2 rfl rfl) rfl ?_
 refine A1 2 ?_
 (refine M6 rfl rfl (R4 (.mk tk tks) G _ hty.small hrty) rfl rfl rfl (fun v G1 hle1 hh => ?_); obtain ⟨Q0, F1, rfl, hs1, hn1⟩ := hh; obtain ⟨p1, c1, rfl, _⟩ := hs1.open; have hmr := hs1.R.mono (B6.le G1 G); have hre0q := hre0.mono hle1; have hrtyq := hrty.mono hle1)
 refine A1 8 ?_
 refine I1 rfl rfl ((W5 ts[0] (.mk tk tks) _ _ _ (ha0 (by omega)) hty hre0q hrtyq)) rfl rfl rfl ?_
 refine A1 9 ?_
 refine J7 rfl ?_
 refine aP 10 rfl (qA rfl) rfl ?_
 refine D8 (nS (tT (rB (rS ?_))))
 refine B4 (rC rfl (A2 rfl rfl)) (rT rfl) ?_
 (obtain rfl : k = 13 := (by omega); exact P8.mk (by rw [B3D (by omega)]) hmr hty)
section
variable {ak bk : Int} {aks bks : List Ty}
theorem B3G (h : ak ≠ bk) : P4 (.mk ak aks) (.mk bk bks) = false := by rw [A3E, decide_eq_false h]; rfl
theorem B3H (h : aks.length ≠ bks.length) : P4 (.mk ak aks) (.mk bk bks) = false := by
 rw [A3E]
 cases hl : A0s aks bks with
 | false => simp
 | true => exact absurd ((A4z _ _).1 hl).1 h
theorem B3I {i : Nat} (hi : i < aks.length) (hi' : i < bks.length) (h : P4 aks[i] bks[i] = false) : P4 (.mk ak aks) (.mk bk bks) = false := by
 rw [A3E]
 cases hl : A0s aks bks with
 | false => simp
 | true => have := ((A4z _ _).1 hl).2 i hi hi'; rw [h] at this; cases this
theorem B3J (hk : ak = bk) (hl : aks.length = bks.length) (h : ∀ i, (h : i < aks.length) → (h' : i < bks.length) → P4 aks[i] bks[i] = true) : P4 (.mk ak aks) (.mk bk bks) = true := by
 rw [A3E, decide_eq_true hk, (A4z _ _).2 ⟨hl, h⟩]; rfl
end
theorem B3K : ∀ (a b : Ty) (G : IM) (ca cb : List Value), B3 G a ca → B3 G b cb → Fn Tryz.prog 187 [.agg ⟨ca⟩, .agg ⟨cb⟩] [] G (L6 (.bool (P4 a b)) G) := by
 refine Ty.ind fun ak aks ih b G ca cb hra hrb => ?_
 obtain ⟨bk, bks⟩ := b
 obtain ⟨pa, cca, ea, rfl, hak, hsla, hkla⟩ := hra.open
 obtain ⟨pb, ccb, eb, rfl, hbk, hslb, hklb⟩ := hrb.open
 simp only [Ty.k, Ty.ks] at hak hsla hkla hbk hslb hklb ⊢
 have hna := hsla.le
 have hnb := hslb.le
 have e1 := @B3G ak bk aks bks
 have e2 := @B3H ak bk aks bks
 have e3 := fun i => @B3I ak bk aks bks i
 have e4 := @B3J ak bk aks bks
 generalize P4 (.mk ak aks) (.mk bk bks) = R at e1 e2 e3 e4 ⊢
 refine B8 Tryz.func187 rfl Tryz.ntmps187 Tryz.results187 rfl ?_
 intro w0
 refine tS (tR ?_)
 refine sE (E7 rfl rfl) rfl (fun b3 => ?_)
 refine sE (E7 rfl rfl) rfl (fun b4 => ?_)
 refine M2 ?_
 refine sB (P5 rfl rfl) rfl rfl (fun h15 => ?_) (fun h15 => ?_)
 refine A0j ?_
 (exact ⟨rfl, by rw [e1 (by omega)], rfl⟩)
 refine B7 ?_
 refine sB (P5 rfl rfl) rfl rfl (fun h44 => ?_) (fun h44 => ?_)
 refine Q4 ?_
 (exact ⟨rfl, by rw [e2 (by omega)], rfl⟩)
 refine Q4 ?_
 refine C6 ?_
 (refine N4 (fun (i : Nat) => ⟨[(5, .int .i64 i), (2, .pointer (some ⟨b3, 0, none⟩)), (3, .pointer (some ⟨b4, 0, none⟩))], [.blk b4 [.int .i64 bk, .slice pb bks.length ccb], .blk b3 [.int .i64 ak, .slice pa aks.length cca]], G⟩) (fun i => i ≤ aks.length ∧ ∀ j, (h : j < aks.length) → (h' : j < bks.length) → j < i → P4 aks[j] bks[j] = true) (fun i => aks.length - i) 0 ?_ ?_ ?_)
 exact E0
 (exact ⟨Nat.zero_le _, fun j _ _ hj => absurd hj (Nat.not_lt_zero j)⟩)
 (rintro i ⟨hi, hall⟩)
 refine B7 ?_
 refine sB (L9 rfl rfl) rfl rfl (fun h82 => ?_) (fun h82 => ?_)
 refine sD (nS (qT rfl (tK (nS (tS ?_)))))
 refine C6 ?_
 refine tS ?_
 (obtain ⟨b, o, q0, d0, hp0, hat0, hre0, hg0⟩ := hsla.kidTy hkla (i := i) (by omega) (by omega); obtain ⟨b', o', q1, d1, hp1, hat1, hre1, hg1⟩ := hslb.kidTy hklb (i := i) (by omega) (by omega); subst hp0; subst hp1; have hih := ih aks[i] (List.getElem_mem (by omega)) bks[i] G _ _ hre0 hre1; refine D3 D4 rfl ?_)
 refine E8 (i := 0) (l' := [tt,ff,ff,ff,ff,ff,ff,ff,ff,ff,ff,ff]) rfl C5 (A9 rfl) rfl (by kernel_rfl) rfl rfl ?_
 refine aL 1 rfl (C2 rfl rfl) rfl ?_
 refine aP 2 rfl (qM rfl) rfl ?_
 refine aP 3 rfl (D0 rfl rfl rfl (by omega)) rfl ?_
 refine aL 4 rfl (A6 rfl rfl (hat0 _) rfl) rfl ?_
 refine aP 5 rfl (A9 rfl) rfl ?_
 refine aL 6 rfl (C2 rfl rfl) rfl ?_
 refine aP 7 rfl (qM rfl) rfl ?_
 refine aP 8 rfl (D0 rfl rfl rfl (by omega)) rfl ?_
 refine aL 9 rfl (A6 rfl rfl (hat1 _) rfl) rfl ?_
 refine A1 10 ?_
 refine A0J rfl rfl (hih) rfl rfl rfl (fun h103 => ?_) (fun h103 => ?_)
 refine aP 11 rfl (Y7 rfl) rfl ?_
 refine F8 ?_
 refine sP (N0 rfl rfl (by omega) (by omega)) rfl rfl ?_
 refine sQ (qA rfl) rfl (sD ?_)
 refine K5 (i + 1) ?_ ?_ ?_
 exact E0
 (exact ⟨by omega, fun j h h' hj => by by_cases hji : j = i; (subst hji; assumption); exact hall j h h' (by omega)⟩)
 omega
 refine aP 11 rfl (pNf rfl) rfl ?_
 refine M3 ?_
 (exact ⟨rfl, by rw [e3 i (by omega) (by omega) (by assumption)], rfl⟩)
 refine M3 ?_
 (exact ⟨rfl, by rw [e4 (by omega) (by omega) (fun j h h' => hall j h h' (by omega))], rfl⟩)
theorem A9D (G : IM) (cx : Cx) (p : Option Addr) (n c : Nat) (nm : ByteArray) (t : Ty) (cells : List Value) (hx : V6 G cx p n c) (hn : n ≤ 1000) (hr : B3 G t cells) :
  Fn Tryz.prog 195 [.slice p n c, .string nm, .agg ⟨cells⟩] [] G (L7 fun G' v => ∃ p' c', v = .slice p' (n + 1) c' ∧ V6 G' (cx ++ [(nm, t)]) p' (n + 1) c') := by
 obtain ⟨k, ks⟩ := t
 obtain ⟨q, d, es0, rfl, _⟩ := hr.open
 simp only [Ty.k, Ty.ks] at hr ⊢
 obtain ⟨hx1, es, h2, h3⟩ := id hx
 have hSl : Sl G p n c 3 es.flatten := h2.1
 have h1c : ∀ u ∈ es.flatten, u.oneCell' = true := by
  intro u hu
  obtain ⟨e, he, hue⟩ := List.mem_flatten.1 hu
  exact List.all_eq_true.1 (h2.one e he) u hue
 refine B8 Tryz.func195 rfl Tryz.ntmps195 Tryz.results195 rfl ?_
 intro w0
 refine tS (tR ?_)
 refine sE (E7 rfl rfl) rfl (fun b3 => ?_)
 refine sQ (qA rfl) rfl (sD (nS (tS ?_)))
 refine D3 D4 rfl ?_
 refine E8 (i := 1) (l' := [ff,tt,ff,ff,ff,ff,ff,ff,ff]) rfl C5 (qM rfl) rfl (by kernel_rfl) rfl rfl ?_
 refine aP 3 rfl (qM rfl) rfl ?_
 refine aL 4 rfl (A2 rfl rfl) rfl ?_
 refine aP 5 rfl (P6 rfl rfl) rfl ?_
 refine Y5 (j := 0) (j' := 6) (by kernel_rfl) ?_ ?_
 (refine I7 rfl (D1 rfl rfl rfl (by omega) (by unfold maxLen; omega) rfl) rfl rfl ?_; rintro _ ⟨b14, rfl⟩)
 refine Y5 (j := 2) (j' := 6) (by kernel_rfl) ?_ ?_
 (refine A20 rfl rfl rfl rfl rfl rfl (fun _ _ => by repeat (first | exact Sw.here | apply Sw.there)) hSl h1c (Nat.zero_le _) (by unfold maxLen; omega) (by omega) rfl rfl (by repeat (first | exact A5.nil | apply A5.dep (by decide +kernel) | apply A5.blk (by decide +kernel) (by repeat (first | exact Pk.here | apply Pk.there)) (by repeat first | exact mH | apply mT))) (fun p4 c4 => ?_); simp only [Nat.zero_add, List.nil_append])
 refine A1 6 ?_
 (refine I7 rfl (D1 rfl rfl rfl (by omega) (by unfold maxLen; omega) rfl) rfl rfl ?_; rintro _ ⟨b18, rfl⟩)
 refine A1 7 ?_
 (refine W2 rfl rfl rfl rfl rfl rfl (fun _ _ => by repeat (first | exact Sw.here | apply Sw.there)) (R0 (by repeat first | exact mH | apply mT)) rfl (by simp [Value.oneCell']) (by unfold maxLen; omega) (by omega) rfl rfl (by repeat (first | exact A5.nil | apply A5.dep (by decide +kernel) | apply A5.blk (by decide +kernel) (by repeat (first | exact Pk.here | apply Pk.there)) (by repeat first | exact mH | apply mT))) (fun p5 c5 => ?_))
 refine aP 8 rfl (qA rfl) rfl ?_
 refine D8 (nS ?_)
 (refine L4 (cs := es.flatten ++ [.string nm, .int .i64 k, .slice q ks.length d]) (by repeat (first | exact Pk.here | apply Pk.there)) (fun G5 hle5 hsl5 hno5 => ?_))
 refine tT (E9 (rT rfl) ?_)
 (exact ⟨rfl, _, _, rfl, V6.snoc (nm := nm) (t := .mk k ks) hx1 h2.len h2.all h2.one h3 hle5 ⟨_, _, rfl, hr.mono hle5⟩ hsl5⟩)
 (refine I7 rfl (D1 rfl rfl rfl (by omega) (by unfold maxLen; omega) rfl) rfl rfl ?_; rintro _ ⟨b28, rfl⟩)
 refine A1 2 ?_
 (refine A20 rfl rfl rfl rfl rfl rfl (fun _ _ => by repeat (first | exact Sw.here | apply Sw.there)) hSl h1c (Nat.zero_le _) (by unfold maxLen; omega) (by omega) rfl rfl (by repeat (first | exact A5.nil | apply A5.dep (by decide +kernel) | apply A5.blk (by decide +kernel) (by repeat (first | exact Pk.here | apply Pk.there)) (by repeat first | exact mH | apply mT))) (fun p4 c4 => ?_); simp only [Nat.zero_add, List.nil_append])
 refine A1 7 ?_
 (refine W2 rfl rfl rfl rfl rfl rfl (fun _ _ => by repeat (first | exact Sw.here | apply Sw.there)) (R0 (by repeat first | exact mH | apply mT)) rfl (by simp [Value.oneCell']) (by unfold maxLen; omega) (by omega) rfl rfl (by repeat (first | exact A5.nil | apply A5.dep (by decide +kernel) | apply A5.blk (by decide +kernel) (by repeat (first | exact Pk.here | apply Pk.there)) (by repeat first | exact mH | apply mT))) (fun p5 c5 => ?_))
 refine aP 8 rfl (qA rfl) rfl ?_
 refine D8 (nS ?_)
 (refine L4 (cs := es.flatten ++ [.string nm, .int .i64 k, .slice q ks.length d]) (by repeat (first | exact Pk.here | apply Pk.there)) (fun G5 hle5 hsl5 hno5 => ?_))
 refine tT (E9 (rT rfl) ?_)
 (exact ⟨rfl, _, _, rfl, V6.snoc (nm := nm) (t := .mk k ks) hx1 h2.len h2.all h2.one h3 hle5 ⟨_, _, rfl, hr.mono hle5⟩ hsl5⟩)
 (refine I7 rfl (D1 rfl rfl rfl (by omega) (by unfold maxLen; omega) rfl) rfl rfl ?_; rintro _ ⟨b40, rfl⟩)
 refine A1 0 ?_
 (refine I7 rfl (D1 rfl rfl rfl (by omega) (by unfold maxLen; omega) rfl) rfl rfl ?_; rintro _ ⟨b42, rfl⟩)
 refine A1 2 ?_
 (refine A20 rfl rfl rfl rfl rfl rfl (fun _ _ => by repeat (first | exact Sw.here | apply Sw.there)) hSl h1c (Nat.zero_le _) (by unfold maxLen; omega) (by omega) rfl rfl (by repeat (first | exact A5.nil | apply A5.dep (by decide +kernel) | apply A5.blk (by decide +kernel) (by repeat (first | exact Pk.here | apply Pk.there)) (by repeat first | exact mH | apply mT))) (fun p4 c4 => ?_); simp only [Nat.zero_add, List.nil_append])
 refine A1 7 ?_
 (refine W2 rfl rfl rfl rfl rfl rfl (fun _ _ => by repeat (first | exact Sw.here | apply Sw.there)) (R0 (by repeat first | exact mH | apply mT)) rfl (by simp [Value.oneCell']) (by unfold maxLen; omega) (by omega) rfl rfl (by repeat (first | exact A5.nil | apply A5.dep (by decide +kernel) | apply A5.blk (by decide +kernel) (by repeat (first | exact Pk.here | apply Pk.there)) (by repeat first | exact mH | apply mT))) (fun p5 c5 => ?_))
 refine aP 8 rfl (qA rfl) rfl ?_
 refine D8 (nS ?_)
 (refine L4 (cs := es.flatten ++ [.string nm, .int .i64 k, .slice q ks.length d]) (by repeat (first | exact Pk.here | apply Pk.there)) (fun G5 hle5 hsl5 hno5 => ?_))
 refine tT (E9 (rT rfl) ?_)
 (exact ⟨rfl, _, _, rfl, V6.snoc (nm := nm) (t := .mk k ks) hx1 h2.len h2.all h2.one h3 hle5 ⟨_, _, rfl, hr.mono hle5⟩ hsl5⟩)
theorem A9E {cx : Cx} : ∀ {ks : List Tm} {i : Nat} {us : List Ty} {u : Ty} (hi : i < ks.length), V7 cx (ks.take i) = some us → Q8 cx ks[i] = some u → V7 cx (ks.take (i + 1)) = some (us ++ [u])
 | [], i, us, u, hi, _, _ => by simp at hi
 | t :: ts, 0, us, u, _, h1, h2 => by
  simp only [List.take_zero, V7, Option.some.injEq] at h1
  subst h1
  simp only [List.getElem_cons_zero] at h2
  simp [V7, h2]
 | t :: ts, i + 1, us, u, hi, h1, h2 => by
  simp only [List.take_succ_cons, V7] at h1 ⊢
  split at h1
  ·cases h1
  ·rename_i a ha
   split at h1
   ·cases h1
   ·rename_i bs has
    simp only [Option.some.injEq] at h1
    subst h1
    simp only [List.getElem_cons_succ] at h2
    have := A9E (ks := ts) (i := i) (by simpa using hi) has h2
    simp only [this, List.cons_append]
theorem A9F {cx : Cx} : ∀ {ks : List Tm} {i : Nat} (hi : i < ks.length), Q8 cx ks[i] = none → V7 cx ks = none
 | [], i, hi, _ => by simp at hi
 | t :: ts, 0, _, h => by simp only [List.getElem_cons_zero] at h; rw [V7, h]
 | t :: ts, i + 1, hi, h => by
  simp only [List.getElem_cons_succ] at h
  have := A9F (ks := ts) (i := i) (by simpa using hi) h
  rw [V7, this]
  cases Q8 cx t <;> rfl
section
variable {cx : Cx} {k : Int} {nm : ByteArray} {num : Int} {ty fr : Ty} {lb : Int} {ks : List Tm}
theorem B3L (hk : k = 1) (h0 : ks = []) : Q8 cx (.mk k nm num ty fr lb ks) = A1H cx nm := by
 subst hk h0
 rw [Q8, V7]
 simp only [X6, mW1]
 cases A1H cx nm with
 | none => rfl
 | some t => simp
theorem B3M (hk : k = 2) (h0 : ks = []) : Q8 cx (.mk k nm num ty fr lb ks) = some T2 := by subst hk h0; rfl
theorem B3N (hk : k = 3 ∨ k = 4) (h0 : ks = []) : Q8 cx (.mk k nm num ty fr lb ks) = some Z1 := by subst h0; rcases hk with rfl | rfl <;> rfl
theorem B3O {b : Tm} (hk : k = 5) (h : Q8 (cx ++ [(nm, ty)]) b = none) : Q8 cx (.mk k nm num ty fr lb [b]) = none := by
 subst hk; rw [Q8, U4, if_pos rfl, V7, h]
theorem B3P {b : Tm} {t : Ty} (hk : k = 5) (h : Q8 (cx ++ [(nm, ty)]) b = some t) : Q8 cx (.mk k nm num ty fr lb [b]) = if H3 (.mk 4 [ty, t]) = true then some (.mk 4 [ty, t]) else none := by
 subst hk
 rw [Q8, U4, if_pos rfl, V7, h]
 simp only [V7, X6, mW5, List.getD_cons_zero]
 cases H3 (.mk 4 [ty, t]) <;> simp
theorem B3Q (hk : k ≠ 5) (h : V7 cx ks = none) : Q8 cx (.mk k nm num ty fr lb ks) = none := by rw [Q8, U4, if_neg hk, h]
theorem B3R {ts : List Ty} (hk : k ≠ 5) (h : V7 cx ks = some ts) : Q8 cx (.mk k nm num ty fr lb ks) = X6 cx k nm ty ts := by rw [Q8, U4, if_neg hk, h]
end
theorem A9G : ∀ (e : Tm) (d : Int) (cx : Cx) (G : IM) (p : Option Addr) (n c : Nat) (cells : List Value), L8 12 14 e d = true → (n : Int) ≤ d → cxV cx → V6 G cx p n c → B5 G e cells →
  Fn Tryz.prog 198 [.slice p n c, .agg ⟨cells⟩] [] G (P8 (Q8 cx e) G) := by
 refine Tm.ind fun k nm num ty fr lb ks ih d cx G p n c cells hv hnd hcv hx hr => ?_
 have hr0 := hr
 have hone := hr.one
 obtain ⟨hv1, hv2, hv3, hv4⟩ := Z4 hv
 have hvk := (A0m 12 14 ks _).1 hv4
 have har := (U8.1 hv3).1
 have hop := A13 har
 obtain ⟨hta, hts⟩ := A3K hv3
 have hkr : 1 ≤ k ∧ k ≤ 14 := A6l (by rw [har]; omega)
 have hcv5 : k = 5 → cxV (cx ++ [(nm, ty)]) := fun hk => by have := A4N (k := k) (nm := nm) (ty := ty) hcv fun hk => (U8.1 hv3).2.2.2.2.2.1 (.inl hk); rwa [U4, if_pos hk] at this
 have h0 : k ≤ 4 → ks = [] := fun h => List.length_eq_zero_iff.1 (by
  have hk : k = 1 ∨ k = 2 ∨ k = 3 ∨ k = 4 := by omega
  rcases hk with rfl | rfl | rfl | rfl
  ·have : H6 1 = 0 := rfl; omega
  ·have : H6 2 = 0 := rfl; omega
  ·have : H6 3 = 0 := rfl; omega
  ·have : H6 4 = 0 := rfl; omega)
 have f1 := fun hk => @B3L cx k nm num ty fr lb ks hk (h0 (by omega))
 have f2 := fun hk => @B3M cx k nm num ty fr lb ks hk (h0 (by omega))
 have f3 := fun hk => @B3N cx k nm num ty fr lb ks hk (h0 (by omega))
 have f4 : ∀ (hk : k = 5) (hl : 0 < ks.length), Q8 (cx ++ [(nm, ty)]) ks[0] = none → Q8 cx (.mk k nm num ty fr lb ks) = none := fun hk hl h => by
  obtain ⟨b, rfl⟩ := ks1 (hop.2.2 (.inl hk)); exact B3O hk h
 have f5 : ∀ (t : Ty) (hk : k = 5) (hl : 0 < ks.length), Q8 (cx ++ [(nm, ty)]) ks[0] = some t → Q8 cx (.mk k nm num ty fr lb ks) = if H3 (.mk 4 [ty, t]) = true then some (.mk 4 [ty, t]) else none := fun t hk hl h => by
  obtain ⟨b, rfl⟩ := ks1 (hop.2.2 (.inl hk)); exact B3P hk h
 have f6 := @B3Q cx k nm num ty fr lb ks
 have f7 := fun ts => @B3R cx k nm num ty fr lb ks ts
 generalize Q8 cx (.mk k nm num ty fr lb ks) = R at f1 f2 f3 f4 f5 f6 f7 ⊢
 obtain ⟨tk, tks⟩ := ty
 obtain ⟨fk, fks⟩ := fr
 obtain ⟨pt, ct, pf, cf, q, cq, es, rfl, hk, hnum, hlb, hty, hfr, hsl, hkl⟩ := hr.open9
 have hlen : ks.length ≤ 3 := by have := A2y k; omega
 refine B8 Tryz.func198 rfl Tryz.ntmps198 Tryz.results198 rfl ?_
 intro w0
 refine tS (tR ?_)
 refine sE (E7 rfl rfl) rfl (fun b3 => ?_)
 refine sE (A8 rfl) rfl (fun b4 => ?_)
 refine M2 ?_
 refine C6 (tS (tR (sB (qE rfl rfl) rfl rfl (fun h18 => ?_) (fun h18 => ?_))))
 refine C7 ?_
 (refine D9 rfl (B3z G cx hcv p n c nm hx) rfl rfl (fun v G1 hle1 hh => ?_); obtain ⟨mt, mc, rfl, hmr, hma, hmu⟩ := hh; obtain ⟨p1, c1, e1, rfl, _⟩ := hmr.open)
 refine C7 ?_
 refine B4 (rC rfl (A2 rfl rfl)) (rT rfl) ?_
 (rw [f1 (by omega)]; exact ⟨rfl, _, _, rfl, hmr, hma, hmu⟩)
 refine sQ (qA rfl) rfl (sD (nS (cF rfl (tS (tR ?_)))))
 refine sB (qE rfl rfl) rfl rfl (fun h46 => ?_) (fun h46 => ?_)
 refine sQ (qA rfl) rfl (sD (nS (qT rfl (tS (tR ?_)))))
 refine H7 rfl ((U6 _)) rfl rfl ?_
 refine H2 ?_
 refine sQ (qA rfl) rfl (sD (nS (tT (rB (rS ?_)))))
 refine B4 (rC rfl (A2 rfl rfl)) (rT rfl) ?_
 (rw [f2 (by omega)]; exact P8.yes rfl (A3N _) (M8 (by omega) (by omega)))
 refine sQ (qA rfl) rfl (sD (nS (cF rfl (tS (tS (tR ?_))))))
 refine sB (qE rfl rfl) rfl rfl (fun h70 => ?_) (fun h70 => ?_)
 refine C7 ?_
 refine H7 rfl ((A1c _)) rfl rfl ?_
 refine H2 ?_
 refine sQ (qA rfl) rfl (sD (nS (tT (rB (rS ?_)))))
 refine B4 (rC rfl (A2 rfl rfl)) (rT rfl) ?_
 (rw [f3 (by omega)]; exact P8.yes rfl (A6e _) (M8 (by omega) (by omega)))
 refine sQ (qA rfl) rfl (sD (nS (cF rfl (tR ?_))))
 refine sB (qE rfl rfl) rfl rfl (fun h95 => ?_) (fun h95 => ?_)
 refine sQ (qA rfl) rfl (sD (nS (qT rfl (tS (tR ?_)))))
 refine H7 rfl ((A1c _)) rfl rfl ?_
 refine H2 ?_
 refine sQ (qA rfl) rfl (sD (nS (tT (rB (rS ?_)))))
 refine B4 (rC rfl (A2 rfl rfl)) (rT rfl) ?_
 (rw [f3 (by omega)]; exact P8.yes rfl (A6e _) (M8 (by omega) (by omega)))
 refine sQ (qA rfl) rfl (sD (nS (cF rfl (tS (tR ?_)))))
 refine sB (qE rfl rfl) rfl rfl (fun h118 => ?_) (fun h118 => ?_)
 refine sQ (qA rfl) rfl (sD (nS (qT rfl (tS ?_))))
 (have hl1 : ks.length = 1 := hop.2.2 (by omega); obtain ⟨b, o, e, rfl, hl, hat, hre, hgb⟩ := hsl.kidTm hkl (i := 0) (by omega) (by omega); have hMore := A9D G cx p n c nm (.mk tk tks) _ hx (by omega) hty; refine D3 D4 rfl ?_)
 refine E8 (i := 0) (l' := [tt,ff,ff,ff,ff,ff,ff,ff,ff,ff,ff,ff,ff,ff,ff,ff,ff]) rfl C5 (qM rfl) rfl (by kernel_rfl) rfl rfl ?_
 refine aP 1 rfl (A9 rfl) rfl ?_
 refine aL 2 rfl (C2 rfl rfl) rfl ?_
 refine aP 3 rfl (A9 rfl) rfl ?_
 refine aL 4 rfl (A2 rfl rfl) rfl ?_
 refine aP 6 rfl (A9 rfl) rfl ?_
 refine aL 7 rfl (C2 rfl rfl) rfl ?_
 refine aP 8 rfl (D0 (j := 0) rfl rfl rfl (by omega)) rfl ?_
 refine aL 9 rfl (A6 rfl rfl (hat _) hl) rfl ?_
 refine Y5 (j := 5) (j' := 14) (by kernel_rfl) ?_ ?_
 (refine M6 rfl rfl hMore rfl rfl rfl (fun v G1 hle1 hh => ?_); obtain ⟨pm, cm, rfl, hxm⟩ := hh; have hreM := hre.mono hle1; have hLam := ih ks[0] (List.getElem_mem (by omega)) (d + 1) _ G1 pm (n + 1) cm _ (hvk 0 (by omega)) (by omega) (hcv5 (by omega)) hxm hreM; have htyM := hty.mono hle1)
 refine Y5 (j := 10) (j' := 14) (by kernel_rfl) ?_ ?_
 focus (refine M6 rfl rfl hLam rfl rfl rfl (fun v G2 hle2 hh => ?_); obtain ⟨mt, mc, rfl, hmr, hma, hmu⟩ := hh; obtain ⟨p1, c1, e1, rfl, _⟩ := hmr.open; have htyN := htyM.mono hle2; rcases hE : Q8 (cx ++ [(nm, Ty.mk tk tks)]) ks[0] with _ | mt2; rotate_left; obtain rfl := hmu _ hE; rotate_left; all_goals simp only [Option.isSome])
 refine aP 11 rfl (qM rfl) rfl ?_
 refine aP 12 rfl (pX rfl rfl) rfl ?_
 refine aP 13 rfl (pX rfl rfl) rfl ?_
 refine A1 14 ?_
 (refine I7 rfl (A8 rfl) rfl rfl ?_; rintro _ ⟨b142, rfl⟩)
 refine A1 15 ?_
 refine J7 rfl ?_
 refine aP 16 rfl (qA rfl) rfl ?_
 refine Y8 ?_
 refine B4 (rC rfl (A2 rfl rfl)) (rT rfl) ?_
 (rw [f4 (by omega) (by omega) (by first | exact hE | assumption)]; exact P8.no rfl (J6 _ ⟨by omega, by omega⟩) (M8 (by omega) (by omega)))
 refine aP 11 rfl (qM rfl) rfl ?_
 refine aP 12 rfl (pX rfl rfl) rfl ?_
 refine aP 13 rfl (pX rfl rfl) rfl ?_
 refine A1 14 ?_
 (refine I7 rfl (A8 rfl) rfl rfl ?_; rintro _ ⟨b173, rfl⟩)
 refine A1 15 ?_
 refine J7 rfl ?_
 refine aP 16 rfl (qA rfl) rfl ?_
 refine T5 ?_
 (refine D9 rfl (A2H 4 (.mk tk tks) _ _ _ _ (.inl rfl) hta hma htyN hmr) rfl rfl (fun v G3 hle3 hh => ?_); obtain ⟨mc2, rfl, hmr2⟩ := hh; obtain ⟨p2, c2, e2, rfl, _⟩ := hmr2.open)
 refine C7 ?_
 refine B4 (rC rfl (A2 rfl rfl)) (rT rfl) ?_
 (rw [f5 _ (by omega) (by omega) (by first | exact hE | assumption)]; exact P8.mk rfl hmr2 (A11 (.inl rfl) hta hma))
 (refine I7 rfl (A8 rfl) rfl rfl ?_; rintro _ ⟨b206, rfl⟩)
 refine A1 10 ?_
 focus (refine M6 rfl rfl hLam rfl rfl rfl (fun v G2 hle2 hh => ?_); obtain ⟨mt, mc, rfl, hmr, hma, hmu⟩ := hh; obtain ⟨p1, c1, e1, rfl, _⟩ := hmr.open; have htyN := htyM.mono hle2; rcases hE : Q8 (cx ++ [(nm, Ty.mk tk tks)]) ks[0] with _ | mt2; rotate_left; obtain rfl := hmu _ hE; rotate_left; all_goals simp only [Option.isSome])
 refine aP 11 rfl (qM rfl) rfl ?_
 refine aP 12 rfl (pX rfl rfl) rfl ?_
 refine aP 13 rfl (pX rfl rfl) rfl ?_
 refine A1 15 ?_
 refine J7 rfl ?_
 refine aP 16 rfl (qA rfl) rfl ?_
 refine Y8 ?_
 refine B4 (rC rfl (A2 rfl rfl)) (rT rfl) ?_
 (rw [f4 (by omega) (by omega) (by first | exact hE | assumption)]; exact P8.no rfl (J6 _ ⟨by omega, by omega⟩) (M8 (by omega) (by omega)))
 refine aP 11 rfl (qM rfl) rfl ?_
 refine aP 12 rfl (pX rfl rfl) rfl ?_
 refine aP 13 rfl (pX rfl rfl) rfl ?_
 refine A1 15 ?_
 refine J7 rfl ?_
 refine aP 16 rfl (qA rfl) rfl ?_
 refine T5 ?_
 (refine D9 rfl (A2H 4 (.mk tk tks) _ _ _ _ (.inl rfl) hta hma htyN hmr) rfl rfl (fun v G3 hle3 hh => ?_); obtain ⟨mc2, rfl, hmr2⟩ := hh; obtain ⟨p2, c2, e2, rfl, _⟩ := hmr2.open)
 refine C7 ?_
 refine B4 (rC rfl (A2 rfl rfl)) (rT rfl) ?_
 (rw [f5 _ (by omega) (by omega) (by first | exact hE | assumption)]; exact P8.mk rfl hmr2 (A11 (.inl rfl) hta hma))
 (refine I7 rfl (A8 rfl) rfl rfl ?_; rintro _ ⟨b273, rfl⟩)
 refine A1 5 ?_
 (refine M6 rfl rfl hMore rfl rfl rfl (fun v G1 hle1 hh => ?_); obtain ⟨pm, cm, rfl, hxm⟩ := hh; have hreM := hre.mono hle1; have hLam := ih ks[0] (List.getElem_mem (by omega)) (d + 1) _ G1 pm (n + 1) cm _ (hvk 0 (by omega)) (by omega) (hcv5 (by omega)) hxm hreM; have htyM := hty.mono hle1)
 refine A1 10 ?_
 focus (refine M6 rfl rfl hLam rfl rfl rfl (fun v G2 hle2 hh => ?_); obtain ⟨mt, mc, rfl, hmr, hma, hmu⟩ := hh; obtain ⟨p1, c1, e1, rfl, _⟩ := hmr.open; have htyN := htyM.mono hle2; rcases hE : Q8 (cx ++ [(nm, Ty.mk tk tks)]) ks[0] with _ | mt2; rotate_left; obtain rfl := hmu _ hE; rotate_left; all_goals simp only [Option.isSome])
 refine aP 11 rfl (qM rfl) rfl ?_
 refine aP 12 rfl (pX rfl rfl) rfl ?_
 refine aP 13 rfl (pX rfl rfl) rfl ?_
 refine A1 15 ?_
 refine J7 rfl ?_
 refine aP 16 rfl (qA rfl) rfl ?_
 refine Y8 ?_
 refine B4 (rC rfl (A2 rfl rfl)) (rT rfl) ?_
 (rw [f4 (by omega) (by omega) (by first | exact hE | assumption)]; exact P8.no rfl (J6 _ ⟨by omega, by omega⟩) (M8 (by omega) (by omega)))
 refine aP 11 rfl (qM rfl) rfl ?_
 refine aP 12 rfl (pX rfl rfl) rfl ?_
 refine aP 13 rfl (pX rfl rfl) rfl ?_
 refine A1 15 ?_
 refine J7 rfl ?_
 refine aP 16 rfl (qA rfl) rfl ?_
 refine T5 ?_
 (refine D9 rfl (A2H 4 (.mk tk tks) _ _ _ _ (.inl rfl) hta hma htyN hmr) rfl rfl (fun v G3 hle3 hh => ?_); obtain ⟨mc2, rfl, hmr2⟩ := hh; obtain ⟨p2, c2, e2, rfl, _⟩ := hmr2.open)
 refine C7 ?_
 refine B4 (rC rfl (A2 rfl rfl)) (rT rfl) ?_
 (rw [f5 _ (by omega) (by omega) (by first | exact hE | assumption)]; exact P8.mk rfl hmr2 (A11 (.inl rfl) hta hma))
 refine C7 ?_
 (refine D7 (D1 rfl rfl rfl (by omega) (by unfold maxLen; omega) rfl) rfl ?_; rintro _ ⟨b351, rfl⟩)
 refine C7 ?_
 refine C6 ?_
 (refine N4 (fun (x : Nat × Option Addr × Nat × List Ty × List (List Value) × IM) => ⟨[(9, .int .i64 x.1), (8, .slice x.2.1 x.1 x.2.2.1), (3, .pointer (some ⟨b3, 0, none⟩)), (4, .pointer (some ⟨b4, 0, none⟩)), (0, .slice p n c)], [.slc x.2.1 x.2.2.1 25 2 x.1 x.2.2.2.2.1.flatten, .blk b4 [.int .i64 0, .slice none 0 0], .blk b3 [.int .i64 k, .string nm, .int .i64 num, .int .i64 tk, .slice pt tks.length ct, .int .i64 fk, .slice pf fks.length cf, .int .i64 lb, .slice q ks.length cq]], x.2.2.2.2.2⟩) (fun x => x.1 ≤ ks.length ∧ B2 G x.2.2.2.2.2 ∧ x.2.2.2.1.length = x.1 ∧ E1 x.2.2.2.2.2 x.2.2.2.1 x.2.2.2.2.1 ∧ (∀ u ∈ x.2.2.2.1, E4 u) ∧ V7 cx (ks.take x.1) = some x.2.2.2.1) (fun x => ks.length - x.1) (0, some ⟨b351, 0, none⟩, 0, [], [], G) ?_ ?_ ?_)
 (simp only [J9]; exact E0)
 (exact ⟨by simp, B2.refl _, rfl, by simp [E1], by simp, by simp [V7]⟩)
 (rintro ⟨i, pn, cn, us, es', Gi⟩ ⟨hi, hle, hlu, hst, hau, hsu⟩; simp only [] at hi hle hlu hst hau hsu ⊢; replace hsl := hsl.mono hle; replace hkl := hkl.mono hle; replace hx := hx.mono hle; replace hr0 := hr0.mono hle)
 refine B7 ?_
 refine sB (L9 rfl rfl) rfl rfl (fun h373 => ?_) (fun h373 => ?_)
 refine sD (nS (qT rfl (tK (nS (tS ?_)))))
 refine C6 ?_
 refine K4 ?_
 (obtain ⟨b, o, e, rfl, hl, hat, hre, hgb⟩ := hsl.kidTm hkl (i := i) (by omega) (by omega); refine sP (D0 rfl rfl rfl (by omega)) rfl rfl ?_)
 refine sL (A6 rfl rfl (hat _) hl) rfl rfl ?_
 focus (refine D9 rfl (ih ks[i] (List.getElem_mem (by omega)) (d + 1) cx Gi p n c _ (hvk i (by omega)) (by omega) hcv hx hre) rfl rfl (fun v G2 hle2 hh => ?_); obtain ⟨u, uc, rfl, hru, hua, huu⟩ := hh; obtain ⟨p3, c3, e3, rfl, _⟩ := hru.open; rcases hE : Q8 cx ks[i] with _ | u2; rotate_left; obtain rfl := huu _ hE; rotate_left; all_goals simp only [Option.isSome])
 refine H0 ?_
 refine sE (A8 rfl) rfl (fun b393 => ?_)
 refine A1S ?_
 refine B4 (rC rfl (A2 rfl rfl)) (rT rfl) ?_
 (rw [f6 (by omega) (A9F (by omega) hE)]; exact P8.no rfl (J6 _ ⟨by omega, by omega⟩) (M8 (by omega) (by omega)))
 refine H0 ?_
 refine sE (A8 rfl) rfl (fun b425 => ?_)
 refine T5 ?_
 (refine D7 (D1 rfl rfl rfl (by omega) (by unfold maxLen; omega) rfl) rfl ?_; rintro _ ⟨b443, rfl⟩)
 refine A1T rfl rfl rfl rfl rfl (fun _ _ => by repeat (first | exact Sw.here | apply Sw.there)) (R0 (by repeat first | exact mH | apply mT)) rfl (by simp [Value.oneCell']) (by unfold maxLen; omega) (by omega) rfl (fun pn' cn' => ?_)
 refine K4 ?_
 refine sP (N0 rfl rfl (by omega) (by omega)) rfl rfl ?_
 refine sQ (qA rfl) rfl (sD ?_)
 refine K5 (i + 1, pn', cn', us ++ [u2], es' ++ [[.int .i64 u2.k, .slice p3 u2.ks.length c3]], G2) ?_ ?_ ?_
 (simp only [J9]; exact E0)
 (dsimp only; exact ⟨by omega, hle.trans hle2, by simp [hlu], E1.snoc (hst.mono hle2) hru, A12 hau hua, A9E (by omega) hsu hE⟩)
 (show ks.length - (i + 1) < ks.length - i; omega)
 refine Q4 ?_
 (obtain rfl : i = ks.length := (by omega); rw [List.take_length] at hsu; refine P2 (cs := es'.flatten) (by repeat (first | exact Pk.here | apply Pk.there)) (fun G3 hle3 hsl3 hno3 => ?_); have hst3 := hst.mono hle3; have hRes := B3F cx k nm num (.mk tk tks) (.mk fk fks) lb ks us G3 _ pn cn es' (by rw [hlu]; exact har) (by omega) hta (hr0.mono hle3) (by rw [hlu]; exact D5.of hsl3 (by rw [hst3.len, hlu]) hst3.all (fun e he => (hst3.each e he).2)) hst3 hau; rw [hlu] at hRes; refine D9 rfl hRes rfl rfl (fun v G4 hle4 hh => ?_); obtain ⟨mt, mc, rfl, hmr, hma, hmu⟩ := hh; obtain ⟨p1, c1, e1, rfl, _⟩ := hmr.open)
 refine B7 ?_
 refine B4 (rC rfl (A2 rfl rfl)) (rT rfl) ?_
 (rw [f7 us (by omega) hsu]; exact ⟨rfl, _, _, rfl, hmr, hma, hmu⟩)
end Gw
end Go.Proofs.YtgodjiieijekiaaGreatDoor
