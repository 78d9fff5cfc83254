/-
  Drawn terms that often have a type.
-/
import Derived.Test.YtipblncpnffmbaaGreatDoorKa5
import Derived.Test.YtipblncpnffmbaaGreatDoorKa4
import Derived.Test.YtipblncpnffmbaaGreatDoorKa3
import Derived.Test.YtipblncpnffmbaaGreatDoorKa2
import Derived.Test.YtipblncpnffmbaaGreatDoorKa1
set_option linter.unusedVariables false
set_option linter.unusedSimpArgs false
set_option maxHeartbeats 0
set_option maxRecDepth 100000
set_option synthInstance.maxSize 4000
set_option synthInstance.maxHeartbeats 0
namespace Go.Proofs.YtipblncpnffmbaaGreatDoor
open Go Go.RowKit
namespace Gw
structure A3w {ι : Type} (S : ι → Sy) (φ : ι → Prop) (K : Po) (e : Exit) (σ : Sy) : Prop where
 run : match e with
  | .normal => ∃ i, φ i ∧ Sub σ (S i)
  | e => K e σ
section cut
variable {P : Program} {Γ : K1} {K : Po} {σ : Sy} {ι : Type}
theorem A9j {c y : Code} (S : ι → Sy) (φ : ι → Prop) (h : J1 P Γ c (A3w S φ K) σ) (k : ∀ i, φ i → J1 P Γ y K (S i)) : J1 P Γ c (A0N P Γ y K) σ := by
 refine A4A h ?_
 rintro e σ ⟨hk⟩
 cases e with
 | normal => obtain ⟨i, hi, hs⟩ := hk; exact ⟨A6e hs (k i hi)⟩
 | _ => exact ⟨hk⟩
theorem A3x {S : ι → Sy} {φ : ι → Prop} {σ : Sy} (i : ι) (hs : Sub σ (S i)) (h : φ i) : A3w S φ K .normal σ := ⟨⟨i, h, hs⟩⟩
theorem A0L {S : ι → Sy} {φ : ι → Prop} {σ : Sy} (h : K .ret σ) : A3w S φ K .ret σ := ⟨h⟩
theorem B4m {S : ι → Sy} {φ : ι → Prop} (h : Y1 K) : Y1 (A3w S φ K) := fun c σ hk => h c σ hk.run
instance npC6 {S : ι → Sy} {φ : ι → Prop} [h : NpC K] : NpC (A3w S φ K) := ⟨B4m h.h⟩
end cut
theorem A1O (G : IM) (nm : ByteArray) (num : Int) {k : Int} (hk : D9 k) (hn : D9 num) : A9 G (.mk k nm num A7 A7 0 []) [.int .i64 k, .string nm, .int .i64 num, .int .i64 0, .slice none 0 0, .int .i64 0, .slice none 0 0, .int .i64 0, .slice none 0 0] := B1G hk hn
theorem B3.kidsM {G : IM} {k : Int} {ks : List Ty} {q : Option Addr} {c : Nat} (h : B3 G (.mk k ks) [.int .i64 k, .slice q ks.length c]) : ∃ es, B9 G q ks.length c 2 es ∧ B0 G ks es := by
 obtain ⟨q', c', es, he, _, h1, h2⟩ := h.open
 cases he
 exact ⟨es, h1, h2⟩
theorem B4n (br : Nat) (pb : Option Addr) (nb cb : Nat) (bs : List UInt8) (hnb : nb ≤ 2000) : ∀ n, A9h br pb nb cb bs n := by
 refine fun n => Nat.strongRecOn n fun n ih depth t p G pc nc cc cells hfu hd0 hd1 hnc hx hrt hb hp => ?_
 have hge := A1h n
 have har := hfu.1.ar
 have hszt := A3Y hfu.1
 have hnn := A2Z t
 have hncl := hx.le
 obtain ⟨k, ks⟩ := t
 obtain ⟨q, c, es, rfl, hk, _, _⟩ := hrt.open
 simp only [Ty.k, Ty.ks] at hk hrt ⊢
 have hsz30 : H4 (.mk k ks) ≤ 30 := hszt
 have hops : k = 4 ∨ k = 5 → ks.length = 2 := by have h2 := har; rw [D8] at h2; exact h2.1
 refine B7 Tryz.func54 rfl Tryz.ntmps54 Tryz.results54 rfl ?_
 intro w0
 refine tS (tR ?_)
 refine sE (C2 rfl rfl) rfl (fun b3 => ?_)
 refine sE (A6 rfl) rfl (fun b4 => ?_)
 refine D0 ?_
 refine sP (O4 rfl rfl (by omega) (by omega)) rfl rfl ?_
 refine sQ (qA rfl) rfl (sD (nS ?_))
 refine B6 ?_
 (refine J3 (fun (x : Nat × Nat × IM) => ⟨(9, .int .i64 ((x.1 : Int) - 1)) :: [(0, .pointer (some ⟨br, 0, none⟩)), (1, .slice pc nc cc), (3, .int .i64 depth), (6, .pointer (some ⟨b3, 0, none⟩)), (8, .pointer (some ⟨b4, 0, none⟩))], [rd br pb nb cb x.2.1, .blk b4 [.int .i64 0, .string ⟨⟨[]⟩⟩, .int .i64 0, .int .i64 0, .slice none 0 0, .int .i64 0, .slice none 0 0, .int .i64 0, .slice none 0 0], .blk b3 [.int .i64 k, .slice q ks.length c]], x.2.2⟩) (fun x => x.1 ≤ nc ∧ B1 G x.2.2 ∧ p ≤ x.2.1 ∧ x.2.1 + x.1 ≤ p + nc) (fun x => x.1) (nc, p, G) ?_ ?_ ?_)
 (simp only [E2]; exact C5)
 (exact ⟨Nat.le_refl _, B1.refl _, Nat.le_refl _, Nat.le_refl _⟩)
 (rintro ⟨(i : Nat), (p1 : Nat), G1⟩ ⟨hi, hleL, hpL, hpL2⟩; simp only [] at hi hleL hpL hpL2 ⊢; replace hx := hx.mono hleL; replace hb := hb.mono hleL; replace hrt := hrt.mono hleL;)
 refine tS (tS (tR (sQ (qM rfl) rfl ?_)))
 refine sB (A0Q rfl rfl) rfl rfl (fun h25 => ?_) (fun h25 => ?_)
 refine sD (nS (qT rfl (tK (nS (tS ?_)))))
 (show J1 _ _ (.block 1 ..) _ _; obtain ⟨j, rfl⟩ : ∃ j, i = j + 1 := ⟨i - 1, by omega⟩; rw [show ((j + 1 : Nat) : Int) - 1 = (j : Int) from by omega]; obtain ⟨b, o, nm1, t1, qq1, dd1, rfl, hat, hr1, ha1, hs1, hgb, hns1⟩ := hx.get (i := j) (by omega); refine B6 ?_)
 refine R2 ?_
 refine sP (B4 (j := j) rfl rfl rfl (by omega)) rfl rfl ?_
 refine sQ (qF rfl) rfl ?_
 refine sL (A0w rfl rfl ((hat _).sub (j := 0) rfl)) rfl rfl ?_
 (refine F4 rfl (B1M _ _ nc cc nm1 hx) rfl rfl (fun v G2 hle2 hh => ?_); obtain ⟨ts, tcs, xs, rfl, hrs, has, hss⟩ := hh; obtain ⟨ps, cs, ess, rfl, _⟩ := hrs.open; obtain ⟨b, o, nm1, t1, qq1, dd1, hpp, hat, hr1, ha1, hs1, hgb, hns1⟩ := (hx.mono hle2).get (i := j) (by omega); cases hpp; replace hx := hx.mono hle2; replace hb := hb.mono hle2; replace hrt := hrt.mono hle2;)
 refine J0 ?_
 refine sE (A6 rfl) rfl (fun b45 => ?_)
 refine D0 ?_
 (have hinloop := hrs; refine L3 rfl (A0C _ br pb nb cb (p1) bs 3 hb hnb (by omega)) (Pk.perm (by repeat (first | exact Pk.here | apply Pk.there))) rfl rfl (fun v Gp outs hle53 hh => ?_); obtain ⟨rfl, rfl, j53, rfl, hj53, hk53⟩ := hh; have hinl := hj53)
 replace hrs := hrs.mono hle53
 replace hr1 := hr1.mono hle53
 replace hb := hb.mono hle53
 replace hrt := hrt.mono hle53
 replace hinloop := hinloop.mono hle53
 refine sB (qE rfl rfl) rfl rfl (fun h54 => ?_) (fun h54 => ?_)
 refine sQ (qM rfl) rfl (sL (A2 rfl rfl) rfl rfl ?_)
 refine H3 rfl ((A1C ts _ _ hrs)) rfl rfl (fun h57 => ?_) (fun h57 => ?_)
 refine J5 ?_
 refine H3 rfl ((A1r ts (.mk k ks) _ _ _ has har hrs hrt)) rfl rfl (fun h62 => ?_) (fun h62 => ?_)
 refine D7 ?_
 refine sP (B4 (j := j) rfl rfl rfl (by omega)) rfl rfl ?_
 refine sQ (qF rfl) rfl ?_
 refine sL (A0w rfl rfl ((hat _).sub (j := 0) rfl)) rfl rfl ?_
 refine L6 ?_
 refine H0 (outs := [rd br pb nb cb (p1 + 1)]) (rC rfl (A2 rfl rfl)) (by repeat (first | exact A0.nil | refine A0.cons Pk.here ?_ | refine A0.cons (Pk.there Pk.here) ?_ | refine A0.cons (Pk.there (Pk.there Pk.here)) ?_ | apply A0.drop)) ?_
 (exact ⟨(p1 + 1), by omega, by omega, rfl, _, _, rfl, A1O _ _ _ ⟨by omega, by omega⟩ (by first | exact ⟨by omega, by omega⟩ | exact hkn), by first | exact N6 (by first | assumption | decide) | exact A0o (by decide) (by assumption) (by assumption) (by assumption) | exact R8 (by decide) (by assumption) (by assumption) | exact J9 (by decide) O9 (by assumption) | exact J9 (by decide) har.small (by assumption) | exact J9 (by decide) O9 (R8 (by decide) (by assumption) (N6 (by decide))) | exact J9 (by decide) A0p (N6 (by decide)) | assumption, by simp only [E0, H1]; omega⟩)
 refine D2 ?_
 refine sP (O4 rfl rfl (by omega) (by omega)) rfl rfl ?_
 refine sQ (qA rfl) rfl (sD ?_)
 (have hinloop := hrs; refine I9 (j, p1 + 1, Gp) ?_ ?_ ?_)
 (simp only [E2]; exact C5)
 (dsimp only; exact ⟨by omega, hleL.trans hle2, by omega, by omega⟩)
 (show _ < _ + 1; omega)
 refine M1 ?_
 refine sP (O4 rfl rfl (by omega) (by omega)) rfl rfl ?_
 refine sQ (qA rfl) rfl (sD ?_)
 (have hinloop := hrs; refine I9 (j, p1 + 1, Gp) ?_ ?_ ?_)
 (simp only [E2]; exact C5)
 (dsimp only; exact ⟨by omega, hleL.trans hle2, by omega, by omega⟩)
 (show _ < _ + 1; omega)
 refine T2 ?_
 refine sP (O4 rfl rfl (by omega) (by omega)) rfl rfl ?_
 refine sQ (qA rfl) rfl (sD ?_)
 (have hinloop := hrs; refine I9 (j, p1 + 1, Gp) ?_ ?_ ?_)
 (simp only [E2]; exact C5)
 (dsimp only; exact ⟨by omega, hleL.trans hle2, by omega, by omega⟩)
 (show _ < _ + 1; omega)
 refine L6 ?_
 (show J1 _ _ (.region 7 ..) _ _; refine A2r (fun (x : Bool) => ⟨(49, .bool x) :: [(0, .pointer (some ⟨br, 0, none⟩)), (1, .slice pc nc cc), (3, .int .i64 depth), (6, .pointer (some ⟨b3, 0, none⟩)), (8, .pointer (some ⟨b4, 0, none⟩))], [rd br pb nb cb p1, .blk b4 [.int .i64 0, .string ⟨⟨[]⟩⟩, .int .i64 0, .int .i64 0, .slice none 0 0, .int .i64 0, .slice none 0 0, .int .i64 0, .slice none 0 0], .blk b3 [.int .i64 k, .slice q ks.length c]], G1⟩) (fun x => x = true → 1 < depth) ?_ ?_)
 refine tR (sQ (qM rfl) rfl ?_)
 refine sB (A0v rfl rfl) rfl rfl (fun h160 => ?_) (fun h160 => ?_)
 refine sD ?_
 refine V0 true (N3 (by repeat (first | exact D4.nil | refine D4.cons rfl ?_)) (by repeat (first | exact A0.refl | exact A0.nil | refine A0.cons (by repeat (first | exact Pk.here | apply Pk.there)) ?_ | apply A0.drop))) (fun _ => by omega)
 refine sD ?_
 refine V0 false (N3 (by repeat (first | exact D4.nil | refine D4.cons rfl ?_)) (by repeat (first | exact A0.refl | exact A0.nil | refine A0.cons (by repeat (first | exact Pk.here | apply Pk.there)) ?_ | apply A0.drop))) (fun h => absurd h (by decide))
 (rintro (x49 : Bool) hx49)
 (show J1 _ _ (.cond (.tmp 49) _ _) _ _; refine A9j (fun (x : Nat × IM) => ⟨[(0, .pointer (some ⟨br, 0, none⟩)), (1, .slice pc nc cc), (3, .int .i64 depth), (6, .pointer (some ⟨b3, 0, none⟩)), (8, .pointer (some ⟨b4, 0, none⟩))], [rd br pb nb cb x.1, .blk b4 [.int .i64 0, .string ⟨⟨[]⟩⟩, .int .i64 0, .int .i64 0, .slice none 0 0, .int .i64 0, .slice none 0 0, .int .i64 0, .slice none 0 0], .blk b3 [.int .i64 k, .slice q ks.length c]], x.2⟩) (fun x => B1 G1 x.2 ∧ p1 ≤ x.1 ∧ x.1 ≤ p1 + 1) (A6d rfl (fun hxt => ?_) (fun hxf => ?_)) ?_)
 refine tS (tR (sQ (qM rfl) rfl ?_))
 (have hx49b := hx49 hxt; refine L3 rfl (A0C _ br pb nb cb (p1) bs 9 hb hnb (by omega)) (Pk.perm (by repeat (first | exact Pk.here | apply Pk.there))) rfl rfl (fun v Gp outs hle170 hh => ?_); obtain ⟨rfl, rfl, j170, rfl, hj170, hk170⟩ := hh; have hpk9 := hj170)
 replace hb := hb.mono hle170
 replace hrt := hrt.mono hle170
 refine sD (nS ?_)
 refine B6 (tS (tR (sB (qE rfl rfl) rfl rfl (fun h176 => ?_) (fun h176 => ?_))))
 refine sQ (qA rfl) rfl (sD (nS (qT rfl (tS ?_))))
 (obtain ⟨m, rfl⟩ := hfu.pos (.inl (by omega)); have hmB : mB (m + 1) = 3 * mB m + 200 := rfl; have hgm := A1h m; refine E4 E7 rfl ?_)
 refine P8 (i := 0) (l' := [tt,ff,ff,ff,ff,ff,ff,ff,ff,ff,ff,ff,ff]) rfl D6 (A2 rfl rfl) rfl (by kernel_rfl) rfl rfl ?_
 refine aP 2 rfl (qM rfl) rfl ?_
 refine aP 3 rfl (qM rfl) rfl ?_
 refine aP 4 rfl (qM rfl) rfl ?_
 refine aL 5 rfl (A2 rfl rfl) rfl ?_
 refine aP 7 rfl (qM rfl) rfl ?_
 refine aP 8 rfl (O4 rfl rfl (by omega) (by omega)) rfl ?_
 refine A3 1 ?_
 (refine K4 rfl rfl (U6 _ _ _ har.small hrt) rfl rfl rfl (fun v G6 hle6 hh => ?_); obtain ⟨cs1, F1, rfl, hs1, hn1⟩ := hh; obtain ⟨pz, cz, rfl, _⟩ := hs1.open; have hrz := hs1.R.mono (C1.le G6 _); replace hx := hx.mono hle6; replace hb := hb.mono hle6; replace hrt := hrt.mono hle6;)
 refine A3 6 ?_
 (have hcall := A34 br pb nb cb bs hnb (.mk k ks) (p1 + 1) _ _ har hrt hb (by omega); refine A0c (l' := [tt,tt,tt,tt,tt,tt,tt,tt,tt,ff,ff,ff,ff]) rfl rfl hcall (Pk.perm (by repeat (first | exact Pk.here | apply Pk.there))) rfl rfl rfl (by repeat (first | exact A8.nil | apply A8.dep (by decide +kernel) | apply A8.im (by decide +kernel) hg0 (by repeat first | exact mH | apply mT) | apply A8.im (by decide +kernel) hg1 (by repeat first | exact mH | apply mT) | apply A8.blk (by decide +kernel) (by repeat (first | exact Pk.here | apply Pk.there)) (by repeat first | exact mH | apply mT))) (fun v Gn outs hleA hh => ?_); obtain ⟨pA, hpA1, hpA2, rfl, uA, cuA, rfl, hruA, huaA, husA, huhA⟩ := hh; obtain ⟨quA, duA, euA, rfl, _⟩ := hruA.open; replace hrz := hrz.mono hleA; replace hx := hx.mono hleA; replace hb := hb.mono hleA; replace hrt := hrt.mono hleA;)
 refine A3 9 ?_
 (have hcall := ih m (by omega) (depth - 1) uA pA _ pc nc cc _ (hfu.sub (by omega) (huhA 4 hfu.1)) (by omega) (by omega) (by omega) hx hruA hb (by omega); refine A0c (l' := [tt,tt,tt,tt,tt,tt,tt,tt,tt,tt,ff,ff,ff]) rfl rfl hcall (Pk.perm (by repeat (first | exact Pk.here | apply Pk.there))) rfl rfl rfl (by repeat (first | exact A8.nil | apply A8.dep (by decide +kernel) | apply A8.im (by decide +kernel) hg0 (by repeat first | exact mH | apply mT) | apply A8.im (by decide +kernel) hg1 (by repeat first | exact mH | apply mT) | apply A8.blk (by decide +kernel) (by repeat (first | exact Pk.here | apply Pk.there)) (by repeat first | exact mH | apply mT))) (fun v Gn outs hlea hh => ?_); obtain ⟨pa, hpa1, hpa2, rfl, ea, ca, rfl, hra, hsma, hca⟩ := hh; obtain ⟨a1, a2, a3, a4, a5, a6, a7, a8, a9, rfl⟩ := hra.nine; replace hrz := hrz.mono hlea; replace hx := hx.mono hlea; replace hb := hb.mono hlea; replace hrt := hrt.mono hlea;)
 refine A3 10 ?_
 (refine E1 rfl (C3 rfl rfl rfl (by omega) (by unfold maxLen; omega) rfl) rfl rfl ?_; rintro _ ⟨b197, rfl⟩)
 refine aP 11 rfl (S0 rfl rfl) rfl ?_
 refine A3 12 ?_
 refine U1 rfl rfl rfl rfl rfl rfl rfl rfl (by decide +kernel) (by repeat first | exact Sw.here | apply Sw.there) (by rfl) ?_
 refine C4 (nS ?_)
 (refine H8 (cs := [a1, a2, a3, a4, a5, a6, a7, a8, a9]) (by repeat (first | exact Pk.here | apply Pk.there)) (fun G9 hle9 hsl9 hno9 => ?_); have hN := A3u (k := 13) (nm := ⟨⟨[]⟩⟩) ⟨by omega, by omega⟩ (hrz.mono hle9) (hra.mono hle9) hsl9)
 refine tT (rB ?_)
 refine A0L ?_
 refine H0 (outs := [rd br pb nb cb pa]) (rC rfl (A2 rfl rfl)) (by repeat (first | exact A0.nil | refine A0.cons Pk.here ?_ | refine A0.cons (Pk.there Pk.here) ?_ | refine A0.cons (Pk.there (Pk.there Pk.here)) ?_ | apply A0.drop)) ?_
 (exact ⟨pa, by omega, by omega, rfl, _, _, rfl, hN, by first | exact N6 (by first | assumption | decide) | exact A0o (by decide) (by assumption) (by assumption) (by assumption) | exact R8 (by decide) (by assumption) (by assumption) | exact J9 (by decide) O9 (by assumption) | exact J9 (by decide) har.small (by assumption) | exact J9 (by decide) O9 (R8 (by decide) (by assumption) (N6 (by decide))) | exact J9 (by decide) A0p (N6 (by decide)) | assumption, by simp only [E0, H1]; omega⟩)
 refine sQ (qA rfl) rfl (sD (nS (cF rfl (tS (tR ?_)))))
 refine sB (qE rfl rfl) rfl rfl (fun h215 => ?_) (fun h215 => ?_)
 refine sQ (qA rfl) rfl (sD (nS (qT rfl (tS ?_))))
 (obtain ⟨m, rfl⟩ := hfu.pos (.inl (by omega)); have hmB : mB (m + 1) = 3 * mB m + 200 := rfl; have hgm := A1h m; refine E4 E7 rfl ?_)
 refine K2 (i := 0) (l' := [tt,ff,ff,ff,ff,ff,ff,ff,ff,ff,ff,ff,ff,ff,ff,ff,ff,ff,ff,ff,ff]) rfl D6 (qM rfl) rfl (by kernel_rfl) rfl rfl ?_
 refine aP 1 rfl (qM rfl) rfl ?_
 refine aP 3 rfl (qM rfl) rfl ?_
 refine aP 4 rfl (O4 rfl rfl (by omega) (by omega)) rfl ?_
 refine aP 6 rfl (qM rfl) rfl ?_
 refine aP 7 rfl (qM rfl) rfl ?_
 refine aL 8 rfl (A2 rfl rfl) rfl ?_
 refine aP 9 rfl (qM rfl) rfl ?_
 refine aP 10 rfl (O4 rfl rfl (by omega) (by omega)) rfl ?_
 refine aP 12 rfl (qM rfl) rfl ?_
 refine aP 13 rfl (qM rfl) rfl ?_
 refine aL 14 rfl (A2 rfl rfl) rfl ?_
 refine aP 15 rfl (qM rfl) rfl ?_
 refine aP 16 rfl (O4 rfl rfl (by omega) (by omega)) rfl ?_
 refine A3 2 ?_
 refine P5 rfl rfl ((A2t _)) rfl rfl rfl ?_
 refine A3 5 ?_
 (have hcall := ih m (by omega) (depth - 1) (.mk 3 []) (p1 + 1) _ pc nc cc _ (hfu.sub (by omega) (A2q 4 (by decide) (by decide))) (by omega) (by omega) (by omega) hx (L4 _ ⟨by omega, by omega⟩) hb (by omega); refine A0c (l' := [tt,tt,tt,tt,tt,tt,tt,tt,tt,tt,tt,ff,tt,tt,tt,tt,tt,ff,ff,ff,ff]) rfl rfl hcall (Pk.perm (by repeat (first | exact Pk.here | apply Pk.there))) rfl rfl rfl (by repeat (first | exact A8.nil | apply A8.dep (by decide +kernel) | apply A8.im (by decide +kernel) hg0 (by repeat first | exact mH | apply mT) | apply A8.im (by decide +kernel) hg1 (by repeat first | exact mH | apply mT) | apply A8.blk (by decide +kernel) (by repeat (first | exact Pk.here | apply Pk.there)) (by repeat first | exact mH | apply mT))) (fun v Gn outs hlef hh => ?_); obtain ⟨pf, hpf1, hpf2, rfl, ef, cf, rfl, hrf, hsmf, hcf⟩ := hh; obtain ⟨f1, f2, f3, f4, f5, f6, f7, f8, f9, rfl⟩ := hrf.nine; replace hx := hx.mono hlef; replace hb := hb.mono hlef; replace hrt := hrt.mono hlef;)
 refine A3 11 ?_
 (have hcall := ih m (by omega) (depth - 1) (.mk k ks) pf _ pc nc cc _ (hfu.sub (by omega) hfu.1) (by omega) (by omega) (by omega) hx hrt hb (by omega); refine A0c (l' := [tt,tt,tt,tt,tt,tt,tt,tt,tt,tt,tt,tt,tt,tt,tt,tt,tt,ff,ff,ff,ff]) rfl rfl hcall (Pk.perm (by repeat (first | exact Pk.here | apply Pk.there))) rfl rfl rfl (by repeat (first | exact A8.nil | apply A8.dep (by decide +kernel) | apply A8.im (by decide +kernel) hg0 (by repeat first | exact mH | apply mT) | apply A8.im (by decide +kernel) hg1 (by repeat first | exact mH | apply mT) | apply A8.blk (by decide +kernel) (by repeat (first | exact Pk.here | apply Pk.there)) (by repeat first | exact mH | apply mT))) (fun v Gn outs hleg hh => ?_); obtain ⟨pg, hpg1, hpg2, rfl, eg, cg, rfl, hrg, hsmg, hcg⟩ := hh; obtain ⟨g1, g2, g3, g4, g5, g6, g7, g8, g9, rfl⟩ := hrg.nine; replace hrf := hrf.mono hleg; replace hx := hx.mono hleg; replace hb := hb.mono hleg; replace hrt := hrt.mono hleg;)
 refine A3 17 ?_
 (have hcall := ih m (by omega) (depth - 1) (.mk k ks) pg _ pc nc cc _ (hfu.sub (by omega) hfu.1) (by omega) (by omega) (by omega) hx hrt hb (by omega); refine A0c (l' := [tt,tt,tt,tt,tt,tt,tt,tt,tt,tt,tt,tt,tt,tt,tt,tt,tt,tt,ff,ff,ff]) rfl rfl hcall (Pk.perm (by repeat (first | exact Pk.here | apply Pk.there))) rfl rfl rfl (by repeat (first | exact A8.nil | apply A8.dep (by decide +kernel) | apply A8.im (by decide +kernel) hg0 (by repeat first | exact mH | apply mT) | apply A8.im (by decide +kernel) hg1 (by repeat first | exact mH | apply mT) | apply A8.blk (by decide +kernel) (by repeat (first | exact Pk.here | apply Pk.there)) (by repeat first | exact mH | apply mT))) (fun v Gn outs hlei hh => ?_); obtain ⟨pi, hpi1, hpi2, rfl, ei, ci, rfl, hri, hsmi, hci⟩ := hh; obtain ⟨i1, i2, i3, i4, i5, i6, i7, i8, i9, rfl⟩ := hri.nine; replace hrf := hrf.mono hlei; replace hrg := hrg.mono hlei; replace hx := hx.mono hlei; replace hb := hb.mono hlei; replace hrt := hrt.mono hlei;)
 refine A3 18 ?_
 (refine E1 rfl (C3 rfl rfl rfl (by omega) (by unfold maxLen; omega) rfl) rfl rfl ?_; rintro _ ⟨b245, rfl⟩)
 refine A3 19 ?_
 refine P5 rfl rfl ((A19 _ _ _ _ _)) rfl rfl rfl ?_
 refine A3 20 ?_
 refine U1 rfl rfl rfl rfl rfl rfl rfl rfl (by decide +kernel) (by repeat first | exact Sw.here | apply Sw.there) (by rfl) ?_
 refine C4 (nS ?_)
 (refine H8 (cs := [f1, f2, f3, f4, f5, f6, f7, f8, f9] ++ ([g1, g2, g3, g4, g5, g6, g7, g8, g9] ++ [i1, i2, i3, i4, i5, i6, i7, i8, i9])) (by repeat (first | exact Pk.here | apply Pk.there)) (fun G9 hle9 hsl9 hno9 => ?_); have hN := B4l (k := 9) (nm := ⟨⟨[]⟩⟩) ⟨by omega, by omega⟩ (hrf.mono hle9) (hrg.mono hle9) (hri.mono hle9) hsl9)
 refine tT (rB ?_)
 refine A0L ?_
 refine H0 (outs := [rd br pb nb cb pi]) (rC rfl (A2 rfl rfl)) (by repeat (first | exact A0.nil | refine A0.cons Pk.here ?_ | refine A0.cons (Pk.there Pk.here) ?_ | refine A0.cons (Pk.there (Pk.there Pk.here)) ?_ | apply A0.drop)) ?_
 (exact ⟨pi, by omega, by omega, rfl, _, _, rfl, hN, by first | exact N6 (by first | assumption | decide) | exact A0o (by decide) (by assumption) (by assumption) (by assumption) | exact R8 (by decide) (by assumption) (by assumption) | exact J9 (by decide) O9 (by assumption) | exact J9 (by decide) har.small (by assumption) | exact J9 (by decide) O9 (R8 (by decide) (by assumption) (N6 (by decide))) | exact J9 (by decide) A0p (N6 (by decide)) | assumption, by simp only [E0, H1]; omega⟩)
 refine sQ (qA rfl) rfl (sD (nS (cF rfl (tS (tR ?_)))))
 refine sB (qE rfl rfl) rfl rfl (fun h264 => ?_) (fun h264 => ?_)
 refine D0 ?_
 (have hcall := A31 br pb nb cb bs hnb 0 (p1 + 1) _ (by omega) hb (by have : dB (0 + 1) ≤ 6 := (by decide); omega); refine L3 rfl hcall (Pk.perm (by repeat (first | exact Pk.here | apply Pk.there))) rfl rfl (fun v Gn outs hleD hh => ?_); obtain ⟨pD, hpD1, hpD2, rfl, uD, cuD, rfl, hruD, husD, huhD⟩ := hh; have huaD := huhD.ar; obtain ⟨quD, duD, euD, rfl, _⟩ := hruD.open; have hdBD : dB (0 + 1) ≤ 6 := (by decide); replace hx := hx.mono hleD; replace hb := hb.mono hleD; replace hrt := hrt.mono hleD;)
 refine sE (A6 rfl) rfl (fun b273 => ?_)
 refine F9 ?_
 refine sD (nS (tS ?_))
 (obtain ⟨m, rfl⟩ := hfu.pos (.inl (by omega)); have hmB : mB (m + 1) = 3 * mB m + 200 := rfl; have hgm := A1h m; refine E4 E7 rfl ?_)
 refine K2 (i := 0) (l' := [tt,ff,ff,ff,ff,ff,ff,ff,ff,ff,ff,ff,ff,ff,ff,ff,ff,ff]) rfl D6 (qM rfl) rfl (by kernel_rfl) rfl rfl ?_
 refine aP 1 rfl (qM rfl) rfl ?_
 refine aL 2 rfl (A2 rfl rfl) rfl ?_
 refine aL 3 rfl (A2 rfl rfl) rfl ?_
 refine aP 4 rfl (qM rfl) rfl ?_
 refine aP 5 rfl (O4 rfl rfl (by omega) (by omega)) rfl ?_
 refine aP 7 rfl (qM rfl) rfl ?_
 refine aP 8 rfl (qM rfl) rfl ?_
 refine aP 9 rfl (qM rfl) rfl ?_
 refine aL 10 rfl (A2 rfl rfl) rfl ?_
 refine aP 12 rfl (qM rfl) rfl ?_
 refine aP 13 rfl (O4 rfl rfl (by omega) (by omega)) rfl ?_
 refine A3 6 ?_
 (have hcall := A9i br pb nb cb bs hnb m (ih m (by omega)) (depth - 1) uD (.mk k ks) (pD) _ pc nc cc _ _ (hfu.sub (by omega) hfu.1) (by omega) (by omega) (by omega) hx hruD ⟨huaD, by omega⟩ hrt hb (by omega); refine A0c (l' := [tt,tt,tt,tt,tt,tt,tt,tt,tt,tt,tt,ff,tt,tt,ff,ff,ff,ff]) rfl rfl hcall (Pk.perm (by repeat (first | exact Pk.here | apply Pk.there))) rfl rfl rfl (by repeat (first | exact A8.nil | apply A8.dep (by decide +kernel) | apply A8.im (by decide +kernel) hg0 (by repeat first | exact mH | apply mT) | apply A8.im (by decide +kernel) hg1 (by repeat first | exact mH | apply mT) | apply A8.blk (by decide +kernel) (by repeat (first | exact Pk.here | apply Pk.there)) (by repeat first | exact mH | apply mT))) (fun v Gn outs hlel hh => ?_); obtain ⟨pl, hpl1, hpl2, rfl, el, cl, rfl, hrl, hsml, hcl⟩ := hh; obtain ⟨l1, l2, l3, l4, l5, l6, l7, l8, l9, rfl⟩ := hrl.nine; replace hruD := hruD.mono hlel; replace hx := hx.mono hlel; replace hb := hb.mono hlel; replace hrt := hrt.mono hlel;)
 refine A3 11 ?_
 (have hcall := A34 br pb nb cb bs hnb uD (pl) _ _ huaD hruD hb (by omega); refine A0c (l' := [tt,tt,tt,tt,tt,tt,tt,tt,tt,tt,tt,tt,tt,tt,ff,ff,ff,ff]) rfl rfl hcall (Pk.perm (by repeat (first | exact Pk.here | apply Pk.there))) rfl rfl rfl (by repeat (first | exact A8.nil | apply A8.dep (by decide +kernel) | apply A8.im (by decide +kernel) hg0 (by repeat first | exact mH | apply mT) | apply A8.im (by decide +kernel) hg1 (by repeat first | exact mH | apply mT) | apply A8.blk (by decide +kernel) (by repeat (first | exact Pk.here | apply Pk.there)) (by repeat first | exact mH | apply mT))) (fun v Gn outs hleE hh => ?_); obtain ⟨pE, hpE1, hpE2, rfl, uE, cuE, rfl, hruE, huaE, husE, huhE⟩ := hh; obtain ⟨quE, duE, euE, rfl, _⟩ := hruE.open; replace hrl := hrl.mono hleE; replace hx := hx.mono hleE; replace hb := hb.mono hleE; replace hrt := hrt.mono hleE;)
 refine A3 14 ?_
 (have hcall := ih m (by omega) (depth - 1) uE pE _ pc nc cc _ (hfu.sub (by omega) (huhE 4 (huhD.le (by omega)))) (by omega) (by omega) (by omega) hx hruE hb (by omega); refine A0c (l' := [tt,tt,tt,tt,tt,tt,tt,tt,tt,tt,tt,tt,tt,tt,tt,ff,ff,ff]) rfl rfl hcall (Pk.perm (by repeat (first | exact Pk.here | apply Pk.there))) rfl rfl rfl (by repeat (first | exact A8.nil | apply A8.dep (by decide +kernel) | apply A8.im (by decide +kernel) hg0 (by repeat first | exact mH | apply mT) | apply A8.im (by decide +kernel) hg1 (by repeat first | exact mH | apply mT) | apply A8.blk (by decide +kernel) (by repeat (first | exact Pk.here | apply Pk.there)) (by repeat first | exact mH | apply mT))) (fun v Gn outs hled hh => ?_); obtain ⟨pd, hpd1, hpd2, rfl, ed, cd, rfl, hrd, hsmd, hcd⟩ := hh; obtain ⟨d1, d2, d3, d4, d5, d6, d7, d8, d9, rfl⟩ := hrd.nine; replace hrl := hrl.mono hled; replace hx := hx.mono hled; replace hb := hb.mono hled; replace hrt := hrt.mono hled;)
 refine A3 15 ?_
 (refine E1 rfl (C3 rfl rfl rfl (by omega) (by unfold maxLen; omega) rfl) rfl rfl ?_; rintro _ ⟨b298, rfl⟩)
 refine A3 16 ?_
 refine P5 rfl rfl ((A19 _ _ _ _ _)) rfl rfl rfl ?_
 refine A3 17 ?_
 refine U1 rfl rfl rfl rfl rfl rfl rfl rfl (by decide +kernel) (by repeat first | exact Sw.here | apply Sw.there) (by rfl) ?_
 refine C4 (nS ?_)
 (refine H8 (cs := [l1, l2, l3, l4, l5, l6, l7, l8, l9] ++ [d1, d2, d3, d4, d5, d6, d7, d8, d9]) (by repeat (first | exact Pk.here | apply Pk.there)) (fun G9 hle9 hsl9 hno9 => ?_); have hN := A3v (k := 6) (nm := ⟨⟨[]⟩⟩) ⟨by omega, by omega⟩ (hrl.mono hle9) (hrd.mono hle9) hsl9)
 refine tT (rB ?_)
 refine A0L ?_
 refine H0 (outs := [rd br pb nb cb pd]) (rC rfl (A2 rfl rfl)) (by repeat (first | exact A0.nil | refine A0.cons Pk.here ?_ | refine A0.cons (Pk.there Pk.here) ?_ | refine A0.cons (Pk.there (Pk.there Pk.here)) ?_ | apply A0.drop)) ?_
 (exact ⟨pd, by omega, by omega, rfl, _, _, rfl, hN, by first | exact N6 (by first | assumption | decide) | exact A0o (by decide) (by assumption) (by assumption) (by assumption) | exact R8 (by decide) (by assumption) (by assumption) | exact J9 (by decide) O9 (by assumption) | exact J9 (by decide) har.small (by assumption) | exact J9 (by decide) O9 (R8 (by decide) (by assumption) (N6 (by decide))) | exact J9 (by decide) A0p (N6 (by decide)) | assumption, by simp only [E0, H1]; omega⟩)
 refine sQ (qA rfl) rfl (sD (nS (cF rfl (tS (tR ?_)))))
 refine sB (qE rfl rfl) rfl rfl (fun h317 => ?_) (fun h317 => ?_)
 refine L6 ?_
 refine sP (O4 rfl rfl (by omega) (by omega)) rfl rfl ?_
 (have hpkq := hpk9; obtain ⟨m, rfl⟩ := hfu.pos (.inl (by omega)); have hmB : mB (m + 1) = 3 * mB m + 200 := rfl; have hgm := A1h m; have hcall := ih m (by omega) (depth - 1) (.mk k ks) (p1 + 1) _ pc nc cc _ (hfu.sub (by omega) hfu.1) (by omega) (by omega) (by omega) hx hrt hb (by omega); refine L3 rfl hcall (Pk.perm (by repeat (first | exact Pk.here | apply Pk.there))) rfl rfl (fun v Gn outs hleh hh => ?_); obtain ⟨ph, hph1, hph2, rfl, eh, ch, rfl, hrh, hsmh, hch⟩ := hh; obtain ⟨h1, h2, h3, h4, h5, h6, h7, h8, h9, rfl⟩ := hrh.nine; replace hx := hx.mono hleh; replace hb := hb.mono hleh; replace hrt := hrt.mono hleh;)
 refine H2 rfl ((A32 _ _)) rfl rfl ?_
 (refine I8 (C3 rfl rfl rfl (by omega) (by unfold maxLen; omega) rfl) rfl ?_; rintro _ ⟨b331, rfl⟩)
 refine H2 rfl ((A19 _ _ _ _ _)) rfl rfl ?_
 (refine I8 (C3 rfl rfl rfl (by omega) (by unfold maxLen; omega) rfl) rfl ?_; rintro _ ⟨b333, rfl⟩)
 refine H2 rfl ((A19 _ _ _ _ _)) rfl rfl ?_
 refine F9 ?_
 refine sD (nS ?_)
 (refine H8 (cs := [h1, h2, h3, h4, h5, h6, h7, h8, h9] ++ [.int .i64 2, .string ⟨⟨[]⟩⟩, .int .i64 1, .int .i64 0, .slice none 0 0, .int .i64 0, .slice none 0 0, .int .i64 0, .slice none 0 0]) (by repeat (first | exact Pk.here | apply Pk.there)) (fun G8 hle8 hsl8 hno8 => ?_); have hNi := A3v (k := 10) (nm := ⟨⟨[]⟩⟩) ⟨by omega, by omega⟩ (hrh.mono hle8) (A1O G8 ⟨⟨[]⟩⟩ 1 (k := 2) ⟨by omega, by omega⟩ ⟨by omega, by omega⟩) hsl8; refine H8 (by repeat (first | exact Pk.here | apply Pk.there)) (fun G9 hle9 hsl9 hno9 => ?_); have hN := A3u (k := 11) (nm := ⟨⟨[]⟩⟩) ⟨by omega, by omega⟩ (L4 G9 (k := 0) ⟨by omega, by omega⟩) (hNi.mono hle9) hsl9)
 refine tT (rB ?_)
 refine A0L ?_
 refine H0 (outs := [rd br pb nb cb ph]) (rC rfl (A2 rfl rfl)) (by repeat (first | exact A0.nil | refine A0.cons Pk.here ?_ | refine A0.cons (Pk.there Pk.here) ?_ | refine A0.cons (Pk.there (Pk.there Pk.here)) ?_ | apply A0.drop)) ?_
 (exact ⟨ph, by omega, by omega, rfl, _, _, rfl, hN, by first | exact N6 (by first | assumption | decide) | exact A0o (by decide) (by assumption) (by assumption) (by assumption) | exact R8 (by decide) (by assumption) (by assumption) | exact J9 (by decide) O9 (by assumption) | exact J9 (by decide) har.small (by assumption) | exact J9 (by decide) O9 (R8 (by decide) (by assumption) (N6 (by decide))) | exact J9 (by decide) A0p (N6 (by decide)) | assumption, by simp only [E0, H1]; omega⟩)
 refine sQ (qA rfl) rfl (sD (nS (cF rfl (tK (M9 ?_)))))
 refine A3x (p1 + 1, Gp) (N3 (by repeat (first | exact D4.nil | refine D4.cons rfl ?_)) (by repeat (first | exact A0.refl | exact A0.nil | refine A0.cons (by repeat (first | exact Pk.here | apply Pk.there)) ?_ | apply A0.drop))) ⟨B1.refl _, by dsimp only; omega, by dsimp only; omega⟩
 refine tK ?_
 refine A3x (p1, G1) (N3 (by repeat (first | exact D4.nil | refine D4.cons rfl ?_)) (by repeat (first | exact A0.refl | exact A0.nil | refine A0.cons (by repeat (first | exact Pk.here | apply Pk.there)) ?_ | apply A0.drop))) ⟨B1.refl _, by dsimp only; omega, by dsimp only; omega⟩
 (rintro ⟨(p2 : Nat), G2⟩ ⟨hle2c, hp2a, hp2b⟩; simp only [] at hle2c hp2a hp2b ⊢; have hcut1 := hp2a; replace hx := hx.mono hle2c; replace hb := hb.mono hle2c; replace hrt := hrt.mono hle2c;)
 refine D0 ?_
 (show J1 _ _ (.block 3 ..) _ _; refine A9j (fun (x : Nat × IM) => ⟨[(0, .pointer (some ⟨br, 0, none⟩)), (1, .slice pc nc cc), (3, .int .i64 depth), (6, .pointer (some ⟨b3, 0, none⟩)), (8, .pointer (some ⟨b4, 0, none⟩))], [rd br pb nb cb x.1, .blk b4 [.int .i64 0, .string ⟨⟨[]⟩⟩, .int .i64 0, .int .i64 0, .slice none 0 0, .int .i64 0, .slice none 0 0, .int .i64 0, .slice none 0 0], .blk b3 [.int .i64 k, .slice q ks.length c]], x.2⟩) (fun x => B1 G2 x.2 ∧ p2 ≤ x.1 ∧ x.1 ≤ p2 + 2) ?_ ?_)
 refine B6 (tS (tR (sB (qE rfl rfl) rfl rfl (fun h365 => ?_) (fun h365 => ?_))))
 refine D7 ?_
 refine sB (A0v rfl rfl) rfl rfl (fun h374 => ?_) (fun h374 => ?_)
 refine sQ (qM rfl) rfl (sQ (qM rfl) rfl ?_)
 (have hkk3 : k = 3 := (by omega); refine L3 rfl (A0C _ br pb nb cb (p2) bs 2 hb hnb (by omega)) (Pk.perm (by repeat (first | exact Pk.here | apply Pk.there))) rfl rfl (fun v Gp outs hle377 hh => ?_); obtain ⟨rfl, rfl, j377, rfl, hj377, hk377⟩ := hh; have hpk22 := hj377)
 replace hb := hb.mono hle377
 replace hrt := hrt.mono hle377
 refine sB (qE rfl rfl) rfl rfl (fun h378 => ?_) (fun h378 => ?_)
 refine D7 ?_
 refine H2 rfl ((A0Y _)) rfl rfl ?_
 refine sQ (qM rfl) rfl ?_
 refine sP (O4 rfl rfl (by omega) (by omega)) rfl rfl ?_
 (have hkk3q := hkk3; obtain ⟨m, rfl⟩ := hfu.pos (.inl (by omega)); have hmB : mB (m + 1) = 3 * mB m + 200 := rfl; have hgm := A1h m; have hcall := ih m (by omega) (depth - 1) (.mk 2 []) (p2 + 1) _ pc nc cc _ (hfu.sub (by omega) (A2q 4 (by decide) (by decide))) (by omega) (by omega) (by omega) hx (L4 _ ⟨by omega, by omega⟩) hb (by omega); refine L3 rfl hcall (Pk.perm (by repeat (first | exact Pk.here | apply Pk.there))) rfl rfl (fun v Gn outs hlen hh => ?_); obtain ⟨pn, hpn1, hpn2, rfl, en, cn, rfl, hrn, hsmn, hcn⟩ := hh; obtain ⟨n1, n2, n3, n4, n5, n6, n7, n8, n9, rfl⟩ := hrn.nine; replace hx := hx.mono hlen; replace hb := hb.mono hlen; replace hrt := hrt.mono hlen;)
 refine sQ (qM rfl) rfl (sQ (qM rfl) rfl ?_)
 refine H2 rfl ((A0Y _)) rfl rfl ?_
 refine sQ (qM rfl) rfl ?_
 refine sP (O4 rfl rfl (by omega) (by omega)) rfl rfl ?_
 (have hcall := ih m (by omega) (depth - 1) (.mk 2 []) pn _ pc nc cc _ (hfu.sub (by omega) (A2q 4 (by decide) (by decide))) (by omega) (by omega) (by omega) hx (L4 _ ⟨by omega, by omega⟩) hb (by omega); refine L3 rfl hcall (Pk.perm (by repeat (first | exact Pk.here | apply Pk.there))) rfl rfl (fun v Gn outs hleo hh => ?_); obtain ⟨po, hpo1, hpo2, rfl, eo, co, rfl, hro, hsmo, hco⟩ := hh; obtain ⟨o1, o2, o3, o4, o5, o6, o7, o8, o9, rfl⟩ := hro.nine; replace hrn := hrn.mono hleo; replace hx := hx.mono hleo; replace hb := hb.mono hleo; replace hrt := hrt.mono hleo;)
 (refine I8 (C3 rfl rfl rfl (by omega) (by unfold maxLen; omega) rfl) rfl ?_; rintro _ ⟨b397, rfl⟩)
 refine H2 rfl ((A19 _ _ _ _ _)) rfl rfl ?_
 refine F9 ?_
 refine sD (nS ?_)
 (refine H8 (cs := [n1, n2, n3, n4, n5, n6, n7, n8, n9] ++ [o1, o2, o3, o4, o5, o6, o7, o8, o9]) (by repeat (first | exact Pk.here | apply Pk.there)) (fun G9 hle9 hsl9 hno9 => ?_); have hN := A3v (k := 8) (nm := ⟨⟨[]⟩⟩) ⟨by omega, by omega⟩ (hrn.mono hle9) (hro.mono hle9) hsl9)
 refine tT (rS (rB ?_))
 refine A0L ?_
 refine H0 (outs := [rd br pb nb cb po]) (rC rfl (A2 rfl rfl)) (by repeat (first | exact A0.nil | refine A0.cons Pk.here ?_ | refine A0.cons (Pk.there Pk.here) ?_ | refine A0.cons (Pk.there (Pk.there Pk.here)) ?_ | apply A0.drop)) ?_
 (exact ⟨po, by omega, by omega, rfl, _, _, rfl, hN, by first | exact N6 (by first | assumption | decide) | exact A0o (by decide) (by assumption) (by assumption) (by assumption) | exact R8 (by decide) (by assumption) (by assumption) | exact J9 (by decide) O9 (by assumption) | exact J9 (by decide) har.small (by assumption) | exact J9 (by decide) O9 (R8 (by decide) (by assumption) (N6 (by decide))) | exact J9 (by decide) A0p (N6 (by decide)) | assumption, by simp only [E0, H1]; omega⟩)
 refine M1 ?_
 refine A0L ?_
 refine H0 (outs := [rd br pb nb cb (p2 + 1)]) (rC rfl (A2 rfl rfl)) (by repeat (first | exact A0.nil | refine A0.cons Pk.here ?_ | refine A0.cons (Pk.there Pk.here) ?_ | refine A0.cons (Pk.there (Pk.there Pk.here)) ?_ | apply A0.drop)) ?_
 (exact ⟨(p2 + 1), by omega, by omega, rfl, _, _, rfl, A1O _ _ _ ⟨by omega, by omega⟩ (by first | exact ⟨by omega, by omega⟩ | exact hkn), by first | exact N6 (by first | assumption | decide) | exact A0o (by decide) (by assumption) (by assumption) (by assumption) | exact R8 (by decide) (by assumption) (by assumption) | exact J9 (by decide) O9 (by assumption) | exact J9 (by decide) har.small (by assumption) | exact J9 (by decide) O9 (R8 (by decide) (by assumption) (N6 (by decide))) | exact J9 (by decide) A0p (N6 (by decide)) | assumption, by simp only [E0, H1]; omega⟩)
 refine V7 ?_
 refine A0L ?_
 refine H0 (outs := [rd br pb nb cb p2]) (rC rfl (A2 rfl rfl)) (by repeat (first | exact A0.nil | refine A0.cons Pk.here ?_ | refine A0.cons (Pk.there Pk.here) ?_ | refine A0.cons (Pk.there (Pk.there Pk.here)) ?_ | apply A0.drop)) ?_
 (exact ⟨p2, by omega, by omega, rfl, _, _, rfl, A1O _ _ _ ⟨by omega, by omega⟩ (by first | exact ⟨by omega, by omega⟩ | exact hkn), by first | exact N6 (by first | assumption | decide) | exact A0o (by decide) (by assumption) (by assumption) (by assumption) | exact R8 (by decide) (by assumption) (by assumption) | exact J9 (by decide) O9 (by assumption) | exact J9 (by decide) har.small (by assumption) | exact J9 (by decide) O9 (R8 (by decide) (by assumption) (N6 (by decide))) | exact J9 (by decide) A0p (N6 (by decide)) | assumption, by simp only [E0, H1]; omega⟩)
 refine sQ (qA rfl) rfl (sD (nS (cF rfl (tS (tR ?_)))))
 refine sB (qE rfl rfl) rfl rfl (fun h453 => ?_) (fun h453 => ?_)
 refine sQ (qA rfl) rfl (sD (nS (qT rfl (tS ?_))))
 (have hk45 : k = 4 ∨ k = 5 := (by omega); have hl2 := hops hk45; obtain ⟨m, rfl⟩ := hfu.pos (.inr hk45); have hmB : mB (m + 1) = 3 * mB m + 200 := rfl; have hgm := A1h m; obtain ⟨es9, hsl, hkl⟩ := hrt.kidsM; obtain ⟨b0, o0, q0, d0, hp0, hat0, hre0, hg0⟩ := hsl.kidTy hkl (i := 0) (by omega) (by omega); obtain ⟨b1, o1, q1, d1, hp1, hat1, hre1, hg1⟩ := hsl.kidTy hkl (i := 1) (by omega) (by omega); cases hp0; cases hp1; have hmem0 := List.getElem_mem (l := ks) (n := 0) (by omega); have hmem1 := List.getElem_mem (l := ks) (n := 1) (by omega); refine E4 E7 rfl ?_)
 refine K2 (i := 0) (l' := [tt,ff,ff,ff,ff,ff,ff,ff,ff,ff,ff,ff,ff,ff]) rfl D6 (qM rfl) rfl (by kernel_rfl) rfl rfl ?_
 refine aP 1 rfl (qM rfl) rfl ?_
 refine aP 2 rfl (B8 rfl) rfl ?_
 refine aL 3 rfl (C7 rfl rfl) rfl ?_
 refine aP 4 rfl (B4 (j := 0) rfl rfl rfl (by omega)) rfl ?_
 refine aL 5 rfl (A5 rfl rfl (hat0 _) rfl) rfl ?_
 refine aP 6 rfl (B8 rfl) rfl ?_
 refine aL 7 rfl (C7 rfl rfl) rfl ?_
 refine aP 8 rfl (B4 (j := 1) rfl rfl rfl (by omega)) rfl ?_
 refine aL 9 rfl (A5 rfl rfl (hat1 _) rfl) rfl ?_
 refine aP 10 rfl (qM rfl) rfl ?_
 refine aP 11 rfl (O4 rfl rfl (by omega) (by omega)) rfl ?_
 refine A3 12 ?_
 (have hcall := A9i br pb nb cb bs hnb m (ih m (by omega)) (depth - 1) ks[0] ks[1] (p2) _ pc nc cc _ _ (hfu.kid hmem1) (by omega) (by omega) (by omega) hx hre0 ⟨har.kid _ hmem0, by have := B1K (k := k) hmem0; omega⟩ hre1 hb (by omega); refine A0c (l' := [tt,tt,tt,tt,tt,tt,tt,tt,tt,tt,tt,tt,tt,ff]) rfl rfl hcall (Pk.perm (by repeat (first | exact Pk.here | apply Pk.there))) rfl rfl rfl (by repeat (first | exact A8.nil | apply A8.dep (by decide +kernel) | apply A8.im (by decide +kernel) hg0 (by repeat first | exact mH | apply mT) | apply A8.im (by decide +kernel) hg1 (by repeat first | exact mH | apply mT) | apply A8.blk (by decide +kernel) (by repeat (first | exact Pk.here | apply Pk.there)) (by repeat first | exact mH | apply mT))) (fun v Gn outs hlek hh => ?_); obtain ⟨pk, hpk1, hpk2, rfl, ek, ck, rfl, hrk, hsmk, hck⟩ := hh; obtain ⟨k1, k2, k3, k4, k5, k6, k7, k8, k9, rfl⟩ := hrk.nine; replace hx := hx.mono hlek; replace hb := hb.mono hlek; replace hrt := hrt.mono hlek;)
 refine A3 13 ?_
 refine U1 rfl rfl rfl rfl rfl hrk.one rfl rfl (by kernel_rfl) (by repeat first | exact Sw.here | apply Sw.there) (by rfl) ?_
 refine C4 (nS (tT (rB ?_)))
 refine A0L ?_
 refine H0 (outs := [rd br pb nb cb pk]) (rC rfl (A2 rfl rfl)) (by repeat (first | exact A0.nil | refine A0.cons Pk.here ?_ | refine A0.cons (Pk.there Pk.here) ?_ | refine A0.cons (Pk.there (Pk.there Pk.here)) ?_ | apply A0.drop)) ?_
 (exact ⟨pk, by omega, by omega, rfl, _, _, rfl, hrk, hsmk, by omega⟩)
 refine sQ (qA rfl) rfl (sD (nS (cF rfl (tS (tR ?_)))))
 refine sB (qE rfl rfl) rfl rfl (fun h489 => ?_) (fun h489 => ?_)
 refine sQ (qA rfl) rfl (sD (nS (qT rfl (tS ?_))))
 (have hk45 : k = 4 ∨ k = 5 := (by omega); have hl2 := hops hk45; obtain ⟨m, rfl⟩ := hfu.pos (.inr hk45); have hmB : mB (m + 1) = 3 * mB m + 200 := rfl; have hgm := A1h m; obtain ⟨es9, hsl, hkl⟩ := hrt.kidsM; obtain ⟨b0, o0, q0, d0, hp0, hat0, hre0, hg0⟩ := hsl.kidTy hkl (i := 0) (by omega) (by omega); obtain ⟨b1, o1, q1, d1, hp1, hat1, hre1, hg1⟩ := hsl.kidTy hkl (i := 1) (by omega) (by omega); cases hp0; cases hp1; have hmem0 := List.getElem_mem (l := ks) (n := 0) (by omega); have hmem1 := List.getElem_mem (l := ks) (n := 1) (by omega); refine E4 E7 rfl ?_)
 refine K2 (i := 0) (l' := [tt,ff,ff,ff,ff,ff,ff,ff,ff,ff,ff,ff,ff,ff,ff,ff,ff,ff,ff,ff,ff]) rfl D6 (qM rfl) rfl (by kernel_rfl) rfl rfl ?_
 refine aP 1 rfl (qM rfl) rfl ?_
 refine aP 2 rfl (B8 rfl) rfl ?_
 refine aL 3 rfl (C7 rfl rfl) rfl ?_
 refine aP 4 rfl (B4 (j := 0) rfl rfl rfl (by omega)) rfl ?_
 refine aL 5 rfl (A5 rfl rfl (hat0 _) rfl) rfl ?_
 refine aP 6 rfl (qM rfl) rfl ?_
 refine aP 7 rfl (O4 rfl rfl (by omega) (by omega)) rfl ?_
 refine aP 9 rfl (qM rfl) rfl ?_
 refine aP 10 rfl (qM rfl) rfl ?_
 refine aP 11 rfl (B8 rfl) rfl ?_
 refine aL 12 rfl (C7 rfl rfl) rfl ?_
 refine aP 13 rfl (B4 (j := 1) rfl rfl rfl (by omega)) rfl ?_
 refine aL 14 rfl (A5 rfl rfl (hat1 _) rfl) rfl ?_
 refine aP 15 rfl (qM rfl) rfl ?_
 refine aP 16 rfl (O4 rfl rfl (by omega) (by omega)) rfl ?_
 refine A3 8 ?_
 (have hcall := ih m (by omega) (depth - 1) ks[0] p2 _ pc nc cc _ (hfu.kid hmem0) (by omega) (by omega) (by omega) hx hre0 hb (by omega); refine A0c (l' := [tt,tt,tt,tt,tt,tt,tt,tt,tt,tt,tt,tt,tt,tt,tt,tt,tt,ff,ff,ff,ff]) rfl rfl hcall (Pk.perm (by repeat (first | exact Pk.here | apply Pk.there))) rfl rfl rfl (by repeat (first | exact A8.nil | apply A8.dep (by decide +kernel) | apply A8.im (by decide +kernel) hg0 (by repeat first | exact mH | apply mT) | apply A8.im (by decide +kernel) hg1 (by repeat first | exact mH | apply mT) | apply A8.blk (by decide +kernel) (by repeat (first | exact Pk.here | apply Pk.there)) (by repeat first | exact mH | apply mT))) (fun v Gn outs hles hh => ?_); obtain ⟨ps, hps1, hps2, rfl, es, cs, rfl, hrs, hsms, hcs⟩ := hh; obtain ⟨s1, s2, s3, s4, s5, s6, s7, s8, s9, rfl⟩ := hrs.nine; replace hre1 := hre1.mono hles; replace hx := hx.mono hles; replace hb := hb.mono hles; replace hrt := hrt.mono hles;)
 refine A3 17 ?_
 (have hcall := ih m (by omega) (depth - 1) ks[1] ps _ pc nc cc _ (hfu.kid hmem1) (by omega) (by omega) (by omega) hx hre1 hb (by omega); refine A0c (l' := [tt,tt,tt,tt,tt,tt,tt,tt,tt,tt,tt,tt,tt,tt,tt,tt,tt,tt,ff,ff,ff]) rfl rfl hcall (Pk.perm (by repeat (first | exact Pk.here | apply Pk.there))) rfl rfl rfl (by repeat (first | exact A8.nil | apply A8.dep (by decide +kernel) | apply A8.im (by decide +kernel) hg0 (by repeat first | exact mH | apply mT) | apply A8.im (by decide +kernel) hg1 (by repeat first | exact mH | apply mT) | apply A8.blk (by decide +kernel) (by repeat (first | exact Pk.here | apply Pk.there)) (by repeat first | exact mH | apply mT))) (fun v Gn outs hlew hh => ?_); obtain ⟨pw, hpw1, hpw2, rfl, ew, cw, rfl, hrw, hsmw, hcw⟩ := hh; obtain ⟨w1, w2, w3, w4, w5, w6, w7, w8, w9, rfl⟩ := hrw.nine; replace hrs := hrs.mono hlew; replace hx := hx.mono hlew; replace hb := hb.mono hlew; replace hrt := hrt.mono hlew;)
 refine A3 18 ?_
 (refine E1 rfl (C3 rfl rfl rfl (by omega) (by unfold maxLen; omega) rfl) rfl rfl ?_; rintro _ ⟨b517, rfl⟩)
 refine A3 19 ?_
 refine P5 rfl rfl ((A19 _ _ _ _ _)) rfl rfl rfl ?_
 refine A3 20 ?_
 refine U1 rfl rfl rfl rfl rfl rfl rfl rfl (by decide +kernel) (by repeat first | exact Sw.here | apply Sw.there) (by rfl) ?_
 refine C4 (nS ?_)
 (refine H8 (cs := [s1, s2, s3, s4, s5, s6, s7, s8, s9] ++ [w1, w2, w3, w4, w5, w6, w7, w8, w9]) (by repeat (first | exact Pk.here | apply Pk.there)) (fun G9 hle9 hsl9 hno9 => ?_); have hN := A3v (k := 10) (nm := ⟨⟨[]⟩⟩) ⟨by omega, by omega⟩ (hrs.mono hle9) (hrw.mono hle9) hsl9)
 refine tT (rB ?_)
 refine A0L ?_
 refine H0 (outs := [rd br pb nb cb pw]) (rC rfl (A2 rfl rfl)) (by repeat (first | exact A0.nil | refine A0.cons Pk.here ?_ | refine A0.cons (Pk.there Pk.here) ?_ | refine A0.cons (Pk.there (Pk.there Pk.here)) ?_ | apply A0.drop)) ?_
 (exact ⟨pw, by omega, by omega, rfl, _, _, rfl, hN, by first | exact N6 (by first | assumption | decide) | exact A0o (by decide) (by assumption) (by assumption) (by assumption) | exact R8 (by decide) (by assumption) (by assumption) | exact J9 (by decide) O9 (by assumption) | exact J9 (by decide) har.small (by assumption) | exact J9 (by decide) O9 (R8 (by decide) (by assumption) (N6 (by decide))) | exact J9 (by decide) A0p (N6 (by decide)) | assumption, by simp only [E0, H1]; omega⟩)
 refine sQ (qA rfl) rfl (sD (nS (cF rfl (tS (tR ?_)))))
 refine sB (qE rfl rfl) rfl rfl (fun h536 => ?_) (fun h536 => ?_)
 refine D7 ?_
 refine sB (A0v rfl rfl) rfl rfl (fun h545 => ?_) (fun h545 => ?_)
 refine sQ (qM rfl) rfl (sQ (qM rfl) rfl ?_)
 (have hkk1 : k = 1 := (by omega); refine L3 rfl (A0C _ br pb nb cb (p2) bs 3 hb hnb (by omega)) (Pk.perm (by repeat (first | exact Pk.here | apply Pk.there))) rfl rfl (fun v Gp outs hle548 hh => ?_); obtain ⟨rfl, rfl, j548, rfl, hj548, hk548⟩ := hh; have hpk23 := hj548)
 replace hb := hb.mono hle548
 replace hrt := hrt.mono hle548
 refine sB (qE rfl rfl) rfl rfl (fun h549 => ?_) (fun h549 => ?_)
 refine D2 ?_
 (have hcall := A31 br pb nb cb bs hnb 1 (p2 + 1) _ (by omega) hb (by have : dB (1 + 1) ≤ 6 := (by decide); omega); refine L3 rfl hcall (Pk.perm (by repeat (first | exact Pk.here | apply Pk.there))) rfl rfl (fun v Gn outs hleF hh => ?_); obtain ⟨pF, hpF1, hpF2, rfl, uF, cuF, rfl, hruF, husF, huhF⟩ := hh; have huaF := huhF.ar; obtain ⟨quF, duF, euF, rfl, _⟩ := hruF.open; have hdBF : dB (1 + 1) ≤ 6 := (by decide); replace hx := hx.mono hleF; replace hb := hb.mono hleF; replace hrt := hrt.mono hleF;)
 refine sQ (qM rfl) rfl ?_
 refine sP (O4 rfl rfl (by omega) (by omega)) rfl rfl ?_
 (obtain ⟨m, rfl⟩ := hfu.pos (.inl (by omega)); have hmB : mB (m + 1) = 3 * mB m + 200 := rfl; have hgm := A1h m; have hcall := ih m (by omega) (depth - 1) uF pF _ pc nc cc _ (hfu.sub (by omega) (huhF.le (by omega))) (by omega) (by omega) (by omega) hx hruF hb (by omega); refine L3 rfl hcall (Pk.perm (by repeat (first | exact Pk.here | apply Pk.there))) rfl rfl (fun v Gn outs hlex hh => ?_); obtain ⟨px, hpx1, hpx2, rfl, ex, cx, rfl, hrx, hsmx, hcx⟩ := hh; obtain ⟨x1, x2, x3, x4, x5, x6, x7, x8, x9, rfl⟩ := hrx.nine; replace hx := hx.mono hlex; replace hb := hb.mono hlex; replace hrt := hrt.mono hlex;)
 refine sS rfl rfl rfl rfl hrx.one rfl ?_
 refine sD (nS (tT (rS (rB ?_))))
 refine A0L ?_
 refine H0 (outs := [rd br pb nb cb px]) (rC rfl (A2 rfl rfl)) (by repeat (first | exact A0.nil | refine A0.cons Pk.here ?_ | refine A0.cons (Pk.there Pk.here) ?_ | refine A0.cons (Pk.there (Pk.there Pk.here)) ?_ | apply A0.drop)) ?_
 (exact ⟨px, by omega, by omega, rfl, _, _, rfl, hrx, hsmx, by omega⟩)
 refine D2 ?_
 (refine L3 rfl (A0C _ br pb nb cb (p2 + 1) bs 3 hb hnb (by omega)) (Pk.perm (by repeat (first | exact Pk.here | apply Pk.there))) rfl rfl (fun v Gp outs hle581 hh => ?_); obtain ⟨rfl, rfl, j581, rfl, hj581, hk581⟩ := hh; have hpk21 := hj581)
 replace hb := hb.mono hle581
 replace hrt := hrt.mono hle581
 refine sB (qE rfl rfl) rfl rfl (fun h582 => ?_) (fun h582 => ?_)
 refine sD (nS (qT rfl (tS (tR ?_))))
 refine H2 rfl ((A09 _)) rfl rfl ?_
 refine sQ (S0 rfl rfl) rfl ?_
 (refine I8 (C3 rfl rfl rfl (by omega) (by unfold maxLen; omega) rfl) rfl ?_; rintro _ ⟨b590, rfl⟩)
 refine sQ (S0 rfl rfl) rfl (F9 ?_)
 refine sD (nS ?_)
 (refine H8 (cs := [.int .i64 4, .string ⟨⟨[]⟩⟩, .int .i64 0, .int .i64 0, .slice none 0 0, .int .i64 0, .slice none 0 0, .int .i64 0, .slice none 0 0]) (by repeat (first | exact Pk.here | apply Pk.there)) (fun G9 hle9 hsl9 hno9 => ?_); have hN := A3u (k := 13) (nm := ⟨⟨[]⟩⟩) ⟨by omega, by omega⟩ (A0l _) (A1O G9 ⟨⟨[]⟩⟩ 0 (k := 4) ⟨by omega, by omega⟩ ⟨by omega, by omega⟩) hsl9)
 refine tT (rB ?_)
 refine A0L ?_
 refine H0 (outs := [rd br pb nb cb (p2 + 1 + 1)]) (rC rfl (A2 rfl rfl)) (by repeat (first | exact A0.nil | refine A0.cons Pk.here ?_ | refine A0.cons (Pk.there Pk.here) ?_ | refine A0.cons (Pk.there (Pk.there Pk.here)) ?_ | apply A0.drop)) ?_
 (exact ⟨(p2 + 1 + 1), by omega, by omega, rfl, _, _, rfl, hN, by first | exact N6 (by first | assumption | decide) | exact A0o (by decide) (by assumption) (by assumption) (by assumption) | exact R8 (by decide) (by assumption) (by assumption) | exact J9 (by decide) O9 (by assumption) | exact J9 (by decide) har.small (by assumption) | exact J9 (by decide) O9 (R8 (by decide) (by assumption) (N6 (by decide))) | exact J9 (by decide) A0p (N6 (by decide)) | assumption, by simp only [E0, H1]; omega⟩)
 refine sD (nS (cF rfl (tK (M9 ?_))))
 refine A3x (p2 + 1 + 1, Gp) (N3 (by repeat (first | exact D4.nil | refine D4.cons rfl ?_)) (by repeat (first | exact A0.refl | exact A0.nil | refine A0.cons (by repeat (first | exact Pk.here | apply Pk.there)) ?_ | apply A0.drop))) ⟨B1.refl _, by dsimp only; omega, by dsimp only; omega⟩
 refine L7 ?_
 (have hkk1 : k = 1 := (by omega); refine L3 rfl (A0C _ br pb nb cb (p2) bs 3 hb hnb (by omega)) (Pk.perm (by repeat (first | exact Pk.here | apply Pk.there))) rfl rfl (fun v Gp outs hle620 hh => ?_); obtain ⟨rfl, rfl, j620, rfl, hj620, hk620⟩ := hh; have hpk23 := hj620)
 replace hb := hb.mono hle620
 replace hrt := hrt.mono hle620
 refine sB (qE rfl rfl) rfl rfl (fun h621 => ?_) (fun h621 => ?_)
 refine sD (nS (qT rfl (tS (tR ?_))))
 refine H2 rfl ((A09 _)) rfl rfl ?_
 refine sQ (S0 rfl rfl) rfl ?_
 (refine I8 (C3 rfl rfl rfl (by omega) (by unfold maxLen; omega) rfl) rfl ?_; rintro _ ⟨b629, rfl⟩)
 refine sQ (S0 rfl rfl) rfl (F9 ?_)
 refine sD (nS ?_)
 (refine H8 (cs := [.int .i64 4, .string ⟨⟨[]⟩⟩, .int .i64 0, .int .i64 0, .slice none 0 0, .int .i64 0, .slice none 0 0, .int .i64 0, .slice none 0 0]) (by repeat (first | exact Pk.here | apply Pk.there)) (fun G9 hle9 hsl9 hno9 => ?_); have hN := A3u (k := 13) (nm := ⟨⟨[]⟩⟩) ⟨by omega, by omega⟩ (A0l _) (A1O G9 ⟨⟨[]⟩⟩ 0 (k := 4) ⟨by omega, by omega⟩ ⟨by omega, by omega⟩) hsl9)
 refine tT (rB ?_)
 refine A0L ?_
 refine H0 (outs := [rd br pb nb cb (p2 + 1)]) (rC rfl (A2 rfl rfl)) (by repeat (first | exact A0.nil | refine A0.cons Pk.here ?_ | refine A0.cons (Pk.there Pk.here) ?_ | refine A0.cons (Pk.there (Pk.there Pk.here)) ?_ | apply A0.drop)) ?_
 (exact ⟨(p2 + 1), by omega, by omega, rfl, _, _, rfl, hN, by first | exact N6 (by first | assumption | decide) | exact A0o (by decide) (by assumption) (by assumption) (by assumption) | exact R8 (by decide) (by assumption) (by assumption) | exact J9 (by decide) O9 (by assumption) | exact J9 (by decide) har.small (by assumption) | exact J9 (by decide) O9 (R8 (by decide) (by assumption) (N6 (by decide))) | exact J9 (by decide) A0p (N6 (by decide)) | assumption, by simp only [E0, H1]; omega⟩)
 refine sD (nS (cF rfl (tK (M9 ?_))))
 refine A3x (p2 + 1, Gp) (N3 (by repeat (first | exact D4.nil | refine D4.cons rfl ?_)) (by repeat (first | exact A0.refl | exact A0.nil | refine A0.cons (by repeat (first | exact Pk.here | apply Pk.there)) ?_ | apply A0.drop))) ⟨B1.refl _, by dsimp only; omega, by dsimp only; omega⟩
 refine sQ (qA rfl) rfl (sD (nS (cF rfl (tK (M9 ?_)))))
 refine A3x (p2, G2) (N3 (by repeat (first | exact D4.nil | refine D4.cons rfl ?_)) (by repeat (first | exact A0.refl | exact A0.nil | refine A0.cons (by repeat (first | exact Pk.here | apply Pk.there)) ?_ | apply A0.drop))) ⟨B1.refl _, by dsimp only; omega, by dsimp only; omega⟩
 (have hq := hcut1; rintro ⟨(p5 : Nat), G5⟩ ⟨hle5c, hp5a, hp5b⟩; simp only [] at hle5c hp5a hp5b ⊢; have hcut2 := hp5a; replace hx := hx.mono hle5c; replace hb := hb.mono hle5c; replace hrt := hrt.mono hle5c;)
 refine tS (tS (tR (sQ (qM rfl) rfl ?_)))
 refine sB (A0v rfl rfl) rfl rfl (fun h658 => ?_) (fun h658 => ?_)
 refine sQ (qM rfl) rfl (sQ (qM rfl) rfl ?_)
 (refine L3 rfl (A0C _ br pb nb cb (p5) bs 2 hb hnb (by omega)) (Pk.perm (by repeat (first | exact Pk.here | apply Pk.there))) rfl rfl (fun v Gp outs hle661 hh => ?_); obtain ⟨rfl, rfl, j661, rfl, hj661, hk661⟩ := hh; have hpk5 := hj661)
 replace hb := hb.mono hle661
 replace hrt := hrt.mono hle661
 refine sB (qE rfl rfl) rfl rfl (fun h662 => ?_) (fun h662 => ?_)
 refine D2 ?_
 refine H2 rfl ((A0Y _)) rfl rfl ?_
 (have hz2 : H4 (.mk 2 []) = 0 := rfl; have hcall := A34 br pb nb cb bs hnb (.mk 2 []) (p5 + 1) _ _ (S8 (by decide) (by decide)) (L4 _ ⟨by omega, by omega⟩) hb (by omega); refine L3 rfl hcall (Pk.perm (by repeat (first | exact Pk.here | apply Pk.there))) rfl rfl (fun v Gn outs hleG hh => ?_); obtain ⟨pG, hpG1, hpG2, rfl, uG, cuG, rfl, hruG, huaG, husG, huhG⟩ := hh; obtain ⟨quG, duG, euG, rfl, _⟩ := hruG.open; replace hx := hx.mono hleG; replace hb := hb.mono hleG; replace hrt := hrt.mono hleG;)
 refine sQ (qM rfl) rfl ?_
 refine sP (O4 rfl rfl (by omega) (by omega)) rfl rfl ?_
 (obtain ⟨m, rfl⟩ := hfu.pos (.inl (by omega)); have hmB : mB (m + 1) = 3 * mB m + 200 := rfl; have hgm := A1h m; have hcall := ih m (by omega) (depth - 1) uG pG _ pc nc cc _ (hfu.sub (by omega) (huhG 4 (A2q 4 (by decide) (by decide)))) (by omega) (by omega) (by omega) hx hruG hb (by omega); refine L3 rfl hcall (Pk.perm (by repeat (first | exact Pk.here | apply Pk.there))) rfl rfl (fun v Gn outs hley hh => ?_); obtain ⟨py, hpy1, hpy2, rfl, ey, cy, rfl, hry, hsmy, hcy⟩ := hh; obtain ⟨y1, y2, y3, y4, y5, y6, y7, y8, y9, rfl⟩ := hry.nine; replace hx := hx.mono hley; replace hb := hb.mono hley; replace hrt := hrt.mono hley;)
 refine sQ (qM rfl) rfl (sQ (qM rfl) rfl ?_)
 refine H2 rfl ((A0Y _)) rfl rfl ?_
 refine sQ (qM rfl) rfl ?_
 refine sP (O4 rfl rfl (by omega) (by omega)) rfl rfl ?_
 (have hcall := ih m (by omega) (depth - 1) (.mk 2 []) py _ pc nc cc _ (hfu.sub (by omega) (A2q 4 (by decide) (by decide))) (by omega) (by omega) (by omega) hx (L4 _ ⟨by omega, by omega⟩) hb (by omega); refine L3 rfl hcall (Pk.perm (by repeat (first | exact Pk.here | apply Pk.there))) rfl rfl (fun v Gn outs hlec hh => ?_); obtain ⟨pc, hpc1, hpc2, rfl, ec, cc, rfl, hrc, hsmc, hcc⟩ := hh; obtain ⟨c1, c2, c3, c4, c5, c6, c7, c8, c9, rfl⟩ := hrc.nine; replace hry := hry.mono hlec; replace hx := hx.mono hlec; replace hb := hb.mono hlec; replace hrt := hrt.mono hlec;)
 (refine I8 (C3 rfl rfl rfl (by omega) (by unfold maxLen; omega) rfl) rfl ?_; rintro _ ⟨b683, rfl⟩)
 refine H2 rfl ((A19 _ _ _ _ _)) rfl rfl ?_
 refine F9 ?_
 refine sD (nS ?_)
 (refine H8 (cs := [y1, y2, y3, y4, y5, y6, y7, y8, y9] ++ [c1, c2, c3, c4, c5, c6, c7, c8, c9]) (by repeat (first | exact Pk.here | apply Pk.there)) (fun G9 hle9 hsl9 hno9 => ?_); have hN := A3v (k := 7) (nm := ⟨⟨[]⟩⟩) ⟨by omega, by omega⟩ (hry.mono hle9) (hrc.mono hle9) hsl9)
 refine tT (rS ?_)
 refine H0 (outs := [rd br pb nb cb pc]) (rC rfl (A2 rfl rfl)) (by repeat (first | exact A0.nil | refine A0.cons Pk.here ?_ | refine A0.cons (Pk.there Pk.here) ?_ | refine A0.cons (Pk.there (Pk.there Pk.here)) ?_ | apply A0.drop)) ?_
 (exact ⟨pc, by omega, by omega, rfl, _, _, rfl, hN, by first | exact N6 (by first | assumption | decide) | exact A0o (by decide) (by assumption) (by assumption) (by assumption) | exact R8 (by decide) (by assumption) (by assumption) | exact J9 (by decide) O9 (by assumption) | exact J9 (by decide) har.small (by assumption) | exact J9 (by decide) O9 (R8 (by decide) (by assumption) (N6 (by decide))) | exact J9 (by decide) A0p (N6 (by decide)) | assumption, by simp only [E0, H1]; omega⟩)
 refine D2 ?_
 (refine I8 (C3 rfl rfl rfl (by omega) (by unfold maxLen; omega) rfl) rfl ?_; rintro _ ⟨b702, rfl⟩)
 (refine T8 (by repeat (first | exact Pk.here | apply Pk.there)) (fun G4 hle4 hsl4 _ => ?_); refine L3 rfl (A1q G4 br pb nb cb (p5 + 1) bs _ _ _ _ (hb.mono hle4) hnb (by omega) hsl4 (by decide)) (Pk.perm (by repeat (first | exact Pk.here | apply Pk.there))) rfl rfl (fun v G7 outs hle7 hh => ?_); obtain ⟨rfl, rfl, hv⟩ := hh; obtain ⟨kn, rfl, hkn⟩ : ∃ k, v = .int .i64 k ∧ D9 k := (by simp only [List.mem_cons, List.not_mem_nil, or_false] at hv; rcases hv with rfl | rfl | rfl | rfl | rfl <;> exact ⟨_, rfl, by unfold D9; omega⟩))
 refine H2 rfl ((A32 _ _)) rfl rfl ?_
 refine F9 ?_
 refine sD (nS (tT ?_))
 refine H0 (outs := [rd br pb nb cb (p5 + 1 + 1)]) (rC rfl (A2 rfl rfl)) (by repeat (first | exact A0.nil | refine A0.cons Pk.here ?_ | refine A0.cons (Pk.there Pk.here) ?_ | refine A0.cons (Pk.there (Pk.there Pk.here)) ?_ | apply A0.drop)) ?_
 (exact ⟨(p5 + 1 + 1), by omega, by omega, rfl, _, _, rfl, A1O _ _ _ ⟨by omega, by omega⟩ (by first | exact ⟨by omega, by omega⟩ | exact hkn), by first | exact N6 (by first | assumption | decide) | exact A0o (by decide) (by assumption) (by assumption) (by assumption) | exact R8 (by decide) (by assumption) (by assumption) | exact J9 (by decide) O9 (by assumption) | exact J9 (by decide) har.small (by assumption) | exact J9 (by decide) O9 (R8 (by decide) (by assumption) (N6 (by decide))) | exact J9 (by decide) A0p (N6 (by decide)) | assumption, by simp only [E0, H1]; omega⟩)
 refine L7 ?_
 (refine I8 (C3 rfl rfl rfl (by omega) (by unfold maxLen; omega) rfl) rfl ?_; rintro _ ⟨b724, rfl⟩)
 (refine T8 (by repeat (first | exact Pk.here | apply Pk.there)) (fun G4 hle4 hsl4 _ => ?_); refine L3 rfl (A1q G4 br pb nb cb p5 bs _ _ _ _ (hb.mono hle4) hnb (by omega) hsl4 (by decide)) (Pk.perm (by repeat (first | exact Pk.here | apply Pk.there))) rfl rfl (fun v G7 outs hle7 hh => ?_); obtain ⟨rfl, rfl, hv⟩ := hh; obtain ⟨kn, rfl, hkn⟩ : ∃ k, v = .int .i64 k ∧ D9 k := (by simp only [List.mem_cons, List.not_mem_nil, or_false] at hv; rcases hv with rfl | rfl | rfl | rfl | rfl <;> exact ⟨_, rfl, by unfold D9; omega⟩))
 refine H2 rfl ((A32 _ _)) rfl rfl ?_
 refine F9 ?_
 refine sD (nS (tT ?_))
 refine H0 (outs := [rd br pb nb cb (p5 + 1)]) (rC rfl (A2 rfl rfl)) (by repeat (first | exact A0.nil | refine A0.cons Pk.here ?_ | refine A0.cons (Pk.there Pk.here) ?_ | refine A0.cons (Pk.there (Pk.there Pk.here)) ?_ | apply A0.drop)) ?_
 (exact ⟨(p5 + 1), by omega, by omega, rfl, _, _, rfl, A1O _ _ _ ⟨by omega, by omega⟩ (by first | exact ⟨by omega, by omega⟩ | exact hkn), by first | exact N6 (by first | assumption | decide) | exact A0o (by decide) (by assumption) (by assumption) (by assumption) | exact R8 (by decide) (by assumption) (by assumption) | exact J9 (by decide) O9 (by assumption) | exact J9 (by decide) har.small (by assumption) | exact J9 (by decide) O9 (R8 (by decide) (by assumption) (N6 (by decide))) | exact J9 (by decide) A0p (N6 (by decide)) | assumption, by simp only [E0, H1]; omega⟩)
def O1 (o : Option Ty) (G : IM) : IM → Value → List A4 → Prop := L5 fun G' v => ∃ t cells, v = .tuple ⟨[.agg ⟨cells⟩, .bool o.isSome]⟩ ∧ B3 G' t cells ∧ D8 t ∧ ∀ u, o = some u → u = t
theorem O1.yes {G G' : IM} {o : Option Ty} {t : Ty} {cells : List Value} (h : o = some t) (hr : B3 G' t cells) (ha : D8 t) : O1 o G G' (.tuple ⟨[.agg ⟨cells⟩, .bool true]⟩) [] := by
 subst h; exact ⟨rfl, t, cells, rfl, hr, ha, fun u h => (by cases h; rfl)⟩
theorem O1.no {G G' : IM} {o : Option Ty} {t : Ty} {cells : List Value} (h : o = none) (hr : B3 G' t cells) (ha : D8 t) : O1 o G G' (.tuple ⟨[.agg ⟨cells⟩, .bool false]⟩) [] := by
 subst h; exact ⟨rfl, t, cells, rfl, hr, ha, fun u h => (by cases h)⟩
theorem O1.mk {G G' : IM} {o : Option Ty} {b : Bool} {t : Ty} {cells : List Value} (h : o = if b = true then some t else none) (hr : B3 G' t cells) (ha : D8 t) : O1 o G G' (.tuple ⟨[.agg ⟨cells⟩, .bool b]⟩) [] := by
 cases b
 ·exact O1.no h hr ha
 ·exact O1.yes h hr ha
theorem B4o {t : Ty} (h : C9 t = true) : D8 t := (A0d h).1
theorem A4p (k : Int) (a b : Ty) (G : IM) (ca cb : List Value) (hk : k = 4 ∨ k = 5) (ha : D8 a) (hb : D8 b) (hra : B3 G a ca) (hrb : B3 G b cb) :
  Fn Tryz.prog 100 [.int .i64 k, .agg ⟨ca⟩, .agg ⟨cb⟩] [] G (L5 fun G' v => ∃ cells, v = .tuple ⟨[.agg ⟨cells⟩, .bool (C9 (.mk k [a, b]))]⟩ ∧ B3 G' (.mk k [a, b]) cells) := by
 obtain ⟨ak, aks⟩ := a
 obtain ⟨bk, bks⟩ := b
 obtain ⟨pa, cca, ea, rfl, _⟩ := hra.open
 obtain ⟨pb, ccb, eb, rfl, _⟩ := hrb.open
 have hki : D9 k := ⟨by omega, by omega⟩
 refine B7 Tryz.func100 rfl Tryz.ntmps100 Tryz.results100 rfl ?_
 intro w0
 refine tS (tR ?_)
 refine sE (C2 rfl rfl) rfl (fun b3 => ?_)
 refine sE (C2 rfl rfl) rfl (fun b4 => ?_)
 refine sE (A6 rfl) rfl (fun b5 => ?_)
 refine sQ (qA rfl) rfl (sD (nS (tS ?_)))
 refine E4 E7 rfl ?_
 refine K2 (i := 0) (l' := [tt,ff,ff,ff,ff,ff,ff,ff,ff]) rfl D6 (qM rfl) rfl (by kernel_rfl) rfl rfl ?_
 refine aL 1 rfl (A2 rfl rfl) rfl ?_
 refine aL 3 rfl (A2 rfl rfl) rfl ?_
 refine T6 (j := 2) (j' := 7) (by kernel_rfl) ?_ ?_
 (refine K4 rfl rfl (U6 _ G _ ha.small hra) rfl rfl rfl (fun v G1 hle1 hh => ?_); obtain ⟨cs1, F1, rfl, hs1, hn1⟩ := hh; obtain ⟨p1, c1, rfl, _⟩ := hs1.open; have hC2 := U6 _ G1 _ hb.small (hrb.mono hle1))
 refine T6 (j := 4) (j' := 7) (by kernel_rfl) ?_ ?_
 (refine K4 rfl rfl hC2 rfl rfl rfl (fun v G2 hle2 hh => ?_); obtain ⟨cs2, F2, rfl, hs2, hn2⟩ := hh; obtain ⟨p2, c2, rfl, _⟩ := hs2.open; have hr1 := hs1.R.mono ((C1.le G1 G).trans hle2); have hr2 := hs2.R.mono (C1.le G2 G1))
 refine T6 (j := 5) (j' := 7) (by kernel_rfl) ?_ ?_
 (refine E1 rfl (C3 rfl rfl rfl (by omega) (by unfold maxLen; omega) rfl) rfl rfl ?_; rintro _ ⟨b19, rfl⟩)
 refine aP 6 rfl (S0 rfl rfl) rfl ?_
 refine A3 7 ?_
 (refine E1 rfl (A6 rfl) rfl rfl ?_; rintro _ ⟨b22, rfl⟩)
 refine A3 8 ?_
 refine H6 rfl ?_
 refine C4 (nS (tS ?_))
 (have hr1' := hr1; refine A1z (by repeat (first | exact Pk.here | apply Pk.there)) (fun G5 hle5 hsl5 hno5 => ?_); have hRT : B3 G5 (.mk k [.mk ak aks, .mk bk bks]) _ := B0.ty (ts := [.mk ak aks, .mk bk bks]) (es := [[.int .i64 ak, .slice p1 aks.length c1], [.int .i64 bk, .slice p2 bks.length c2]]) ⟨_, _, rfl, hr1.mono hle5, _, _, rfl, hr2.mono hle5, rfl⟩ rfl hsl5 hki; have hV := A1C _ G5 _ hRT; refine E4 E7 rfl ?_)
 refine P8 (i := 0) (l' := [tt,ff,ff,ff,ff]) rfl D6 (A2 rfl rfl) rfl (by kernel_rfl) rfl rfl ?_
 refine aL 1 rfl (A2 rfl rfl) rfl ?_
 refine A3 2 ?_
 refine P5 rfl rfl (hV) rfl rfl rfl ?_
 refine A3 3 ?_
 refine H6 rfl ?_
 refine aP 4 rfl (qA rfl) rfl ?_
 refine C4 (nS (tT ?_))
 refine E9 (rC rfl (A2 rfl rfl)) (rT rfl) ?_
 (exact ⟨rfl, _, rfl, hRT⟩)
 (refine E1 rfl (A6 rfl) rfl rfl ?_; rintro _ ⟨b41, rfl⟩)
 refine A3 5 ?_
 (refine E1 rfl (C3 rfl rfl rfl (by omega) (by unfold maxLen; omega) rfl) rfl rfl ?_; rintro _ ⟨b43, rfl⟩)
 refine aP 6 rfl (S0 rfl rfl) rfl ?_
 refine A3 8 ?_
 refine H6 rfl ?_
 refine C4 (nS (tS ?_))
 (have hr1' := hr1; refine A1z (by repeat (first | exact Pk.here | apply Pk.there)) (fun G5 hle5 hsl5 hno5 => ?_); have hRT : B3 G5 (.mk k [.mk ak aks, .mk bk bks]) _ := B0.ty (ts := [.mk ak aks, .mk bk bks]) (es := [[.int .i64 ak, .slice p1 aks.length c1], [.int .i64 bk, .slice p2 bks.length c2]]) ⟨_, _, rfl, hr1.mono hle5, _, _, rfl, hr2.mono hle5, rfl⟩ rfl hsl5 hki; have hV := A1C _ G5 _ hRT; refine E4 E7 rfl ?_)
 refine P8 (i := 0) (l' := [tt,ff,ff,ff,ff]) rfl D6 (A2 rfl rfl) rfl (by kernel_rfl) rfl rfl ?_
 refine aL 1 rfl (A2 rfl rfl) rfl ?_
 refine A3 2 ?_
 refine P5 rfl rfl (hV) rfl rfl rfl ?_
 refine A3 3 ?_
 refine H6 rfl ?_
 refine aP 4 rfl (qA rfl) rfl ?_
 refine C4 (nS (tT ?_))
 refine E9 (rC rfl (A2 rfl rfl)) (rT rfl) ?_
 (exact ⟨rfl, _, rfl, hRT⟩)
 (refine E1 rfl (A6 rfl) rfl rfl ?_; rintro _ ⟨b63, rfl⟩)
 refine A3 4 ?_
 (refine K4 rfl rfl hC2 rfl rfl rfl (fun v G2 hle2 hh => ?_); obtain ⟨cs2, F2, rfl, hs2, hn2⟩ := hh; obtain ⟨p2, c2, rfl, _⟩ := hs2.open; have hr1 := hs1.R.mono ((C1.le G1 G).trans hle2); have hr2 := hs2.R.mono (C1.le G2 G1))
 refine A3 5 ?_
 (refine E1 rfl (C3 rfl rfl rfl (by omega) (by unfold maxLen; omega) rfl) rfl rfl ?_; rintro _ ⟨b67, rfl⟩)
 refine aP 6 rfl (S0 rfl rfl) rfl ?_
 refine A3 8 ?_
 refine H6 rfl ?_
 refine C4 (nS (tS ?_))
 (have hr1' := hr1; refine A1z (by repeat (first | exact Pk.here | apply Pk.there)) (fun G5 hle5 hsl5 hno5 => ?_); have hRT : B3 G5 (.mk k [.mk ak aks, .mk bk bks]) _ := B0.ty (ts := [.mk ak aks, .mk bk bks]) (es := [[.int .i64 ak, .slice p1 aks.length c1], [.int .i64 bk, .slice p2 bks.length c2]]) ⟨_, _, rfl, hr1.mono hle5, _, _, rfl, hr2.mono hle5, rfl⟩ rfl hsl5 hki; have hV := A1C _ G5 _ hRT; refine E4 E7 rfl ?_)
 refine P8 (i := 0) (l' := [tt,ff,ff,ff,ff]) rfl D6 (A2 rfl rfl) rfl (by kernel_rfl) rfl rfl ?_
 refine aL 1 rfl (A2 rfl rfl) rfl ?_
 refine A3 2 ?_
 refine P5 rfl rfl (hV) rfl rfl rfl ?_
 refine A3 3 ?_
 refine H6 rfl ?_
 refine aP 4 rfl (qA rfl) rfl ?_
 refine C4 (nS (tT ?_))
 refine E9 (rC rfl (A2 rfl rfl)) (rT rfl) ?_
 (exact ⟨rfl, _, rfl, hRT⟩)
 (refine E1 rfl (A6 rfl) rfl rfl ?_; rintro _ ⟨b87, rfl⟩)
 refine A3 2 ?_
 (refine K4 rfl rfl (U6 _ G _ ha.small hra) rfl rfl rfl (fun v G1 hle1 hh => ?_); obtain ⟨cs1, F1, rfl, hs1, hn1⟩ := hh; obtain ⟨p1, c1, rfl, _⟩ := hs1.open; have hC2 := U6 _ G1 _ hb.small (hrb.mono hle1))
 refine A3 4 ?_
 (refine K4 rfl rfl hC2 rfl rfl rfl (fun v G2 hle2 hh => ?_); obtain ⟨cs2, F2, rfl, hs2, hn2⟩ := hh; obtain ⟨p2, c2, rfl, _⟩ := hs2.open; have hr1 := hs1.R.mono ((C1.le G1 G).trans hle2); have hr2 := hs2.R.mono (C1.le G2 G1))
 refine A3 5 ?_
 (refine E1 rfl (C3 rfl rfl rfl (by omega) (by unfold maxLen; omega) rfl) rfl rfl ?_; rintro _ ⟨b93, rfl⟩)
 refine aP 6 rfl (S0 rfl rfl) rfl ?_
 refine A3 8 ?_
 refine H6 rfl ?_
 refine C4 (nS (tS ?_))
 (have hr1' := hr1; refine A1z (by repeat (first | exact Pk.here | apply Pk.there)) (fun G5 hle5 hsl5 hno5 => ?_); have hRT : B3 G5 (.mk k [.mk ak aks, .mk bk bks]) _ := B0.ty (ts := [.mk ak aks, .mk bk bks]) (es := [[.int .i64 ak, .slice p1 aks.length c1], [.int .i64 bk, .slice p2 bks.length c2]]) ⟨_, _, rfl, hr1.mono hle5, _, _, rfl, hr2.mono hle5, rfl⟩ rfl hsl5 hki; have hV := A1C _ G5 _ hRT; refine E4 E7 rfl ?_)
 refine P8 (i := 0) (l' := [tt,ff,ff,ff,ff]) rfl D6 (A2 rfl rfl) rfl (by kernel_rfl) rfl rfl ?_
 refine aL 1 rfl (A2 rfl rfl) rfl ?_
 refine A3 2 ?_
 refine P5 rfl rfl (hV) rfl rfl rfl ?_
 refine A3 3 ?_
 refine H6 rfl ?_
 refine aP 4 rfl (qA rfl) rfl ?_
 refine C4 (nS (tT ?_))
 refine E9 (rC rfl (A2 rfl rfl)) (rT rfl) ?_
 (exact ⟨rfl, _, rfl, hRT⟩)
theorem A5T (k : Int) (t : Ty) (G : IM) (cells : List Value) (hk : k = 4 ∨ k = 5) (ha : D8 t) (hr : B3 G t cells) :
  Fn Tryz.prog 119 [.int .i64 k, .agg ⟨cells⟩] [] G (A7U k t G) := by
 obtain ⟨tk, ks⟩ := t
 have ha2 := ha
 rw [D8] at ha2
 have hkid := ha.kid
 obtain ⟨p, c, es, rfl, htk, hsl, hkl⟩ := hr.open
 simp only [Ty.k, Ty.ks] at htk hsl hkl ⊢
 refine B7 Tryz.func119 rfl Tryz.ntmps119 Tryz.results119 rfl ?_
 intro w0
 refine tS (tR ?_)
 refine sE (C2 rfl rfl) rfl (fun b3 => ?_)
 refine sE (A6 rfl) rfl (fun b4 => ?_)
 refine sE (A6 rfl) rfl (fun b5 => ?_)
 refine D7 ?_
 refine sB (qE rfl rfl) rfl rfl (fun h14 => ?_) (fun h14 => ?_)
 refine sD (nS (qT rfl (tS (tR ?_))))
 refine H2 rfl ((A09 _)) rfl rfl ?_
 refine H2 rfl ((A09 _)) rfl rfl ?_
 refine F9 ?_
 refine F9 ?_
 refine sQ (qA rfl) rfl (sD (nS (tT (rS ?_))))
 refine E6 (rC rfl (A2 rfl rfl)) (rC rfl (A2 rfl rfl)) (rT rfl) ?_
 (refine ⟨rfl, _, _, _, _, ?_, A0l _, A0l _, A27, A27, ?_⟩ <;> rw [A1u, if_neg (by omega), if_pos (by omega)] <;> first | rfl | (intro p hp; cases hp; rfl))
 refine K6 ?_
 refine sB (R9 rfl rfl) rfl rfl (fun h42 => ?_) (fun h42 => ?_)
 refine M1 ?_
 refine E6 (rC rfl (A2 rfl rfl)) (rC rfl (A2 rfl rfl)) (rT rfl) ?_
 (refine ⟨rfl, A7, _, A7, _, ?_, L4 _ ⟨by omega, by omega⟩, L4 _ ⟨by omega, by omega⟩, S8 (by omega) (by omega), S8 (by omega) (by omega), ?_⟩ <;> rw [A1u, if_neg (by omega), if_neg (by omega)] <;> first | rfl | (intro p hp; cases hp))
 refine sD (nS (cF rfl (tK (nS (tS ?_)))))
 (have hlen : ks.length = 2 := ha2.1 (by omega); obtain ⟨b, o, q0, d0, hp0, hat0, hre0, hg0⟩ := hsl.kidTy hkl (i := 0) (by omega) (by omega); obtain ⟨b', o', q1, d1, hp1, hat1, hre1, hg1⟩ := hsl.kidTy hkl (i := 1) (by omega) (by omega); subst hp0; cases hp1; have hC1 := U6 _ G _ (hkid _ (List.getElem_mem (by omega))).small hre0; refine E4 E7 rfl ?_)
 refine K2 (i := 0) (l' := [tt,ff,ff,ff,ff,ff,ff,ff,ff,ff,ff,ff,ff]) rfl D6 (B8 rfl) rfl (by kernel_rfl) rfl rfl ?_
 refine aL 1 rfl (C7 rfl rfl) rfl ?_
 refine aP 2 rfl (B4 (j := 0) rfl rfl rfl (by omega)) rfl ?_
 refine aL 3 rfl (A5 rfl rfl (hat0 _) rfl) rfl ?_
 refine aP 5 rfl (B8 rfl) rfl ?_
 refine aL 6 rfl (C7 rfl rfl) rfl ?_
 refine aP 7 rfl (B4 (j := 1) rfl rfl rfl (by omega)) rfl ?_
 refine aL 8 rfl (A5 rfl rfl (hat1 _) rfl) rfl ?_
 refine A3 4 ?_
 (refine K4 rfl rfl hC1 rfl rfl rfl (fun v G1 hle1 hh => ?_); obtain ⟨cs1, F1, rfl, hs1, hn1⟩ := hh; obtain ⟨p1, c1, rfl, _⟩ := hs1.open; have hC2 := U6 _ G1 _ (hkid _ (List.getElem_mem (by omega))).small (hre1.mono hle1))
 refine A3 9 ?_
 (refine K4 rfl rfl hC2 rfl rfl rfl (fun v G2 hle2 hh => ?_); obtain ⟨cs2, F2, rfl, hs2, hn2⟩ := hh; obtain ⟨p2, c2, rfl, _⟩ := hs2.open; have hr1 := hs1.R.mono ((C1.le G1 G).trans hle2); have hr2 := hs2.R.mono (C1.le G2 G1))
 refine A3 10 ?_
 refine H6 rfl ?_
 refine A3 11 ?_
 refine U1 rfl rfl rfl rfl rfl rfl rfl rfl (by decide +kernel) (by repeat first | exact Sw.here | apply Sw.there) (by rfl) ?_
 refine aP 12 rfl (qA rfl) rfl ?_
 refine C4 (nS (tT ?_))
 refine E6 (rC rfl (A2 rfl rfl)) (rC rfl (A2 rfl rfl)) (rT rfl) ?_
 (refine ⟨rfl, _, _, _, _, ?_, hr1, hr2, hkid _ (List.getElem_mem (by omega)), hkid _ (List.getElem_mem (by omega)), ?_⟩ <;> rw [A1u, if_pos (by omega)] <;> first | rfl | (intro p hp; cases hp; simp [hlen]))
theorem B4p (G : IM) (cx : Cx) (hv : cxV cx) (p : Option Addr) (n c : Nat) (nm : ByteArray) (hx : S4 G cx p n c) :
  Fn Tryz.prog 82 [.slice p n c, .string nm] [] G (O1 (Z2 cx nm) G) := by
 have hn := hx.le
 refine B7 Tryz.func82 rfl Tryz.ntmps82 Tryz.results82 rfl ?_
 intro w0
 refine tS (tR ?_)
 refine sE (A6 rfl) rfl (fun b3 => ?_)
 refine D7 ?_
 refine sP (O4 rfl rfl (by omega) (by omega)) rfl rfl ?_
 refine sQ (qA rfl) rfl (sD (nS ?_))
 refine B6 ?_
 (refine J3 (fun (i : Nat) => ⟨[(6, .int .i64 ((i : Int) - 1)), (0, .slice p n c), (1, .string nm), (4, .pointer (some ⟨b3, 0, none⟩))], [.blk b3 [.int .i64 0, .slice none 0 0]], G⟩) (fun i => i ≤ n ∧ Z2 cx nm = X0 cx nm i) (fun i => i) n ?_ ?_ ?_)
 exact C5
 (exact ⟨Nat.le_refl _, by unfold Z2; rw [hx.1]⟩)
 (rintro i ⟨hi, hlk⟩)
 refine tS (tS (tR (sQ (qM rfl) rfl ?_)))
 refine sB (A0Q rfl rfl) rfl rfl (fun h25 => ?_) (fun h25 => ?_)
 refine sD (nS (qT rfl (tK (nS (tS ?_)))))
 (show J1 _ _ (.block 1 _) _ _; obtain ⟨j, rfl⟩ : ∃ j, i = j + 1 := ⟨i - 1, by omega⟩; rw [show ((j + 1 : Nat) : Int) - 1 = (j : Int) from by omega]; obtain ⟨b, o, nm1, t1, q1, d1, hcx, rfl, hat, hr1, hgb⟩ := hx.get (i := j) (by omega); have ha1 := B4o (hv _ (List.mem_of_getElem? hcx)); refine B6 ?_)
 refine tS (tR (sQ (qM rfl) rfl (sQ (qM rfl) rfl ?_)))
 refine sP (B4 rfl rfl rfl (by omega)) rfl rfl ?_
 refine sQ (qF rfl) rfl ?_
 refine sL (A0w rfl rfl ((hat _).sub (j := 0) rfl)) rfl rfl ?_
 refine sQ (qM rfl) rfl ?_
 refine sB (A2k rfl rfl) rfl rfl (fun h41 => ?_) (fun h41 => ?_)
 refine D0 ?_
 refine sP (B4 rfl rfl rfl (by omega)) rfl rfl ?_
 refine sQ (qF rfl) rfl ?_
 refine sL (A5 rfl rfl (hat _).drop rfl) rfl rfl ?_
 (refine F4 rfl (U6 _ G _ ha1.small hr1) rfl rfl (fun v G1 hle1 hh => ?_); obtain ⟨cs1, F1, rfl, hs1', hn1⟩ := hh; obtain ⟨p1, c1, rfl, _⟩ := hs1'.open; have hrr := hs1'.R.mono (C1.le G1 G))
 refine L6 ?_
 refine E9 (rC rfl (A2 rfl rfl)) (rT rfl) ?_
 (exact O1.yes (by rw [hlk]; exact A5c hcx (by assumption)) hrr ha1)
 refine D7 ?_
 refine sP (O4 rfl rfl (by omega) (by omega)) rfl rfl ?_
 refine sQ (qA rfl) rfl (sD ?_)
 refine I9 j ?_ ?_ ?_
 exact C5
 (exact ⟨by omega, by rw [hlk]; exact A5d hcx (by assumption)⟩)
 (show _ < _ + 1; omega)
 refine K8 ?_
 refine E9 (rC rfl (A2 rfl rfl)) (rT rfl) ?_
 (obtain rfl : i = 0 := (by omega); exact O1.no (by rw [hlk]; rfl) (L4 _ ⟨by omega, by omega⟩) (S8 (by omega) (by omega)))
theorem A4q : ∀ (xs ys : List Ty), xs.length = ys.length → (R7 xs ys).length = xs.length
 | [], [], _ => rfl
 | a :: xs, b :: ys, h => by simp only [R7, List.length_cons]; rw [A4q xs ys (by simpa using h)]
 | [], b :: ys, h => by simp at h
 | a :: xs, [], h => by simp at h
theorem A5U : ∀ (xs ys : List Ty) (i : Nat) (h : i < xs.length) (h' : i < ys.length) (hl : i < (R7 xs ys).length), (R7 xs ys)[i] = T5 xs[i] ys[i]
 | [], _, i, h, _, _ => by simp at h
 | a :: xs, [], i, _, h', _ => by simp at h'
 | a :: xs, b :: ys, 0, _, _, _ => by simp [R7]
 | a :: xs, b :: ys, i + 1, h, h', hl => by
  simp only [R7, List.getElem_cons_succ]
  exact A5U xs ys i (by simpa using h) (by simpa using h') _
theorem B4q {xs ys : List Ty} {i : Nat} (hl : xs.length = ys.length) (h : i < xs.length) : (R7 xs ys).take (i + 1) = (R7 xs ys).take i ++ [T5 xs[i] (ys[i]'(by omega))] := by
 rw [List.take_succ_eq_append_getElem (by rw [A4q _ _ hl]; exact h), A5U _ _ i h (by omega)]
theorem B4r : ∀ (a b : Ty) (G : IM) (ca cb : List Value), J7 a b = true → D8 a → D8 b → B3 G a ca → B3 G b cb → Fn Tryz.prog 120 [.agg ⟨ca⟩, .agg ⟨cb⟩] [] G (L5 fun G' v => ∃ cells, v = .agg ⟨cells⟩ ∧ B3 G' (T5 a b) cells) := by
 refine Ty.ind fun ak aks ih b G ca cb hc ha hb hra hrb => ?_
 obtain ⟨bk, bks⟩ := b
 have hka := ha.kid
 have hkb := hb.kid
 have hca := U6 _ G _ ha.small hra
 have hcb := U6 _ G _ hb.small hrb
 have hcc : ak ≠ 1 → bk ≠ 1 → aks.length = bks.length ∧ ∀ i, (h : i < aks.length) → (h' : i < bks.length) → J7 aks[i] bks[i] = true := by
  intro h1 h2
  rw [S2, decide_eq_false h1, decide_eq_false h2] at hc
  simp only [Bool.false_or, Bool.and_eq_true, decide_eq_true_eq] at hc
  exact (A10 _ _).1 hc.2
 rw [A0W]
 obtain ⟨pa, cca, ea, rfl, hak, hsla, hkla⟩ := hra.open
 obtain ⟨pb, ccb, eb, rfl, hbk, hslb, hklb⟩ := hrb.open
 simp only [Ty.k, Ty.ks] at hak hsla hkla hbk hslb hklb ⊢
 have hna := hsla.le
 have hnb := hslb.le
 have hl2 := ha.two
 refine B7 Tryz.func120 rfl Tryz.ntmps120 Tryz.results120 rfl ?_
 intro w0
 refine tS (tR ?_)
 refine sE (C2 rfl rfl) rfl (fun b3 => ?_)
 refine sE (C2 rfl rfl) rfl (fun b4 => ?_)
 refine sE (A6 rfl) rfl (fun b5 => ?_)
 refine D0 ?_
 refine sB (qE rfl rfl) rfl rfl (fun h13 => ?_) (fun h13 => ?_)
 refine sD (nS (qT rfl (tS (tR (sL (A2 rfl rfl) rfl rfl ?_)))))
 (refine F4 rfl (by first | exact hcb | exact hca) rfl rfl (fun v G1 hle1 hh => ?_); obtain ⟨cs1, F1, rfl, hs1, hn1⟩ := hh; obtain ⟨p1, c1, rfl, _⟩ := hs1.open; have hr1 := hs1.R.mono (C1.le G1 G))
 refine F9 ?_
 refine sD (nS (tT (rS ?_)))
 refine F0 (rC rfl (A2 rfl rfl)) ?_
 (rw [if_pos (by omega)]; exact ⟨rfl, _, rfl, hr1⟩)
 refine L6 ?_
 refine sB (qE rfl rfl) rfl rfl (fun h38 => ?_) (fun h38 => ?_)
 refine sD (nS (qT rfl (tS (tR (sL (A2 rfl rfl) rfl rfl ?_)))))
 (refine F4 rfl (by first | exact hcb | exact hca) rfl rfl (fun v G1 hle1 hh => ?_); obtain ⟨cs1, F1, rfl, hs1, hn1⟩ := hh; obtain ⟨p1, c1, rfl, _⟩ := hs1.open; have hr1 := hs1.R.mono (C1.le G1 G))
 refine F9 ?_
 refine sD (nS (tT (rS ?_)))
 refine F0 (rC rfl (A2 rfl rfl)) ?_
 (rw [if_neg (by omega), if_pos (by omega)]; exact ⟨rfl, _, rfl, hr1⟩)
 refine L6 ?_
 refine sE (A6 rfl) rfl (fun b63 => ?_)
 refine F9 ?_
 refine sD (nS (tS (tS (tR (sQ (qA rfl) rfl (sD (nS ?_)))))))
 refine B6 ?_
 (obtain ⟨hlab, hcab⟩ := hcc (by omega) (by omega); refine T7 25 2 ?_; refine J3 (fun (x : Nat × Option Addr × Nat × List Ty × List (List Value) × IM) => ⟨[(6, .int .i64 x.1), (5, .pointer (some ⟨b63, 0, none⟩)), (4, .pointer (some ⟨b5, 0, none⟩)), (2, .pointer (some ⟨b3, 0, none⟩)), (3, .pointer (some ⟨b4, 0, none⟩))], [.blk b63 [.int .i64 ak, .slice x.2.1 x.1 x.2.2.1], .slc x.2.1 x.2.2.1 25 2 x.1 x.2.2.2.2.1.flatten, .blk b5 [.int .i64 0, .slice none 0 0], .blk b4 [.int .i64 bk, .slice pb bks.length ccb], .blk b3 [.int .i64 ak, .slice pa aks.length cca]], x.2.2.2.2.2⟩) (fun x => x.1 ≤ aks.length ∧ B1 G x.2.2.2.2.2 ∧ x.2.2.2.1.length = x.1 ∧ B0 x.2.2.2.2.2 x.2.2.2.1 x.2.2.2.2.1 ∧ x.2.2.2.1 = (R7 aks bks).take x.1) (fun x => aks.length - x.1) (0, none, 0, [], [], G) ?_ ?_ ?_)
 (simp only [E2]; exact C5)
 (exact ⟨by simp, B1.refl _, rfl, by simp [B0], rfl⟩)
 (rintro ⟨i, pn, cn, us, es', Gi⟩ ⟨hi, hle, hlu, hst, hus⟩; simp only [] at hi hle hlu hst hus ⊢; replace hsla := hsla.mono hle; replace hkla := hkla.mono hle; replace hslb := hslb.mono hle; replace hklb := hklb.mono hle)
 refine D0 ?_
 refine sB (J6 rfl rfl) rfl rfl (fun h85 => ?_) (fun h85 => ?_)
 refine sD (nS (qT rfl (tK (nS (tS ?_)))))
 refine B6 ?_
 (obtain ⟨b, o, q0, d0, hp0, hat0, hre0, hg0⟩ := hsla.kidTy hkla (i := i) (by omega) (by omega); obtain ⟨b', o', q1, d1, hp1, hat1, hre1, hg1⟩ := hslb.kidTy hklb (i := i) (by omega) (by omega); subst hp0; subst hp1; have hih := ih aks[i] (List.getElem_mem (by omega)) bks[i] Gi _ _ (hcab i (by omega) (by omega)) (hka _ (List.getElem_mem (by omega))) (hkb _ (List.getElem_mem (by omega))) hre0 hre1; refine E4 E7 rfl ?_)
 refine K2 (i := 0) (l' := [tt,ff,ff,ff,ff,ff,ff,ff,ff,ff,ff,ff,ff,ff,ff,ff,ff]) rfl D6 (B8 rfl) rfl (by kernel_rfl) rfl rfl ?_
 refine aL 1 rfl (C7 rfl rfl) rfl ?_
 refine aP 2 rfl (B8 rfl) rfl ?_
 refine aL 3 rfl (C7 rfl rfl) rfl ?_
 refine aP 4 rfl (qM rfl) rfl ?_
 refine aP 5 rfl (B4 rfl rfl rfl (by omega)) rfl ?_
 refine aL 6 rfl (A5 rfl rfl (hat0 _) rfl) rfl ?_
 refine aP 7 rfl (B8 rfl) rfl ?_
 refine aL 8 rfl (C7 rfl rfl) rfl ?_
 refine aP 9 rfl (qM rfl) rfl ?_
 refine aP 10 rfl (B4 rfl rfl rfl (by omega)) rfl ?_
 refine aL 11 rfl (A5 rfl rfl (hat1 _) rfl) rfl ?_
 refine A3 12 ?_
 (refine K4 rfl rfl hih rfl rfl rfl (fun v G1 hle1 hh => ?_); obtain ⟨cells', rfl, hru⟩ := hh; generalize hu : T5 aks[i] bks[i] = u at hru; obtain ⟨p3, c3, es3, rfl, _⟩ := hru.open)
 refine A3 13 ?_
 (refine E1 rfl (C3 rfl rfl rfl (by omega) (by unfold maxLen; omega) rfl) rfl rfl ?_; rintro _ ⟨b109, rfl⟩)
 refine A3 14 ?_
 refine T3 rfl rfl rfl rfl rfl rfl (fun _ _ => by repeat (first | exact Sw.here | apply Sw.there)) (N2 (by repeat first | exact mH | apply mT)) rfl (by simp [Value.oneCell']) (by unfold maxLen; omega) (by omega) rfl rfl (by repeat (first | exact A8.nil | apply A8.dep (by decide +kernel) | apply A8.blk (by decide +kernel) (by repeat (first | exact Pk.here | apply Pk.there)) (by repeat first | exact mH | apply mT))) (fun pn' cn' => ?_)
 refine aP 15 rfl (B8 rfl) rfl ?_
 refine A3 16 ?_
 refine U1 rfl rfl rfl rfl rfl rfl rfl rfl (by decide +kernel) (by repeat first | exact Sw.here | apply Sw.there) (by rfl) ?_
 refine C4 (M9 (nS (tR (sQ (qM rfl) rfl ?_))))
 refine sP (I2 rfl rfl (by omega) (by omega)) rfl rfl ?_
 refine sQ (qA rfl) rfl (sD ?_)
 refine I9 (i + 1, pn', cn', us ++ [u], es' ++ [[.int .i64 u.k, .slice p3 u.ks.length c3]], G1) ?_ ?_ ?_
 (simp only [E2]; exact C5)
 (dsimp only; exact ⟨by omega, hle.trans hle1, by simp [hlu], B0.snoc (hst.mono hle1) hru, by rw [B4q hlab (by omega), ← hus, hu]⟩)
 (show aks.length - (i + 1) < aks.length - i; omega)
 refine M1 ?_
 (refine H8 (by repeat (first | exact Pk.here | apply Pk.there)) (fun G2 hle2 hsl2 hno2 => ?_); obtain rfl : i = aks.length := (by omega))
 refine tT ?_
 refine F0 (rC rfl (A2 rfl rfl)) ?_
 (rw [List.take_of_length_le (by rw [A4q _ _ hlab]; omega)] at hus; rw [if_neg (by omega), if_neg (by omega), ← hus]; exact ⟨rfl, _, rfl, (hst.mono hle2).ty hlu hsl2 hak⟩)
theorem gD {ts : List Ty} {i : Nat} (h : i < ts.length) : ts.getD i A7 = ts[i] := by rw [List.getD_eq_getElem?_getD, List.getElem?_eq_getElem h, Option.getD_some]
section
variable {cx : Cx} {k : Int} {nm : ByteArray} {ty : Ty} {ts : List Ty}
theorem A9k (h : 1 < ts.length) : W5 cx 6 nm ty ts = match R3 4 ts[0] with | some (a, b) => if J7 ts[1] a = true then some b else none | none => none := by
 unfold W5 M5
 rw [gD (i := 0) (by omega), gD (i := 1) h]
 simp only [show ¬((6 : Int) = 1) by decide, show ¬((6 : Int) = 2) by decide, show ¬((6 : Int) = 3 ∨ (6 : Int) = 4) by decide, show ¬((6 : Int) = 5) by decide, if_false, if_true]
 cases R3 4 ts[0] with
 | none => rfl
 | some p =>
  obtain ⟨a, b⟩ := p
  by_cases hc : J7 ts[1] a = true
  ·simp [hc]
  ·simp [hc]
theorem A4r (hk : k = 7 ∨ k = 8) (h : 1 < ts.length) : W5 cx k nm ty ts = if J7 ts[0] S3 = true ∧ J7 ts[1] S3 = true then some (if k = 8 then W9 else S3) else none := by
 unfold W5 M5
 rw [gD (i := 0) (by omega), gD (i := 1) h, if_neg (by omega), if_neg (by omega), if_neg (by omega), if_neg (by omega), if_neg (by omega), if_pos hk]
 by_cases hc : J7 ts[0] S3 = true ∧ J7 ts[1] S3 = true
 ·rw [if_pos hc, if_pos hc]; simp only; rw [if_neg (by omega)]
 ·rw [if_neg hc, if_neg hc]
theorem A9l (h : 2 < ts.length) : W5 cx 9 nm ty ts = if J7 ts[0] W9 = true ∧ J7 ts[1] ts[2] = true then some (T5 ts[1] ts[2]) else none := by
 unfold W5 M5
 rw [gD (i := 0) (by omega), gD (i := 1) (by omega), gD (i := 2) h, if_neg (by omega), if_neg (by omega), if_neg (by omega), if_neg (by omega), if_neg (by omega), if_neg (by omega), if_pos rfl]
 by_cases hc : J7 ts[0] W9 = true ∧ J7 ts[1] ts[2] = true
 ·rw [if_pos hc, if_pos hc]; simp
 ·rw [if_neg hc, if_neg hc]
theorem B4s (h : 1 < ts.length) : W5 cx 10 nm ty ts = if C9 (.mk 5 [ts[0], ts[1]]) = true then some (.mk 5 [ts[0], ts[1]]) else none := by
 unfold W5 M5
 rw [gD (i := 0) (by omega), gD (i := 1) h, if_neg (by omega), if_neg (by omega), if_neg (by omega), if_neg (by omega), if_neg (by omega), if_neg (by omega), if_neg (by omega), if_pos rfl]
 cases hv : C9 (.mk 5 [ts[0], ts[1]]) <;> simp [hv]
theorem B4t (h : 0 < ts.length) : W5 cx 13 nm ty ts = if J7 ts[0] ty = true then some ty else none := by
 unfold W5 M5
 rw [gD (i := 0) h, if_neg (by omega), if_neg (by omega), if_neg (by omega), if_neg (by omega), if_neg (by omega), if_neg (by omega), if_neg (by omega), if_neg (by omega), if_pos rfl]
 by_cases hc : J7 ts[0] ty = true
 ·rw [if_pos hc, if_pos hc]; simp
 ·rw [if_neg hc, if_neg hc]
theorem A4s (hk : k = 11 ∨ k = 12) (h : 0 < ts.length) : W5 cx k nm ty ts = match R3 5 ts[0] with | some (a, b) => some (if k = 12 then b else a) | none => none := by
 unfold W5 M5
 rw [gD (i := 0) h, if_neg (by omega), if_neg (by omega), if_neg (by omega), if_neg (by omega), if_neg (by omega), if_neg (by omega), if_neg (by omega), if_neg (by omega), if_neg (by omega)]
 cases R3 5 ts[0] with
 | none => rfl
 | some p =>
  obtain ⟨a, b⟩ := p
  simp only
  rw [if_neg (by omega)]
end
theorem B4u : ∀ (a b : Ty), J7 a b = true → D8 a → D8 b → D8 (T5 a b) := by
 refine Ty.ind fun k ks ih b hc ha hb => ?_
 obtain ⟨k', ks'⟩ := b
 rw [A0W]
 split
 ·exact hb
 ·split
  ·exact ha
  ·rw [S2] at hc
   simp only [Bool.or_eq_true, Bool.and_eq_true, decide_eq_true_eq] at hc
   obtain ⟨hk, hl⟩ : k = k' ∧ N0 ks ks' = true := by
    rcases hc with (h | h) | h
    ·contradiction
    ·contradiction
    ·exact h
   obtain ⟨hll, hcc⟩ := (A10 _ _).1 hl
   have hlen := A4q ks ks' hll
   refine A7F ha hlen fun u hu => ?_
   obtain ⟨i, hi, rfl⟩ := List.mem_iff_getElem.1 hu
   rw [A5U ks ks' i (by omega) (by omega)]
   exact ih _ (List.getElem_mem _) _ (hcc i (by omega) (by omega)) (ha.kid _ (List.getElem_mem _)) (hb.kid _ (List.getElem_mem _))
theorem B4v (cx : Cx) (k : Int) (nm : ByteArray) (num : Int) (ty fr : Ty) (lb : Int) (ks : List Tm) (ts : List Ty) (G : IM) (cells : List Value) (p : Option Addr) (c : Nat) (es : List (List Value))
  (hops : D1 k = ts.length) (hk6 : 6 ≤ k ∧ k ≤ 13) (hty : D8 ty) (hr : A9 G (.mk k nm num ty fr lb ks) cells) (hsl : B9 G p ts.length c 2 es) (hkl : B0 G ts es) (har : ∀ t ∈ ts, D8 t) :
  Fn Tryz.prog 101 [.agg ⟨cells⟩, .slice p ts.length c] [] G (O1 (W5 cx k nm ty ts) G) := by
 have hone := hr.one
 have hop := A35 hops
 have ha0 := fun h : 0 < ts.length => har _ (List.getElem_mem h)
 have ha1 := fun h : 1 < ts.length => har _ (List.getElem_mem h)
 have ha2 := fun h : 2 < ts.length => har _ (List.getElem_mem h)
 obtain ⟨tk, tks⟩ := ty
 obtain ⟨fk, fks⟩ := fr
 obtain ⟨pt, ct, pf, cf, pk, ck, ek, rfl, hk, hnum, hlb, hrty, hrfr, _, _⟩ := hr.open9
 refine B7 Tryz.func101 rfl Tryz.ntmps101 Tryz.results101 rfl ?_
 intro w0
 refine tS (tR ?_)
 refine sE (C2 rfl rfl) rfl (fun b3 => ?_)
 refine sE (A6 rfl) rfl (fun b4 => ?_)
 refine L6 ?_
 refine B6 (tS (tR (sB (qE rfl rfl) rfl rfl (fun h18 => ?_) (fun h18 => ?_))))
 refine D0 ?_
 (have hl2 : ts.length = 2 := hop.1 (by omega); obtain ⟨b0, o0, q0, d0, hp0, hat0, hre0, hg0⟩ := hsl.kidTy hkl (i := 0) (by omega) (by omega); obtain ⟨b1, o1, q1, d1, hp1, hat1, hre1, hg1⟩ := hsl.kidTy hkl (i := 1) (by omega) (by omega); cases hp0; cases hp1; refine sP (B4 (j := 0) rfl rfl rfl (by omega)) rfl rfl ?_)
 refine sL (A5 rfl rfl (hat0 _) rfl) rfl rfl ?_
 focus (refine F4 rfl (A5T 4 ts[0] G _ (.inl rfl) (ha0 (by omega)) hre0) rfl rfl (fun v G1 hle1 hh => ?_); obtain ⟨ma, mca, mb, mcb, rfl, hma, hmb, hma2, hmb2, hpp⟩ := hh; obtain ⟨p1, c1, e1, rfl, _⟩ := hma.open; obtain ⟨p2, c2, e2, rfl, _⟩ := hmb.open; replace hsl := hsl.mono hle1; replace hkl := hkl.mono hle1; rcases hm : R3 4 ts[0] with _ | pr; rotate_left; obtain rfl := hpp _ hm; rotate_left; all_goals simp only [Option.isSome])
 refine J5 ?_
 refine sE (A6 rfl) rfl (fun b33 => ?_)
 refine sE (A6 rfl) rfl (fun b34 => ?_)
 refine F9 ?_
 refine F9 ?_
 refine sQ (qA rfl) rfl (sD (nS (tS ?_)))
 (have hl2 : ts.length = 2 := hop.1 (by omega); obtain ⟨b0, o0, q0, d0, hp0, hat0, hre0, hg0⟩ := hsl.kidTy hkl (i := 0) (by omega) (by omega); obtain ⟨b1, o1, q1, d1, hp1, hat1, hre1, hg1⟩ := hsl.kidTy hkl (i := 1) (by omega) (by omega); cases hp0; cases hp1; refine E4 E7 rfl ?_)
 refine P8 (i := 0) (l' := [tt,ff,ff,ff,ff,ff,ff,ff,ff,ff,ff]) rfl D6 (A2 rfl rfl) rfl (by kernel_rfl) rfl rfl ?_
 refine aP 1 rfl (qM rfl) rfl ?_
 refine aP 2 rfl (qM rfl) rfl ?_
 refine E5 3 rfl rfl rfl ?_
 refine E5 4 rfl rfl rfl ?_
 refine E5 5 rfl rfl rfl ?_
 refine E5 6 rfl rfl rfl ?_
 refine E5 7 rfl rfl rfl ?_
 refine aP 8 rfl (S5 rfl rfl) rfl ?_
 refine A3 9 ?_
 refine H6 rfl ?_
 refine aP 10 rfl (qA rfl) rfl ?_
 refine C4 (nS (tT (rB (rS ?_))))
 refine E9 (rC rfl (A2 rfl rfl)) (rT rfl) ?_
 (obtain rfl : k = 6 := (by omega); exact O1.no (by rw [A9k (by omega), hm]) hmb hmb2)
 refine J5 ?_
 refine sE (A6 rfl) rfl (fun b65 => ?_)
 refine sE (A6 rfl) rfl (fun b66 => ?_)
 refine F9 ?_
 refine F9 ?_
 refine sQ (qA rfl) rfl (sD (nS (tS ?_)))
 (have hl2 : ts.length = 2 := hop.1 (by omega); obtain ⟨b0, o0, q0, d0, hp0, hat0, hre0, hg0⟩ := hsl.kidTy hkl (i := 0) (by omega) (by omega); obtain ⟨b1, o1, q1, d1, hp1, hat1, hre1, hg1⟩ := hsl.kidTy hkl (i := 1) (by omega) (by omega); cases hp0; cases hp1; refine E4 E7 rfl ?_)
 refine P8 (i := 0) (l' := [tt,ff,ff,ff,ff,ff,ff,ff,ff,ff,ff]) rfl D6 (A2 rfl rfl) rfl (by kernel_rfl) rfl rfl ?_
 refine aP 1 rfl (qM rfl) rfl ?_
 refine aP 2 rfl (qM rfl) rfl ?_
 refine aP 3 rfl (qM rfl) rfl ?_
 refine aP 4 rfl (B4 (j := 1) rfl rfl rfl (by omega)) rfl ?_
 refine aL 5 rfl (A5 rfl rfl (hat1 _) rfl) rfl ?_
 refine aL 6 rfl (A2 rfl rfl) rfl ?_
 refine A3 7 ?_
 refine P5 rfl rfl ((A1r ts[1] ma _ _ _ (ha1 (by omega)) hma2 hre1 hma)) rfl rfl rfl ?_
 refine aP 8 rfl (O2 rfl rfl) rfl ?_
 refine A3 9 ?_
 refine H6 rfl ?_
 refine aP 10 rfl (qA rfl) rfl ?_
 refine C4 (nS (tT (rB (rS ?_))))
 refine E9 (rC rfl (A2 rfl rfl)) (rT rfl) ?_
 (obtain rfl : k = 6 := (by omega); exact O1.mk (by rw [A9k (by omega), hm]) hmb hmb2)
 refine sQ (qA rfl) rfl (sD (nS (cF rfl (tS (tR ?_)))))
 refine sB (qE rfl rfl) rfl rfl (fun h100 => ?_) (fun h100 => ?_)
 refine sQ (qA rfl) rfl (sD (nS (qT rfl (tS ?_))))
 (have hl2 : ts.length = 2 := hop.1 (by omega); obtain ⟨b0, o0, q0, d0, hp0, hat0, hre0, hg0⟩ := hsl.kidTy hkl (i := 0) (by omega) (by omega); obtain ⟨b1, o1, q1, d1, hp1, hat1, hre1, hg1⟩ := hsl.kidTy hkl (i := 1) (by omega) (by omega); cases hp0; cases hp1; refine E4 E7 rfl ?_)
 refine K2 (i := 1) (l' := [ff,tt,ff,ff,ff,ff,ff,ff,ff,ff,ff,ff,ff,ff,ff]) rfl D6 (qM rfl) rfl (by kernel_rfl) rfl rfl ?_
 refine aP 2 rfl (B4 (j := 0) rfl rfl rfl (by omega)) rfl ?_
 refine aL 3 rfl (A5 rfl rfl (hat0 _) rfl) rfl ?_
 refine A3 0 ?_
 refine P5 rfl rfl ((A0Y _)) rfl rfl rfl ?_
 refine A3 4 ?_
 refine P5 rfl rfl ((A0Y _)) rfl rfl rfl ?_
 refine A3 5 ?_
 refine U9 rfl rfl ((A1r ts[0] (.mk 2 []) _ _ _ (ha0 (by omega)) (S8 (by decide) (by decide)) hre0 (L4 _ ⟨by omega, by omega⟩))) rfl rfl rfl (fun h115 => ?_) (fun h115 => ?_)
 refine aP 6 rfl (qM rfl) rfl ?_
 refine aP 7 rfl (qM rfl) rfl ?_
 refine aP 8 rfl (B4 (j := 1) rfl rfl rfl (by omega)) rfl ?_
 refine aL 9 rfl (A5 rfl rfl (hat1 _) rfl) rfl ?_
 refine A3 10 ?_
 refine P5 rfl rfl ((A0Y _)) rfl rfl rfl ?_
 refine A3 11 ?_
 refine P5 rfl rfl ((A1r ts[1] (.mk 2 []) _ _ _ (ha1 (by omega)) (S8 (by decide) (by decide)) hre1 (L4 _ ⟨by omega, by omega⟩))) rfl rfl rfl ?_
 refine aP 12 rfl (O2 rfl rfl) rfl ?_
 refine A3 13 ?_
 refine H6 rfl ?_
 refine aP 14 rfl (qA rfl) rfl ?_
 refine C4 (nS (tT (rB (rS ?_))))
 refine E9 (rC rfl (A2 rfl rfl)) (rT rfl) ?_
 (have hk7 : k = 7 := (by omega); exact O1.mk (by rw [A4r (.inl hk7) (by omega)]; simp_all [S3]) (L4 _ ⟨by omega, by omega⟩) (S8 (by omega) (by omega)))
 refine aP 6 rfl (qM rfl) rfl ?_
 refine E5 7 rfl rfl rfl ?_
 refine E5 8 rfl rfl rfl ?_
 refine E5 9 rfl rfl rfl ?_
 refine E5 10 rfl rfl rfl ?_
 refine E5 11 rfl rfl rfl ?_
 refine aP 12 rfl (S5 rfl rfl) rfl ?_
 refine A3 13 ?_
 refine H6 rfl ?_
 refine aP 14 rfl (qA rfl) rfl ?_
 refine C4 (nS (tT (rB (rS ?_))))
 refine E9 (rC rfl (A2 rfl rfl)) (rT rfl) ?_
 (have hk7 : k = 7 := (by omega); exact O1.mk (by rw [A4r (.inl hk7) (by omega)]; simp_all [S3]) (L4 _ ⟨by omega, by omega⟩) (S8 (by omega) (by omega)))
 refine sQ (qA rfl) rfl (sD (nS (cF rfl (tS (tR ?_)))))
 refine sB (qE rfl rfl) rfl rfl (fun h158 => ?_) (fun h158 => ?_)
 refine sQ (qA rfl) rfl (sD (nS (qT rfl (tS ?_))))
 (have hl2 : ts.length = 2 := hop.1 (by omega); obtain ⟨b0, o0, q0, d0, hp0, hat0, hre0, hg0⟩ := hsl.kidTy hkl (i := 0) (by omega) (by omega); obtain ⟨b1, o1, q1, d1, hp1, hat1, hre1, hg1⟩ := hsl.kidTy hkl (i := 1) (by omega) (by omega); cases hp0; cases hp1; refine E4 E7 rfl ?_)
 refine K2 (i := 1) (l' := [ff,tt,ff,ff,ff,ff,ff,ff,ff,ff,ff,ff,ff,ff,ff]) rfl D6 (qM rfl) rfl (by kernel_rfl) rfl rfl ?_
 refine aP 2 rfl (B4 (j := 0) rfl rfl rfl (by omega)) rfl ?_
 refine aL 3 rfl (A5 rfl rfl (hat0 _) rfl) rfl ?_
 refine A3 0 ?_
 refine P5 rfl rfl ((A2t _)) rfl rfl rfl ?_
 refine A3 4 ?_
 refine P5 rfl rfl ((A0Y _)) rfl rfl rfl ?_
 refine A3 5 ?_
 refine U9 rfl rfl ((A1r ts[0] (.mk 2 []) _ _ _ (ha0 (by omega)) (S8 (by decide) (by decide)) hre0 (L4 _ ⟨by omega, by omega⟩))) rfl rfl rfl (fun h173 => ?_) (fun h173 => ?_)
 refine aP 6 rfl (qM rfl) rfl ?_
 refine aP 7 rfl (qM rfl) rfl ?_
 refine aP 8 rfl (B4 (j := 1) rfl rfl rfl (by omega)) rfl ?_
 refine aL 9 rfl (A5 rfl rfl (hat1 _) rfl) rfl ?_
 refine A3 10 ?_
 refine P5 rfl rfl ((A0Y _)) rfl rfl rfl ?_
 refine A3 11 ?_
 refine P5 rfl rfl ((A1r ts[1] (.mk 2 []) _ _ _ (ha1 (by omega)) (S8 (by decide) (by decide)) hre1 (L4 _ ⟨by omega, by omega⟩))) rfl rfl rfl ?_
 refine aP 12 rfl (O2 rfl rfl) rfl ?_
 refine A3 13 ?_
 refine H6 rfl ?_
 refine aP 14 rfl (qA rfl) rfl ?_
 refine C4 (nS (tT (rB (rS ?_))))
 refine E9 (rC rfl (A2 rfl rfl)) (rT rfl) ?_
 (have hk8 : k = 8 := (by omega); exact O1.mk (by rw [A4r (.inr hk8) (by omega)]; simp_all [S3, W9]) (L4 _ ⟨by omega, by omega⟩) (S8 (by omega) (by omega)))
 refine aP 6 rfl (qM rfl) rfl ?_
 refine E5 7 rfl rfl rfl ?_
 refine E5 8 rfl rfl rfl ?_
 refine E5 9 rfl rfl rfl ?_
 refine E5 10 rfl rfl rfl ?_
 refine E5 11 rfl rfl rfl ?_
 refine aP 12 rfl (S5 rfl rfl) rfl ?_
 refine A3 13 ?_
 refine H6 rfl ?_
 refine aP 14 rfl (qA rfl) rfl ?_
 refine C4 (nS (tT (rB (rS ?_))))
 refine E9 (rC rfl (A2 rfl rfl)) (rT rfl) ?_
 (have hk8 : k = 8 := (by omega); exact O1.mk (by rw [A4r (.inr hk8) (by omega)]; simp_all [S3, W9]) (L4 _ ⟨by omega, by omega⟩) (S8 (by omega) (by omega)))
 refine sQ (qA rfl) rfl (sD (nS (cF rfl (tS (tR ?_)))))
 refine sB (qE rfl rfl) rfl rfl (fun h216 => ?_) (fun h216 => ?_)
 refine sQ (qA rfl) rfl (sD (nS (qT rfl (tS (tS ?_)))))
 (have hl3 : ts.length = 3 := hop.2.1 (by omega); obtain ⟨b0, o0, q0, d0, hp0, hat0, hre0, hg0⟩ := hsl.kidTy hkl (i := 0) (by omega) (by omega); obtain ⟨b1, o1, q1, d1, hp1, hat1, hre1, hg1⟩ := hsl.kidTy hkl (i := 1) (by omega) (by omega); obtain ⟨b2, o2, q2, d2, hp2, hat2, hre2, hg2⟩ := hsl.kidTy hkl (i := 2) (by omega) (by omega); cases hp0; cases hp1; cases hp2; refine E4 E7 rfl ?_)
 refine K2 (i := 0) (l' := [tt,ff,ff,ff,ff,ff,ff,ff]) rfl D6 (qM rfl) rfl (by kernel_rfl) rfl rfl ?_
 refine aP 1 rfl (B4 (j := 1) rfl rfl rfl (by omega)) rfl ?_
 refine aL 2 rfl (A5 rfl rfl (hat1 _) rfl) rfl ?_
 refine aP 3 rfl (qM rfl) rfl ?_
 refine aP 4 rfl (B4 (j := 2) rfl rfl rfl (by omega)) rfl ?_
 refine aL 5 rfl (A5 rfl rfl (hat2 _) rfl) rfl ?_
 refine A3 6 ?_
 refine U9 rfl rfl ((A1r ts[1] ts[2] _ _ _ (ha1 (by omega)) (ha2 (by omega)) hre1 hre2)) rfl rfl rfl (fun h231 => ?_) (fun h231 => ?_)
 refine aP 7 rfl (pNt rfl) rfl ?_
 refine C4 (nS (cF rfl (tK (nS (tS ?_)))))
 (have hl3 : ts.length = 3 := hop.2.1 (by omega); obtain ⟨b0, o0, q0, d0, hp0, hat0, hre0, hg0⟩ := hsl.kidTy hkl (i := 0) (by omega) (by omega); obtain ⟨b1, o1, q1, d1, hp1, hat1, hre1, hg1⟩ := hsl.kidTy hkl (i := 1) (by omega) (by omega); obtain ⟨b2, o2, q2, d2, hp2, hat2, hre2, hg2⟩ := hsl.kidTy hkl (i := 2) (by omega) (by omega); cases hp0; cases hp1; cases hp2; refine E4 E7 rfl ?_)
 refine K2 (i := 0) (l' := [tt,ff,ff,ff,ff,ff,ff,ff,ff,ff,ff,ff,ff,ff]) rfl D6 (qM rfl) rfl (by kernel_rfl) rfl rfl ?_
 refine aP 1 rfl (B4 (j := 1) rfl rfl rfl (by omega)) rfl ?_
 refine aL 2 rfl (A5 rfl rfl (hat1 _) rfl) rfl ?_
 refine aP 3 rfl (qM rfl) rfl ?_
 refine aP 4 rfl (B4 (j := 2) rfl rfl rfl (by omega)) rfl ?_
 refine aL 5 rfl (A5 rfl rfl (hat2 _) rfl) rfl ?_
 refine aP 7 rfl (qM rfl) rfl ?_
 refine aP 8 rfl (B4 (j := 0) rfl rfl rfl (by omega)) rfl ?_
 refine aL 9 rfl (A5 rfl rfl (hat0 _) rfl) rfl ?_
 refine A3 6 ?_
 (refine K4 rfl rfl (B4r ts[1] ts[2] G _ _ (by assumption) (ha1 (by omega)) (ha2 (by omega)) hre1 hre2) rfl rfl rfl (fun v G1 hle1 hh => ?_); obtain ⟨mc, rfl, hmr⟩ := hh; obtain ⟨mt, hmt⟩ : ∃ mt, T5 ts[1] ts[2] = mt := ⟨_, rfl⟩; rw [hmt] at hmr; have hma : D8 mt := (hmt ▸ B4u ts[1] ts[2] (by assumption) (ha1 (by omega)) (ha2 (by omega))); obtain ⟨p1, c1, e1, rfl, _⟩ := hmr.open; have hre0q := hre0.mono hle1)
 refine A3 10 ?_
 refine P5 rfl rfl ((A2t _)) rfl rfl rfl ?_
 refine A3 11 ?_
 refine P5 rfl rfl ((A1r ts[0] (.mk 3 []) _ _ _ (ha0 (by omega)) (S8 (by decide) (by decide)) hre0q (L4 _ ⟨by omega, by omega⟩))) rfl rfl rfl ?_
 refine A3 12 ?_
 refine H6 rfl ?_
 refine aP 13 rfl (qA rfl) rfl ?_
 refine C4 (nS (tT (rB (rS ?_))))
 refine E9 (rC rfl (A2 rfl rfl)) (rT rfl) ?_
 (obtain rfl : k = 9 := (by omega); exact O1.mk (by rw [A9l (by omega), hmt]; simp_all [W9]) hmr hma)
 refine aP 7 rfl (pNf rfl) rfl ?_
 refine M1 ?_
 refine E9 (rC rfl (A2 rfl rfl)) (rT rfl) ?_
 (obtain rfl : k = 9 := (by omega); exact O1.no (by rw [A9l (by omega)]; simp_all) (L4 _ ⟨by omega, by omega⟩) (S8 (by omega) (by omega)))
 refine sQ (qA rfl) rfl (sD (nS (cF rfl (tS (tR ?_)))))
 refine sB (qE rfl rfl) rfl rfl (fun h288 => ?_) (fun h288 => ?_)
 refine sQ (qA rfl) rfl (sD (nS (qT rfl (tS ?_))))
 (have hl2 : ts.length = 2 := hop.1 (by omega); obtain ⟨b0, o0, q0, d0, hp0, hat0, hre0, hg0⟩ := hsl.kidTy hkl (i := 0) (by omega) (by omega); obtain ⟨b1, o1, q1, d1, hp1, hat1, hre1, hg1⟩ := hsl.kidTy hkl (i := 1) (by omega) (by omega); cases hp0; cases hp1; refine E4 E7 rfl ?_)
 refine K2 (i := 0) (l' := [tt,ff,ff,ff,ff,ff,ff,ff,ff,ff,ff]) rfl D6 (qM rfl) rfl (by kernel_rfl) rfl rfl ?_
 refine aP 1 rfl (B4 (j := 0) rfl rfl rfl (by omega)) rfl ?_
 refine aL 2 rfl (A5 rfl rfl (hat0 _) rfl) rfl ?_
 refine aP 3 rfl (qM rfl) rfl ?_
 refine aP 4 rfl (B4 (j := 1) rfl rfl rfl (by omega)) rfl ?_
 refine aL 5 rfl (A5 rfl rfl (hat1 _) rfl) rfl ?_
 refine A3 6 ?_
 (refine K4 rfl rfl (A4p 5 ts[0] ts[1] G _ _ (.inr rfl) (ha0 (by omega)) (ha1 (by omega)) hre0 hre1) rfl rfl rfl (fun v G1 hle1 hh => ?_); obtain ⟨mc, rfl, hmr⟩ := hh; have hma := A33 (.inr rfl) (ha0 (by omega)) (ha1 (by omega)); obtain ⟨p1, c1, e1, rfl, _⟩ := hmr.open)
 refine aP 7 rfl (pX rfl rfl) rfl ?_
 refine aP 8 rfl (pX rfl rfl) rfl ?_
 refine A3 9 ?_
 refine H6 rfl ?_
 refine aP 10 rfl (qA rfl) rfl ?_
 refine C4 (nS (tT (rB (rS ?_))))
 refine E9 (rC rfl (A2 rfl rfl)) (rT rfl) ?_
 (obtain rfl : k = 10 := (by omega); exact O1.mk (by rw [B4s (by omega)]) hmr hma)
 refine sQ (qA rfl) rfl (sD (nS (cF rfl (tS (tR ?_)))))
 refine sB (qE rfl rfl) rfl rfl (fun h321 => ?_) (fun h321 => ?_)
 refine D0 ?_
 (have hl1 : ts.length = 1 := hop.2.2 (by omega); obtain ⟨b0, o0, q0, d0, hp0, hat0, hre0, hg0⟩ := hsl.kidTy hkl (i := 0) (by omega) (by omega); cases hp0; refine sP (B4 (j := 0) rfl rfl rfl (by omega)) rfl rfl ?_)
 refine sL (A5 rfl rfl (hat0 _) rfl) rfl rfl ?_
 focus (refine F4 rfl (A5T 5 ts[0] G _ (.inr rfl) (ha0 (by omega)) hre0) rfl rfl (fun v G1 hle1 hh => ?_); obtain ⟨ma, mca, mb, mcb, rfl, hma, hmb, hma2, hmb2, hpp⟩ := hh; obtain ⟨p1, c1, e1, rfl, _⟩ := hma.open; obtain ⟨p2, c2, e2, rfl, _⟩ := hmb.open; rcases hm : R3 5 ts[0] with _ | pr; rotate_left; obtain rfl := hpp _ hm; rotate_left; all_goals simp only [Option.isSome])
 refine J5 ?_
 refine sE (A6 rfl) rfl (fun b336 => ?_)
 refine sE (A6 rfl) rfl (fun b337 => ?_)
 refine K8 ?_
 refine E9 (rC rfl (A2 rfl rfl)) (rT rfl) ?_
 (have hk11 : k = 11 := (by omega); exact O1.no (by rw [A4s (.inl hk11) (by omega), hm]) hma hma2)
 refine J5 ?_
 refine sE (A6 rfl) rfl (fun b360 => ?_)
 refine sE (A6 rfl) rfl (fun b361 => ?_)
 refine K8 ?_
 refine E9 (rC rfl (A2 rfl rfl)) (rT rfl) ?_
 (have hk11 : k = 11 := (by omega); exact O1.yes (by rw [A4s (.inl hk11) (by omega), hm]; simp only; rw [if_neg (by omega)]) hma hma2)
 refine sQ (qA rfl) rfl (sD (nS (cF rfl (tS (tR ?_)))))
 refine sB (qE rfl rfl) rfl rfl (fun h386 => ?_) (fun h386 => ?_)
 refine D0 ?_
 (have hl1 : ts.length = 1 := hop.2.2 (by omega); obtain ⟨b0, o0, q0, d0, hp0, hat0, hre0, hg0⟩ := hsl.kidTy hkl (i := 0) (by omega) (by omega); cases hp0; refine sP (B4 (j := 0) rfl rfl rfl (by omega)) rfl rfl ?_)
 refine sL (A5 rfl rfl (hat0 _) rfl) rfl rfl ?_
 focus (refine F4 rfl (A5T 5 ts[0] G _ (.inr rfl) (ha0 (by omega)) hre0) rfl rfl (fun v G1 hle1 hh => ?_); obtain ⟨ma, mca, mb, mcb, rfl, hma, hmb, hma2, hmb2, hpp⟩ := hh; obtain ⟨p1, c1, e1, rfl, _⟩ := hma.open; obtain ⟨p2, c2, e2, rfl, _⟩ := hmb.open; rcases hm : R3 5 ts[0] with _ | pr; rotate_left; obtain rfl := hpp _ hm; rotate_left; all_goals simp only [Option.isSome])
 refine J5 ?_
 refine sE (A6 rfl) rfl (fun b401 => ?_)
 refine sE (A6 rfl) rfl (fun b402 => ?_)
 refine K8 ?_
 refine E9 (rC rfl (A2 rfl rfl)) (rT rfl) ?_
 (have hk12 : k = 12 := (by omega); exact O1.no (by rw [A4s (.inr hk12) (by omega), hm]) hmb hmb2)
 refine J5 ?_
 refine sE (A6 rfl) rfl (fun b425 => ?_)
 refine sE (A6 rfl) rfl (fun b426 => ?_)
 refine K8 ?_
 refine E9 (rC rfl (A2 rfl rfl)) (rT rfl) ?_
 (have hk12 : k = 12 := (by omega); exact O1.yes (by rw [A4s (.inr hk12) (by omega), hm]; simp only; rw [if_pos (by omega)]) hmb hmb2)
 refine sQ (qA rfl) rfl (sD (nS (cF rfl (tS (tR ?_)))))
 refine sP (V6 rfl rfl (by omega)) rfl rfl ?_
 refine sQ (qA rfl) rfl (sD (nS (qT rfl (tS ?_))))
 (have hl1 : ts.length = 1 := hop.2.2 (by omega); obtain ⟨b0, o0, q0, d0, hp0, hat0, hre0, hg0⟩ := hsl.kidTy hkl (i := 0) (by omega) (by omega); cases hp0; refine E4 E7 rfl ?_)
 refine K2 (i := 0) (l' := [tt,ff,ff,ff,ff,ff,ff,ff,ff,ff,ff]) rfl D6 (B8 rfl) rfl (by kernel_rfl) rfl rfl ?_
 refine aL 1 rfl (A2 rfl rfl) rfl ?_
 refine aP 3 rfl (qM rfl) rfl ?_
 refine aP 4 rfl (B4 (j := 0) rfl rfl rfl (by omega)) rfl ?_
 refine aL 5 rfl (A5 rfl rfl (hat0 _) rfl) rfl ?_
 refine aP 6 rfl (B8 rfl) rfl ?_
 refine aL 7 rfl (A2 rfl rfl) rfl ?_
 refine A3 2 ?_
 (refine K4 rfl rfl (U6 (.mk tk tks) G _ hty.small hrty) rfl rfl rfl (fun v G1 hle1 hh => ?_); obtain ⟨cs1, F1, rfl, hs1, hn1⟩ := hh; obtain ⟨p1, c1, rfl, _⟩ := hs1.open; have hmr := hs1.R.mono (C1.le G1 G); have hre0q := hre0.mono hle1; have hrtyq := hrty.mono hle1)
 refine A3 8 ?_
 refine P5 rfl rfl ((A1r ts[0] (.mk tk tks) _ _ _ (ha0 (by omega)) hty hre0q hrtyq)) rfl rfl rfl ?_
 refine A3 9 ?_
 refine H6 rfl ?_
 refine aP 10 rfl (qA rfl) rfl ?_
 refine C4 (nS (tT (rB (rS ?_))))
 refine E9 (rC rfl (A2 rfl rfl)) (rT rfl) ?_
 (obtain rfl : k = 13 := (by omega); exact O1.mk (by rw [B4t (by omega)]) hmr hty)
section
variable {ak bk : Int} {aks bks : List Ty}
end
theorem B4w (G : IM) (cx : Cx) (p : Option Addr) (n c : Nat) (nm : ByteArray) (t : Ty) (cells : List Value) (hx : S4 G cx p n c) (hn : n ≤ 1000) (hr : B3 G t cells) :
  Fn Tryz.prog 99 [.slice p n c, .string nm, .agg ⟨cells⟩] [] G (L5 fun G' v => ∃ p' c', v = .slice p' (n + 1) c' ∧ S4 G' (cx ++ [(nm, t)]) p' (n + 1) c') := by
 obtain ⟨k, ks⟩ := t
 obtain ⟨q, d, es0, rfl, _⟩ := hr.open
 simp only [Ty.k, Ty.ks] at hr ⊢
 obtain ⟨hx1, es, h2, h3⟩ := id hx
 have hSl : Sl G p n c 3 es.flatten := h2.1
 have h1c : ∀ u ∈ es.flatten, u.oneCell' = true := by
  intro u hu
  obtain ⟨e, he, hue⟩ := List.mem_flatten.1 hu
  exact List.all_eq_true.1 (h2.one e he) u hue
 refine B7 Tryz.func99 rfl Tryz.ntmps99 Tryz.results99 rfl ?_
 intro w0
 refine tS (tR ?_)
 refine sE (C2 rfl rfl) rfl (fun b3 => ?_)
 refine sQ (qA rfl) rfl (sD (nS (tS ?_)))
 refine E4 E7 rfl ?_
 refine K2 (i := 1) (l' := [ff,tt,ff,ff,ff,ff,ff,ff,ff]) rfl D6 (qM rfl) rfl (by kernel_rfl) rfl rfl ?_
 refine aP 3 rfl (qM rfl) rfl ?_
 refine aL 4 rfl (A2 rfl rfl) rfl ?_
 refine aP 5 rfl (S0 rfl rfl) rfl ?_
 refine T6 (j := 0) (j' := 6) (by kernel_rfl) ?_ ?_
 (refine E1 rfl (C3 rfl rfl rfl (by omega) (by unfold maxLen; omega) rfl) rfl rfl ?_; rintro _ ⟨b14, rfl⟩)
 refine T6 (j := 2) (j' := 6) (by kernel_rfl) ?_ ?_
 (refine A2p rfl rfl rfl rfl rfl rfl (fun _ _ => by repeat (first | exact Sw.here | apply Sw.there)) hSl h1c (Nat.zero_le _) (by unfold maxLen; omega) (by omega) rfl rfl (by repeat (first | exact A8.nil | apply A8.dep (by decide +kernel) | apply A8.blk (by decide +kernel) (by repeat (first | exact Pk.here | apply Pk.there)) (by repeat first | exact mH | apply mT))) (fun p4 c4 => ?_); simp only [Nat.zero_add, List.nil_append])
 refine A3 6 ?_
 (refine E1 rfl (C3 rfl rfl rfl (by omega) (by unfold maxLen; omega) rfl) rfl rfl ?_; rintro _ ⟨b18, rfl⟩)
 refine A3 7 ?_
 (refine T3 rfl rfl rfl rfl rfl rfl (fun _ _ => by repeat (first | exact Sw.here | apply Sw.there)) (N2 (by repeat first | exact mH | apply mT)) rfl (by simp [Value.oneCell']) (by unfold maxLen; omega) (by omega) rfl rfl (by repeat (first | exact A8.nil | apply A8.dep (by decide +kernel) | apply A8.blk (by decide +kernel) (by repeat (first | exact Pk.here | apply Pk.there)) (by repeat first | exact mH | apply mT))) (fun p5 c5 => ?_))
 refine aP 8 rfl (qA rfl) rfl ?_
 refine C4 (nS ?_)
 (refine H8 (cs := es.flatten ++ [.string nm, .int .i64 k, .slice q ks.length d]) (by repeat (first | exact Pk.here | apply Pk.there)) (fun G5 hle5 hsl5 hno5 => ?_))
 refine tT (F0 (rT rfl) ?_)
 (exact ⟨rfl, _, _, rfl, S4.snoc (nm := nm) (t := .mk k ks) hx1 h2.len h2.all h2.one h3 hle5 ⟨_, _, rfl, hr.mono hle5⟩ hsl5⟩)
 (refine E1 rfl (C3 rfl rfl rfl (by omega) (by unfold maxLen; omega) rfl) rfl rfl ?_; rintro _ ⟨b28, rfl⟩)
 refine A3 2 ?_
 (refine A2p rfl rfl rfl rfl rfl rfl (fun _ _ => by repeat (first | exact Sw.here | apply Sw.there)) hSl h1c (Nat.zero_le _) (by unfold maxLen; omega) (by omega) rfl rfl (by repeat (first | exact A8.nil | apply A8.dep (by decide +kernel) | apply A8.blk (by decide +kernel) (by repeat (first | exact Pk.here | apply Pk.there)) (by repeat first | exact mH | apply mT))) (fun p4 c4 => ?_); simp only [Nat.zero_add, List.nil_append])
 refine A3 7 ?_
 (refine T3 rfl rfl rfl rfl rfl rfl (fun _ _ => by repeat (first | exact Sw.here | apply Sw.there)) (N2 (by repeat first | exact mH | apply mT)) rfl (by simp [Value.oneCell']) (by unfold maxLen; omega) (by omega) rfl rfl (by repeat (first | exact A8.nil | apply A8.dep (by decide +kernel) | apply A8.blk (by decide +kernel) (by repeat (first | exact Pk.here | apply Pk.there)) (by repeat first | exact mH | apply mT))) (fun p5 c5 => ?_))
 refine aP 8 rfl (qA rfl) rfl ?_
 refine C4 (nS ?_)
 (refine H8 (cs := es.flatten ++ [.string nm, .int .i64 k, .slice q ks.length d]) (by repeat (first | exact Pk.here | apply Pk.there)) (fun G5 hle5 hsl5 hno5 => ?_))
 refine tT (F0 (rT rfl) ?_)
 (exact ⟨rfl, _, _, rfl, S4.snoc (nm := nm) (t := .mk k ks) hx1 h2.len h2.all h2.one h3 hle5 ⟨_, _, rfl, hr.mono hle5⟩ hsl5⟩)
 (refine E1 rfl (C3 rfl rfl rfl (by omega) (by unfold maxLen; omega) rfl) rfl rfl ?_; rintro _ ⟨b40, rfl⟩)
 refine A3 0 ?_
 (refine E1 rfl (C3 rfl rfl rfl (by omega) (by unfold maxLen; omega) rfl) rfl rfl ?_; rintro _ ⟨b42, rfl⟩)
 refine A3 2 ?_
 (refine A2p rfl rfl rfl rfl rfl rfl (fun _ _ => by repeat (first | exact Sw.here | apply Sw.there)) hSl h1c (Nat.zero_le _) (by unfold maxLen; omega) (by omega) rfl rfl (by repeat (first | exact A8.nil | apply A8.dep (by decide +kernel) | apply A8.blk (by decide +kernel) (by repeat (first | exact Pk.here | apply Pk.there)) (by repeat first | exact mH | apply mT))) (fun p4 c4 => ?_); simp only [Nat.zero_add, List.nil_append])
 refine A3 7 ?_
 (refine T3 rfl rfl rfl rfl rfl rfl (fun _ _ => by repeat (first | exact Sw.here | apply Sw.there)) (N2 (by repeat first | exact mH | apply mT)) rfl (by simp [Value.oneCell']) (by unfold maxLen; omega) (by omega) rfl rfl (by repeat (first | exact A8.nil | apply A8.dep (by decide +kernel) | apply A8.blk (by decide +kernel) (by repeat (first | exact Pk.here | apply Pk.there)) (by repeat first | exact mH | apply mT))) (fun p5 c5 => ?_))
 refine aP 8 rfl (qA rfl) rfl ?_
 refine C4 (nS ?_)
 (refine H8 (cs := es.flatten ++ [.string nm, .int .i64 k, .slice q ks.length d]) (by repeat (first | exact Pk.here | apply Pk.there)) (fun G5 hle5 hsl5 hno5 => ?_))
 refine tT (F0 (rT rfl) ?_)
 (exact ⟨rfl, _, _, rfl, S4.snoc (nm := nm) (t := .mk k ks) hx1 h2.len h2.all h2.one h3 hle5 ⟨_, _, rfl, hr.mono hle5⟩ hsl5⟩)
theorem A9m {cx : Cx} : ∀ {ks : List Tm} {i : Nat} {us : List Ty} {u : Ty} (hi : i < ks.length), U7 cx (ks.take i) = some us → P2 cx ks[i] = some u → U7 cx (ks.take (i + 1)) = some (us ++ [u])
 | [], i, us, u, hi, _, _ => by simp at hi
 | t :: ts, 0, us, u, _, h1, h2 => by
  simp only [List.take_zero, U7, Option.some.injEq] at h1
  subst h1
  simp only [List.getElem_cons_zero] at h2
  simp [U7, h2]
 | t :: ts, i + 1, us, u, hi, h1, h2 => by
  simp only [List.take_succ_cons, U7] at h1 ⊢
  split at h1
  ·cases h1
  ·rename_i a ha
   split at h1
   ·cases h1
   ·rename_i bs has
    simp only [Option.some.injEq] at h1
    subst h1
    simp only [List.getElem_cons_succ] at h2
    have := A9m (ks := ts) (i := i) (by simpa using hi) has h2
    simp only [this, List.cons_append]
theorem A9n {cx : Cx} : ∀ {ks : List Tm} {i : Nat} (hi : i < ks.length), P2 cx ks[i] = none → U7 cx ks = none
 | [], i, hi, _ => by simp at hi
 | t :: ts, 0, _, h => by simp only [List.getElem_cons_zero] at h; rw [U7, h]
 | t :: ts, i + 1, hi, h => by
  simp only [List.getElem_cons_succ] at h
  have := A9n (ks := ts) (i := i) (by simpa using hi) h
  rw [U7, this]
  cases P2 cx t <;> rfl
section
variable {cx : Cx} {k : Int} {nm : ByteArray} {num : Int} {ty fr : Ty} {lb : Int} {ks : List Tm}
theorem B4x (hk : k = 1) (h0 : ks = []) : P2 cx (.mk k nm num ty fr lb ks) = Z2 cx nm := by
 subst hk h0
 rw [P2, U7]
 simp only [W5, mW1]
 cases Z2 cx nm with
 | none => rfl
 | some t => simp
theorem B4y (hk : k = 2) (h0 : ks = []) : P2 cx (.mk k nm num ty fr lb ks) = some S3 := by subst hk h0; rfl
theorem B4z (hk : k = 3 ∨ k = 4) (h0 : ks = []) : P2 cx (.mk k nm num ty fr lb ks) = some W9 := by subst h0; rcases hk with rfl | rfl <;> rfl
theorem B4A {b : Tm} (hk : k = 5) (h : P2 (cx ++ [(nm, ty)]) b = none) : P2 cx (.mk k nm num ty fr lb [b]) = none := by
 subst hk; rw [P2, O6, if_pos rfl, U7, h]
theorem B4B {b : Tm} {t : Ty} (hk : k = 5) (h : P2 (cx ++ [(nm, ty)]) b = some t) : P2 cx (.mk k nm num ty fr lb [b]) = if C9 (.mk 4 [ty, t]) = true then some (.mk 4 [ty, t]) else none := by
 subst hk
 rw [P2, O6, if_pos rfl, U7, h]
 simp only [U7, W5, mW5, List.getD_cons_zero]
 cases C9 (.mk 4 [ty, t]) <;> simp
theorem B4C (hk : k ≠ 5) (h : U7 cx ks = none) : P2 cx (.mk k nm num ty fr lb ks) = none := by rw [P2, O6, if_neg hk, h]
theorem B4D {ts : List Ty} (hk : k ≠ 5) (h : U7 cx ks = some ts) : P2 cx (.mk k nm num ty fr lb ks) = W5 cx k nm ty ts := by rw [P2, O6, if_neg hk, h]
end
theorem B4E : ∀ (e : Tm) (d : Int) (cx : Cx) (G : IM) (p : Option Addr) (n c : Nat) (cells : List Value), N7 12 14 e d = true → (n : Int) ≤ d → cxV cx → S4 G cx p n c → A9 G e cells →
  Fn Tryz.prog 68 [.slice p n c, .agg ⟨cells⟩] [] G (O1 (P2 cx e) G) := by
 refine Tm.ind fun k nm num ty fr lb ks ih d cx G p n c cells hv hnd hcv hx hr => ?_
 have hr0 := hr
 have hone := hr.one
 obtain ⟨hv1, hv2, hv3, hv4⟩ := A0X hv
 have hvk := (A1D 12 14 ks _).1 hv4
 have har := (W8.1 hv3).1
 have hop := A35 har
 obtain ⟨hta, hts⟩ := A36 hv3
 have hkr : 1 ≤ k ∧ k ≤ 14 := A4o (by rw [har]; omega)
 have hcv5 : k = 5 → cxV (cx ++ [(nm, ty)]) := fun hk => by have := A4f (k := k) (nm := nm) (ty := ty) hcv fun hk => (W8.1 hv3).2.2.2.2.2.1 (.inl hk); rwa [O6, if_pos hk] at this
 have h0 : k ≤ 4 → ks = [] := fun h => List.length_eq_zero_iff.1 (by
  have hk : k = 1 ∨ k = 2 ∨ k = 3 ∨ k = 4 := by omega
  rcases hk with rfl | rfl | rfl | rfl
  ·have : D1 1 = 0 := rfl; omega
  ·have : D1 2 = 0 := rfl; omega
  ·have : D1 3 = 0 := rfl; omega
  ·have : D1 4 = 0 := rfl; omega)
 have f1 := fun hk => @B4x cx k nm num ty fr lb ks hk (h0 (by omega))
 have f2 := fun hk => @B4y cx k nm num ty fr lb ks hk (h0 (by omega))
 have f3 := fun hk => @B4z cx k nm num ty fr lb ks hk (h0 (by omega))
 have f4 : ∀ (hk : k = 5) (hl : 0 < ks.length), P2 (cx ++ [(nm, ty)]) ks[0] = none → P2 cx (.mk k nm num ty fr lb ks) = none := fun hk hl h => by
  obtain ⟨b, rfl⟩ := ks1 (hop.2.2 (.inl hk)); exact B4A hk h
 have f5 : ∀ (t : Ty) (hk : k = 5) (hl : 0 < ks.length), P2 (cx ++ [(nm, ty)]) ks[0] = some t → P2 cx (.mk k nm num ty fr lb ks) = if C9 (.mk 4 [ty, t]) = true then some (.mk 4 [ty, t]) else none := fun t hk hl h => by
  obtain ⟨b, rfl⟩ := ks1 (hop.2.2 (.inl hk)); exact B4B hk h
 have f6 := @B4C cx k nm num ty fr lb ks
 have f7 := fun ts => @B4D cx k nm num ty fr lb ks ts
 generalize P2 cx (.mk k nm num ty fr lb ks) = R at f1 f2 f3 f4 f5 f6 f7 ⊢
 obtain ⟨tk, tks⟩ := ty
 obtain ⟨fk, fks⟩ := fr
 obtain ⟨pt, ct, pf, cf, q, cq, es, rfl, hk, hnum, hlb, hty, hfr, hsl, hkl⟩ := hr.open9
 have hlen : ks.length ≤ 3 := by have := A29 k; omega
 refine B7 Tryz.func68 rfl Tryz.ntmps68 Tryz.results68 rfl ?_
 intro w0
 refine tS (tR ?_)
 refine sE (C2 rfl rfl) rfl (fun b3 => ?_)
 refine sE (A6 rfl) rfl (fun b4 => ?_)
 refine L6 ?_
 refine B6 (tS (tR (sB (qE rfl rfl) rfl rfl (fun h18 => ?_) (fun h18 => ?_))))
 refine D2 ?_
 (refine F4 rfl (B4p G cx hcv p n c nm hx) rfl rfl (fun v G1 hle1 hh => ?_); obtain ⟨mt, mc, rfl, hmr, hma, hmu⟩ := hh; obtain ⟨p1, c1, e1, rfl, _⟩ := hmr.open)
 refine D2 ?_
 refine E9 (rC rfl (A2 rfl rfl)) (rT rfl) ?_
 (rw [f1 (by omega)]; exact ⟨rfl, _, _, rfl, hmr, hma, hmu⟩)
 refine sQ (qA rfl) rfl (sD (nS (cF rfl (tS (tR ?_)))))
 refine sB (qE rfl rfl) rfl rfl (fun h46 => ?_) (fun h46 => ?_)
 refine sQ (qA rfl) rfl (sD (nS (qT rfl (tS (tR ?_)))))
 refine H2 rfl ((A0Y _)) rfl rfl ?_
 refine F9 ?_
 refine sQ (qA rfl) rfl (sD (nS (tT (rB (rS ?_)))))
 refine E9 (rC rfl (A2 rfl rfl)) (rT rfl) ?_
 (rw [f2 (by omega)]; exact O1.yes rfl (J8 _) (S8 (by omega) (by omega)))
 refine sQ (qA rfl) rfl (sD (nS (cF rfl (tS (tS (tR ?_))))))
 refine sB (qE rfl rfl) rfl rfl (fun h70 => ?_) (fun h70 => ?_)
 refine D2 ?_
 refine H2 rfl ((A2t _)) rfl rfl ?_
 refine F9 ?_
 refine sQ (qA rfl) rfl (sD (nS (tT (rB (rS ?_)))))
 refine E9 (rC rfl (A2 rfl rfl)) (rT rfl) ?_
 (rw [f3 (by omega)]; exact O1.yes rfl (Z4 _) (S8 (by omega) (by omega)))
 refine sQ (qA rfl) rfl (sD (nS (cF rfl (tR ?_))))
 refine sB (qE rfl rfl) rfl rfl (fun h95 => ?_) (fun h95 => ?_)
 refine sQ (qA rfl) rfl (sD (nS (qT rfl (tS (tR ?_)))))
 refine H2 rfl ((A2t _)) rfl rfl ?_
 refine F9 ?_
 refine sQ (qA rfl) rfl (sD (nS (tT (rB (rS ?_)))))
 refine E9 (rC rfl (A2 rfl rfl)) (rT rfl) ?_
 (rw [f3 (by omega)]; exact O1.yes rfl (Z4 _) (S8 (by omega) (by omega)))
 refine sQ (qA rfl) rfl (sD (nS (cF rfl (tS (tR ?_)))))
 refine sB (qE rfl rfl) rfl rfl (fun h118 => ?_) (fun h118 => ?_)
 refine sQ (qA rfl) rfl (sD (nS (qT rfl (tS ?_))))
 (have hl1 : ks.length = 1 := hop.2.2 (by omega); obtain ⟨b, o, e, rfl, hl, hat, hre, hgb⟩ := hsl.kidTm hkl (i := 0) (by omega) (by omega); have hMore := B4w G cx p n c nm (.mk tk tks) _ hx (by omega) hty; refine E4 E7 rfl ?_)
 refine K2 (i := 0) (l' := [tt,ff,ff,ff,ff,ff,ff,ff,ff,ff,ff,ff,ff,ff,ff,ff,ff]) rfl D6 (qM rfl) rfl (by kernel_rfl) rfl rfl ?_
 refine aP 1 rfl (B8 rfl) rfl ?_
 refine aL 2 rfl (C7 rfl rfl) rfl ?_
 refine aP 3 rfl (B8 rfl) rfl ?_
 refine aL 4 rfl (A2 rfl rfl) rfl ?_
 refine aP 6 rfl (B8 rfl) rfl ?_
 refine aL 7 rfl (C7 rfl rfl) rfl ?_
 refine aP 8 rfl (B4 (j := 0) rfl rfl rfl (by omega)) rfl ?_
 refine aL 9 rfl (A5 rfl rfl (hat _) hl) rfl ?_
 refine T6 (j := 5) (j' := 14) (by kernel_rfl) ?_ ?_
 (refine K4 rfl rfl hMore rfl rfl rfl (fun v G1 hle1 hh => ?_); obtain ⟨pm, cm, rfl, hxm⟩ := hh; have hreM := hre.mono hle1; have hLam := ih ks[0] (List.getElem_mem (by omega)) (d + 1) _ G1 pm (n + 1) cm _ (hvk 0 (by omega)) (by omega) (hcv5 (by omega)) hxm hreM; have htyM := hty.mono hle1)
 refine T6 (j := 10) (j' := 14) (by kernel_rfl) ?_ ?_
 focus (refine K4 rfl rfl hLam rfl rfl rfl (fun v G2 hle2 hh => ?_); obtain ⟨mt, mc, rfl, hmr, hma, hmu⟩ := hh; obtain ⟨p1, c1, e1, rfl, _⟩ := hmr.open; have htyN := htyM.mono hle2; rcases hE : P2 (cx ++ [(nm, Ty.mk tk tks)]) ks[0] with _ | mt2; rotate_left; obtain rfl := hmu _ hE; rotate_left; all_goals simp only [Option.isSome])
 refine aP 11 rfl (qM rfl) rfl ?_
 refine aP 12 rfl (pX rfl rfl) rfl ?_
 refine aP 13 rfl (pX rfl rfl) rfl ?_
 refine A3 14 ?_
 (refine E1 rfl (A6 rfl) rfl rfl ?_; rintro _ ⟨b142, rfl⟩)
 refine A3 15 ?_
 refine H6 rfl ?_
 refine aP 16 rfl (qA rfl) rfl ?_
 refine A0h ?_
 refine E9 (rC rfl (A2 rfl rfl)) (rT rfl) ?_
 (rw [f4 (by omega) (by omega) (by first | exact hE | assumption)]; exact O1.no rfl (L4 _ ⟨by omega, by omega⟩) (S8 (by omega) (by omega)))
 refine aP 11 rfl (qM rfl) rfl ?_
 refine aP 12 rfl (pX rfl rfl) rfl ?_
 refine aP 13 rfl (pX rfl rfl) rfl ?_
 refine A3 14 ?_
 (refine E1 rfl (A6 rfl) rfl rfl ?_; rintro _ ⟨b173, rfl⟩)
 refine A3 15 ?_
 refine H6 rfl ?_
 refine aP 16 rfl (qA rfl) rfl ?_
 refine T2 ?_
 (refine F4 rfl (A4p 4 (.mk tk tks) _ _ _ _ (.inl rfl) hta hma htyN hmr) rfl rfl (fun v G3 hle3 hh => ?_); obtain ⟨mc2, rfl, hmr2⟩ := hh; obtain ⟨p2, c2, e2, rfl, _⟩ := hmr2.open)
 refine D2 ?_
 refine E9 (rC rfl (A2 rfl rfl)) (rT rfl) ?_
 (rw [f5 _ (by omega) (by omega) (by first | exact hE | assumption)]; exact O1.mk rfl hmr2 (A33 (.inl rfl) hta hma))
 (refine E1 rfl (A6 rfl) rfl rfl ?_; rintro _ ⟨b206, rfl⟩)
 refine A3 10 ?_
 focus (refine K4 rfl rfl hLam rfl rfl rfl (fun v G2 hle2 hh => ?_); obtain ⟨mt, mc, rfl, hmr, hma, hmu⟩ := hh; obtain ⟨p1, c1, e1, rfl, _⟩ := hmr.open; have htyN := htyM.mono hle2; rcases hE : P2 (cx ++ [(nm, Ty.mk tk tks)]) ks[0] with _ | mt2; rotate_left; obtain rfl := hmu _ hE; rotate_left; all_goals simp only [Option.isSome])
 refine aP 11 rfl (qM rfl) rfl ?_
 refine aP 12 rfl (pX rfl rfl) rfl ?_
 refine aP 13 rfl (pX rfl rfl) rfl ?_
 refine A3 15 ?_
 refine H6 rfl ?_
 refine aP 16 rfl (qA rfl) rfl ?_
 refine A0h ?_
 refine E9 (rC rfl (A2 rfl rfl)) (rT rfl) ?_
 (rw [f4 (by omega) (by omega) (by first | exact hE | assumption)]; exact O1.no rfl (L4 _ ⟨by omega, by omega⟩) (S8 (by omega) (by omega)))
 refine aP 11 rfl (qM rfl) rfl ?_
 refine aP 12 rfl (pX rfl rfl) rfl ?_
 refine aP 13 rfl (pX rfl rfl) rfl ?_
 refine A3 15 ?_
 refine H6 rfl ?_
 refine aP 16 rfl (qA rfl) rfl ?_
 refine T2 ?_
 (refine F4 rfl (A4p 4 (.mk tk tks) _ _ _ _ (.inl rfl) hta hma htyN hmr) rfl rfl (fun v G3 hle3 hh => ?_); obtain ⟨mc2, rfl, hmr2⟩ := hh; obtain ⟨p2, c2, e2, rfl, _⟩ := hmr2.open)
 refine D2 ?_
 refine E9 (rC rfl (A2 rfl rfl)) (rT rfl) ?_
 (rw [f5 _ (by omega) (by omega) (by first | exact hE | assumption)]; exact O1.mk rfl hmr2 (A33 (.inl rfl) hta hma))
 (refine E1 rfl (A6 rfl) rfl rfl ?_; rintro _ ⟨b273, rfl⟩)
 refine A3 5 ?_
 (refine K4 rfl rfl hMore rfl rfl rfl (fun v G1 hle1 hh => ?_); obtain ⟨pm, cm, rfl, hxm⟩ := hh; have hreM := hre.mono hle1; have hLam := ih ks[0] (List.getElem_mem (by omega)) (d + 1) _ G1 pm (n + 1) cm _ (hvk 0 (by omega)) (by omega) (hcv5 (by omega)) hxm hreM; have htyM := hty.mono hle1)
 refine A3 10 ?_
 focus (refine K4 rfl rfl hLam rfl rfl rfl (fun v G2 hle2 hh => ?_); obtain ⟨mt, mc, rfl, hmr, hma, hmu⟩ := hh; obtain ⟨p1, c1, e1, rfl, _⟩ := hmr.open; have htyN := htyM.mono hle2; rcases hE : P2 (cx ++ [(nm, Ty.mk tk tks)]) ks[0] with _ | mt2; rotate_left; obtain rfl := hmu _ hE; rotate_left; all_goals simp only [Option.isSome])
 refine aP 11 rfl (qM rfl) rfl ?_
 refine aP 12 rfl (pX rfl rfl) rfl ?_
 refine aP 13 rfl (pX rfl rfl) rfl ?_
 refine A3 15 ?_
 refine H6 rfl ?_
 refine aP 16 rfl (qA rfl) rfl ?_
 refine A0h ?_
 refine E9 (rC rfl (A2 rfl rfl)) (rT rfl) ?_
 (rw [f4 (by omega) (by omega) (by first | exact hE | assumption)]; exact O1.no rfl (L4 _ ⟨by omega, by omega⟩) (S8 (by omega) (by omega)))
 refine aP 11 rfl (qM rfl) rfl ?_
 refine aP 12 rfl (pX rfl rfl) rfl ?_
 refine aP 13 rfl (pX rfl rfl) rfl ?_
 refine A3 15 ?_
 refine H6 rfl ?_
 refine aP 16 rfl (qA rfl) rfl ?_
 refine T2 ?_
 (refine F4 rfl (A4p 4 (.mk tk tks) _ _ _ _ (.inl rfl) hta hma htyN hmr) rfl rfl (fun v G3 hle3 hh => ?_); obtain ⟨mc2, rfl, hmr2⟩ := hh; obtain ⟨p2, c2, e2, rfl, _⟩ := hmr2.open)
 refine D2 ?_
 refine E9 (rC rfl (A2 rfl rfl)) (rT rfl) ?_
 (rw [f5 _ (by omega) (by omega) (by first | exact hE | assumption)]; exact O1.mk rfl hmr2 (A33 (.inl rfl) hta hma))
 refine D2 ?_
 (refine I8 (C3 rfl rfl rfl (by omega) (by unfold maxLen; omega) rfl) rfl ?_; rintro _ ⟨b351, rfl⟩)
 refine D2 ?_
 refine B6 ?_
 (refine J3 (fun (x : Nat × Option Addr × Nat × List Ty × List (List Value) × IM) => ⟨[(9, .int .i64 x.1), (8, .slice x.2.1 x.1 x.2.2.1), (3, .pointer (some ⟨b3, 0, none⟩)), (4, .pointer (some ⟨b4, 0, none⟩)), (0, .slice p n c)], [.slc x.2.1 x.2.2.1 25 2 x.1 x.2.2.2.2.1.flatten, .blk b4 [.int .i64 0, .slice none 0 0], .blk b3 [.int .i64 k, .string nm, .int .i64 num, .int .i64 tk, .slice pt tks.length ct, .int .i64 fk, .slice pf fks.length cf, .int .i64 lb, .slice q ks.length cq]], x.2.2.2.2.2⟩) (fun x => x.1 ≤ ks.length ∧ B1 G x.2.2.2.2.2 ∧ x.2.2.2.1.length = x.1 ∧ B0 x.2.2.2.2.2 x.2.2.2.1 x.2.2.2.2.1 ∧ (∀ u ∈ x.2.2.2.1, D8 u) ∧ U7 cx (ks.take x.1) = some x.2.2.2.1) (fun x => ks.length - x.1) (0, some ⟨b351, 0, none⟩, 0, [], [], G) ?_ ?_ ?_)
 (simp only [E2]; exact C5)
 (exact ⟨by simp, B1.refl _, rfl, by simp [B0], by simp, by simp [U7]⟩)
 (rintro ⟨i, pn, cn, us, es', Gi⟩ ⟨hi, hle, hlu, hst, hau, hsu⟩; simp only [] at hi hle hlu hst hau hsu ⊢; replace hsl := hsl.mono hle; replace hkl := hkl.mono hle; replace hx := hx.mono hle; replace hr0 := hr0.mono hle)
 refine D0 ?_
 refine sB (J6 rfl rfl) rfl rfl (fun h373 => ?_) (fun h373 => ?_)
 refine sD (nS (qT rfl (tK (nS (tS ?_)))))
 refine B6 ?_
 refine I0 ?_
 (obtain ⟨b, o, e, rfl, hl, hat, hre, hgb⟩ := hsl.kidTm hkl (i := i) (by omega) (by omega); refine sP (B4 rfl rfl rfl (by omega)) rfl rfl ?_)
 refine sL (A5 rfl rfl (hat _) hl) rfl rfl ?_
 focus (refine F4 rfl (ih ks[i] (List.getElem_mem (by omega)) (d + 1) cx Gi p n c _ (hvk i (by omega)) (by omega) hcv hx hre) rfl rfl (fun v G2 hle2 hh => ?_); obtain ⟨u, uc, rfl, hru, hua, huu⟩ := hh; obtain ⟨p3, c3, e3, rfl, _⟩ := hru.open; rcases hE : P2 cx ks[i] with _ | u2; rotate_left; obtain rfl := huu _ hE; rotate_left; all_goals simp only [Option.isSome])
 refine J0 ?_
 refine sE (A6 rfl) rfl (fun b393 => ?_)
 refine A4P ?_
 refine E9 (rC rfl (A2 rfl rfl)) (rT rfl) ?_
 (rw [f6 (by omega) (A9n (by omega) hE)]; exact O1.no rfl (L4 _ ⟨by omega, by omega⟩) (S8 (by omega) (by omega)))
 refine J0 ?_
 refine sE (A6 rfl) rfl (fun b425 => ?_)
 refine T2 ?_
 (refine I8 (C3 rfl rfl rfl (by omega) (by unfold maxLen; omega) rfl) rfl ?_; rintro _ ⟨b443, rfl⟩)
 refine W7 rfl rfl rfl rfl rfl (fun _ _ => by repeat (first | exact Sw.here | apply Sw.there)) (N2 (by repeat first | exact mH | apply mT)) rfl (by simp [Value.oneCell']) (by unfold maxLen; omega) (by omega) rfl (fun pn' cn' => ?_)
 refine I0 ?_
 refine sP (I2 rfl rfl (by omega) (by omega)) rfl rfl ?_
 refine sQ (qA rfl) rfl (sD ?_)
 refine I9 (i + 1, pn', cn', us ++ [u2], es' ++ [[.int .i64 u2.k, .slice p3 u2.ks.length c3]], G2) ?_ ?_ ?_
 (simp only [E2]; exact C5)
 (dsimp only; exact ⟨by omega, hle.trans hle2, by simp [hlu], B0.snoc (hst.mono hle2) hru, A2u hau hua, A9m (by omega) hsu hE⟩)
 (show ks.length - (i + 1) < ks.length - i; omega)
 refine N8 ?_
 (obtain rfl : i = ks.length := (by omega); rw [List.take_length] at hsu; refine T8 (cs := es'.flatten) (by repeat (first | exact Pk.here | apply Pk.there)) (fun G3 hle3 hsl3 hno3 => ?_); have hst3 := hst.mono hle3; have hRes := B4v cx k nm num (.mk tk tks) (.mk fk fks) lb ks us G3 _ pn cn es' (by rw [hlu]; exact har) (by omega) hta (hr0.mono hle3) (by rw [hlu]; exact B9.of hsl3 (by rw [hst3.len, hlu]) hst3.all (fun e he => (hst3.each e he).2)) hst3 hau; rw [hlu] at hRes; refine F4 rfl hRes rfl rfl (fun v G4 hle4 hh => ?_); obtain ⟨mt, mc, rfl, hmr, hma, hmu⟩ := hh; obtain ⟨p1, c1, e1, rfl, _⟩ := hmr.open)
 refine D0 ?_
 refine E9 (rC rfl (A2 rfl rfl)) (rT rfl) ?_
 (rw [f7 us (by omega) hsu]; exact ⟨rfl, _, _, rfl, hmr, hma, hmu⟩)
theorem B4F {e : Tm} (h : M3 e = true) : P3 e = P2 [] e := by
 have hs := ((Y9 e).1 h).1
 obtain ⟨h1, h2⟩ := A4g e 1 [] 0 hs A3m
 unfold P3
 cases hE : N1 [] e 0 with
 | none => rw [A5P h hE, h2 hE]
 | some r =>
  obtain ⟨u, a, l⟩ := r
  rw [A5Q h hE, (h1 u a l hE).1]
def A5V (t : Ty) (x : Bool) (G : IM) : IM → Value → List A4 → Prop := L5 fun G' v => ∃ cells, v = .tuple ⟨[.agg ⟨cells⟩, .bool x]⟩ ∧ B3 G' (if x = true then t else A7) cells
theorem B4G (t : Ty) (G : IM) (cells : List Value) (hr : B3 G t cells) : Fn Tryz.prog 67 [.agg ⟨cells⟩, .bool true] [] G (A5V t true G) := by
 obtain ⟨p, c, e, rfl, _⟩ := hr.open
 refine B7 Tryz.func67 rfl Tryz.ntmps67 Tryz.results67 rfl ?_
 intro w0
 refine tS (tR ?_)
 refine sE (C2 rfl rfl) rfl (fun b3 => ?_)
 refine sE (A6 rfl) rfl (fun b4 => ?_)
 refine A0h ?_
 refine E9 (rC rfl (A2 rfl rfl)) (rT rfl) ?_
 (exact ⟨rfl, _, rfl, hr⟩)
theorem B4H (t : Ty) (G : IM) (cells : List Value) (hr : B3 G t cells) : Fn Tryz.prog 67 [.agg ⟨cells⟩, .bool false] [] G (A5V t false G) := by
 obtain ⟨p, c, e, rfl, _⟩ := hr.open
 refine B7 Tryz.func67 rfl Tryz.ntmps67 Tryz.results67 rfl ?_
 intro w0
 refine tS (tR ?_)
 refine sE (C2 rfl rfl) rfl (fun b3 => ?_)
 refine sE (A6 rfl) rfl (fun b4 => ?_)
 refine A0y ?_
 refine E9 (rC rfl (A2 rfl rfl)) (rT rfl) ?_
 (exact ⟨rfl, _, rfl, L4 _ ⟨by omega, by omega⟩⟩)
theorem B4I (t : Ty) (x : Bool) (G : IM) (cells : List Value) (hr : B3 G t cells) : Fn Tryz.prog 67 [.agg ⟨cells⟩, .bool x] [] G (A5V t x G) := by
 cases x
 ·exact B4H t G cells hr
 ·exact B4G t G cells hr
theorem X1.sure {o : Option Ty} {t : Ty} {G G' : IM} {cells : List Value} (h : ∀ u, o = some u → u = t) (hr : B3 G' (if o.isSome = true then t else A7) cells) : X1 o G G' (.tuple ⟨[.agg ⟨cells⟩, .bool o.isSome]⟩) [] := by
 cases o with
 | none => exact ⟨rfl, cells, A7, rfl, hr, by simp⟩
 | some u => exact ⟨rfl, cells, t, rfl, hr, fun x hx => by cases hx; exact (h _ rfl).symm⟩
theorem B4J (e : Tm) (G : IM) (cells : List Value) (hcnt : E0 e ≤ 4294967296) (hr : A9 G e cells) :
  Fn Tryz.prog 33 [.slice none 0 0, .agg ⟨cells⟩] [] G (X1 (P3 e) G) := by
 have hl := hr.len
 have hone := hr.one
 have hw := A5e e G cells hcnt hr
 have hT := fun h : M3 e = true => B4E e 1 [] G none 0 0 cells ((Y9 e).1 h).1 (by omega) A3m (S4.nil G) hr
 have hts := fun h => @B4F e h
 have hno := @A89 e
 refine B7 Tryz.func33 rfl Tryz.ntmps33 Tryz.results33 rfl ?_
 intro w0
 refine tS (tR ?_)
 refine sE (C2 rfl rfl) rfl (fun b3 => ?_)
 refine sE (A6 rfl) rfl (fun b4 => ?_)
 refine D0 ?_
 refine H2 rfl ((B1O _)) rfl rfl ?_
 refine sQ (pNt rfl) rfl (sQ (qM rfl) rfl ?_)
 refine sL (A5 rfl rfl (B5 (by repeat first | exact mH | apply mT)) (by assumption)) rfl rfl ?_
 refine H3 rfl (hw) rfl rfl (fun h16 => ?_) (fun h16 => ?_)
 refine L6 ?_
 refine sL (A5 rfl rfl (B5 (by repeat first | exact mH | apply mT)) (by assumption)) rfl rfl ?_
 (refine F4 rfl (hT (by assumption)) rfl rfl (fun v G1 hle1 hh => ?_); obtain ⟨mt, mc, rfl, hmr, hma, hmu⟩ := hh; obtain ⟨p1, c1, e1, rfl, _⟩ := hmr.open; have hmo := hts (by assumption))
 refine sQ (pX rfl rfl) rfl (sQ (pX rfl rfl) rfl ?_)
 (refine F4 rfl (B4I mt _ _ _ hmr) rfl rfl (fun v G2 hle2 hh => ?_); obtain ⟨mc2, rfl, hmr2⟩ := hh; obtain ⟨p2, c2, e2, rfl, _⟩ := hmr2.open)
 refine D0 ?_
 refine E9 (rC rfl (A2 rfl rfl)) (rT rfl) ?_
 (rw [hmo]; exact X1.sure hmu hmr2)
 refine M1 ?_
 refine E9 (rC rfl (A2 rfl rfl)) (rT rfl) ?_
 (exact X1.no (u := A7) (L4 _ ⟨by omega, by omega⟩) rfl (hno (by assumption)))
theorem A9o (e : Tm) (G : IM) (cells : List Value) (hcnt : E0 e ≤ 4294967296) (hr : A9 G e cells) :
  Fn Tryz.prog 13 [.agg ⟨cells⟩] [] G (X1 (P3 e) G) := by
 have hl := hr.len
 have hone := hr.one
 refine B7 Tryz.func13 rfl Tryz.ntmps13 Tryz.results13 rfl ?_
 intro w0
 refine tS (tR ?_)
 refine sE (C2 rfl rfl) rfl (fun b3 => ?_)
 refine sE (A6 rfl) rfl (fun b4 => ?_)
 refine sQ (qA rfl) rfl (sD (nS (tS (tR ?_))))
 refine sL (A5 rfl rfl (B5 (by repeat first | exact mH | apply mT)) (by assumption)) rfl rfl ?_
 (refine F4 rfl (B4J e G cells hcnt hr) rfl rfl (fun v G1 hle1 hh => ?_); obtain ⟨cu, u, rfl, hru, hu⟩ := hh; obtain ⟨p1, c1, e1, rfl, _⟩ := hru.open)
 refine D0 ?_
 refine E9 (rC rfl (A2 rfl rfl)) (rT rfl) ?_
 (exact ⟨rfl, _, u, rfl, hru, hu⟩)
def B5T (e : Tm) (a b : Ty) (l : Int) : IM → Value → List A4 → Prop := L5 fun G' v => ∃ cells, v = .tuple ⟨[.agg ⟨cells⟩, .int .i64 (if P1 a b = true then l else l + 1)]⟩ ∧ A9 G' (if P1 a b = true then e else O7 e a b l) cells
def B5U (w ts : List Ty) : List Ty := if w = [] then ts else w
def B5V (ws : List Ty) (n : Nat) (G : IM) : IM → Value → List A4 → Prop := L5 fun G' v => ∃ p c es, v = .slice p n c ∧ ws.length = n ∧ B9 G' p n c 2 es ∧ B0 G' ws es
section
variable {cx : Cx} {k : Int} {nm : ByteArray} {ty : Ty} {ts w : List Ty} {t : Ty}
end
def B5W (u : Tm) (t : Ty) (l : Int) (G : IM) : IM → Value → List A4 → Prop := L5 fun G' v => ∃ cu ct, v = .tuple ⟨[.agg ⟨cu⟩, .agg ⟨ct⟩, .int .i64 (l + 1)]⟩ ∧ A9 G' u cu ∧ B3 G' t ct
theorem S9.openA {a b : List Ty} {G' : IM} {v : Value} {outs : List A4} {m : Nat} (h : S9 (a ++ b) G' v outs) (hm : a.length = m) :
  ∃ p c es, v = .slice p (m + b.length) c ∧ outs = [.slc p c 25 2 (m + b.length) es.flatten] ∧ B0 G' (a ++ b) es := by
 subst hm
 rw [← List.length_append]
 exact h
theorem B4K : ∀ (t : Tm) (l : List Ty) (G : IM) (cells : List Value) (p : Option Addr) (c : Nat) (es : List (List Value)), t.small → l.length + E0 t ≤ 4000000 → A9 G t cells → B0 G l es →
  Fn Tryz.prog 69 [.slice p l.length c, .agg ⟨cells⟩] [.slc p c 25 2 l.length es.flatten] G (S9 (l ++ C6 t)) := by
 refine Tm.ind fun k nm num ty fr lb ks ih l G cells p c es0 hts hcnt hr hl0 => ?_
 have hone := hr.one
 simp only [Tm.small] at hts
 obtain ⟨_, hty', _, hsm, hks⟩ := hts
 have hcy : k = 5 ∨ k = 13 → C6 (.mk k nm num ty fr lb ks) = [ty] ++ D3 ks := fun h => by rw [C6, if_pos h]
 have hcn : ¬ (k = 5 ∨ k = 13) → C6 (.mk k nm num ty fr lb ks) = D3 ks := fun h => by rw [C6, if_neg h, List.nil_append]
 rw [E0] at hcnt
 obtain ⟨tk, tks⟩ := ty
 obtain ⟨fk, fks⟩ := fr
 obtain ⟨pt, ct, pf, cf, q, cq, ek, rfl, hk, hnum, hlb, hty, hfr, hsl, hkl⟩ := hr.open9
 have hn := hsl.le
 refine B7 Tryz.func69 rfl Tryz.ntmps69 Tryz.results69 rfl ?_
 intro w0
 refine tS (tR ?_)
 refine sE (C2 rfl rfl) rfl (fun b3 => ?_)
 refine D7 ?_
 refine sB (qE rfl rfl) rfl rfl (fun h12 => ?_) (fun h12 => ?_)
 refine N8 ?_
 (refine F4 rfl (U6 (.mk tk tks) G _ hty' hty) rfl rfl (fun v G1 hle1 hh => ?_); obtain ⟨cs1, F1, rfl, hs1, hn1⟩ := hh; have hr1 := hs1.R.mono (C1.le _ _); obtain ⟨p1, c1, rfl, _⟩ := hs1.open)
 (refine I8 (C3 rfl rfl rfl (by omega) (by unfold maxLen; omega) rfl) rfl ?_; rintro _ ⟨b26, rfl⟩)
 (refine W7 rfl rfl rfl rfl rfl (fun _ _ => by repeat (first | exact Sw.here | apply Sw.there)) (N2 (by repeat first | exact mH | apply mT)) rfl (by simp [Value.oneCell']) (by unfold maxLen; omega) (by omega) rfl (fun pn0 cn0 => ?_))
 refine D2 ?_
 refine B6 ?_
 (have h14 := hcy (by omega); have hinit := B0.append (hl0.mono hle1) (B0.one1 hr1); refine J3 (fun (x : Nat × Nat × Option Addr × Nat × List (List Value) × IM) => ⟨[(5, .int .i64 x.1), (3, .pointer (some ⟨b3, 0, none⟩)), (0, .slice x.2.2.1 x.2.1 x.2.2.2.1)], [.slc x.2.2.1 x.2.2.2.1 25 2 x.2.1 x.2.2.2.2.1.flatten, .blk b3 [.int .i64 k, .string nm, .int .i64 num, .int .i64 tk, .slice pt tks.length ct, .int .i64 fk, .slice pf fks.length cf, .int .i64 lb, .slice q ks.length cq]], x.2.2.2.2.2⟩) (fun x => x.1 ≤ ks.length ∧ B1 G x.2.2.2.2.2 ∧ B0 x.2.2.2.2.2 ((l ++ [Ty.mk tk tks]) ++ D3 (ks.take x.1)) x.2.2.2.2.1 ∧ ((l ++ [Ty.mk tk tks]) ++ D3 (ks.take x.1)).length = x.2.1) (fun x => ks.length - x.1) (0, l.length + 1, pn0, cn0, es0 ++ [[.int .i64 tk, .slice p1 tks.length c1]], G1) (by simp only [List.flatten_append, List.flatten_cons, List.flatten_nil, List.append_nil]; exact (N3 (by repeat (first | exact D4.nil | refine D4.cons rfl ?_)) (by repeat (first | exact A0.refl | exact A0.nil | refine A0.cons (by repeat (first | exact Pk.here | apply Pk.there)) ?_ | apply A0.drop)))) ?_ ?_)
 (exact ⟨Nat.zero_le _, hle1, (by show B0 G1 ((l ++ [Ty.mk tk tks]) ++ D3 (ks.take 0)) _; rw [List.take_zero, D3, List.append_nil]; exact hinit), by simp [D3]⟩)
 (rintro ⟨(i : Nat), (m : Nat), pn, cn, es, Gi⟩ ⟨hi, hle, hst, hlen⟩; simp only [] at hi hle hst hlen ⊢; replace hsl := hsl.mono hle; replace hkl := hkl.mono hle; have hb1 := A0G (ks.take i); have hb2 := A0G ks; have hlen0 := hlen; simp only [List.length_append, List.length_singleton, List.length_nil] at hlen)
 refine D0 ?_
 refine sB (J6 rfl rfl) rfl rfl (fun h48 => ?_) (fun h48 => ?_)
 refine sD (nS (qT rfl (tK (nS (tS ?_)))))
 refine B6 ?_
 refine R2 ?_
 (obtain ⟨b, o, e, rfl, hl, hat, hre, hgb⟩ := hsl.kidTm hkl (i := i) (by omega) (by omega); have hone9 := hre.one; have hsc := A0A (ks := ks) (i := i) (by omega); have hsk := A0z (ks := ks) (i := i) (by omega); refine sP (B4 rfl rfl rfl (by omega)) rfl rfl ?_)
 refine sL (A5 rfl rfl (hat _) hl) rfl rfl ?_
 (have hih := ih ks[i] (List.getElem_mem (by omega)) _ Gi e pn cn es (Tm.smallL_mem hks _ (List.getElem_mem (by omega))) (by simp only [List.length_append, List.length_singleton]; omega) hre hst; rw [hlen0] at hih; refine L3 rfl hih (Pk.perm (by repeat (first | exact Pk.here | apply Pk.there))) rfl rfl (fun v3 G3 outs hle3 hh => ?_); obtain ⟨p3, c3, e3, rfl, rfl, hr3⟩ := S9.openA hh hlen0)
 refine I0 ?_
 refine sP (I2 rfl rfl (by omega) (by omega)) rfl rfl ?_
 refine sQ (qA rfl) rfl (sD ?_)
 (refine I9 (i + 1, m + (C6 ks[i]).length, p3, c3, e3, G3) ?_ ?_ ?_)
 (simp only [E2]; exact C5)
 (dsimp only; exact ⟨by omega, hle.trans hle3, by rw [W4 (by omega), ← List.append_assoc]; exact hr3, by rw [W4 (by omega), ← List.append_assoc, List.length_append, hlen0]⟩)
 (show ks.length - (i + 1) < ks.length - i; omega)
 refine M1 ?_
 (obtain rfl : i = ks.length := (by omega))
 refine tT ?_
 refine H0 (outs := [.slc pn cn 25 2 m es.flatten]) (rT rfl) (A0.cons (by repeat (first | exact Pk.here | apply Pk.there)) A0.nil) ?_
 (rw [h14]; rw [List.take_length] at hst hlen; first | exact S9.mk (by simp only [List.length_append, List.length_singleton, List.length_nil]; omega) hst | (rw [← List.append_assoc]; exact S9.mk (by simp only [List.length_append, List.length_singleton, List.length_nil]; omega) hst))
 refine J0 ?_
 refine sB (qE rfl rfl) rfl rfl (fun h98 => ?_) (fun h98 => ?_)
 refine D7 ?_
 (refine F4 rfl (U6 (.mk tk tks) G _ hty' hty) rfl rfl (fun v G1 hle1 hh => ?_); obtain ⟨cs1, F1, rfl, hs1, hn1⟩ := hh; have hr1 := hs1.R.mono (C1.le _ _); obtain ⟨p1, c1, rfl, _⟩ := hs1.open)
 (refine I8 (C3 rfl rfl rfl (by omega) (by unfold maxLen; omega) rfl) rfl ?_; rintro _ ⟨b108, rfl⟩)
 (refine W7 rfl rfl rfl rfl rfl (fun _ _ => by repeat (first | exact Sw.here | apply Sw.there)) (N2 (by repeat first | exact mH | apply mT)) rfl (by simp [Value.oneCell']) (by unfold maxLen; omega) (by omega) rfl (fun pn0 cn0 => ?_))
 refine D2 ?_
 refine B6 ?_
 (have h14 := hcy (by omega); have hinit := B0.append (hl0.mono hle1) (B0.one1 hr1); refine J3 (fun (x : Nat × Nat × Option Addr × Nat × List (List Value) × IM) => ⟨[(5, .int .i64 x.1), (3, .pointer (some ⟨b3, 0, none⟩)), (0, .slice x.2.2.1 x.2.1 x.2.2.2.1)], [.slc x.2.2.1 x.2.2.2.1 25 2 x.2.1 x.2.2.2.2.1.flatten, .blk b3 [.int .i64 k, .string nm, .int .i64 num, .int .i64 tk, .slice pt tks.length ct, .int .i64 fk, .slice pf fks.length cf, .int .i64 lb, .slice q ks.length cq]], x.2.2.2.2.2⟩) (fun x => x.1 ≤ ks.length ∧ B1 G x.2.2.2.2.2 ∧ B0 x.2.2.2.2.2 ((l ++ [Ty.mk tk tks]) ++ D3 (ks.take x.1)) x.2.2.2.2.1 ∧ ((l ++ [Ty.mk tk tks]) ++ D3 (ks.take x.1)).length = x.2.1) (fun x => ks.length - x.1) (0, l.length + 1, pn0, cn0, es0 ++ [[.int .i64 tk, .slice p1 tks.length c1]], G1) (by simp only [List.flatten_append, List.flatten_cons, List.flatten_nil, List.append_nil]; exact (N3 (by repeat (first | exact D4.nil | refine D4.cons rfl ?_)) (by repeat (first | exact A0.refl | exact A0.nil | refine A0.cons (by repeat (first | exact Pk.here | apply Pk.there)) ?_ | apply A0.drop)))) ?_ ?_)
 (exact ⟨Nat.zero_le _, hle1, (by show B0 G1 ((l ++ [Ty.mk tk tks]) ++ D3 (ks.take 0)) _; rw [List.take_zero, D3, List.append_nil]; exact hinit), by simp [D3]⟩)
 (rintro ⟨(i : Nat), (m : Nat), pn, cn, es, Gi⟩ ⟨hi, hle, hst, hlen⟩; simp only [] at hi hle hst hlen ⊢; replace hsl := hsl.mono hle; replace hkl := hkl.mono hle; have hb1 := A0G (ks.take i); have hb2 := A0G ks; have hlen0 := hlen; simp only [List.length_append, List.length_singleton, List.length_nil] at hlen)
 refine D0 ?_
 refine sB (J6 rfl rfl) rfl rfl (fun h130 => ?_) (fun h130 => ?_)
 refine sD (nS (qT rfl (tK (nS (tS ?_)))))
 refine B6 ?_
 refine R2 ?_
 (obtain ⟨b, o, e, rfl, hl, hat, hre, hgb⟩ := hsl.kidTm hkl (i := i) (by omega) (by omega); have hone9 := hre.one; have hsc := A0A (ks := ks) (i := i) (by omega); have hsk := A0z (ks := ks) (i := i) (by omega); refine sP (B4 rfl rfl rfl (by omega)) rfl rfl ?_)
 refine sL (A5 rfl rfl (hat _) hl) rfl rfl ?_
 (have hih := ih ks[i] (List.getElem_mem (by omega)) _ Gi e pn cn es (Tm.smallL_mem hks _ (List.getElem_mem (by omega))) (by simp only [List.length_append, List.length_singleton]; omega) hre hst; rw [hlen0] at hih; refine L3 rfl hih (Pk.perm (by repeat (first | exact Pk.here | apply Pk.there))) rfl rfl (fun v3 G3 outs hle3 hh => ?_); obtain ⟨p3, c3, e3, rfl, rfl, hr3⟩ := S9.openA hh hlen0)
 refine I0 ?_
 refine sP (I2 rfl rfl (by omega) (by omega)) rfl rfl ?_
 refine sQ (qA rfl) rfl (sD ?_)
 (refine I9 (i + 1, m + (C6 ks[i]).length, p3, c3, e3, G3) ?_ ?_ ?_)
 (simp only [E2]; exact C5)
 (dsimp only; exact ⟨by omega, hle.trans hle3, by rw [W4 (by omega), ← List.append_assoc]; exact hr3, by rw [W4 (by omega), ← List.append_assoc, List.length_append, hlen0]⟩)
 (show ks.length - (i + 1) < ks.length - i; omega)
 refine M1 ?_
 (obtain rfl : i = ks.length := (by omega))
 refine tT ?_
 refine H0 (outs := [.slc pn cn 25 2 m es.flatten]) (rT rfl) (A0.cons (by repeat (first | exact Pk.here | apply Pk.there)) A0.nil) ?_
 (rw [h14]; rw [List.take_length] at hst hlen; first | exact S9.mk (by simp only [List.length_append, List.length_singleton, List.length_nil]; omega) hst | (rw [← List.append_assoc]; exact S9.mk (by simp only [List.length_append, List.length_singleton, List.length_nil]; omega) hst))
 refine N8 ?_
 refine B6 ?_
 (have h14 := hcn (by omega); refine J3 (fun (x : Nat × Nat × Option Addr × Nat × List (List Value) × IM) => ⟨[(5, .int .i64 x.1), (3, .pointer (some ⟨b3, 0, none⟩)), (0, .slice x.2.2.1 x.2.1 x.2.2.2.1)], [.slc x.2.2.1 x.2.2.2.1 25 2 x.2.1 x.2.2.2.2.1.flatten, .blk b3 [.int .i64 k, .string nm, .int .i64 num, .int .i64 tk, .slice pt tks.length ct, .int .i64 fk, .slice pf fks.length cf, .int .i64 lb, .slice q ks.length cq]], x.2.2.2.2.2⟩) (fun x => x.1 ≤ ks.length ∧ B1 G x.2.2.2.2.2 ∧ B0 x.2.2.2.2.2 (l ++ D3 (ks.take x.1)) x.2.2.2.2.1 ∧ (l ++ D3 (ks.take x.1)).length = x.2.1) (fun x => ks.length - x.1) (0, l.length, p, c, es0, G) ?_ ?_ ?_)
 (simp only [E2]; exact C5)
 (exact ⟨Nat.zero_le _, B1.refl _, by simpa [D3] using hl0, by simp [D3]⟩)
 (rintro ⟨(i : Nat), (m : Nat), pn, cn, es, Gi⟩ ⟨hi, hle, hst, hlen⟩; simp only [] at hi hle hst hlen ⊢; replace hsl := hsl.mono hle; replace hkl := hkl.mono hle; have hb1 := A0G (ks.take i); have hb2 := A0G ks; have hlen0 := hlen; simp only [List.length_append, List.length_singleton, List.length_nil] at hlen)
 refine D0 ?_
 refine sB (J6 rfl rfl) rfl rfl (fun h201 => ?_) (fun h201 => ?_)
 refine sD (nS (qT rfl (tK (nS (tS ?_)))))
 refine B6 ?_
 refine R2 ?_
 (obtain ⟨b, o, e, rfl, hl, hat, hre, hgb⟩ := hsl.kidTm hkl (i := i) (by omega) (by omega); have hone9 := hre.one; have hsc := A0A (ks := ks) (i := i) (by omega); have hsk := A0z (ks := ks) (i := i) (by omega); refine sP (B4 rfl rfl rfl (by omega)) rfl rfl ?_)
 refine sL (A5 rfl rfl (hat _) hl) rfl rfl ?_
 (have hih := ih ks[i] (List.getElem_mem (by omega)) _ Gi e pn cn es (Tm.smallL_mem hks _ (List.getElem_mem (by omega))) (by simp only [List.length_append, List.length_singleton]; omega) hre hst; rw [hlen0] at hih; refine L3 rfl hih (Pk.perm (by repeat (first | exact Pk.here | apply Pk.there))) rfl rfl (fun v3 G3 outs hle3 hh => ?_); obtain ⟨p3, c3, e3, rfl, rfl, hr3⟩ := S9.openA hh hlen0)
 refine I0 ?_
 refine sP (I2 rfl rfl (by omega) (by omega)) rfl rfl ?_
 refine sQ (qA rfl) rfl (sD ?_)
 (refine I9 (i + 1, m + (C6 ks[i]).length, p3, c3, e3, G3) ?_ ?_ ?_)
 (simp only [E2]; exact C5)
 (dsimp only; exact ⟨by omega, hle.trans hle3, by rw [W4 (by omega), ← List.append_assoc]; exact hr3, by rw [W4 (by omega), ← List.append_assoc, List.length_append, hlen0]⟩)
 (show ks.length - (i + 1) < ks.length - i; omega)
 refine M1 ?_
 (obtain rfl : i = ks.length := (by omega))
 refine tT ?_
 refine H0 (outs := [.slc pn cn 25 2 m es.flatten]) (rT rfl) (A0.cons (by repeat (first | exact Pk.here | apply Pk.there)) A0.nil) ?_
 (rw [h14]; rw [List.take_length] at hst hlen; first | exact S9.mk (by simp only [List.length_append, List.length_singleton, List.length_nil]; omega) hst | (rw [← List.append_assoc]; exact S9.mk (by simp only [List.length_append, List.length_singleton, List.length_nil]; omega) hst))
def Z7 (t : Tm) : List Ty := if M3 t = true then C6 t else []
theorem A4t (t : Tm) (G : IM) (cells : List Value) (hts : t.small) (hcnt : E0 t ≤ 4000000) (hr : A9 G t cells) : Fn Tryz.prog 35 [.agg ⟨cells⟩] [] G (S9 (Z7 t)) := by
 have hl := hr.len
 have hone := hr.one
 have hv := A5e t G cells (by omega) hr
 have hno : M3 t = false → Z7 t = [] := fun h => by unfold Z7; rw [h]; rfl
 have hyes : M3 t = true → Z7 t = C6 t := fun h => by unfold Z7; rw [h]; rfl
 refine B7 Tryz.func35 rfl Tryz.ntmps35 Tryz.results35 rfl ?_
 intro w0
 refine tS (tR ?_)
 refine sE (C2 rfl rfl) rfl (fun b3 => ?_)
 refine sQ (qA rfl) rfl (sD (nS (tS (tS (tR ?_)))))
 refine sL (A5 rfl rfl (B5 (by repeat first | exact mH | apply mT)) (by assumption)) rfl rfl ?_
 refine H3 rfl (hv) rfl rfl (fun h11 => ?_) (fun h11 => ?_)
 refine sQ (pNt rfl) rfl (sD (nS (cF rfl (tK (nS (tS (tR ?_)))))))
 (refine I8 (C3 rfl rfl rfl (by omega) (by unfold maxLen; omega) rfl) rfl ?_; rintro _ ⟨b20, rfl⟩)
 refine sL (A5 rfl rfl (B5 (by repeat first | exact mH | apply mT)) (by assumption)) rfl rfl ?_
 (refine L3 rfl (B4K t [] G cells _ 0 [] hts (by simp; omega) hr (by simp [B0])) (Pk.perm (by repeat (first | exact Pk.here | apply Pk.there))) rfl rfl (fun v3 G3 outs hle3 hh => ?_); obtain ⟨p3, c3, e3, rfl, rfl, hr3⟩ := hh)
 refine sQ (qA rfl) rfl (sD (nS (tT ?_)))
 refine H0 (outs := [.slc p3 c3 25 2 ([] ++ C6 t).length e3.flatten]) (rT rfl) (A0.cons (by repeat (first | exact Pk.here | apply Pk.there)) A0.nil) ?_
 (rw [hyes (by assumption)]; exact ⟨p3, c3, e3, rfl, rfl, hr3⟩)
 refine sQ (pNf rfl) rfl (sD (nS (qT rfl (tS (tR ?_)))))
 (refine I8 (C3 rfl rfl rfl (by omega) (by unfold maxLen; omega) rfl) rfl ?_; rintro _ ⟨b35, rfl⟩)
 refine sQ (qA rfl) rfl (sD (nS (tT (rS ?_))))
 refine H0 (rT rfl) (A0.cons Pk.here A0.nil) ?_
 (rw [hno (by assumption)]; exact ⟨_, _, [], rfl, rfl, by simp [B0]⟩)
theorem B4L (t : Tm) (G : IM) (cells : List Value) (hts : t.small) (hcnt : E0 t ≤ 4000000) (hr : A9 G t cells) : Fn Tryz.prog 56 [.agg ⟨cells⟩] [] G (L5 fun _ v => v = .int .i64 ((Z7 t).length : Int)) := by
 have hl := hr.len
 have hone := hr.one
 refine B7 Tryz.func56 rfl Tryz.ntmps56 Tryz.results56 rfl ?_
 intro w0
 refine tS (tR ?_)
 refine sE (C2 rfl rfl) rfl (fun b3 => ?_)
 refine sQ (qA rfl) rfl (sD (nS (tS (tR ?_))))
 refine sL (A5 rfl rfl (B5 (by repeat first | exact mH | apply mT)) (by assumption)) rfl rfl ?_
 (refine T9 rfl (A4t t G cells hts hcnt hr) rfl rfl (fun v G1 outs hle1 hh => ?_); obtain ⟨p1, c1, e1, rfl, rfl, hr1⟩ := hh)
 refine I0 ?_
 exact ⟨rfl, rfl⟩
def A2I (u : Tm) (n : Int) : IM → Value → List A4 → Prop := fun G' v outs => outs = [] ∧ ∃ cu, v = .tuple ⟨[.agg ⟨cu⟩, .int .i64 n]⟩ ∧ A9 G' u cu
theorem A2I.mk {G' : IM} {k : Int} {nm : ByteArray} {num : Int} {ty fr : Ty} {lb : Int} {ks : List Tm} {tk fk : Int} {pt pf : Option Addr} {nt ct nf cf : Nat} {p : Option Addr} {m c : Nat} {es : List (List Value)} {a n : Int}
  (hk : D9 k) (hnum : D9 num) (hlb : D9 lb) (hty : B3 G' ty [.int .i64 tk, .slice pt nt ct]) (hfr : B3 G' fr [.int .i64 fk, .slice pf nf cf]) (hm : m = ks.length) (hs : Sl G' p m c 9 es.flatten) (hr : C8 G' ks es) (ha : a = n) :
  A2I (.mk k nm num ty fr lb ks) n G' (.tuple ⟨[.agg ⟨[.int .i64 k, .string nm, .int .i64 num, .int .i64 tk, .slice pt nt ct, .int .i64 fk, .slice pf nf cf, .int .i64 lb, .slice p m c]⟩, .int .i64 a]⟩) [] := by
 subst hm ha
 refine ⟨rfl, _, rfl, ?_⟩
 simp only [A9]
 exact ⟨_, _, p, c, es, rfl, hk, hnum, hlb, hty, hfr, B9.of hs hr.len hr.all (fun e he => by obtain ⟨j, hj⟩ := List.getElem?_of_mem he; exact (hr.inv hj J4).2.one), hr⟩
theorem B4M (L : List Ty) (p : Option Addr) (c : Nat) (hsmL : ∀ u ∈ L, u.small) : ∀ (t : Tm) (a : Nat) (G : IM) (cells : List Value) (el : List (List Value)), a + (C6 t).length ≤ L.length → L.length ≤ 4000000 → t.small → E0 t ≤ 4000000 → A9 G t cells → B9 G p L.length c 2 el → B0 G L el →
  Fn Tryz.prog 72 [.agg ⟨cells⟩, .slice p L.length c, .int .i64 (a : Int)] [] G (A2I (M6 t (L.drop a)) ((a + (C6 t).length : Nat) : Int)) := by
 refine Tm.ind fun k nm num ty fr lb ks ih a G cells el hlen hLb hts hcnt hr hse hel => ?_
 have hone := hr.one
 have hlen9 := hr.len
 simp only [Tm.small] at hts
 obtain ⟨_, hty', hfr', hsm, hks⟩ := hts
 have hcy : k = 5 ∨ k = 13 → C6 (.mk k nm num ty fr lb ks) = [ty] ++ D3 ks := fun h => by rw [C6, if_pos h]
 have hcn : ¬ (k = 5 ∨ k = 13) → C6 (.mk k nm num ty fr lb ks) = D3 ks := fun h => by rw [C6, if_neg h, List.nil_append]
 have hwy : k = 5 ∨ k = 13 → M6 (.mk k nm num ty fr lb ks) (L.drop a) = .mk k nm num ((L.drop a).getD 0 A7) fr lb (L9 ks (L.drop (a + 1))) := fun h => by rw [M6, if_pos h, if_pos h, List.drop_drop]
 have hwn : ¬ (k = 5 ∨ k = 13) → M6 (.mk k nm num ty fr lb ks) (L.drop a) = .mk k nm num ty fr lb (L9 ks (L.drop a)) := fun h => by rw [M6, if_neg h, if_neg h]
 rw [E0] at hcnt
 obtain ⟨tk, tks⟩ := ty
 obtain ⟨fk, fks⟩ := fr
 obtain ⟨pt, ct, pf, cf, q, cq, ek, rfl, hk, hnum, hlb, hty, hfr, hsl, hkl⟩ := hr.open9
 have hn := hsl.le
 have hkn := A3U ks
 have hT := U6 (.mk tk tks) G _ hty' hty
 refine B7 Tryz.func72 rfl Tryz.ntmps72 Tryz.results72 rfl ?_
 intro w0
 refine tS (tR ?_)
 refine sE (C2 rfl rfl) rfl (fun b3 => ?_)
 refine sE (A6 rfl) rfl (fun b4 => ?_)
 refine I0 ?_
 refine sE (A6 rfl) rfl (fun b11 => ?_)
 refine D0 ?_
 (refine F4 rfl hT rfl rfl (fun v G1 hle1 hh => ?_); obtain ⟨cs1, F1, rfl, hs1, hn1⟩ := hh; have hr1 := hs1.R.mono (C1.le _ _); obtain ⟨p1, c1, rfl, _⟩ := hs1.open; have hF := U6 (.mk fk fks) G1 _ hfr' (hfr.mono hle1))
 refine D7 ?_
 (refine F4 rfl hF rfl rfl (fun v G2 hle2 hh => ?_); obtain ⟨cs2, F2, rfl, hs2, hn2⟩ := hh; have hr2 := hs2.R.mono (C1.le _ _); obtain ⟨p2, c2, rfl, _⟩ := hs2.open; have hle12 := hle1.trans hle2; replace hsl := hsl.mono hle12; replace hkl := hkl.mono hle12; replace hse := hse.mono hle12; replace hel := hel.mono hle12)
 refine I4 ?_
 refine sB (qE rfl rfl) rfl rfl (fun h44 => ?_) (fun h44 => ?_)
 refine N8 ?_
 (have hL1 := hcy (by omega); have h1 : a + (1 + (D3 ks).length) ≤ L.length := (by rw [hL1] at hlen; simp only [List.length_append, List.length_singleton] at hlen; omega); obtain ⟨b0, o0, p20, c20, rfl, hat0, hre0, hgb0⟩ := hse.kidTy hel (i := a) (by omega) (by omega); obtain ⟨T0, hT0⟩ : ∃ T, T = L[a]'(by omega) := ⟨_, rfl⟩; have hs0 := hsmL _ (List.getElem_mem (show a < L.length by omega)); rw [← hT0] at hre0 hat0 hs0; have hO := U6 T0 G2 _ hs0 hre0; refine sP (B4 rfl rfl rfl (by omega)) rfl rfl ?_)
 refine sL (A5 rfl rfl (hat0 _) rfl) rfl rfl ?_
 (refine F4 rfl hO rfl rfl (fun v G3 hle3 hh => ?_); obtain ⟨cs3, F3, rfl, hs3, hn3⟩ := hh; have hr3 := hs3.R.mono (C1.le _ _); obtain ⟨p3, c3, rfl, _⟩ := hs3.open)
 refine sQ (B8 rfl) rfl (F9 ?_)
 refine sD (nS (tR (sQ (qM rfl) rfl ?_)))
 refine sP (I2 rfl rfl (by omega) (by omega)) rfl rfl ?_
 refine D2 ?_
 refine B6 ?_
 (have hL2 := hcy (by omega); have hW2 := hwy (by omega); refine T7 28 9 ?_; refine J3 (fun (x : Nat × Option Addr × Nat × List (List Value) × IM) => ⟨[(9, .int .i64 x.1), (2, .int .i64 ((a + 1 + (D3 (ks.take x.1)).length : Nat) : Int)), (1, .slice (some ⟨b0, o0, none⟩) L.length c), (3, .pointer (some ⟨b3, 0, none⟩)), (8, .pointer (some ⟨b11, 0, none⟩)), (6, .pointer (some ⟨b4, 0, none⟩))], [.blk b11 [.int .i64 k, .string nm, .int .i64 num, .int .i64 T0.k, .slice p3 T0.ks.length c3, .int .i64 fk, .slice p2 fks.length c2, .int .i64 lb, .slice x.2.1 x.1 x.2.2.1], .slc x.2.1 x.2.2.1 28 9 x.1 x.2.2.2.1.flatten, .blk b4 [.int .i64 0, .string ⟨⟨[]⟩⟩, .int .i64 0, .int .i64 0, .slice none 0 0, .int .i64 0, .slice none 0 0, .int .i64 0, .slice none 0 0], .blk b3 [.int .i64 k, .string nm, .int .i64 num, .int .i64 tk, .slice pt tks.length ct, .int .i64 fk, .slice pf fks.length cf, .int .i64 lb, .slice q ks.length cq]], x.2.2.2.2⟩) (fun x => x.1 ≤ ks.length ∧ B1 G3 x.2.2.2.2 ∧ C8 x.2.2.2.2 (L9 (ks.take x.1) (L.drop (a + 1))) x.2.2.2.1) (fun x => ks.length - x.1) (0, none, 0, [], G3) ?_ ?_ ?_)
 (simp only [E2]; exact C5)
 (exact ⟨Nat.zero_le _, B1.refl _, by simp [L9, C8]⟩)
 (rintro ⟨(i : Nat), pn, cn, es, Gi⟩ ⟨hi, hle, hst⟩; simp only [] at hi hle hst ⊢)
 refine D0 ?_
 refine sB (J6 rfl rfl) rfl rfl (fun h88 => ?_) (fun h88 => ?_)
 refine sD (nS (qT rfl (tK (nS (tS ?_)))))
 refine B6 ?_
 refine tS (tR (sQ (S0 rfl rfl) rfl ?_))
 refine sE (A6 rfl) rfl (fun b99 => ?_)
 refine D7 ?_
 (obtain ⟨b, o, e, rfl, hl, hat, hre, hgb⟩ := (hsl.mono (by first | exact hle | exact hle3.trans hle)).kidTm (hkl.mono (by first | exact hle | exact hle3.trans hle)) (i := i) (by omega) (by omega); have hone9 := hre.one; have hsc := A0A (ks := ks) (i := i) (by omega); have hsk := A0z (ks := ks) (i := i) (by omega); have hts1 := A3d (ks := ks) (i := i) (by omega); have e9 : (D3 (ks.take (i + 1))).length = (D3 (ks.take i)).length + (C6 ks[i]).length := (by rw [W4 (by omega), List.length_append]); refine sP (B4 rfl rfl rfl (by omega)) rfl rfl ?_)
 refine sL (A5 rfl rfl (hat _) hl) rfl rfl ?_
 refine sQ (qM rfl) rfl (sQ (qM rfl) rfl ?_)
 (have hih := ih ks[i] (List.getElem_mem (by omega)) _ Gi e el (by rw [hL2] at hlen; (try simp only [List.length_append, List.length_singleton] at hlen); first | exact (show a + 1 + (D3 (ks.take i)).length + (C6 ks[i]).length ≤ L.length by omega) | exact (show a + (D3 (ks.take i)).length + (C6 ks[i]).length ≤ L.length by omega)) hLb (Tm.smallL_mem hks _ (List.getElem_mem (by omega))) (by omega) hre (hse.mono (by first | exact hle | exact hle3.trans hle)) (hel.mono (by first | exact hle | exact hle3.trans hle)); refine T9 rfl hih rfl rfl (fun v G7 outs hle7 hh => ?_); obtain ⟨rfl, cu, rfl, hru⟩ := hh; rw [← List.drop_drop] at hru; have hsn := C8.snoc (hst.mono hle7) hru; obtain ⟨u1, u2, u3, u4, u5, u6, u7, u8, u9, rfl⟩ : ∃ u1 u2 u3 u4 u5 u6 u7 u8 u9, cu = [u1, u2, u3, u4, u5, u6, u7, u8, u9] := (by obtain ⟨_, _, _, _, _, _, _, _, _, rfl, _⟩ := hru.open; exact ⟨_, _, _, _, _, _, _, _, _, rfl⟩); have huo := hru.one)
 refine J0 ?_
 refine sS rfl rfl rfl rfl huo rfl ?_
 refine D0 ?_
 (refine I8 (C3 rfl rfl rfl (by omega) (by unfold maxLen; omega) rfl) rfl ?_; rintro _ ⟨b124, rfl⟩)
 (refine W7 rfl rfl rfl rfl rfl (fun _ _ => by repeat (first | exact Sw.here | apply Sw.there)) (N2 (by repeat first | exact mH | apply mT)) rfl (fun u hu => List.all_eq_true.1 huo u hu) (by unfold maxLen; omega) (by omega) rfl (fun p4 c4 => ?_))
 refine D0 ?_
 refine sP (I2 rfl rfl (by omega) (by omega)) rfl rfl ?_
 refine sQ (qA rfl) rfl (sD ?_)
 (rw [← A3c (by omega)] at hsn; refine I9 (i + 1, p4, c4, es ++ [[u1, u2, u3, u4, u5, u6, u7, u8, u9]], G7) (by simp only [List.flatten_append, List.flatten_cons, List.flatten_nil, List.append_nil, e9, ← Nat.add_assoc]; exact (N3 (by repeat (first | exact D4.nil | refine D4.cons rfl ?_)) (by repeat (first | exact A0.refl | exact A0.nil | refine A0.cons (by repeat (first | exact Pk.here | apply Pk.there)) ?_ | apply A0.drop)))) ?_ ?_)
 (dsimp only; exact ⟨by omega, hle.trans hle7, hsn⟩)
 (show ks.length - (i + 1) < ks.length - i; omega)
 refine K8 ?_
 (refine H8 (cs := es.flatten) (by repeat (first | exact Pk.here | apply Pk.there)) (fun G9 hle9 hsl9 hno9 => ?_); obtain rfl : i = ks.length := (by omega); rw [List.take_length] at hst)
 refine tT ?_
 refine E9 (rC rfl (A2 rfl rfl)) (rT rfl) ?_
 (rw [hW2, hL2]; exact A2I.mk hk hnum hlb (by first | (rw [List.getD_eq_getElem?_getD, List.getElem?_drop, Nat.add_zero, List.getElem?_eq_getElem (by omega), Option.getD_some, ← hT0]; exact hr3.mono (hle.trans hle9)) | exact hr1.mono (hle2.trans (hle.trans hle9))) (by first | exact hr2.mono (hle3.trans (hle.trans hle9)) | exact hr2.mono (hle.trans hle9)) (by rw [A1G]) hsl9 (hst.mono hle9) (by (simp only [List.take_length, List.length_append, List.length_singleton]) <;> omega))
 refine J0 ?_
 refine sB (qE rfl rfl) rfl rfl (fun h162 => ?_) (fun h162 => ?_)
 refine D7 ?_
 (have hL1 := hcy (by omega); have h1 : a + (1 + (D3 ks).length) ≤ L.length := (by rw [hL1] at hlen; simp only [List.length_append, List.length_singleton] at hlen; omega); obtain ⟨b0, o0, p20, c20, rfl, hat0, hre0, hgb0⟩ := hse.kidTy hel (i := a) (by omega) (by omega); obtain ⟨T0, hT0⟩ : ∃ T, T = L[a]'(by omega) := ⟨_, rfl⟩; have hs0 := hsmL _ (List.getElem_mem (show a < L.length by omega)); rw [← hT0] at hre0 hat0 hs0; have hO := U6 T0 G2 _ hs0 hre0; refine sP (B4 rfl rfl rfl (by omega)) rfl rfl ?_)
 refine sL (A5 rfl rfl (hat0 _) rfl) rfl rfl ?_
 (refine F4 rfl hO rfl rfl (fun v G3 hle3 hh => ?_); obtain ⟨cs3, F3, rfl, hs3, hn3⟩ := hh; have hr3 := hs3.R.mono (C1.le _ _); obtain ⟨p3, c3, rfl, _⟩ := hs3.open)
 refine sQ (B8 rfl) rfl (F9 ?_)
 refine sD (nS (tR (sQ (qM rfl) rfl ?_)))
 refine sP (I2 rfl rfl (by omega) (by omega)) rfl rfl ?_
 refine D2 ?_
 refine B6 ?_
 (have hL2 := hcy (by omega); have hW2 := hwy (by omega); refine T7 28 9 ?_; refine J3 (fun (x : Nat × Option Addr × Nat × List (List Value) × IM) => ⟨[(9, .int .i64 x.1), (2, .int .i64 ((a + 1 + (D3 (ks.take x.1)).length : Nat) : Int)), (1, .slice (some ⟨b0, o0, none⟩) L.length c), (3, .pointer (some ⟨b3, 0, none⟩)), (8, .pointer (some ⟨b11, 0, none⟩)), (6, .pointer (some ⟨b4, 0, none⟩))], [.blk b11 [.int .i64 k, .string nm, .int .i64 num, .int .i64 T0.k, .slice p3 T0.ks.length c3, .int .i64 fk, .slice p2 fks.length c2, .int .i64 lb, .slice x.2.1 x.1 x.2.2.1], .slc x.2.1 x.2.2.1 28 9 x.1 x.2.2.2.1.flatten, .blk b4 [.int .i64 0, .string ⟨⟨[]⟩⟩, .int .i64 0, .int .i64 0, .slice none 0 0, .int .i64 0, .slice none 0 0, .int .i64 0, .slice none 0 0], .blk b3 [.int .i64 k, .string nm, .int .i64 num, .int .i64 tk, .slice pt tks.length ct, .int .i64 fk, .slice pf fks.length cf, .int .i64 lb, .slice q ks.length cq]], x.2.2.2.2⟩) (fun x => x.1 ≤ ks.length ∧ B1 G3 x.2.2.2.2 ∧ C8 x.2.2.2.2 (L9 (ks.take x.1) (L.drop (a + 1))) x.2.2.2.1) (fun x => ks.length - x.1) (0, none, 0, [], G3) ?_ ?_ ?_)
 (simp only [E2]; exact C5)
 (exact ⟨Nat.zero_le _, B1.refl _, by simp [L9, C8]⟩)
 (rintro ⟨(i : Nat), pn, cn, es, Gi⟩ ⟨hi, hle, hst⟩; simp only [] at hi hle hst ⊢)
 refine D0 ?_
 refine sB (J6 rfl rfl) rfl rfl (fun h202 => ?_) (fun h202 => ?_)
 refine sD (nS (qT rfl (tK (nS (tS ?_)))))
 refine B6 ?_
 refine tS (tR (sQ (S0 rfl rfl) rfl ?_))
 refine sE (A6 rfl) rfl (fun b213 => ?_)
 refine D7 ?_
 (obtain ⟨b, o, e, rfl, hl, hat, hre, hgb⟩ := (hsl.mono (by first | exact hle | exact hle3.trans hle)).kidTm (hkl.mono (by first | exact hle | exact hle3.trans hle)) (i := i) (by omega) (by omega); have hone9 := hre.one; have hsc := A0A (ks := ks) (i := i) (by omega); have hsk := A0z (ks := ks) (i := i) (by omega); have hts1 := A3d (ks := ks) (i := i) (by omega); have e9 : (D3 (ks.take (i + 1))).length = (D3 (ks.take i)).length + (C6 ks[i]).length := (by rw [W4 (by omega), List.length_append]); refine sP (B4 rfl rfl rfl (by omega)) rfl rfl ?_)
 refine sL (A5 rfl rfl (hat _) hl) rfl rfl ?_
 refine sQ (qM rfl) rfl (sQ (qM rfl) rfl ?_)
 (have hih := ih ks[i] (List.getElem_mem (by omega)) _ Gi e el (by rw [hL2] at hlen; (try simp only [List.length_append, List.length_singleton] at hlen); first | exact (show a + 1 + (D3 (ks.take i)).length + (C6 ks[i]).length ≤ L.length by omega) | exact (show a + (D3 (ks.take i)).length + (C6 ks[i]).length ≤ L.length by omega)) hLb (Tm.smallL_mem hks _ (List.getElem_mem (by omega))) (by omega) hre (hse.mono (by first | exact hle | exact hle3.trans hle)) (hel.mono (by first | exact hle | exact hle3.trans hle)); refine T9 rfl hih rfl rfl (fun v G7 outs hle7 hh => ?_); obtain ⟨rfl, cu, rfl, hru⟩ := hh; rw [← List.drop_drop] at hru; have hsn := C8.snoc (hst.mono hle7) hru; obtain ⟨u1, u2, u3, u4, u5, u6, u7, u8, u9, rfl⟩ : ∃ u1 u2 u3 u4 u5 u6 u7 u8 u9, cu = [u1, u2, u3, u4, u5, u6, u7, u8, u9] := (by obtain ⟨_, _, _, _, _, _, _, _, _, rfl, _⟩ := hru.open; exact ⟨_, _, _, _, _, _, _, _, _, rfl⟩); have huo := hru.one)
 refine J0 ?_
 refine sS rfl rfl rfl rfl huo rfl ?_
 refine D0 ?_
 (refine I8 (C3 rfl rfl rfl (by omega) (by unfold maxLen; omega) rfl) rfl ?_; rintro _ ⟨b238, rfl⟩)
 (refine W7 rfl rfl rfl rfl rfl (fun _ _ => by repeat (first | exact Sw.here | apply Sw.there)) (N2 (by repeat first | exact mH | apply mT)) rfl (fun u hu => List.all_eq_true.1 huo u hu) (by unfold maxLen; omega) (by omega) rfl (fun p4 c4 => ?_))
 refine D0 ?_
 refine sP (I2 rfl rfl (by omega) (by omega)) rfl rfl ?_
 refine sQ (qA rfl) rfl (sD ?_)
 (rw [← A3c (by omega)] at hsn; refine I9 (i + 1, p4, c4, es ++ [[u1, u2, u3, u4, u5, u6, u7, u8, u9]], G7) (by simp only [List.flatten_append, List.flatten_cons, List.flatten_nil, List.append_nil, e9, ← Nat.add_assoc]; exact (N3 (by repeat (first | exact D4.nil | refine D4.cons rfl ?_)) (by repeat (first | exact A0.refl | exact A0.nil | refine A0.cons (by repeat (first | exact Pk.here | apply Pk.there)) ?_ | apply A0.drop)))) ?_ ?_)
 (dsimp only; exact ⟨by omega, hle.trans hle7, hsn⟩)
 (show ks.length - (i + 1) < ks.length - i; omega)
 refine K8 ?_
 (refine H8 (cs := es.flatten) (by repeat (first | exact Pk.here | apply Pk.there)) (fun G9 hle9 hsl9 hno9 => ?_); obtain rfl : i = ks.length := (by omega); rw [List.take_length] at hst)
 refine tT ?_
 refine E9 (rC rfl (A2 rfl rfl)) (rT rfl) ?_
 (rw [hW2, hL2]; exact A2I.mk hk hnum hlb (by first | (rw [List.getD_eq_getElem?_getD, List.getElem?_drop, Nat.add_zero, List.getElem?_eq_getElem (by omega), Option.getD_some, ← hT0]; exact hr3.mono (hle.trans hle9)) | exact hr1.mono (hle2.trans (hle.trans hle9))) (by first | exact hr2.mono (hle3.trans (hle.trans hle9)) | exact hr2.mono (hle.trans hle9)) (by rw [A1G]) hsl9 (hst.mono hle9) (by (simp only [List.take_length, List.length_append, List.length_singleton]) <;> omega))
 refine N8 ?_
 refine B6 ?_
 (have hL2 := hcn (by omega); have hW2 := hwn (by omega); refine T7 28 9 ?_; refine J3 (fun (x : Nat × Option Addr × Nat × List (List Value) × IM) => ⟨[(9, .int .i64 x.1), (2, .int .i64 ((a + (D3 (ks.take x.1)).length : Nat) : Int)), (1, .slice p L.length c), (3, .pointer (some ⟨b3, 0, none⟩)), (8, .pointer (some ⟨b11, 0, none⟩)), (6, .pointer (some ⟨b4, 0, none⟩))], [.blk b11 [.int .i64 k, .string nm, .int .i64 num, .int .i64 tk, .slice p1 tks.length c1, .int .i64 fk, .slice p2 fks.length c2, .int .i64 lb, .slice x.2.1 x.1 x.2.2.1], .slc x.2.1 x.2.2.1 28 9 x.1 x.2.2.2.1.flatten, .blk b4 [.int .i64 0, .string ⟨⟨[]⟩⟩, .int .i64 0, .int .i64 0, .slice none 0 0, .int .i64 0, .slice none 0 0, .int .i64 0, .slice none 0 0], .blk b3 [.int .i64 k, .string nm, .int .i64 num, .int .i64 tk, .slice pt tks.length ct, .int .i64 fk, .slice pf fks.length cf, .int .i64 lb, .slice q ks.length cq]], x.2.2.2.2⟩) (fun x => x.1 ≤ ks.length ∧ B1 G2 x.2.2.2.2 ∧ C8 x.2.2.2.2 (L9 (ks.take x.1) (L.drop a)) x.2.2.2.1) (fun x => ks.length - x.1) (0, none, 0, [], G2) ?_ ?_ ?_)
 (simp only [E2]; exact C5)
 (exact ⟨Nat.zero_le _, B1.refl _, by simp [L9, C8]⟩)
 (rintro ⟨(i : Nat), pn, cn, es, Gi⟩ ⟨hi, hle, hst⟩; simp only [] at hi hle hst ⊢)
 refine D0 ?_
 refine sB (J6 rfl rfl) rfl rfl (fun h297 => ?_) (fun h297 => ?_)
 refine sD (nS (qT rfl (tK (nS (tS ?_)))))
 refine B6 ?_
 refine tS (tR (sQ (S0 rfl rfl) rfl ?_))
 refine sE (A6 rfl) rfl (fun b308 => ?_)
 refine D7 ?_
 (obtain ⟨b, o, e, rfl, hl, hat, hre, hgb⟩ := (hsl.mono (by first | exact hle | exact hle3.trans hle)).kidTm (hkl.mono (by first | exact hle | exact hle3.trans hle)) (i := i) (by omega) (by omega); have hone9 := hre.one; have hsc := A0A (ks := ks) (i := i) (by omega); have hsk := A0z (ks := ks) (i := i) (by omega); have hts1 := A3d (ks := ks) (i := i) (by omega); have e9 : (D3 (ks.take (i + 1))).length = (D3 (ks.take i)).length + (C6 ks[i]).length := (by rw [W4 (by omega), List.length_append]); refine sP (B4 rfl rfl rfl (by omega)) rfl rfl ?_)
 refine sL (A5 rfl rfl (hat _) hl) rfl rfl ?_
 refine sQ (qM rfl) rfl (sQ (qM rfl) rfl ?_)
 (have hih := ih ks[i] (List.getElem_mem (by omega)) _ Gi e el (by rw [hL2] at hlen; (try simp only [List.length_append, List.length_singleton] at hlen); first | exact (show a + 1 + (D3 (ks.take i)).length + (C6 ks[i]).length ≤ L.length by omega) | exact (show a + (D3 (ks.take i)).length + (C6 ks[i]).length ≤ L.length by omega)) hLb (Tm.smallL_mem hks _ (List.getElem_mem (by omega))) (by omega) hre (hse.mono (by first | exact hle | exact hle3.trans hle)) (hel.mono (by first | exact hle | exact hle3.trans hle)); refine T9 rfl hih rfl rfl (fun v G7 outs hle7 hh => ?_); obtain ⟨rfl, cu, rfl, hru⟩ := hh; rw [← List.drop_drop] at hru; have hsn := C8.snoc (hst.mono hle7) hru; obtain ⟨u1, u2, u3, u4, u5, u6, u7, u8, u9, rfl⟩ : ∃ u1 u2 u3 u4 u5 u6 u7 u8 u9, cu = [u1, u2, u3, u4, u5, u6, u7, u8, u9] := (by obtain ⟨_, _, _, _, _, _, _, _, _, rfl, _⟩ := hru.open; exact ⟨_, _, _, _, _, _, _, _, _, rfl⟩); have huo := hru.one)
 refine J0 ?_
 refine sS rfl rfl rfl rfl huo rfl ?_
 refine D0 ?_
 (refine I8 (C3 rfl rfl rfl (by omega) (by unfold maxLen; omega) rfl) rfl ?_; rintro _ ⟨b333, rfl⟩)
 (refine W7 rfl rfl rfl rfl rfl (fun _ _ => by repeat (first | exact Sw.here | apply Sw.there)) (N2 (by repeat first | exact mH | apply mT)) rfl (fun u hu => List.all_eq_true.1 huo u hu) (by unfold maxLen; omega) (by omega) rfl (fun p4 c4 => ?_))
 refine D0 ?_
 refine sP (I2 rfl rfl (by omega) (by omega)) rfl rfl ?_
 refine sQ (qA rfl) rfl (sD ?_)
 (rw [← A3c (by omega)] at hsn; refine I9 (i + 1, p4, c4, es ++ [[u1, u2, u3, u4, u5, u6, u7, u8, u9]], G7) (by simp only [List.flatten_append, List.flatten_cons, List.flatten_nil, List.append_nil, e9, ← Nat.add_assoc]; exact (N3 (by repeat (first | exact D4.nil | refine D4.cons rfl ?_)) (by repeat (first | exact A0.refl | exact A0.nil | refine A0.cons (by repeat (first | exact Pk.here | apply Pk.there)) ?_ | apply A0.drop)))) ?_ ?_)
 (dsimp only; exact ⟨by omega, hle.trans hle7, hsn⟩)
 (show ks.length - (i + 1) < ks.length - i; omega)
 refine K8 ?_
 (refine H8 (cs := es.flatten) (by repeat (first | exact Pk.here | apply Pk.there)) (fun G9 hle9 hsl9 hno9 => ?_); obtain rfl : i = ks.length := (by omega); rw [List.take_length] at hst)
 refine tT ?_
 refine E9 (rC rfl (A2 rfl rfl)) (rT rfl) ?_
 (rw [hW2, hL2]; exact A2I.mk hk hnum hlb (by first | (rw [List.getD_eq_getElem?_getD, List.getElem?_drop, Nat.add_zero, List.getElem?_eq_getElem (by omega), Option.getD_some, ← hT0]; exact hr3.mono (hle.trans hle9)) | exact hr1.mono (hle2.trans (hle.trans hle9))) (by first | exact hr2.mono (hle3.trans (hle.trans hle9)) | exact hr2.mono (hle.trans hle9)) (by rw [A1G]) hsl9 (hst.mono hle9) (by (simp only [List.take_length, List.length_append, List.length_singleton]) <;> omega))
def A1j (t : Tm) (L : List Ty) : Option Tm := if M3 t = true ∧ (Z7 t).length = L.length ∧ ∀ u ∈ L, C9 u = true then some (M6 t L) else none
theorem A9p {t : Tm} {L : List Ty} (h : M3 t = true) (hl : (Z7 t).length = L.length) (ha : ∀ j, j < L.length → (h : j < L.length) → C9 L[j] = true) : A1j t L = some (M6 t L) := by
 unfold A1j
 rw [if_pos ⟨h, hl, fun u hu => by obtain ⟨i, hi, rfl⟩ := List.mem_iff_getElem.1 hu; exact ha i hi hi⟩]
theorem B4N {t : Tm} {L : List Ty} (h : ¬(M3 t = true ∧ (Z7 t).length = L.length ∧ ∀ u ∈ L, C9 u = true)) : A1j t L = none := by
 unfold A1j; rw [if_neg h]
def TmB (o : Option Tm) : IM → Value → List A4 → Prop := L5 fun G' v => ∃ cu, v = .tuple ⟨[.agg ⟨cu⟩, .bool o.isSome]⟩ ∧ A9 G' (o.getD J4) cu
theorem A5W {t : Tm} (h : M3 t = true) : Z7 t = C6 t := by unfold Z7; rw [if_pos h]
theorem A9q (t : Tm) (L : List Ty) (G : IM) (cells : List Value) (p : Option Addr) (c : Nat) (es : List (List Value)) (hts : t.small) (hcnt : E0 t ≤ 4000000) (hLb : L.length ≤ 4000000) (hsm : ∀ u ∈ L, u.small) (hr : A9 G t cells) (hse : B9 G p L.length c 2 es) (hel : B0 G L es) :
  Fn Tryz.prog 37 [.agg ⟨cells⟩, .slice p L.length c] [] G (TmB (A1j t L)) := by
 have hl := hr.len
 have hone := hr.one
 have hyes := @A9p t L
 have hno := @B4N t L
 have htv := @A5W t
 have hT := A4t t G cells hts hcnt hr
 generalize A1j t L = R at hyes hno ⊢
 obtain ⟨TT, hTT⟩ : ∃ TT, Z7 t = TT := ⟨_, rfl⟩
 rw [hTT] at hyes hno htv hT
 refine B7 Tryz.func37 rfl Tryz.ntmps37 Tryz.results37 rfl ?_
 intro w0
 refine tS (tR ?_)
 refine sE (C2 rfl rfl) rfl (fun b3 => ?_)
 refine sE (A6 rfl) rfl (fun b4 => ?_)
 refine sQ (qA rfl) rfl (sD (nS (tS (tS (tR ?_)))))
 refine sL (A5 rfl rfl (B5 (by repeat first | exact mH | apply mT)) hl) rfl rfl ?_
 (refine T9 rfl hT rfl rfl (fun v G1 outs hle1 hh => ?_); obtain ⟨p1, c1, e1, rfl, rfl, hr1⟩ := hh; replace hr := hr.mono hle1; replace hse := hse.mono hle1; replace hel := hel.mono hle1; have hv := A5e t G1 cells (by omega) hr)
 refine J0 ?_
 refine sB (R9 rfl rfl) rfl rfl (fun h16 => ?_) (fun h16 => ?_)
 refine T2 ?_
 refine E9 (rC rfl (A2 rfl rfl)) (rT rfl) ?_
 (rw [hno (fun hc => by first | omega | exact Bool.noConfusion (hc.1.symm.trans (show M3 t = false by assumption)) | exact Bool.noConfusion ((hc.2.2 _ (List.getElem_mem (show i < L.length by omega))).symm.trans (by assumption)))]; exact ⟨rfl, _, rfl, (O5.zero _).R⟩)
 refine sQ (qM rfl) rfl ?_
 refine sL (A5 rfl rfl (B5 (by repeat first | exact mH | apply mT)) hl) rfl rfl ?_
 refine H3 rfl (hv) rfl rfl (fun h38 => ?_) (fun h38 => ?_)
 refine L7 ?_
 refine B6 ?_
 (refine J3 (fun (x : Nat) => ⟨[(6, .int .i64 x), (1, .slice p L.length c), (2, .pointer (some ⟨b3, 0, none⟩)), (4, .pointer (some ⟨b4, 0, none⟩))], [.blk b4 [.int .i64 0, .string ⟨⟨[]⟩⟩, .int .i64 0, .int .i64 0, .slice none 0 0, .int .i64 0, .slice none 0 0, .int .i64 0, .slice none 0 0], .blk b3 cells], G1⟩) (fun x => x ≤ L.length ∧ ∀ j, j < x → (h : j < L.length) → C9 L[j] = true) (fun x => L.length - x) 0 ?_ ?_ ?_)
 exact C5
 (exact ⟨Nat.zero_le _, fun j hj => absurd hj (by omega)⟩)
 (rintro (i : Nat) ⟨hi, hval⟩)
 refine I0 ?_
 refine sB (J6 rfl rfl) rfl rfl (fun h63 => ?_) (fun h63 => ?_)
 refine sD (nS (qT rfl (tK (nS (tS ?_)))))
 refine B6 ?_
 refine tS (tR (sQ (qM rfl) rfl (sQ (qM rfl) rfl ?_)))
 (obtain ⟨b0, o0, p20, c20, rfl, hat0, hre0, hgb0⟩ := hse.kidTy hel (i := i) (by omega) (by omega); have hV := A1C _ G1 _ hre0; refine sP (B4 rfl rfl rfl (by omega)) rfl rfl ?_)
 refine sL (A5 rfl rfl (hat0 _) rfl) rfl rfl ?_
 refine H3 rfl (hV) rfl rfl (fun h77 => ?_) (fun h77 => ?_)
 refine D2 ?_
 refine sP (I2 rfl rfl (by omega) (by omega)) rfl rfl ?_
 refine sQ (qA rfl) rfl (sD ?_)
 refine I9 (i + 1) ?_ ?_ ?_
 exact C5
 (exact ⟨by omega, fun j hj hl => by rcases Nat.lt_succ_iff_lt_or_eq.1 hj with h | h; exact hval j h hl; subst h; assumption⟩)
 (show L.length - (i + 1) < L.length - i; omega)
 refine T2 ?_
 refine E9 (rC rfl (A2 rfl rfl)) (rT rfl) ?_
 (rw [hno (fun hc => by first | omega | exact Bool.noConfusion (hc.1.symm.trans (show M3 t = false by assumption)) | exact Bool.noConfusion ((hc.2.2 _ (List.getElem_mem (show i < L.length by omega))).symm.trans (by assumption)))]; exact ⟨rfl, _, rfl, (O5.zero _).R⟩)
 refine L6 ?_
 refine sL (A5 rfl rfl (B5 (by repeat first | exact mH | apply mT)) hl) rfl rfl ?_
 refine sQ (qM rfl) rfl ?_
 (have hTv := htv (by assumption); refine T9 rfl (B4M L p c hsm t 0 G1 cells es (by rw [← hTv]; omega) hLb hts hcnt hr hse hel) rfl rfl (fun v G3 outs hle3 hh => ?_); obtain ⟨rfl, cu, rfl, hru⟩ := hh; rw [List.drop_zero] at hru; have hul := hru.len; have huo := hru.one)
 refine J0 ?_
 refine sE (A6 rfl) rfl (fun b129 => ?_)
 refine sS rfl rfl rfl hul huo rfl ?_ (hu := by exact D5 hul.symm)
 refine sQ (qA rfl) rfl (sD (nS (tS (tR ?_))))
 refine sL (A5 rfl rfl (B5 (by repeat first | exact mH | apply mT)) hul) rfl rfl ?_
 refine sS rfl rfl rfl hul huo rfl ?_ (hu := by exact D5 hul.symm)
 refine sQ (qA rfl) rfl (sD (nS (tT ?_)))
 refine E9 (rC rfl (A5 rfl rfl (B5 (by repeat first | exact mH | apply mT)) hul)) (rT rfl) ?_
 (rw [hyes (by assumption) (by omega) (fun j hj => hval j (by omega))]; exact ⟨rfl, _, rfl, hru⟩)
 refine M1 ?_
 refine E9 (rC rfl (A2 rfl rfl)) (rT rfl) ?_
 (rw [hno (fun hc => by first | omega | exact Bool.noConfusion (hc.1.symm.trans (show M3 t = false by assumption)) | exact Bool.noConfusion ((hc.2.2 _ (List.getElem_mem (show i < L.length by omega))).symm.trans (by assumption)))]; exact ⟨rfl, _, rfl, (O5.zero _).R⟩)
end Gw
end Go.Proofs.YtipblncpnffmbaaGreatDoor
