/-
  Drawn terms that often have a type. The types that a term's text holds: the reference's list. TermTypes and CountSlots of the reference. Terms with other types: the reference's. WithTypes of the reference. Drawn terms that are small, terms with blurred types, fuel. Configurations: plain laws (they are valid, ordered by precision; fewer types fail less); `and` and `and not` of masks. The law that CastPath gives what the reference model gives: its walk. The cast that is blamed, on both sides. The labels of inserted casts: from 1 on, each once; what a run may blame (plain). TypeSame, TermSame: the same data is the same. Drawn terms with casts, paths, arguments. Drawn arguments of runs. The law FnEvalCast. What a run of a term with a type says: plain. The casts of a term and their types: walked. slices.Sort and slices.Compact over own slices of numbers: the kit's contracts; CastLabels of the program. The law FnRunTerm.
-/
import Derived.Test.YtebfignffjhnhaaGreatDoorKj7
import Derived.Test.YtebfignffjhnhaaGreatDoorKj2
import Derived.Test.YtebfignffjhnhaaGreatDoorKj3
import Derived.Test.YtebfignffjhnhaaGreatDoorKj5
import Derived.Test.YtebfignffjhnhaaGreatDoorKj1
import Derived.Test.YtebfignffjhnhaaGreatDoorShelf
set_option linter.unusedVariables false
set_option linter.unusedSimpArgs false
set_option maxHeartbeats 0
set_option maxRecDepth 100000
set_option synthInstance.maxSize 4000
set_option synthInstance.maxHeartbeats 0
namespace Go.Proofs.YtebfignffjhnhaaGreatDoor
open Go Go.RowKit
namespace Gw
structure A35 {ι : Type} (S : ι → Sy) (φ : ι → Prop) (K : Po) (e : Exit) (σ : Sy) : Prop where
 run : match e with
  | .normal => ∃ i, φ i ∧ Sub σ (S i)
  | e => K e σ
section cut
variable {P : Program} {Γ : L6} {K : Po} {σ : Sy} {ι : Type}
theorem B0H {c y : Code} (S : ι → Sy) (φ : ι → Prop) (h : I4 P Γ c (A35 S φ K) σ) (k : ∀ i, φ i → I4 P Γ y K (S i)) : I4 P Γ c (A0I P Γ y K) σ := by
 refine A48 h ?_
 rintro e σ ⟨hk⟩
 cases e with
 | normal => obtain ⟨i, hi, hs⟩ := hk; exact ⟨A63 hs (k i hi)⟩
 | _ => exact ⟨hk⟩
theorem A36 {S : ι → Sy} {φ : ι → Prop} {σ : Sy} (i : ι) (hs : Sub σ (S i)) (h : φ i) : A35 S φ K .normal σ := ⟨⟨i, h, hs⟩⟩
theorem A0H {S : ι → Sy} {φ : ι → Prop} {σ : Sy} (h : K .ret σ) : A35 S φ K .ret σ := ⟨h⟩
theorem B51 {S : ι → Sy} {φ : ι → Prop} (h : X2 K) : X2 (A35 S φ K) := fun c σ hk => h c σ hk.run
instance npC6 {S : ι → Sy} {φ : ι → Prop} [h : NpC K] : NpC (A35 S φ K) := ⟨B51 h.h⟩
end cut
theorem A1X (G : IM) (nm : ByteArray) (num : Int) {k : Int} (hk : E8 k) (hn : E8 num) : B0 G (.mk k nm num B7 B7 0 []) [.int .i64 k, .string nm, .int .i64 num, .int .i64 0, .slice none 0 0, .int .i64 0, .slice none 0 0, .int .i64 0, .slice none 0 0] := A1C hk hn
theorem B9.kidsM {G : IM} {k : Int} {ks : List Ty} {q : Option Addr} {c : Nat} (h : B9 G (.mk k ks) [.int .i64 k, .slice q ks.length c]) : ∃ es, D5 G q ks.length c 2 es ∧ D2 G ks es := by
 obtain ⟨q', c', es, he, _, h1, h2⟩ := h.open
 cases he
 exact ⟨es, h1, h2⟩
theorem A6U {Q : Prop} (h : Q := by (dsimp only; exact ⟨by omega, hleL.trans hle2, by omega, by omega⟩)) : Q := h
theorem B52 (br : Nat) (pb : Option Addr) (nb cb : Nat) (bs : List UInt8) (hnb : nb ≤ 2000) : ∀ n, B0F br pb nb cb bs n := by
 refine fun n => Nat.strongRecOn n fun n ih depth t p G pc nc cc cells hfu hd0 hd1 hnc hx hrt hb hp => ?_
 have hge := A1h n
 have har := hfu.1.ar
 have hszt := A4t hfu.1
 have hnn := A0U t
 have hncl := hx.le
 obtain ⟨k, ks⟩ := t
 obtain ⟨q, c, es, rfl, hk, _, _⟩ := hrt.open
 simp only [Ty.k, Ty.ks] at hk hrt ⊢
 have hsz30 : K0 (.mk k ks) ≤ 30 := hszt
 have hops : k = 4 ∨ k = 5 → ks.length = 2 := by have h2 := har; rw [E5] at h2; exact h2.1
 refine C3 Tryz.func124 rfl Tryz.ntmps124 Tryz.results124 rfl ?_
 intro w0
 refine A3 ?_
 refine sE (C8 rfl rfl) rfl (fun b3 => ?_)
 refine sE (A6 rfl) rfl (fun b4 => ?_)
 refine B2 ?_
 refine sP (O5 rfl rfl (by omega) (by omega)) rfl rfl ?_
 refine B6 ?_
 refine C1 ?_
 (refine J8 (fun (x : Nat × Nat × IM) => ⟨(9, .int .i64 ((x.1 : Int) - 1)) :: [(0, .pointer (some ⟨br, 0, none⟩)), (1, .slice pc nc cc), (3, .int .i64 depth), (6, .pointer (some ⟨b3, 0, none⟩)), (8, .pointer (some ⟨b4, 0, none⟩))], [rd br pb nb cb x.2.1, .blk b4 [.int .i64 0, .string ⟨⟨[]⟩⟩, .int .i64 0, .int .i64 0, .slice none 0 0, .int .i64 0, .slice none 0 0, .int .i64 0, .slice none 0 0], .blk b3 [.int .i64 k, .slice q ks.length c]], x.2.2⟩) (fun x => x.1 ≤ nc ∧ C0 G x.2.2 ∧ p ≤ x.2.1 ∧ x.2.1 + x.1 ≤ p + nc) (fun x => x.1) (nc, p, G) ?_ ?_ ?_)
 (simp only [I5]; exact E2)
 (exact ⟨Nat.le_refl _, C0.refl _, Nat.le_refl _, Nat.le_refl _⟩)
 (rintro ⟨(i : Nat), (p1 : Nat), G1⟩ ⟨hi, hleL, hpL, hpL2⟩; simp only [] at hi hleL hpL hpL2 ⊢; replace hx := hx.mono hleL; replace hb := hb.mono hleL; replace hrt := hrt.mono hleL;)
 refine B1 ?_
 refine sB (A0L rfl rfl) rfl rfl (fun h25 => ?_) (fun h25 => ?_)
 refine A8 ?_
 (show I4 _ _ (.block 1 ..) _ _; obtain ⟨j, rfl⟩ : ∃ j, i = j + 1 := ⟨i - 1, by omega⟩; rw [show ((j + 1 : Nat) : Int) - 1 = (j : Int) from by omega]; obtain ⟨b, o, nm1, t1, qq1, dd1, rfl, hat, hr1, ha1, hs1, hgb, hns1⟩ := hx.get (i := j) (by omega); refine C1 ?_)
 refine A9 ?_
 refine sP (B4 (j := j) rfl rfl rfl (by omega)) rfl rfl ?_
 refine E6 ?_
 refine sL (A0p rfl rfl ((hat _).sub (j := 0) rfl)) rfl rfl ?_
 (refine E7 rfl (B23 _ _ nc cc nm1 hx) rfl rfl (fun v G2 hle2 hh => ?_); obtain ⟨ts, tcs, xs, rfl, hrs, has, hss⟩ := hh; obtain ⟨ps, cs, ess, rfl, _⟩ := hrs.open; obtain ⟨b, o, nm1, t1, qq1, dd1, hpp, hat, hr1, ha1, hs1, hgb, hns1⟩ := (hx.mono hle2).get (i := j) (by omega); cases hpp; replace hx := hx.mono hle2; replace hb := hb.mono hle2; replace hrt := hrt.mono hle2;)
 refine B6 ?_
 refine sE (A6 rfl) rfl (fun b45 => ?_)
 refine B2 ?_
 (have hinloop := hrs; refine I8 rfl (W7 _ br pb nb cb (p1) bs 3 hb hnb (by omega)) (Pk.perm (by repeat (first | exact Pk.here | apply Pk.there))) rfl rfl (fun v Gp outs hle53 hh => ?_); obtain ⟨rfl, rfl, j53, rfl, hj53, hk53⟩ := hh; have hinl := hj53)
 replace hrs := hrs.mono hle53
 replace hr1 := hr1.mono hle53
 replace hb := hb.mono hle53
 replace hrt := hrt.mono hle53
 replace hinloop := hinloop.mono hle53
 refine sB (qE rfl rfl) rfl rfl (fun h54 => ?_) (fun h54 => ?_)
 refine A3 ?_
 refine F8 rfl ((A1x ts _ _ hrs)) rfl rfl (fun h57 => ?_) (fun h57 => ?_)
 refine B1 ?_
 refine F8 rfl ((A1D ts (.mk k ks) _ _ _ has har hrs hrt)) rfl rfl (fun h62 => ?_) (fun h62 => ?_)
 refine D4 ?_
 refine sP (B4 (j := j) rfl rfl rfl (by omega)) rfl rfl ?_
 refine E6 ?_
 refine sL (A0p rfl rfl ((hat _).sub (j := 0) rfl)) rfl rfl ?_
 refine J2 ?_
 refine H2 (outs := [rd br pb nb cb (p1 + 1)]) (rC rfl (A4 rfl rfl)) (by repeat (first | exact A0.nil | refine A0.cons Pk.here ?_ | refine A0.cons (Pk.there Pk.here) ?_ | refine A0.cons (Pk.there (Pk.there Pk.here)) ?_ | apply A0.drop)) ?_
 (exact ⟨(p1 + 1), by omega, by omega, rfl, _, _, rfl, A1X _ _ _ ⟨by omega, by omega⟩ (by first | exact ⟨by omega, by omega⟩ | exact hkn), by first | exact N3 (by first | assumption | decide) | exact A0n (by decide) (by assumption) (by assumption) (by assumption) | exact R9 (by decide) (by assumption) (by assumption) | exact K6 (by decide) P3 (by assumption) | exact K6 (by decide) har.small (by assumption) | exact K6 (by decide) P3 (R9 (by decide) (by assumption) (N3 (by decide))) | exact K6 (by decide) A0o (N3 (by decide)) | assumption, by simp only [D3, E4]; omega⟩)
 refine E0 ?_
 refine sP (O5 rfl rfl (by omega) (by omega)) rfl rfl ?_
 refine A3 ?_
 (have hinloop := hrs; refine J6 (j, p1 + 1, Gp) ?_ ?_ ?_)
 (simp only [I5]; exact E2)
 exact A6U
 (show _ < _ + 1; omega)
 refine J3 ?_
 refine sP (O5 rfl rfl (by omega) (by omega)) rfl rfl ?_
 refine A3 ?_
 (have hinloop := hrs; refine J6 (j, p1 + 1, Gp) ?_ ?_ ?_)
 (simp only [I5]; exact E2)
 exact A6U
 (show _ < _ + 1; omega)
 refine T1 ?_
 refine sP (O5 rfl rfl (by omega) (by omega)) rfl rfl ?_
 refine A3 ?_
 (have hinloop := hrs; refine J6 (j, p1 + 1, Gp) ?_ ?_ ?_)
 (simp only [I5]; exact E2)
 exact A6U
 (show _ < _ + 1; omega)
 refine J2 ?_
 (show I4 _ _ (.region 7 ..) _ _; refine Y7 (fun (x : Bool) => ⟨(49, .bool x) :: [(0, .pointer (some ⟨br, 0, none⟩)), (1, .slice pc nc cc), (3, .int .i64 depth), (6, .pointer (some ⟨b3, 0, none⟩)), (8, .pointer (some ⟨b4, 0, none⟩))], [rd br pb nb cb p1, .blk b4 [.int .i64 0, .string ⟨⟨[]⟩⟩, .int .i64 0, .int .i64 0, .slice none 0 0, .int .i64 0, .slice none 0 0, .int .i64 0, .slice none 0 0], .blk b3 [.int .i64 k, .slice q ks.length c]], G1⟩) (fun x => x = true → 1 < depth) ?_ ?_)
 refine A3 ?_
 refine sB (X5 rfl rfl) rfl rfl (fun h160 => ?_) (fun h160 => ?_)
 refine sD ?_
 refine P0 true (L3 (by repeat (first | exact E1.nil | refine E1.cons rfl ?_)) (by repeat (first | exact A0.refl | exact A0.nil | refine A0.cons (by repeat (first | exact Pk.here | apply Pk.there)) ?_ | apply A0.drop))) (fun _ => by omega)
 refine sD ?_
 refine P0 false (L3 (by repeat (first | exact E1.nil | refine E1.cons rfl ?_)) (by repeat (first | exact A0.refl | exact A0.nil | refine A0.cons (by repeat (first | exact Pk.here | apply Pk.there)) ?_ | apply A0.drop))) (fun h => absurd h (by decide))
 (rintro (x49 : Bool) hx49)
 (show I4 _ _ (.cond (.tmp 49) _ _) _ _; refine B0H (fun (x : Nat × IM) => ⟨[(0, .pointer (some ⟨br, 0, none⟩)), (1, .slice pc nc cc), (3, .int .i64 depth), (6, .pointer (some ⟨b3, 0, none⟩)), (8, .pointer (some ⟨b4, 0, none⟩))], [rd br pb nb cb x.1, .blk b4 [.int .i64 0, .string ⟨⟨[]⟩⟩, .int .i64 0, .int .i64 0, .slice none 0 0, .int .i64 0, .slice none 0 0, .int .i64 0, .slice none 0 0], .blk b3 [.int .i64 k, .slice q ks.length c]], x.2⟩) (fun x => C0 G1 x.2 ∧ p1 ≤ x.1 ∧ x.1 ≤ p1 + 1) (A3d rfl (fun hxt => ?_) (fun hxf => ?_)) ?_)
 refine B6 ?_
 (have hx49b := hx49 hxt; refine I8 rfl (W7 _ br pb nb cb (p1) bs 9 hb hnb (by omega)) (Pk.perm (by repeat (first | exact Pk.here | apply Pk.there))) rfl rfl (fun v Gp outs hle170 hh => ?_); obtain ⟨rfl, rfl, j170, rfl, hj170, hk170⟩ := hh; have hpk9 := hj170)
 replace hb := hb.mono hle170
 replace hrt := hrt.mono hle170
 refine A3 ?_
 refine C1 (tS (tR (sB (qE rfl rfl) rfl rfl (fun h176 => ?_) (fun h176 => ?_))))
 refine A9 ?_
 (obtain ⟨m, rfl⟩ := hfu.pos (.inl (by omega)); have hmB : mB (m + 1) = 3 * mB m + 200 := rfl; have hgm := A1h m; refine D7 D8 rfl ?_)
 refine K7 (i := 0) (l' := [tt,ff,ff,ff,ff,ff,ff,ff,ff,ff,ff,ff,ff]) rfl D1 (A4 rfl rfl) rfl (by kernel_rfl) rfl rfl ?_
 refine aP 2 rfl (qM rfl) rfl ?_
 refine aP 3 rfl (qM rfl) rfl ?_
 refine aP 4 rfl (qM rfl) rfl ?_
 refine aL 5 rfl (A4 rfl rfl) rfl ?_
 refine aP 7 rfl (qM rfl) rfl ?_
 refine aP 8 rfl (O5 rfl rfl (by omega) (by omega)) rfl ?_
 refine A1 1 ?_
 (refine H0 rfl rfl (O9 _ _ _ har.small hrt) rfl rfl rfl (fun v G6 hle6 hh => ?_); obtain ⟨cs1, F1, rfl, hs1, hn1⟩ := hh; obtain ⟨pz, cz, rfl, _⟩ := hs1.open; have hrz := hs1.R.mono (C5.le G6 _); replace hx := hx.mono hle6; replace hb := hb.mono hle6; replace hrt := hrt.mono hle6;)
 refine A1 6 ?_
 (have hcall := A4B br pb nb cb bs hnb (.mk k ks) (p1 + 1) _ _ har hrt hb (by omega); refine V9 (l' := [tt,tt,tt,tt,tt,tt,tt,tt,tt,ff,ff,ff,ff]) rfl rfl hcall (Pk.perm (by repeat (first | exact Pk.here | apply Pk.there))) rfl rfl rfl (by repeat (first | exact A7.nil | apply A7.dep (by decide +kernel) | apply A7.im (by decide +kernel) hg0 (by repeat first | exact mH | apply mT) | apply A7.im (by decide +kernel) hg1 (by repeat first | exact mH | apply mT) | apply A7.blk (by decide +kernel) (by repeat (first | exact Pk.here | apply Pk.there)) (by repeat first | exact mH | apply mT))) (fun v Gn outs hleA hh => ?_); obtain ⟨pA, hpA1, hpA2, rfl, uA, cuA, rfl, hruA, huaA, husA, huhA⟩ := hh; obtain ⟨quA, duA, euA, rfl, _⟩ := hruA.open; replace hrz := hrz.mono hleA; replace hx := hx.mono hleA; replace hb := hb.mono hleA; replace hrt := hrt.mono hleA;)
 refine A1 9 ?_
 (have hcall := ih m (by omega) (depth - 1) uA pA _ pc nc cc _ (hfu.sub (by omega) (huhA 4 hfu.1)) (by omega) (by omega) (by omega) hx hruA hb (by omega); refine V9 (l' := [tt,tt,tt,tt,tt,tt,tt,tt,tt,tt,ff,ff,ff]) rfl rfl hcall (Pk.perm (by repeat (first | exact Pk.here | apply Pk.there))) rfl rfl rfl (by repeat (first | exact A7.nil | apply A7.dep (by decide +kernel) | apply A7.im (by decide +kernel) hg0 (by repeat first | exact mH | apply mT) | apply A7.im (by decide +kernel) hg1 (by repeat first | exact mH | apply mT) | apply A7.blk (by decide +kernel) (by repeat (first | exact Pk.here | apply Pk.there)) (by repeat first | exact mH | apply mT))) (fun v Gn outs hlea hh => ?_); obtain ⟨pa, hpa1, hpa2, rfl, ea, ca, rfl, hra, hsma, hca⟩ := hh; obtain ⟨a1, a2, a3, a4, a5, a6, a7, a8, a9, rfl⟩ := hra.nine; replace hrz := hrz.mono hlea; replace hx := hx.mono hlea; replace hb := hb.mono hlea; replace hrt := hrt.mono hlea;)
 refine A1 10 ?_
 (refine E3 rfl (C7 rfl rfl rfl (by omega) (by unfold maxLen; omega) rfl) rfl rfl ?_; rintro _ ⟨b197, rfl⟩)
 refine aP 11 rfl (V6 rfl rfl) rfl ?_
 refine A1 12 ?_
 refine Q8 rfl rfl rfl rfl rfl rfl rfl rfl (by decide +kernel) (by repeat first | exact Sw.here | apply Sw.there) (by rfl) ?_
 refine A3 ?_
 (refine F9 (cs := [a1, a2, a3, a4, a5, a6, a7, a8, a9]) (by repeat (first | exact Pk.here | apply Pk.there)) (fun G9 hle9 hsl9 hno9 => ?_); have hN := A33 (k := 13) (nm := ⟨⟨[]⟩⟩) ⟨by omega, by omega⟩ (hrz.mono hle9) (hra.mono hle9) hsl9)
 refine A3 ?_
 refine A0H ?_
 refine H2 (outs := [rd br pb nb cb pa]) (rC rfl (A4 rfl rfl)) (by repeat (first | exact A0.nil | refine A0.cons Pk.here ?_ | refine A0.cons (Pk.there Pk.here) ?_ | refine A0.cons (Pk.there (Pk.there Pk.here)) ?_ | apply A0.drop)) ?_
 (exact ⟨pa, by omega, by omega, rfl, _, _, rfl, hN, by first | exact N3 (by first | assumption | decide) | exact A0n (by decide) (by assumption) (by assumption) (by assumption) | exact R9 (by decide) (by assumption) (by assumption) | exact K6 (by decide) P3 (by assumption) | exact K6 (by decide) har.small (by assumption) | exact K6 (by decide) P3 (R9 (by decide) (by assumption) (N3 (by decide))) | exact K6 (by decide) A0o (N3 (by decide)) | assumption, by simp only [D3, E4]; omega⟩)
 refine A8 ?_
 refine sB (qE rfl rfl) rfl rfl (fun h215 => ?_) (fun h215 => ?_)
 refine A9 ?_
 (obtain ⟨m, rfl⟩ := hfu.pos (.inl (by omega)); have hmB : mB (m + 1) = 3 * mB m + 200 := rfl; have hgm := A1h m; refine D7 D8 rfl ?_)
 refine I9 (i := 0) (l' := [tt,ff,ff,ff,ff,ff,ff,ff,ff,ff,ff,ff,ff,ff,ff,ff,ff,ff,ff,ff,ff]) rfl D1 (qM rfl) rfl (by kernel_rfl) rfl rfl ?_
 refine aP 1 rfl (qM rfl) rfl ?_
 refine aP 3 rfl (qM rfl) rfl ?_
 refine aP 4 rfl (O5 rfl rfl (by omega) (by omega)) rfl ?_
 refine aP 6 rfl (qM rfl) rfl ?_
 refine aP 7 rfl (qM rfl) rfl ?_
 refine aL 8 rfl (A4 rfl rfl) rfl ?_
 refine aP 9 rfl (qM rfl) rfl ?_
 refine aP 10 rfl (O5 rfl rfl (by omega) (by omega)) rfl ?_
 refine aP 12 rfl (qM rfl) rfl ?_
 refine aP 13 rfl (qM rfl) rfl ?_
 refine aL 14 rfl (A4 rfl rfl) rfl ?_
 refine aP 15 rfl (qM rfl) rfl ?_
 refine aP 16 rfl (O5 rfl rfl (by omega) (by omega)) rfl ?_
 refine A1 2 ?_
 refine M8 rfl rfl ((A2O _)) rfl rfl rfl ?_
 refine A1 5 ?_
 (have hcall := ih m (by omega) (depth - 1) (.mk 3 []) (p1 + 1) _ pc nc cc _ (hfu.sub (by omega) (A2G 4 (by decide) (by decide))) (by omega) (by omega) (by omega) hx (O0 _ ⟨by omega, by omega⟩) hb (by omega); refine V9 (l' := [tt,tt,tt,tt,tt,tt,tt,tt,tt,tt,tt,ff,tt,tt,tt,tt,tt,ff,ff,ff,ff]) rfl rfl hcall (Pk.perm (by repeat (first | exact Pk.here | apply Pk.there))) rfl rfl rfl (by repeat (first | exact A7.nil | apply A7.dep (by decide +kernel) | apply A7.im (by decide +kernel) hg0 (by repeat first | exact mH | apply mT) | apply A7.im (by decide +kernel) hg1 (by repeat first | exact mH | apply mT) | apply A7.blk (by decide +kernel) (by repeat (first | exact Pk.here | apply Pk.there)) (by repeat first | exact mH | apply mT))) (fun v Gn outs hlef hh => ?_); obtain ⟨pf, hpf1, hpf2, rfl, ef, cf, rfl, hrf, hsmf, hcf⟩ := hh; obtain ⟨f1, f2, f3, f4, f5, f6, f7, f8, f9, rfl⟩ := hrf.nine; replace hx := hx.mono hlef; replace hb := hb.mono hlef; replace hrt := hrt.mono hlef;)
 refine A1 11 ?_
 (have hcall := ih m (by omega) (depth - 1) (.mk k ks) pf _ pc nc cc _ (hfu.sub (by omega) hfu.1) (by omega) (by omega) (by omega) hx hrt hb (by omega); refine V9 (l' := [tt,tt,tt,tt,tt,tt,tt,tt,tt,tt,tt,tt,tt,tt,tt,tt,tt,ff,ff,ff,ff]) rfl rfl hcall (Pk.perm (by repeat (first | exact Pk.here | apply Pk.there))) rfl rfl rfl (by repeat (first | exact A7.nil | apply A7.dep (by decide +kernel) | apply A7.im (by decide +kernel) hg0 (by repeat first | exact mH | apply mT) | apply A7.im (by decide +kernel) hg1 (by repeat first | exact mH | apply mT) | apply A7.blk (by decide +kernel) (by repeat (first | exact Pk.here | apply Pk.there)) (by repeat first | exact mH | apply mT))) (fun v Gn outs hleg hh => ?_); obtain ⟨pg, hpg1, hpg2, rfl, eg, cg, rfl, hrg, hsmg, hcg⟩ := hh; obtain ⟨g1, g2, g3, g4, g5, g6, g7, g8, g9, rfl⟩ := hrg.nine; replace hrf := hrf.mono hleg; replace hx := hx.mono hleg; replace hb := hb.mono hleg; replace hrt := hrt.mono hleg;)
 refine A1 17 ?_
 (have hcall := ih m (by omega) (depth - 1) (.mk k ks) pg _ pc nc cc _ (hfu.sub (by omega) hfu.1) (by omega) (by omega) (by omega) hx hrt hb (by omega); refine V9 (l' := [tt,tt,tt,tt,tt,tt,tt,tt,tt,tt,tt,tt,tt,tt,tt,tt,tt,tt,ff,ff,ff]) rfl rfl hcall (Pk.perm (by repeat (first | exact Pk.here | apply Pk.there))) rfl rfl rfl (by repeat (first | exact A7.nil | apply A7.dep (by decide +kernel) | apply A7.im (by decide +kernel) hg0 (by repeat first | exact mH | apply mT) | apply A7.im (by decide +kernel) hg1 (by repeat first | exact mH | apply mT) | apply A7.blk (by decide +kernel) (by repeat (first | exact Pk.here | apply Pk.there)) (by repeat first | exact mH | apply mT))) (fun v Gn outs hlei hh => ?_); obtain ⟨pi, hpi1, hpi2, rfl, ei, ci, rfl, hri, hsmi, hci⟩ := hh; obtain ⟨i1, i2, i3, i4, i5, i6, i7, i8, i9, rfl⟩ := hri.nine; replace hrf := hrf.mono hlei; replace hrg := hrg.mono hlei; replace hx := hx.mono hlei; replace hb := hb.mono hlei; replace hrt := hrt.mono hlei;)
 refine A1 18 ?_
 (refine E3 rfl (C7 rfl rfl rfl (by omega) (by unfold maxLen; omega) rfl) rfl rfl ?_; rintro _ ⟨b245, rfl⟩)
 refine A1 19 ?_
 refine M8 rfl rfl ((A0l _ _ _ _ _)) rfl rfl rfl ?_
 refine A1 20 ?_
 refine Q8 rfl rfl rfl rfl rfl rfl rfl rfl (by decide +kernel) (by repeat first | exact Sw.here | apply Sw.there) (by rfl) ?_
 refine A3 ?_
 (refine F9 (cs := [f1, f2, f3, f4, f5, f6, f7, f8, f9] ++ ([g1, g2, g3, g4, g5, g6, g7, g8, g9] ++ [i1, i2, i3, i4, i5, i6, i7, i8, i9])) (by repeat (first | exact Pk.here | apply Pk.there)) (fun G9 hle9 hsl9 hno9 => ?_); have hN := B50 (k := 9) (nm := ⟨⟨[]⟩⟩) ⟨by omega, by omega⟩ (hrf.mono hle9) (hrg.mono hle9) (hri.mono hle9) hsl9)
 refine A3 ?_
 refine A0H ?_
 refine H2 (outs := [rd br pb nb cb pi]) (rC rfl (A4 rfl rfl)) (by repeat (first | exact A0.nil | refine A0.cons Pk.here ?_ | refine A0.cons (Pk.there Pk.here) ?_ | refine A0.cons (Pk.there (Pk.there Pk.here)) ?_ | apply A0.drop)) ?_
 (exact ⟨pi, by omega, by omega, rfl, _, _, rfl, hN, by first | exact N3 (by first | assumption | decide) | exact A0n (by decide) (by assumption) (by assumption) (by assumption) | exact R9 (by decide) (by assumption) (by assumption) | exact K6 (by decide) P3 (by assumption) | exact K6 (by decide) har.small (by assumption) | exact K6 (by decide) P3 (R9 (by decide) (by assumption) (N3 (by decide))) | exact K6 (by decide) A0o (N3 (by decide)) | assumption, by simp only [D3, E4]; omega⟩)
 refine A8 ?_
 refine sB (qE rfl rfl) rfl rfl (fun h264 => ?_) (fun h264 => ?_)
 refine B2 ?_
 (have hcall := A3B br pb nb cb bs hnb 0 (p1 + 1) _ (by omega) hb (by have : dB (0 + 1) ≤ 6 := (by decide); omega); refine I8 rfl hcall (Pk.perm (by repeat (first | exact Pk.here | apply Pk.there))) rfl rfl (fun v Gn outs hleD hh => ?_); obtain ⟨pD, hpD1, hpD2, rfl, uD, cuD, rfl, hruD, husD, huhD⟩ := hh; have huaD := huhD.ar; obtain ⟨quD, duD, euD, rfl, _⟩ := hruD.open; have hdBD : dB (0 + 1) ≤ 6 := (by decide); replace hx := hx.mono hleD; replace hb := hb.mono hleD; replace hrt := hrt.mono hleD;)
 refine sE (A6 rfl) rfl (fun b273 => ?_)
 refine B1 ?_
 (obtain ⟨m, rfl⟩ := hfu.pos (.inl (by omega)); have hmB : mB (m + 1) = 3 * mB m + 200 := rfl; have hgm := A1h m; refine D7 D8 rfl ?_)
 refine I9 (i := 0) (l' := [tt,ff,ff,ff,ff,ff,ff,ff,ff,ff,ff,ff,ff,ff,ff,ff,ff,ff]) rfl D1 (qM rfl) rfl (by kernel_rfl) rfl rfl ?_
 refine aP 1 rfl (qM rfl) rfl ?_
 refine aL 2 rfl (A4 rfl rfl) rfl ?_
 refine aL 3 rfl (A4 rfl rfl) rfl ?_
 refine aP 4 rfl (qM rfl) rfl ?_
 refine aP 5 rfl (O5 rfl rfl (by omega) (by omega)) rfl ?_
 refine aP 7 rfl (qM rfl) rfl ?_
 refine aP 8 rfl (qM rfl) rfl ?_
 refine aP 9 rfl (qM rfl) rfl ?_
 refine aL 10 rfl (A4 rfl rfl) rfl ?_
 refine aP 12 rfl (qM rfl) rfl ?_
 refine aP 13 rfl (O5 rfl rfl (by omega) (by omega)) rfl ?_
 refine A1 6 ?_
 (have hcall := B0G br pb nb cb bs hnb m (ih m (by omega)) (depth - 1) uD (.mk k ks) (pD) _ pc nc cc _ _ (hfu.sub (by omega) hfu.1) (by omega) (by omega) (by omega) hx hruD ⟨huaD, by omega⟩ hrt hb (by omega); refine V9 (l' := [tt,tt,tt,tt,tt,tt,tt,tt,tt,tt,tt,ff,tt,tt,ff,ff,ff,ff]) rfl rfl hcall (Pk.perm (by repeat (first | exact Pk.here | apply Pk.there))) rfl rfl rfl (by repeat (first | exact A7.nil | apply A7.dep (by decide +kernel) | apply A7.im (by decide +kernel) hg0 (by repeat first | exact mH | apply mT) | apply A7.im (by decide +kernel) hg1 (by repeat first | exact mH | apply mT) | apply A7.blk (by decide +kernel) (by repeat (first | exact Pk.here | apply Pk.there)) (by repeat first | exact mH | apply mT))) (fun v Gn outs hlel hh => ?_); obtain ⟨pl, hpl1, hpl2, rfl, el, cl, rfl, hrl, hsml, hcl⟩ := hh; obtain ⟨l1, l2, l3, l4, l5, l6, l7, l8, l9, rfl⟩ := hrl.nine; replace hruD := hruD.mono hlel; replace hx := hx.mono hlel; replace hb := hb.mono hlel; replace hrt := hrt.mono hlel;)
 refine A1 11 ?_
 (have hcall := A4B br pb nb cb bs hnb uD (pl) _ _ huaD hruD hb (by omega); refine V9 (l' := [tt,tt,tt,tt,tt,tt,tt,tt,tt,tt,tt,tt,tt,tt,ff,ff,ff,ff]) rfl rfl hcall (Pk.perm (by repeat (first | exact Pk.here | apply Pk.there))) rfl rfl rfl (by repeat (first | exact A7.nil | apply A7.dep (by decide +kernel) | apply A7.im (by decide +kernel) hg0 (by repeat first | exact mH | apply mT) | apply A7.im (by decide +kernel) hg1 (by repeat first | exact mH | apply mT) | apply A7.blk (by decide +kernel) (by repeat (first | exact Pk.here | apply Pk.there)) (by repeat first | exact mH | apply mT))) (fun v Gn outs hleE hh => ?_); obtain ⟨pE, hpE1, hpE2, rfl, uE, cuE, rfl, hruE, huaE, husE, huhE⟩ := hh; obtain ⟨quE, duE, euE, rfl, _⟩ := hruE.open; replace hrl := hrl.mono hleE; replace hx := hx.mono hleE; replace hb := hb.mono hleE; replace hrt := hrt.mono hleE;)
 refine A1 14 ?_
 (have hcall := ih m (by omega) (depth - 1) uE pE _ pc nc cc _ (hfu.sub (by omega) (huhE 4 (huhD.le (by omega)))) (by omega) (by omega) (by omega) hx hruE hb (by omega); refine V9 (l' := [tt,tt,tt,tt,tt,tt,tt,tt,tt,tt,tt,tt,tt,tt,tt,ff,ff,ff]) rfl rfl hcall (Pk.perm (by repeat (first | exact Pk.here | apply Pk.there))) rfl rfl rfl (by repeat (first | exact A7.nil | apply A7.dep (by decide +kernel) | apply A7.im (by decide +kernel) hg0 (by repeat first | exact mH | apply mT) | apply A7.im (by decide +kernel) hg1 (by repeat first | exact mH | apply mT) | apply A7.blk (by decide +kernel) (by repeat (first | exact Pk.here | apply Pk.there)) (by repeat first | exact mH | apply mT))) (fun v Gn outs hled hh => ?_); obtain ⟨pd, hpd1, hpd2, rfl, ed, cd, rfl, hrd, hsmd, hcd⟩ := hh; obtain ⟨d1, d2, d3, d4, d5, d6, d7, d8, d9, rfl⟩ := hrd.nine; replace hrl := hrl.mono hled; replace hx := hx.mono hled; replace hb := hb.mono hled; replace hrt := hrt.mono hled;)
 refine A1 15 ?_
 (refine E3 rfl (C7 rfl rfl rfl (by omega) (by unfold maxLen; omega) rfl) rfl rfl ?_; rintro _ ⟨b298, rfl⟩)
 refine A1 16 ?_
 refine M8 rfl rfl ((A0l _ _ _ _ _)) rfl rfl rfl ?_
 refine A1 17 ?_
 refine Q8 rfl rfl rfl rfl rfl rfl rfl rfl (by decide +kernel) (by repeat first | exact Sw.here | apply Sw.there) (by rfl) ?_
 refine A3 ?_
 (refine F9 (cs := [l1, l2, l3, l4, l5, l6, l7, l8, l9] ++ [d1, d2, d3, d4, d5, d6, d7, d8, d9]) (by repeat (first | exact Pk.here | apply Pk.there)) (fun G9 hle9 hsl9 hno9 => ?_); have hN := A34 (k := 6) (nm := ⟨⟨[]⟩⟩) ⟨by omega, by omega⟩ (hrl.mono hle9) (hrd.mono hle9) hsl9)
 refine A3 ?_
 refine A0H ?_
 refine H2 (outs := [rd br pb nb cb pd]) (rC rfl (A4 rfl rfl)) (by repeat (first | exact A0.nil | refine A0.cons Pk.here ?_ | refine A0.cons (Pk.there Pk.here) ?_ | refine A0.cons (Pk.there (Pk.there Pk.here)) ?_ | apply A0.drop)) ?_
 (exact ⟨pd, by omega, by omega, rfl, _, _, rfl, hN, by first | exact N3 (by first | assumption | decide) | exact A0n (by decide) (by assumption) (by assumption) (by assumption) | exact R9 (by decide) (by assumption) (by assumption) | exact K6 (by decide) P3 (by assumption) | exact K6 (by decide) har.small (by assumption) | exact K6 (by decide) P3 (R9 (by decide) (by assumption) (N3 (by decide))) | exact K6 (by decide) A0o (N3 (by decide)) | assumption, by simp only [D3, E4]; omega⟩)
 refine A8 ?_
 refine sB (qE rfl rfl) rfl rfl (fun h317 => ?_) (fun h317 => ?_)
 refine J2 ?_
 refine sP (O5 rfl rfl (by omega) (by omega)) rfl rfl ?_
 (have hpkq := hpk9; obtain ⟨m, rfl⟩ := hfu.pos (.inl (by omega)); have hmB : mB (m + 1) = 3 * mB m + 200 := rfl; have hgm := A1h m; have hcall := ih m (by omega) (depth - 1) (.mk k ks) (p1 + 1) _ pc nc cc _ (hfu.sub (by omega) hfu.1) (by omega) (by omega) (by omega) hx hrt hb (by omega); refine I8 rfl hcall (Pk.perm (by repeat (first | exact Pk.here | apply Pk.there))) rfl rfl (fun v Gn outs hleh hh => ?_); obtain ⟨ph, hph1, hph2, rfl, eh, ch, rfl, hrh, hsmh, hch⟩ := hh; obtain ⟨h1, h2, h3, h4, h5, h6, h7, h8, h9, rfl⟩ := hrh.nine; replace hx := hx.mono hleh; replace hb := hb.mono hleh; replace hrt := hrt.mono hleh;)
 refine H6 rfl ((A2e _ _)) rfl rfl ?_
 (refine I7 (C7 rfl rfl rfl (by omega) (by unfold maxLen; omega) rfl) rfl ?_; rintro _ ⟨b331, rfl⟩)
 refine H6 rfl ((A0l _ _ _ _ _)) rfl rfl ?_
 (refine I7 (C7 rfl rfl rfl (by omega) (by unfold maxLen; omega) rfl) rfl ?_; rintro _ ⟨b333, rfl⟩)
 refine H6 rfl ((A0l _ _ _ _ _)) rfl rfl ?_
 refine B6 ?_
 (refine F9 (cs := [h1, h2, h3, h4, h5, h6, h7, h8, h9] ++ [.int .i64 2, .string ⟨⟨[]⟩⟩, .int .i64 1, .int .i64 0, .slice none 0 0, .int .i64 0, .slice none 0 0, .int .i64 0, .slice none 0 0]) (by repeat (first | exact Pk.here | apply Pk.there)) (fun G8 hle8 hsl8 hno8 => ?_); have hNi := A34 (k := 10) (nm := ⟨⟨[]⟩⟩) ⟨by omega, by omega⟩ (hrh.mono hle8) (A1X G8 ⟨⟨[]⟩⟩ 1 (k := 2) ⟨by omega, by omega⟩ ⟨by omega, by omega⟩) hsl8; refine F9 (by repeat (first | exact Pk.here | apply Pk.there)) (fun G9 hle9 hsl9 hno9 => ?_); have hN := A33 (k := 11) (nm := ⟨⟨[]⟩⟩) ⟨by omega, by omega⟩ (O0 G9 (k := 0) ⟨by omega, by omega⟩) (hNi.mono hle9) hsl9)
 refine A3 ?_
 refine A0H ?_
 refine H2 (outs := [rd br pb nb cb ph]) (rC rfl (A4 rfl rfl)) (by repeat (first | exact A0.nil | refine A0.cons Pk.here ?_ | refine A0.cons (Pk.there Pk.here) ?_ | refine A0.cons (Pk.there (Pk.there Pk.here)) ?_ | apply A0.drop)) ?_
 (exact ⟨ph, by omega, by omega, rfl, _, _, rfl, hN, by first | exact N3 (by first | assumption | decide) | exact A0n (by decide) (by assumption) (by assumption) (by assumption) | exact R9 (by decide) (by assumption) (by assumption) | exact K6 (by decide) P3 (by assumption) | exact K6 (by decide) har.small (by assumption) | exact K6 (by decide) P3 (R9 (by decide) (by assumption) (N3 (by decide))) | exact K6 (by decide) A0o (N3 (by decide)) | assumption, by simp only [D3, E4]; omega⟩)
 refine A8 ?_
 refine A36 (p1 + 1, Gp) (L3 (by repeat (first | exact E1.nil | refine E1.cons rfl ?_)) (by repeat (first | exact A0.refl | exact A0.nil | refine A0.cons (by repeat (first | exact Pk.here | apply Pk.there)) ?_ | apply A0.drop))) ⟨C0.refl _, by dsimp only; omega, by dsimp only; omega⟩
 refine tK ?_
 refine A36 (p1, G1) (L3 (by repeat (first | exact E1.nil | refine E1.cons rfl ?_)) (by repeat (first | exact A0.refl | exact A0.nil | refine A0.cons (by repeat (first | exact Pk.here | apply Pk.there)) ?_ | apply A0.drop))) ⟨C0.refl _, by dsimp only; omega, by dsimp only; omega⟩
 (rintro ⟨(p2 : Nat), G2⟩ ⟨hle2c, hp2a, hp2b⟩; simp only [] at hle2c hp2a hp2b ⊢; have hcut1 := hp2a; replace hx := hx.mono hle2c; replace hb := hb.mono hle2c; replace hrt := hrt.mono hle2c;)
 refine B2 ?_
 (show I4 _ _ (.block 3 ..) _ _; refine B0H (fun (x : Nat × IM) => ⟨[(0, .pointer (some ⟨br, 0, none⟩)), (1, .slice pc nc cc), (3, .int .i64 depth), (6, .pointer (some ⟨b3, 0, none⟩)), (8, .pointer (some ⟨b4, 0, none⟩))], [rd br pb nb cb x.1, .blk b4 [.int .i64 0, .string ⟨⟨[]⟩⟩, .int .i64 0, .int .i64 0, .slice none 0 0, .int .i64 0, .slice none 0 0, .int .i64 0, .slice none 0 0], .blk b3 [.int .i64 k, .slice q ks.length c]], x.2⟩) (fun x => C0 G2 x.2 ∧ p2 ≤ x.1 ∧ x.1 ≤ p2 + 2) ?_ ?_)
 refine C1 (tS (tR (sB (qE rfl rfl) rfl rfl (fun h365 => ?_) (fun h365 => ?_))))
 refine D4 ?_
 refine sB (X5 rfl rfl) rfl rfl (fun h374 => ?_) (fun h374 => ?_)
 refine A3 ?_
 (have hkk3 : k = 3 := (by omega); refine I8 rfl (W7 _ br pb nb cb (p2) bs 2 hb hnb (by omega)) (Pk.perm (by repeat (first | exact Pk.here | apply Pk.there))) rfl rfl (fun v Gp outs hle377 hh => ?_); obtain ⟨rfl, rfl, j377, rfl, hj377, hk377⟩ := hh; have hpk22 := hj377)
 replace hb := hb.mono hle377
 replace hrt := hrt.mono hle377
 refine sB (qE rfl rfl) rfl rfl (fun h378 => ?_) (fun h378 => ?_)
 refine D4 ?_
 refine H6 rfl ((A0k _)) rfl rfl ?_
 refine E6 ?_
 refine sP (O5 rfl rfl (by omega) (by omega)) rfl rfl ?_
 (have hkk3q := hkk3; obtain ⟨m, rfl⟩ := hfu.pos (.inl (by omega)); have hmB : mB (m + 1) = 3 * mB m + 200 := rfl; have hgm := A1h m; have hcall := ih m (by omega) (depth - 1) (.mk 2 []) (p2 + 1) _ pc nc cc _ (hfu.sub (by omega) (A2G 4 (by decide) (by decide))) (by omega) (by omega) (by omega) hx (O0 _ ⟨by omega, by omega⟩) hb (by omega); refine I8 rfl hcall (Pk.perm (by repeat (first | exact Pk.here | apply Pk.there))) rfl rfl (fun v Gn outs hlen hh => ?_); obtain ⟨pn, hpn1, hpn2, rfl, en, cn, rfl, hrn, hsmn, hcn⟩ := hh; obtain ⟨n1, n2, n3, n4, n5, n6, n7, n8, n9, rfl⟩ := hrn.nine; replace hx := hx.mono hlen; replace hb := hb.mono hlen; replace hrt := hrt.mono hlen;)
 refine A3 ?_
 refine H6 rfl ((A0k _)) rfl rfl ?_
 refine E6 ?_
 refine sP (O5 rfl rfl (by omega) (by omega)) rfl rfl ?_
 (have hcall := ih m (by omega) (depth - 1) (.mk 2 []) pn _ pc nc cc _ (hfu.sub (by omega) (A2G 4 (by decide) (by decide))) (by omega) (by omega) (by omega) hx (O0 _ ⟨by omega, by omega⟩) hb (by omega); refine I8 rfl hcall (Pk.perm (by repeat (first | exact Pk.here | apply Pk.there))) rfl rfl (fun v Gn outs hleo hh => ?_); obtain ⟨po, hpo1, hpo2, rfl, eo, co, rfl, hro, hsmo, hco⟩ := hh; obtain ⟨o1, o2, o3, o4, o5, o6, o7, o8, o9, rfl⟩ := hro.nine; replace hrn := hrn.mono hleo; replace hx := hx.mono hleo; replace hb := hb.mono hleo; replace hrt := hrt.mono hleo;)
 (refine I7 (C7 rfl rfl rfl (by omega) (by unfold maxLen; omega) rfl) rfl ?_; rintro _ ⟨b397, rfl⟩)
 refine H6 rfl ((A0l _ _ _ _ _)) rfl rfl ?_
 refine B6 ?_
 (refine F9 (cs := [n1, n2, n3, n4, n5, n6, n7, n8, n9] ++ [o1, o2, o3, o4, o5, o6, o7, o8, o9]) (by repeat (first | exact Pk.here | apply Pk.there)) (fun G9 hle9 hsl9 hno9 => ?_); have hN := A34 (k := 8) (nm := ⟨⟨[]⟩⟩) ⟨by omega, by omega⟩ (hrn.mono hle9) (hro.mono hle9) hsl9)
 refine B6 ?_
 refine A0H ?_
 refine H2 (outs := [rd br pb nb cb po]) (rC rfl (A4 rfl rfl)) (by repeat (first | exact A0.nil | refine A0.cons Pk.here ?_ | refine A0.cons (Pk.there Pk.here) ?_ | refine A0.cons (Pk.there (Pk.there Pk.here)) ?_ | apply A0.drop)) ?_
 (exact ⟨po, by omega, by omega, rfl, _, _, rfl, hN, by first | exact N3 (by first | assumption | decide) | exact A0n (by decide) (by assumption) (by assumption) (by assumption) | exact R9 (by decide) (by assumption) (by assumption) | exact K6 (by decide) P3 (by assumption) | exact K6 (by decide) har.small (by assumption) | exact K6 (by decide) P3 (R9 (by decide) (by assumption) (N3 (by decide))) | exact K6 (by decide) A0o (N3 (by decide)) | assumption, by simp only [D3, E4]; omega⟩)
 refine J3 ?_
 refine A0H ?_
 refine H2 (outs := [rd br pb nb cb (p2 + 1)]) (rC rfl (A4 rfl rfl)) (by repeat (first | exact A0.nil | refine A0.cons Pk.here ?_ | refine A0.cons (Pk.there Pk.here) ?_ | refine A0.cons (Pk.there (Pk.there Pk.here)) ?_ | apply A0.drop)) ?_
 (exact ⟨(p2 + 1), by omega, by omega, rfl, _, _, rfl, A1X _ _ _ ⟨by omega, by omega⟩ (by first | exact ⟨by omega, by omega⟩ | exact hkn), by first | exact N3 (by first | assumption | decide) | exact A0n (by decide) (by assumption) (by assumption) (by assumption) | exact R9 (by decide) (by assumption) (by assumption) | exact K6 (by decide) P3 (by assumption) | exact K6 (by decide) har.small (by assumption) | exact K6 (by decide) P3 (R9 (by decide) (by assumption) (N3 (by decide))) | exact K6 (by decide) A0o (N3 (by decide)) | assumption, by simp only [D3, E4]; omega⟩)
 refine U0 ?_
 refine A0H ?_
 refine H2 (outs := [rd br pb nb cb p2]) (rC rfl (A4 rfl rfl)) (by repeat (first | exact A0.nil | refine A0.cons Pk.here ?_ | refine A0.cons (Pk.there Pk.here) ?_ | refine A0.cons (Pk.there (Pk.there Pk.here)) ?_ | apply A0.drop)) ?_
 (exact ⟨p2, by omega, by omega, rfl, _, _, rfl, A1X _ _ _ ⟨by omega, by omega⟩ (by first | exact ⟨by omega, by omega⟩ | exact hkn), by first | exact N3 (by first | assumption | decide) | exact A0n (by decide) (by assumption) (by assumption) (by assumption) | exact R9 (by decide) (by assumption) (by assumption) | exact K6 (by decide) P3 (by assumption) | exact K6 (by decide) har.small (by assumption) | exact K6 (by decide) P3 (R9 (by decide) (by assumption) (N3 (by decide))) | exact K6 (by decide) A0o (N3 (by decide)) | assumption, by simp only [D3, E4]; omega⟩)
 refine A8 ?_
 refine sB (qE rfl rfl) rfl rfl (fun h453 => ?_) (fun h453 => ?_)
 refine A9 ?_
 (have hk45 : k = 4 ∨ k = 5 := (by omega); have hl2 := hops hk45; obtain ⟨m, rfl⟩ := hfu.pos (.inr hk45); have hmB : mB (m + 1) = 3 * mB m + 200 := rfl; have hgm := A1h m; obtain ⟨es9, hsl, hkl⟩ := hrt.kidsM; obtain ⟨b0, o0, q0, d0, hp0, hat0, hre0, hg0⟩ := hsl.kidTy hkl (i := 0) (by omega) (by omega); obtain ⟨b1, o1, q1, d1, hp1, hat1, hre1, hg1⟩ := hsl.kidTy hkl (i := 1) (by omega) (by omega); cases hp0; cases hp1; have hmem0 := List.getElem_mem (l := ks) (n := 0) (by omega); have hmem1 := List.getElem_mem (l := ks) (n := 1) (by omega); refine D7 D8 rfl ?_)
 refine I9 (i := 0) (l' := [tt,ff,ff,ff,ff,ff,ff,ff,ff,ff,ff,ff,ff,ff]) rfl D1 (qM rfl) rfl (by kernel_rfl) rfl rfl ?_
 refine aP 1 rfl (qM rfl) rfl ?_
 refine aP 2 rfl (B5 rfl) rfl ?_
 refine aL 3 rfl (C4 rfl rfl) rfl ?_
 refine aP 4 rfl (B4 (j := 0) rfl rfl rfl (by omega)) rfl ?_
 refine aL 5 rfl (A2 rfl rfl (hat0 _) rfl) rfl ?_
 refine aP 6 rfl (B5 rfl) rfl ?_
 refine aL 7 rfl (C4 rfl rfl) rfl ?_
 refine aP 8 rfl (B4 (j := 1) rfl rfl rfl (by omega)) rfl ?_
 refine aL 9 rfl (A2 rfl rfl (hat1 _) rfl) rfl ?_
 refine aP 10 rfl (qM rfl) rfl ?_
 refine aP 11 rfl (O5 rfl rfl (by omega) (by omega)) rfl ?_
 refine A1 12 ?_
 (have hcall := B0G br pb nb cb bs hnb m (ih m (by omega)) (depth - 1) ks[0] ks[1] (p2) _ pc nc cc _ _ (hfu.kid hmem1) (by omega) (by omega) (by omega) hx hre0 ⟨har.kid _ hmem0, by have := B21 (k := k) hmem0; omega⟩ hre1 hb (by omega); refine V9 (l' := [tt,tt,tt,tt,tt,tt,tt,tt,tt,tt,tt,tt,tt,ff]) rfl rfl hcall (Pk.perm (by repeat (first | exact Pk.here | apply Pk.there))) rfl rfl rfl (by repeat (first | exact A7.nil | apply A7.dep (by decide +kernel) | apply A7.im (by decide +kernel) hg0 (by repeat first | exact mH | apply mT) | apply A7.im (by decide +kernel) hg1 (by repeat first | exact mH | apply mT) | apply A7.blk (by decide +kernel) (by repeat (first | exact Pk.here | apply Pk.there)) (by repeat first | exact mH | apply mT))) (fun v Gn outs hlek hh => ?_); obtain ⟨pk, hpk1, hpk2, rfl, ek, ck, rfl, hrk, hsmk, hck⟩ := hh; obtain ⟨k1, k2, k3, k4, k5, k6, k7, k8, k9, rfl⟩ := hrk.nine; replace hx := hx.mono hlek; replace hb := hb.mono hlek; replace hrt := hrt.mono hlek;)
 refine A1 13 ?_
 refine Q8 rfl rfl rfl rfl rfl hrk.one rfl rfl (by kernel_rfl) (by repeat first | exact Sw.here | apply Sw.there) (by rfl) ?_
 refine B1 ?_
 refine A0H ?_
 refine H2 (outs := [rd br pb nb cb pk]) (rC rfl (A4 rfl rfl)) (by repeat (first | exact A0.nil | refine A0.cons Pk.here ?_ | refine A0.cons (Pk.there Pk.here) ?_ | refine A0.cons (Pk.there (Pk.there Pk.here)) ?_ | apply A0.drop)) ?_
 (exact ⟨pk, by omega, by omega, rfl, _, _, rfl, hrk, hsmk, by omega⟩)
 refine A8 ?_
 refine sB (qE rfl rfl) rfl rfl (fun h489 => ?_) (fun h489 => ?_)
 refine A9 ?_
 (have hk45 : k = 4 ∨ k = 5 := (by omega); have hl2 := hops hk45; obtain ⟨m, rfl⟩ := hfu.pos (.inr hk45); have hmB : mB (m + 1) = 3 * mB m + 200 := rfl; have hgm := A1h m; obtain ⟨es9, hsl, hkl⟩ := hrt.kidsM; obtain ⟨b0, o0, q0, d0, hp0, hat0, hre0, hg0⟩ := hsl.kidTy hkl (i := 0) (by omega) (by omega); obtain ⟨b1, o1, q1, d1, hp1, hat1, hre1, hg1⟩ := hsl.kidTy hkl (i := 1) (by omega) (by omega); cases hp0; cases hp1; have hmem0 := List.getElem_mem (l := ks) (n := 0) (by omega); have hmem1 := List.getElem_mem (l := ks) (n := 1) (by omega); refine D7 D8 rfl ?_)
 refine I9 (i := 0) (l' := [tt,ff,ff,ff,ff,ff,ff,ff,ff,ff,ff,ff,ff,ff,ff,ff,ff,ff,ff,ff,ff]) rfl D1 (qM rfl) rfl (by kernel_rfl) rfl rfl ?_
 refine aP 1 rfl (qM rfl) rfl ?_
 refine aP 2 rfl (B5 rfl) rfl ?_
 refine aL 3 rfl (C4 rfl rfl) rfl ?_
 refine aP 4 rfl (B4 (j := 0) rfl rfl rfl (by omega)) rfl ?_
 refine aL 5 rfl (A2 rfl rfl (hat0 _) rfl) rfl ?_
 refine aP 6 rfl (qM rfl) rfl ?_
 refine aP 7 rfl (O5 rfl rfl (by omega) (by omega)) rfl ?_
 refine aP 9 rfl (qM rfl) rfl ?_
 refine aP 10 rfl (qM rfl) rfl ?_
 refine aP 11 rfl (B5 rfl) rfl ?_
 refine aL 12 rfl (C4 rfl rfl) rfl ?_
 refine aP 13 rfl (B4 (j := 1) rfl rfl rfl (by omega)) rfl ?_
 refine aL 14 rfl (A2 rfl rfl (hat1 _) rfl) rfl ?_
 refine aP 15 rfl (qM rfl) rfl ?_
 refine aP 16 rfl (O5 rfl rfl (by omega) (by omega)) rfl ?_
 refine A1 8 ?_
 (have hcall := ih m (by omega) (depth - 1) ks[0] p2 _ pc nc cc _ (hfu.kid hmem0) (by omega) (by omega) (by omega) hx hre0 hb (by omega); refine V9 (l' := [tt,tt,tt,tt,tt,tt,tt,tt,tt,tt,tt,tt,tt,tt,tt,tt,tt,ff,ff,ff,ff]) rfl rfl hcall (Pk.perm (by repeat (first | exact Pk.here | apply Pk.there))) rfl rfl rfl (by repeat (first | exact A7.nil | apply A7.dep (by decide +kernel) | apply A7.im (by decide +kernel) hg0 (by repeat first | exact mH | apply mT) | apply A7.im (by decide +kernel) hg1 (by repeat first | exact mH | apply mT) | apply A7.blk (by decide +kernel) (by repeat (first | exact Pk.here | apply Pk.there)) (by repeat first | exact mH | apply mT))) (fun v Gn outs hles hh => ?_); obtain ⟨ps, hps1, hps2, rfl, es, cs, rfl, hrs, hsms, hcs⟩ := hh; obtain ⟨s1, s2, s3, s4, s5, s6, s7, s8, s9, rfl⟩ := hrs.nine; replace hre1 := hre1.mono hles; replace hx := hx.mono hles; replace hb := hb.mono hles; replace hrt := hrt.mono hles;)
 refine A1 17 ?_
 (have hcall := ih m (by omega) (depth - 1) ks[1] ps _ pc nc cc _ (hfu.kid hmem1) (by omega) (by omega) (by omega) hx hre1 hb (by omega); refine V9 (l' := [tt,tt,tt,tt,tt,tt,tt,tt,tt,tt,tt,tt,tt,tt,tt,tt,tt,tt,ff,ff,ff]) rfl rfl hcall (Pk.perm (by repeat (first | exact Pk.here | apply Pk.there))) rfl rfl rfl (by repeat (first | exact A7.nil | apply A7.dep (by decide +kernel) | apply A7.im (by decide +kernel) hg0 (by repeat first | exact mH | apply mT) | apply A7.im (by decide +kernel) hg1 (by repeat first | exact mH | apply mT) | apply A7.blk (by decide +kernel) (by repeat (first | exact Pk.here | apply Pk.there)) (by repeat first | exact mH | apply mT))) (fun v Gn outs hlew hh => ?_); obtain ⟨pw, hpw1, hpw2, rfl, ew, cw, rfl, hrw, hsmw, hcw⟩ := hh; obtain ⟨w1, w2, w3, w4, w5, w6, w7, w8, w9, rfl⟩ := hrw.nine; replace hrs := hrs.mono hlew; replace hx := hx.mono hlew; replace hb := hb.mono hlew; replace hrt := hrt.mono hlew;)
 refine A1 18 ?_
 (refine E3 rfl (C7 rfl rfl rfl (by omega) (by unfold maxLen; omega) rfl) rfl rfl ?_; rintro _ ⟨b517, rfl⟩)
 refine A1 19 ?_
 refine M8 rfl rfl ((A0l _ _ _ _ _)) rfl rfl rfl ?_
 refine A1 20 ?_
 refine Q8 rfl rfl rfl rfl rfl rfl rfl rfl (by decide +kernel) (by repeat first | exact Sw.here | apply Sw.there) (by rfl) ?_
 refine A3 ?_
 (refine F9 (cs := [s1, s2, s3, s4, s5, s6, s7, s8, s9] ++ [w1, w2, w3, w4, w5, w6, w7, w8, w9]) (by repeat (first | exact Pk.here | apply Pk.there)) (fun G9 hle9 hsl9 hno9 => ?_); have hN := A34 (k := 10) (nm := ⟨⟨[]⟩⟩) ⟨by omega, by omega⟩ (hrs.mono hle9) (hrw.mono hle9) hsl9)
 refine A3 ?_
 refine A0H ?_
 refine H2 (outs := [rd br pb nb cb pw]) (rC rfl (A4 rfl rfl)) (by repeat (first | exact A0.nil | refine A0.cons Pk.here ?_ | refine A0.cons (Pk.there Pk.here) ?_ | refine A0.cons (Pk.there (Pk.there Pk.here)) ?_ | apply A0.drop)) ?_
 (exact ⟨pw, by omega, by omega, rfl, _, _, rfl, hN, by first | exact N3 (by first | assumption | decide) | exact A0n (by decide) (by assumption) (by assumption) (by assumption) | exact R9 (by decide) (by assumption) (by assumption) | exact K6 (by decide) P3 (by assumption) | exact K6 (by decide) har.small (by assumption) | exact K6 (by decide) P3 (R9 (by decide) (by assumption) (N3 (by decide))) | exact K6 (by decide) A0o (N3 (by decide)) | assumption, by simp only [D3, E4]; omega⟩)
 refine A8 ?_
 refine sB (qE rfl rfl) rfl rfl (fun h536 => ?_) (fun h536 => ?_)
 refine D4 ?_
 refine sB (X5 rfl rfl) rfl rfl (fun h545 => ?_) (fun h545 => ?_)
 refine A3 ?_
 (have hkk1 : k = 1 := (by omega); refine I8 rfl (W7 _ br pb nb cb (p2) bs 3 hb hnb (by omega)) (Pk.perm (by repeat (first | exact Pk.here | apply Pk.there))) rfl rfl (fun v Gp outs hle548 hh => ?_); obtain ⟨rfl, rfl, j548, rfl, hj548, hk548⟩ := hh; have hpk23 := hj548)
 replace hb := hb.mono hle548
 replace hrt := hrt.mono hle548
 refine sB (qE rfl rfl) rfl rfl (fun h549 => ?_) (fun h549 => ?_)
 refine E0 ?_
 (have hcall := A3B br pb nb cb bs hnb 1 (p2 + 1) _ (by omega) hb (by have : dB (1 + 1) ≤ 6 := (by decide); omega); refine I8 rfl hcall (Pk.perm (by repeat (first | exact Pk.here | apply Pk.there))) rfl rfl (fun v Gn outs hleF hh => ?_); obtain ⟨pF, hpF1, hpF2, rfl, uF, cuF, rfl, hruF, husF, huhF⟩ := hh; have huaF := huhF.ar; obtain ⟨quF, duF, euF, rfl, _⟩ := hruF.open; have hdBF : dB (1 + 1) ≤ 6 := (by decide); replace hx := hx.mono hleF; replace hb := hb.mono hleF; replace hrt := hrt.mono hleF;)
 refine E6 ?_
 refine sP (O5 rfl rfl (by omega) (by omega)) rfl rfl ?_
 (obtain ⟨m, rfl⟩ := hfu.pos (.inl (by omega)); have hmB : mB (m + 1) = 3 * mB m + 200 := rfl; have hgm := A1h m; have hcall := ih m (by omega) (depth - 1) uF pF _ pc nc cc _ (hfu.sub (by omega) (huhF.le (by omega))) (by omega) (by omega) (by omega) hx hruF hb (by omega); refine I8 rfl hcall (Pk.perm (by repeat (first | exact Pk.here | apply Pk.there))) rfl rfl (fun v Gn outs hlex hh => ?_); obtain ⟨px, hpx1, hpx2, rfl, ex, cx, rfl, hrx, hsmx, hcx⟩ := hh; obtain ⟨x1, x2, x3, x4, x5, x6, x7, x8, x9, rfl⟩ := hrx.nine; replace hx := hx.mono hlex; replace hb := hb.mono hlex; replace hrt := hrt.mono hlex;)
 refine sS rfl rfl rfl rfl hrx.one rfl ?_
 refine A9 ?_
 refine A0H ?_
 refine H2 (outs := [rd br pb nb cb px]) (rC rfl (A4 rfl rfl)) (by repeat (first | exact A0.nil | refine A0.cons Pk.here ?_ | refine A0.cons (Pk.there Pk.here) ?_ | refine A0.cons (Pk.there (Pk.there Pk.here)) ?_ | apply A0.drop)) ?_
 (exact ⟨px, by omega, by omega, rfl, _, _, rfl, hrx, hsmx, by omega⟩)
 refine E0 ?_
 (refine I8 rfl (W7 _ br pb nb cb (p2 + 1) bs 3 hb hnb (by omega)) (Pk.perm (by repeat (first | exact Pk.here | apply Pk.there))) rfl rfl (fun v Gp outs hle581 hh => ?_); obtain ⟨rfl, rfl, j581, rfl, hj581, hk581⟩ := hh; have hpk21 := hj581)
 replace hb := hb.mono hle581
 replace hrt := hrt.mono hle581
 refine sB (qE rfl rfl) rfl rfl (fun h582 => ?_) (fun h582 => ?_)
 refine A9 ?_
 refine H6 rfl ((A1A _)) rfl rfl ?_
 refine E6 ?_
 (refine I7 (C7 rfl rfl rfl (by omega) (by unfold maxLen; omega) rfl) rfl ?_; rintro _ ⟨b590, rfl⟩)
 refine B1 ?_
 (refine F9 (cs := [.int .i64 4, .string ⟨⟨[]⟩⟩, .int .i64 0, .int .i64 0, .slice none 0 0, .int .i64 0, .slice none 0 0, .int .i64 0, .slice none 0 0]) (by repeat (first | exact Pk.here | apply Pk.there)) (fun G9 hle9 hsl9 hno9 => ?_); have hN := A33 (k := 13) (nm := ⟨⟨[]⟩⟩) ⟨by omega, by omega⟩ (A0u _) (A1X G9 ⟨⟨[]⟩⟩ 0 (k := 4) ⟨by omega, by omega⟩ ⟨by omega, by omega⟩) hsl9)
 refine A3 ?_
 refine A0H ?_
 refine H2 (outs := [rd br pb nb cb (p2 + 1 + 1)]) (rC rfl (A4 rfl rfl)) (by repeat (first | exact A0.nil | refine A0.cons Pk.here ?_ | refine A0.cons (Pk.there Pk.here) ?_ | refine A0.cons (Pk.there (Pk.there Pk.here)) ?_ | apply A0.drop)) ?_
 (exact ⟨(p2 + 1 + 1), by omega, by omega, rfl, _, _, rfl, hN, by first | exact N3 (by first | assumption | decide) | exact A0n (by decide) (by assumption) (by assumption) (by assumption) | exact R9 (by decide) (by assumption) (by assumption) | exact K6 (by decide) P3 (by assumption) | exact K6 (by decide) har.small (by assumption) | exact K6 (by decide) P3 (R9 (by decide) (by assumption) (N3 (by decide))) | exact K6 (by decide) A0o (N3 (by decide)) | assumption, by simp only [D3, E4]; omega⟩)
 refine A9 ?_
 refine A36 (p2 + 1 + 1, Gp) (L3 (by repeat (first | exact E1.nil | refine E1.cons rfl ?_)) (by repeat (first | exact A0.refl | exact A0.nil | refine A0.cons (by repeat (first | exact Pk.here | apply Pk.there)) ?_ | apply A0.drop))) ⟨C0.refl _, by dsimp only; omega, by dsimp only; omega⟩
 refine K5 ?_
 (have hkk1 : k = 1 := (by omega); refine I8 rfl (W7 _ br pb nb cb (p2) bs 3 hb hnb (by omega)) (Pk.perm (by repeat (first | exact Pk.here | apply Pk.there))) rfl rfl (fun v Gp outs hle620 hh => ?_); obtain ⟨rfl, rfl, j620, rfl, hj620, hk620⟩ := hh; have hpk23 := hj620)
 replace hb := hb.mono hle620
 replace hrt := hrt.mono hle620
 refine sB (qE rfl rfl) rfl rfl (fun h621 => ?_) (fun h621 => ?_)
 refine A9 ?_
 refine H6 rfl ((A1A _)) rfl rfl ?_
 refine E6 ?_
 (refine I7 (C7 rfl rfl rfl (by omega) (by unfold maxLen; omega) rfl) rfl ?_; rintro _ ⟨b629, rfl⟩)
 refine B1 ?_
 (refine F9 (cs := [.int .i64 4, .string ⟨⟨[]⟩⟩, .int .i64 0, .int .i64 0, .slice none 0 0, .int .i64 0, .slice none 0 0, .int .i64 0, .slice none 0 0]) (by repeat (first | exact Pk.here | apply Pk.there)) (fun G9 hle9 hsl9 hno9 => ?_); have hN := A33 (k := 13) (nm := ⟨⟨[]⟩⟩) ⟨by omega, by omega⟩ (A0u _) (A1X G9 ⟨⟨[]⟩⟩ 0 (k := 4) ⟨by omega, by omega⟩ ⟨by omega, by omega⟩) hsl9)
 refine A3 ?_
 refine A0H ?_
 refine H2 (outs := [rd br pb nb cb (p2 + 1)]) (rC rfl (A4 rfl rfl)) (by repeat (first | exact A0.nil | refine A0.cons Pk.here ?_ | refine A0.cons (Pk.there Pk.here) ?_ | refine A0.cons (Pk.there (Pk.there Pk.here)) ?_ | apply A0.drop)) ?_
 (exact ⟨(p2 + 1), by omega, by omega, rfl, _, _, rfl, hN, by first | exact N3 (by first | assumption | decide) | exact A0n (by decide) (by assumption) (by assumption) (by assumption) | exact R9 (by decide) (by assumption) (by assumption) | exact K6 (by decide) P3 (by assumption) | exact K6 (by decide) har.small (by assumption) | exact K6 (by decide) P3 (R9 (by decide) (by assumption) (N3 (by decide))) | exact K6 (by decide) A0o (N3 (by decide)) | assumption, by simp only [D3, E4]; omega⟩)
 refine A9 ?_
 refine A36 (p2 + 1, Gp) (L3 (by repeat (first | exact E1.nil | refine E1.cons rfl ?_)) (by repeat (first | exact A0.refl | exact A0.nil | refine A0.cons (by repeat (first | exact Pk.here | apply Pk.there)) ?_ | apply A0.drop))) ⟨C0.refl _, by dsimp only; omega, by dsimp only; omega⟩
 refine A8 ?_
 refine A36 (p2, G2) (L3 (by repeat (first | exact E1.nil | refine E1.cons rfl ?_)) (by repeat (first | exact A0.refl | exact A0.nil | refine A0.cons (by repeat (first | exact Pk.here | apply Pk.there)) ?_ | apply A0.drop))) ⟨C0.refl _, by dsimp only; omega, by dsimp only; omega⟩
 (have hq := hcut1; rintro ⟨(p5 : Nat), G5⟩ ⟨hle5c, hp5a, hp5b⟩; simp only [] at hle5c hp5a hp5b ⊢; have hcut2 := hp5a; replace hx := hx.mono hle5c; replace hb := hb.mono hle5c; replace hrt := hrt.mono hle5c;)
 refine B1 ?_
 refine sB (X5 rfl rfl) rfl rfl (fun h658 => ?_) (fun h658 => ?_)
 refine A3 ?_
 (refine I8 rfl (W7 _ br pb nb cb (p5) bs 2 hb hnb (by omega)) (Pk.perm (by repeat (first | exact Pk.here | apply Pk.there))) rfl rfl (fun v Gp outs hle661 hh => ?_); obtain ⟨rfl, rfl, j661, rfl, hj661, hk661⟩ := hh; have hpk5 := hj661)
 replace hb := hb.mono hle661
 replace hrt := hrt.mono hle661
 refine sB (qE rfl rfl) rfl rfl (fun h662 => ?_) (fun h662 => ?_)
 refine E0 ?_
 refine H6 rfl ((A0k _)) rfl rfl ?_
 (have hz2 : K0 (.mk 2 []) = 0 := rfl; have hcall := A4B br pb nb cb bs hnb (.mk 2 []) (p5 + 1) _ _ (V3 (by decide) (by decide)) (O0 _ ⟨by omega, by omega⟩) hb (by omega); refine I8 rfl hcall (Pk.perm (by repeat (first | exact Pk.here | apply Pk.there))) rfl rfl (fun v Gn outs hleG hh => ?_); obtain ⟨pG, hpG1, hpG2, rfl, uG, cuG, rfl, hruG, huaG, husG, huhG⟩ := hh; obtain ⟨quG, duG, euG, rfl, _⟩ := hruG.open; replace hx := hx.mono hleG; replace hb := hb.mono hleG; replace hrt := hrt.mono hleG;)
 refine E6 ?_
 refine sP (O5 rfl rfl (by omega) (by omega)) rfl rfl ?_
 (obtain ⟨m, rfl⟩ := hfu.pos (.inl (by omega)); have hmB : mB (m + 1) = 3 * mB m + 200 := rfl; have hgm := A1h m; have hcall := ih m (by omega) (depth - 1) uG pG _ pc nc cc _ (hfu.sub (by omega) (huhG 4 (A2G 4 (by decide) (by decide)))) (by omega) (by omega) (by omega) hx hruG hb (by omega); refine I8 rfl hcall (Pk.perm (by repeat (first | exact Pk.here | apply Pk.there))) rfl rfl (fun v Gn outs hley hh => ?_); obtain ⟨py, hpy1, hpy2, rfl, ey, cy, rfl, hry, hsmy, hcy⟩ := hh; obtain ⟨y1, y2, y3, y4, y5, y6, y7, y8, y9, rfl⟩ := hry.nine; replace hx := hx.mono hley; replace hb := hb.mono hley; replace hrt := hrt.mono hley;)
 refine A3 ?_
 refine H6 rfl ((A0k _)) rfl rfl ?_
 refine E6 ?_
 refine sP (O5 rfl rfl (by omega) (by omega)) rfl rfl ?_
 (have hcall := ih m (by omega) (depth - 1) (.mk 2 []) py _ pc nc cc _ (hfu.sub (by omega) (A2G 4 (by decide) (by decide))) (by omega) (by omega) (by omega) hx (O0 _ ⟨by omega, by omega⟩) hb (by omega); refine I8 rfl hcall (Pk.perm (by repeat (first | exact Pk.here | apply Pk.there))) rfl rfl (fun v Gn outs hlec hh => ?_); obtain ⟨pc, hpc1, hpc2, rfl, ec, cc, rfl, hrc, hsmc, hcc⟩ := hh; obtain ⟨c1, c2, c3, c4, c5, c6, c7, c8, c9, rfl⟩ := hrc.nine; replace hry := hry.mono hlec; replace hx := hx.mono hlec; replace hb := hb.mono hlec; replace hrt := hrt.mono hlec;)
 (refine I7 (C7 rfl rfl rfl (by omega) (by unfold maxLen; omega) rfl) rfl ?_; rintro _ ⟨b683, rfl⟩)
 refine H6 rfl ((A0l _ _ _ _ _)) rfl rfl ?_
 refine B6 ?_
 (refine F9 (cs := [y1, y2, y3, y4, y5, y6, y7, y8, y9] ++ [c1, c2, c3, c4, c5, c6, c7, c8, c9]) (by repeat (first | exact Pk.here | apply Pk.there)) (fun G9 hle9 hsl9 hno9 => ?_); have hN := A34 (k := 7) (nm := ⟨⟨[]⟩⟩) ⟨by omega, by omega⟩ (hry.mono hle9) (hrc.mono hle9) hsl9)
 refine A3 ?_
 refine H2 (outs := [rd br pb nb cb pc]) (rC rfl (A4 rfl rfl)) (by repeat (first | exact A0.nil | refine A0.cons Pk.here ?_ | refine A0.cons (Pk.there Pk.here) ?_ | refine A0.cons (Pk.there (Pk.there Pk.here)) ?_ | apply A0.drop)) ?_
 (exact ⟨pc, by omega, by omega, rfl, _, _, rfl, hN, by first | exact N3 (by first | assumption | decide) | exact A0n (by decide) (by assumption) (by assumption) (by assumption) | exact R9 (by decide) (by assumption) (by assumption) | exact K6 (by decide) P3 (by assumption) | exact K6 (by decide) har.small (by assumption) | exact K6 (by decide) P3 (R9 (by decide) (by assumption) (N3 (by decide))) | exact K6 (by decide) A0o (N3 (by decide)) | assumption, by simp only [D3, E4]; omega⟩)
 refine E0 ?_
 (refine I7 (C7 rfl rfl rfl (by omega) (by unfold maxLen; omega) rfl) rfl ?_; rintro _ ⟨b702, rfl⟩)
 (refine S9 (by repeat (first | exact Pk.here | apply Pk.there)) (fun G4 hle4 hsl4 _ => ?_); refine I8 rfl (Y8 G4 br pb nb cb (p5 + 1) bs _ _ _ _ (hb.mono hle4) hnb (by omega) hsl4 (by decide)) (Pk.perm (by repeat (first | exact Pk.here | apply Pk.there))) rfl rfl (fun v G7 outs hle7 hh => ?_); obtain ⟨rfl, rfl, hv⟩ := hh; obtain ⟨kn, rfl, hkn⟩ : ∃ k, v = .int .i64 k ∧ E8 k := (by simp only [List.mem_cons, List.not_mem_nil, or_false] at hv; rcases hv with rfl | rfl | rfl | rfl | rfl <;> exact ⟨_, rfl, by unfold E8; omega⟩))
 refine H6 rfl ((A2e _ _)) rfl rfl ?_
 refine B1 ?_
 refine H2 (outs := [rd br pb nb cb (p5 + 1 + 1)]) (rC rfl (A4 rfl rfl)) (by repeat (first | exact A0.nil | refine A0.cons Pk.here ?_ | refine A0.cons (Pk.there Pk.here) ?_ | refine A0.cons (Pk.there (Pk.there Pk.here)) ?_ | apply A0.drop)) ?_
 (exact ⟨(p5 + 1 + 1), by omega, by omega, rfl, _, _, rfl, A1X _ _ _ ⟨by omega, by omega⟩ (by first | exact ⟨by omega, by omega⟩ | exact hkn), by first | exact N3 (by first | assumption | decide) | exact A0n (by decide) (by assumption) (by assumption) (by assumption) | exact R9 (by decide) (by assumption) (by assumption) | exact K6 (by decide) P3 (by assumption) | exact K6 (by decide) har.small (by assumption) | exact K6 (by decide) P3 (R9 (by decide) (by assumption) (N3 (by decide))) | exact K6 (by decide) A0o (N3 (by decide)) | assumption, by simp only [D3, E4]; omega⟩)
 refine K5 ?_
 (refine I7 (C7 rfl rfl rfl (by omega) (by unfold maxLen; omega) rfl) rfl ?_; rintro _ ⟨b724, rfl⟩)
 (refine S9 (by repeat (first | exact Pk.here | apply Pk.there)) (fun G4 hle4 hsl4 _ => ?_); refine I8 rfl (Y8 G4 br pb nb cb p5 bs _ _ _ _ (hb.mono hle4) hnb (by omega) hsl4 (by decide)) (Pk.perm (by repeat (first | exact Pk.here | apply Pk.there))) rfl rfl (fun v G7 outs hle7 hh => ?_); obtain ⟨rfl, rfl, hv⟩ := hh; obtain ⟨kn, rfl, hkn⟩ : ∃ k, v = .int .i64 k ∧ E8 k := (by simp only [List.mem_cons, List.not_mem_nil, or_false] at hv; rcases hv with rfl | rfl | rfl | rfl | rfl <;> exact ⟨_, rfl, by unfold E8; omega⟩))
 refine H6 rfl ((A2e _ _)) rfl rfl ?_
 refine B1 ?_
 refine H2 (outs := [rd br pb nb cb (p5 + 1)]) (rC rfl (A4 rfl rfl)) (by repeat (first | exact A0.nil | refine A0.cons Pk.here ?_ | refine A0.cons (Pk.there Pk.here) ?_ | refine A0.cons (Pk.there (Pk.there Pk.here)) ?_ | apply A0.drop)) ?_
 (exact ⟨(p5 + 1), by omega, by omega, rfl, _, _, rfl, A1X _ _ _ ⟨by omega, by omega⟩ (by first | exact ⟨by omega, by omega⟩ | exact hkn), by first | exact N3 (by first | assumption | decide) | exact A0n (by decide) (by assumption) (by assumption) (by assumption) | exact R9 (by decide) (by assumption) (by assumption) | exact K6 (by decide) P3 (by assumption) | exact K6 (by decide) har.small (by assumption) | exact K6 (by decide) P3 (R9 (by decide) (by assumption) (N3 (by decide))) | exact K6 (by decide) A0o (N3 (by decide)) | assumption, by simp only [D3, E4]; omega⟩)
theorem A0e.openA {a b : List Ty} {G' : IM} {v : Value} {outs : List A5} {m : Nat} (h : A0e (a ++ b) G' v outs) (hm : a.length = m) :
  ∃ p c es, v = .slice p (m + b.length) c ∧ outs = [.slc p c 34 2 (m + b.length) es.flatten] ∧ D2 G' (a ++ b) es := by
 subst hm
 rw [← List.length_append]
 exact h
theorem B0I {Q : Prop} (h : Q := by (exact ⟨Nat.zero_le _, hle1, (by show D2 G1 ((l ++ [Ty.mk tk tks]) ++ K9 (ks.take 0)) _; rw [List.take_zero, K9, List.append_nil]; exact hinit), by simp [K9]⟩)) : Q := h
theorem A6V {Q : Prop} (h : Q := by (dsimp only; exact ⟨by omega, hle.trans hle3, by rw [A27 (by omega), ← List.append_assoc]; exact hr3, by rw [A27 (by omega), ← List.append_assoc, List.length_append, hlen0]⟩)) : Q := h
theorem B53 : ∀ (t : Tm) (l : List Ty) (G : IM) (cells : List Value) (p : Option Addr) (c : Nat) (es : List (List Value)), t.small → l.length + D3 t ≤ 4000000 → B0 G t cells → D2 G l es →
  Fn Tryz.prog 136 [.slice p l.length c, .agg ⟨cells⟩] [.slc p c 34 2 l.length es.flatten] G (A0e (l ++ O3 t)) := by
 refine Tm.ind fun k nm num ty fr lb ks ih l G cells p c es0 hts hcnt hr hl0 => ?_
 have hone := hr.one
 simp only [Tm.small] at hts
 obtain ⟨_, hty', _, hsm, hks⟩ := hts
 have hcy : k = 5 ∨ k = 13 → O3 (.mk k nm num ty fr lb ks) = [ty] ++ K9 ks := fun h => by rw [O3, if_pos h]
 have hcn : ¬ (k = 5 ∨ k = 13) → O3 (.mk k nm num ty fr lb ks) = K9 ks := fun h => by rw [O3, if_neg h, List.nil_append]
 rw [D3] at hcnt
 obtain ⟨tk, tks⟩ := ty
 obtain ⟨fk, fks⟩ := fr
 obtain ⟨pt, ct, pf, cf, q, cq, ek, rfl, hk, hnum, hlb, hty, hfr, hsl, hkl⟩ := hr.open9
 have hn := hsl.le
 refine C3 Tryz.func136 rfl Tryz.ntmps136 Tryz.results136 rfl ?_
 intro w0
 refine A3 ?_
 refine sE (C8 rfl rfl) rfl (fun b3 => ?_)
 refine D4 ?_
 refine sB (qE rfl rfl) rfl rfl (fun h12 => ?_) (fun h12 => ?_)
 refine N0 ?_
 (refine E7 rfl (O9 (.mk tk tks) G _ hty' hty) rfl rfl (fun v G1 hle1 hh => ?_); obtain ⟨cs1, F1, rfl, hs1, hn1⟩ := hh; have hr1 := hs1.R.mono (C5.le _ _); obtain ⟨p1, c1, rfl, _⟩ := hs1.open)
 (refine I7 (C7 rfl rfl rfl (by omega) (by unfold maxLen; omega) rfl) rfl ?_; rintro _ ⟨b26, rfl⟩)
 (refine A0z rfl rfl rfl rfl rfl (fun _ _ => by repeat (first | exact Sw.here | apply Sw.there)) (M6 (by repeat first | exact mH | apply mT)) rfl (by simp [Value.oneCell']) (by unfold maxLen; omega) (by omega) rfl (fun pn0 cn0 => ?_))
 refine E0 ?_
 refine C1 ?_
 (have h14 := hcy (by omega); have hinit := D2.append (hl0.mono hle1) (D2.one1 hr1); refine J8 (fun (x : Nat × Nat × Option Addr × Nat × List (List Value) × IM) => ⟨[(5, .int .i64 x.1), (3, .pointer (some ⟨b3, 0, none⟩)), (0, .slice x.2.2.1 x.2.1 x.2.2.2.1)], [.slc x.2.2.1 x.2.2.2.1 34 2 x.2.1 x.2.2.2.2.1.flatten, .blk b3 [.int .i64 k, .string nm, .int .i64 num, .int .i64 tk, .slice pt tks.length ct, .int .i64 fk, .slice pf fks.length cf, .int .i64 lb, .slice q ks.length cq]], x.2.2.2.2.2⟩) (fun x => x.1 ≤ ks.length ∧ C0 G x.2.2.2.2.2 ∧ D2 x.2.2.2.2.2 ((l ++ [Ty.mk tk tks]) ++ K9 (ks.take x.1)) x.2.2.2.2.1 ∧ ((l ++ [Ty.mk tk tks]) ++ K9 (ks.take x.1)).length = x.2.1) (fun x => ks.length - x.1) (0, l.length + 1, pn0, cn0, es0 ++ [[.int .i64 tk, .slice p1 tks.length c1]], G1) (by simp only [List.flatten_append, List.flatten_cons, List.flatten_nil, List.append_nil]; exact (L3 (by repeat (first | exact E1.nil | refine E1.cons rfl ?_)) (by repeat (first | exact A0.refl | exact A0.nil | refine A0.cons (by repeat (first | exact Pk.here | apply Pk.there)) ?_ | apply A0.drop)))) ?_ ?_)
 exact B0I
 (rintro ⟨(i : Nat), (m : Nat), pn, cn, es, Gi⟩ ⟨hi, hle, hst, hlen⟩; simp only [] at hi hle hst hlen ⊢; replace hsl := hsl.mono hle; replace hkl := hkl.mono hle; have hb1 := A1W (ks.take i); have hb2 := A1W ks; have hlen0 := hlen; simp only [List.length_append, List.length_singleton, List.length_nil] at hlen)
 refine B2 ?_
 refine sB (J1 rfl rfl) rfl rfl (fun h48 => ?_) (fun h48 => ?_)
 refine A8 ?_
 refine C1 ?_
 refine A9 ?_
 (obtain ⟨b, o, e, rfl, hl, hat, hre, hgb⟩ := hsl.kidTm hkl (i := i) (by omega) (by omega); have hone9 := hre.one; have hsc := A0S (ks := ks) (i := i) (by omega); have hsk := A0R (ks := ks) (i := i) (by omega); refine sP (B4 rfl rfl rfl (by omega)) rfl rfl ?_)
 refine sL (A2 rfl rfl (hat _) hl) rfl rfl ?_
 (have hih := ih ks[i] (List.getElem_mem (by omega)) _ Gi e pn cn es (Tm.smallL_mem hks _ (List.getElem_mem (by omega))) (by simp only [List.length_append, List.length_singleton]; omega) hre hst; rw [hlen0] at hih; refine I8 rfl hih (Pk.perm (by repeat (first | exact Pk.here | apply Pk.there))) rfl rfl (fun v3 G3 outs hle3 hh => ?_); obtain ⟨p3, c3, e3, rfl, rfl, hr3⟩ := A0e.openA hh hlen0)
 refine A8 ?_
 refine sP (J0 rfl rfl (by omega) (by omega)) rfl rfl ?_
 refine A3 ?_
 (refine J6 (i + 1, m + (O3 ks[i]).length, p3, c3, e3, G3) ?_ ?_ ?_)
 (simp only [I5]; exact E2)
 exact A6V
 exact U8
 refine J3 ?_
 (obtain rfl : i = ks.length := (by omega))
 refine tT ?_
 refine H2 (outs := [.slc pn cn 34 2 m es.flatten]) (rT rfl) (A0.cons (by repeat (first | exact Pk.here | apply Pk.there)) A0.nil) ?_
 (rw [h14]; rw [List.take_length] at hst hlen; first | exact A0e.mk (by simp only [List.length_append, List.length_singleton, List.length_nil]; omega) hst | (rw [← List.append_assoc]; exact A0e.mk (by simp only [List.length_append, List.length_singleton, List.length_nil]; omega) hst))
 refine B6 ?_
 refine sB (qE rfl rfl) rfl rfl (fun h98 => ?_) (fun h98 => ?_)
 refine D4 ?_
 (refine E7 rfl (O9 (.mk tk tks) G _ hty' hty) rfl rfl (fun v G1 hle1 hh => ?_); obtain ⟨cs1, F1, rfl, hs1, hn1⟩ := hh; have hr1 := hs1.R.mono (C5.le _ _); obtain ⟨p1, c1, rfl, _⟩ := hs1.open)
 (refine I7 (C7 rfl rfl rfl (by omega) (by unfold maxLen; omega) rfl) rfl ?_; rintro _ ⟨b108, rfl⟩)
 (refine A0z rfl rfl rfl rfl rfl (fun _ _ => by repeat (first | exact Sw.here | apply Sw.there)) (M6 (by repeat first | exact mH | apply mT)) rfl (by simp [Value.oneCell']) (by unfold maxLen; omega) (by omega) rfl (fun pn0 cn0 => ?_))
 refine E0 ?_
 refine C1 ?_
 (have h14 := hcy (by omega); have hinit := D2.append (hl0.mono hle1) (D2.one1 hr1); refine J8 (fun (x : Nat × Nat × Option Addr × Nat × List (List Value) × IM) => ⟨[(5, .int .i64 x.1), (3, .pointer (some ⟨b3, 0, none⟩)), (0, .slice x.2.2.1 x.2.1 x.2.2.2.1)], [.slc x.2.2.1 x.2.2.2.1 34 2 x.2.1 x.2.2.2.2.1.flatten, .blk b3 [.int .i64 k, .string nm, .int .i64 num, .int .i64 tk, .slice pt tks.length ct, .int .i64 fk, .slice pf fks.length cf, .int .i64 lb, .slice q ks.length cq]], x.2.2.2.2.2⟩) (fun x => x.1 ≤ ks.length ∧ C0 G x.2.2.2.2.2 ∧ D2 x.2.2.2.2.2 ((l ++ [Ty.mk tk tks]) ++ K9 (ks.take x.1)) x.2.2.2.2.1 ∧ ((l ++ [Ty.mk tk tks]) ++ K9 (ks.take x.1)).length = x.2.1) (fun x => ks.length - x.1) (0, l.length + 1, pn0, cn0, es0 ++ [[.int .i64 tk, .slice p1 tks.length c1]], G1) (by simp only [List.flatten_append, List.flatten_cons, List.flatten_nil, List.append_nil]; exact (L3 (by repeat (first | exact E1.nil | refine E1.cons rfl ?_)) (by repeat (first | exact A0.refl | exact A0.nil | refine A0.cons (by repeat (first | exact Pk.here | apply Pk.there)) ?_ | apply A0.drop)))) ?_ ?_)
 exact B0I
 (rintro ⟨(i : Nat), (m : Nat), pn, cn, es, Gi⟩ ⟨hi, hle, hst, hlen⟩; simp only [] at hi hle hst hlen ⊢; replace hsl := hsl.mono hle; replace hkl := hkl.mono hle; have hb1 := A1W (ks.take i); have hb2 := A1W ks; have hlen0 := hlen; simp only [List.length_append, List.length_singleton, List.length_nil] at hlen)
 refine B2 ?_
 refine sB (J1 rfl rfl) rfl rfl (fun h130 => ?_) (fun h130 => ?_)
 refine A8 ?_
 refine C1 ?_
 refine A9 ?_
 (obtain ⟨b, o, e, rfl, hl, hat, hre, hgb⟩ := hsl.kidTm hkl (i := i) (by omega) (by omega); have hone9 := hre.one; have hsc := A0S (ks := ks) (i := i) (by omega); have hsk := A0R (ks := ks) (i := i) (by omega); refine sP (B4 rfl rfl rfl (by omega)) rfl rfl ?_)
 refine sL (A2 rfl rfl (hat _) hl) rfl rfl ?_
 (have hih := ih ks[i] (List.getElem_mem (by omega)) _ Gi e pn cn es (Tm.smallL_mem hks _ (List.getElem_mem (by omega))) (by simp only [List.length_append, List.length_singleton]; omega) hre hst; rw [hlen0] at hih; refine I8 rfl hih (Pk.perm (by repeat (first | exact Pk.here | apply Pk.there))) rfl rfl (fun v3 G3 outs hle3 hh => ?_); obtain ⟨p3, c3, e3, rfl, rfl, hr3⟩ := A0e.openA hh hlen0)
 refine A8 ?_
 refine sP (J0 rfl rfl (by omega) (by omega)) rfl rfl ?_
 refine A3 ?_
 (refine J6 (i + 1, m + (O3 ks[i]).length, p3, c3, e3, G3) ?_ ?_ ?_)
 (simp only [I5]; exact E2)
 exact A6V
 exact U8
 refine J3 ?_
 (obtain rfl : i = ks.length := (by omega))
 refine tT ?_
 refine H2 (outs := [.slc pn cn 34 2 m es.flatten]) (rT rfl) (A0.cons (by repeat (first | exact Pk.here | apply Pk.there)) A0.nil) ?_
 (rw [h14]; rw [List.take_length] at hst hlen; first | exact A0e.mk (by simp only [List.length_append, List.length_singleton, List.length_nil]; omega) hst | (rw [← List.append_assoc]; exact A0e.mk (by simp only [List.length_append, List.length_singleton, List.length_nil]; omega) hst))
 refine N0 ?_
 refine C1 ?_
 (have h14 := hcn (by omega); refine J8 (fun (x : Nat × Nat × Option Addr × Nat × List (List Value) × IM) => ⟨[(5, .int .i64 x.1), (3, .pointer (some ⟨b3, 0, none⟩)), (0, .slice x.2.2.1 x.2.1 x.2.2.2.1)], [.slc x.2.2.1 x.2.2.2.1 34 2 x.2.1 x.2.2.2.2.1.flatten, .blk b3 [.int .i64 k, .string nm, .int .i64 num, .int .i64 tk, .slice pt tks.length ct, .int .i64 fk, .slice pf fks.length cf, .int .i64 lb, .slice q ks.length cq]], x.2.2.2.2.2⟩) (fun x => x.1 ≤ ks.length ∧ C0 G x.2.2.2.2.2 ∧ D2 x.2.2.2.2.2 (l ++ K9 (ks.take x.1)) x.2.2.2.2.1 ∧ (l ++ K9 (ks.take x.1)).length = x.2.1) (fun x => ks.length - x.1) (0, l.length, p, c, es0, G) ?_ ?_ ?_)
 (simp only [I5]; exact E2)
 (exact ⟨Nat.zero_le _, C0.refl _, by simpa [K9] using hl0, by simp [K9]⟩)
 (rintro ⟨(i : Nat), (m : Nat), pn, cn, es, Gi⟩ ⟨hi, hle, hst, hlen⟩; simp only [] at hi hle hst hlen ⊢; replace hsl := hsl.mono hle; replace hkl := hkl.mono hle; have hb1 := A1W (ks.take i); have hb2 := A1W ks; have hlen0 := hlen; simp only [List.length_append, List.length_singleton, List.length_nil] at hlen)
 refine B2 ?_
 refine sB (J1 rfl rfl) rfl rfl (fun h201 => ?_) (fun h201 => ?_)
 refine A8 ?_
 refine C1 ?_
 refine A9 ?_
 (obtain ⟨b, o, e, rfl, hl, hat, hre, hgb⟩ := hsl.kidTm hkl (i := i) (by omega) (by omega); have hone9 := hre.one; have hsc := A0S (ks := ks) (i := i) (by omega); have hsk := A0R (ks := ks) (i := i) (by omega); refine sP (B4 rfl rfl rfl (by omega)) rfl rfl ?_)
 refine sL (A2 rfl rfl (hat _) hl) rfl rfl ?_
 (have hih := ih ks[i] (List.getElem_mem (by omega)) _ Gi e pn cn es (Tm.smallL_mem hks _ (List.getElem_mem (by omega))) (by simp only [List.length_append, List.length_singleton]; omega) hre hst; rw [hlen0] at hih; refine I8 rfl hih (Pk.perm (by repeat (first | exact Pk.here | apply Pk.there))) rfl rfl (fun v3 G3 outs hle3 hh => ?_); obtain ⟨p3, c3, e3, rfl, rfl, hr3⟩ := A0e.openA hh hlen0)
 refine A8 ?_
 refine sP (J0 rfl rfl (by omega) (by omega)) rfl rfl ?_
 refine A3 ?_
 (refine J6 (i + 1, m + (O3 ks[i]).length, p3, c3, e3, G3) ?_ ?_ ?_)
 (simp only [I5]; exact E2)
 exact A6V
 exact U8
 refine J3 ?_
 (obtain rfl : i = ks.length := (by omega))
 refine tT ?_
 refine H2 (outs := [.slc pn cn 34 2 m es.flatten]) (rT rfl) (A0.cons (by repeat (first | exact Pk.here | apply Pk.there)) A0.nil) ?_
 (rw [h14]; rw [List.take_length] at hst hlen; first | exact A0e.mk (by simp only [List.length_append, List.length_singleton, List.length_nil]; omega) hst | (rw [← List.append_assoc]; exact A0e.mk (by simp only [List.length_append, List.length_singleton, List.length_nil]; omega) hst))
def A0f (t : Tm) : List Ty := if S1 t = true then O3 t else []
theorem B0J (t : Tm) (G : IM) (cells : List Value) (hts : t.small) (hcnt : D3 t ≤ 4000000) (hr : B0 G t cells) : Fn Tryz.prog 93 [.agg ⟨cells⟩] [] G (A0e (A0f t)) := by
 have hl := hr.len
 have hone := hr.one
 have hv := A4x t G cells (by omega) hr
 have hno : S1 t = false → A0f t = [] := fun h => by unfold A0f; rw [h]; rfl
 have hyes : S1 t = true → A0f t = O3 t := fun h => by unfold A0f; rw [h]; rfl
 refine C3 Tryz.func93 rfl Tryz.ntmps93 Tryz.results93 rfl ?_
 intro w0
 refine A3 ?_
 refine sE (C8 rfl rfl) rfl (fun b3 => ?_)
 refine A8 ?_
 refine sL (A2 rfl rfl (B3 (by repeat first | exact mH | apply mT)) (by assumption)) rfl rfl ?_
 refine F8 rfl (hv) rfl rfl (fun h11 => ?_) (fun h11 => ?_)
 refine D4 ?_
 (refine I7 (C7 rfl rfl rfl (by omega) (by unfold maxLen; omega) rfl) rfl ?_; rintro _ ⟨b20, rfl⟩)
 refine sL (A2 rfl rfl (B3 (by repeat first | exact mH | apply mT)) (by assumption)) rfl rfl ?_
 (refine I8 rfl (B53 t [] G cells _ 0 [] hts (by simp; omega) hr (by simp [D2])) (Pk.perm (by repeat (first | exact Pk.here | apply Pk.there))) rfl rfl (fun v3 G3 outs hle3 hh => ?_); obtain ⟨p3, c3, e3, rfl, rfl, hr3⟩ := hh)
 refine B1 ?_
 refine H2 (outs := [.slc p3 c3 34 2 ([] ++ O3 t).length e3.flatten]) (rT rfl) (A0.cons (by repeat (first | exact Pk.here | apply Pk.there)) A0.nil) ?_
 (rw [hyes (by assumption)]; exact ⟨p3, c3, e3, rfl, rfl, hr3⟩)
 refine A8 ?_
 (refine I7 (C7 rfl rfl rfl (by omega) (by unfold maxLen; omega) rfl) rfl ?_; rintro _ ⟨b35, rfl⟩)
 refine A9 ?_
 refine H2 (rT rfl) (A0.cons Pk.here A0.nil) ?_
 (rw [hno (by assumption)]; exact ⟨_, _, [], rfl, rfl, by simp [D2]⟩)
def A28 (u : Tm) (n : Int) : IM → Value → List A5 → Prop := fun G' v outs => outs = [] ∧ ∃ cu, v = .tuple ⟨[.agg ⟨cu⟩, .int .i64 n]⟩ ∧ B0 G' u cu
theorem A28.mk {G' : IM} {k : Int} {nm : ByteArray} {num : Int} {ty fr : Ty} {lb : Int} {ks : List Tm} {tk fk : Int} {pt pf : Option Addr} {nt ct nf cf : Nat} {p : Option Addr} {m c : Nat} {es : List (List Value)} {a n : Int}
  (hk : E8 k) (hnum : E8 num) (hlb : E8 lb) (hty : B9 G' ty [.int .i64 tk, .slice pt nt ct]) (hfr : B9 G' fr [.int .i64 fk, .slice pf nf cf]) (hm : m = ks.length) (hs : Sl G' p m c 9 es.flatten) (hr : D0 G' ks es) (ha : a = n) :
  A28 (.mk k nm num ty fr lb ks) n G' (.tuple ⟨[.agg ⟨[.int .i64 k, .string nm, .int .i64 num, .int .i64 tk, .slice pt nt ct, .int .i64 fk, .slice pf nf cf, .int .i64 lb, .slice p m c]⟩, .int .i64 a]⟩) [] := by
 subst hm ha
 refine ⟨rfl, _, rfl, ?_⟩
 simp only [B0]
 exact ⟨_, _, p, c, es, rfl, hk, hnum, hlb, hty, hfr, D5.of hs hr.len hr.all (fun e he => by obtain ⟨j, hj⟩ := List.getElem?_of_mem he; exact (hr.inv hj J5).2.one), hr⟩
theorem A6W {Q : Prop} (h : Q := by (exact ⟨Nat.zero_le _, C0.refl _, by simp [U6, D0]⟩)) : Q := h
theorem A6X {Q : Prop} (h : Q := by (dsimp only; exact ⟨by omega, hle.trans hle7, hsn⟩)) : Q := h
theorem B54 (L : List Ty) (p : Option Addr) (c : Nat) (hsmL : ∀ u ∈ L, u.small) : ∀ (t : Tm) (a : Nat) (G : IM) (cells : List Value) (el : List (List Value)), a + (O3 t).length ≤ L.length → L.length ≤ 4000000 → t.small → D3 t ≤ 4000000 → B0 G t cells → D5 G p L.length c 2 el → D2 G L el →
  Fn Tryz.prog 138 [.agg ⟨cells⟩, .slice p L.length c, .int .i64 (a : Int)] [] G (A28 (A0x t (L.drop a)) ((a + (O3 t).length : Nat) : Int)) := by
 refine Tm.ind fun k nm num ty fr lb ks ih a G cells el hlen hLb hts hcnt hr hse hel => ?_
 have hone := hr.one
 have hlen9 := hr.len
 simp only [Tm.small] at hts
 obtain ⟨_, hty', hfr', hsm, hks⟩ := hts
 have hcy : k = 5 ∨ k = 13 → O3 (.mk k nm num ty fr lb ks) = [ty] ++ K9 ks := fun h => by rw [O3, if_pos h]
 have hcn : ¬ (k = 5 ∨ k = 13) → O3 (.mk k nm num ty fr lb ks) = K9 ks := fun h => by rw [O3, if_neg h, List.nil_append]
 have hwy : k = 5 ∨ k = 13 → A0x (.mk k nm num ty fr lb ks) (L.drop a) = .mk k nm num ((L.drop a).getD 0 B7) fr lb (U6 ks (L.drop (a + 1))) := fun h => by rw [A0x, if_pos h, if_pos h, List.drop_drop]
 have hwn : ¬ (k = 5 ∨ k = 13) → A0x (.mk k nm num ty fr lb ks) (L.drop a) = .mk k nm num ty fr lb (U6 ks (L.drop a)) := fun h => by rw [A0x, if_neg h, if_neg h]
 rw [D3] at hcnt
 obtain ⟨tk, tks⟩ := ty
 obtain ⟨fk, fks⟩ := fr
 obtain ⟨pt, ct, pf, cf, q, cq, ek, rfl, hk, hnum, hlb, hty, hfr, hsl, hkl⟩ := hr.open9
 have hn := hsl.le
 have hkn := A5v ks
 have hT := O9 (.mk tk tks) G _ hty' hty
 refine C3 Tryz.func138 rfl Tryz.ntmps138 Tryz.results138 rfl ?_
 intro w0
 refine A3 ?_
 refine sE (C8 rfl rfl) rfl (fun b3 => ?_)
 refine sE (A6 rfl) rfl (fun b4 => ?_)
 refine A8 ?_
 refine sE (A6 rfl) rfl (fun b11 => ?_)
 refine B2 ?_
 (refine E7 rfl hT rfl rfl (fun v G1 hle1 hh => ?_); obtain ⟨cs1, F1, rfl, hs1, hn1⟩ := hh; have hr1 := hs1.R.mono (C5.le _ _); obtain ⟨p1, c1, rfl, _⟩ := hs1.open; have hF := O9 (.mk fk fks) G1 _ hfr' (hfr.mono hle1))
 refine D4 ?_
 (refine E7 rfl hF rfl rfl (fun v G2 hle2 hh => ?_); obtain ⟨cs2, F2, rfl, hs2, hn2⟩ := hh; have hr2 := hs2.R.mono (C5.le _ _); obtain ⟨p2, c2, rfl, _⟩ := hs2.open; have hle12 := hle1.trans hle2; replace hsl := hsl.mono hle12; replace hkl := hkl.mono hle12; replace hse := hse.mono hle12; replace hel := hel.mono hle12)
 refine I0 ?_
 refine sB (qE rfl rfl) rfl rfl (fun h44 => ?_) (fun h44 => ?_)
 refine N0 ?_
 (have hL1 := hcy (by omega); have h1 : a + (1 + (K9 ks).length) ≤ L.length := (by rw [hL1] at hlen; simp only [List.length_append, List.length_singleton] at hlen; omega); obtain ⟨b0, o0, p20, c20, rfl, hat0, hre0, hgb0⟩ := hse.kidTy hel (i := a) (by omega) (by omega); obtain ⟨T0, hT0⟩ : ∃ T, T = L[a]'(by omega) := ⟨_, rfl⟩; have hs0 := hsmL _ (List.getElem_mem (show a < L.length by omega)); rw [← hT0] at hre0 hat0 hs0; have hO := O9 T0 G2 _ hs0 hre0; refine sP (B4 rfl rfl rfl (by omega)) rfl rfl ?_)
 refine sL (A2 rfl rfl (hat0 _) rfl) rfl rfl ?_
 (refine E7 rfl hO rfl rfl (fun v G3 hle3 hh => ?_); obtain ⟨cs3, F3, rfl, hs3, hn3⟩ := hh; have hr3 := hs3.R.mono (C5.le _ _); obtain ⟨p3, c3, rfl, _⟩ := hs3.open)
 refine A8 ?_
 refine sP (J0 rfl rfl (by omega) (by omega)) rfl rfl ?_
 refine E0 ?_
 refine C1 ?_
 (have hL2 := hcy (by omega); have hW2 := hwy (by omega); refine S0 37 9 ?_; refine J8 (fun (x : Nat × Option Addr × Nat × List (List Value) × IM) => ⟨[(9, .int .i64 x.1), (2, .int .i64 ((a + 1 + (K9 (ks.take x.1)).length : Nat) : Int)), (1, .slice (some ⟨b0, o0, none⟩) L.length c), (3, .pointer (some ⟨b3, 0, none⟩)), (8, .pointer (some ⟨b11, 0, none⟩)), (6, .pointer (some ⟨b4, 0, none⟩))], [.blk b11 [.int .i64 k, .string nm, .int .i64 num, .int .i64 T0.k, .slice p3 T0.ks.length c3, .int .i64 fk, .slice p2 fks.length c2, .int .i64 lb, .slice x.2.1 x.1 x.2.2.1], .slc x.2.1 x.2.2.1 37 9 x.1 x.2.2.2.1.flatten, .blk b4 [.int .i64 0, .string ⟨⟨[]⟩⟩, .int .i64 0, .int .i64 0, .slice none 0 0, .int .i64 0, .slice none 0 0, .int .i64 0, .slice none 0 0], .blk b3 [.int .i64 k, .string nm, .int .i64 num, .int .i64 tk, .slice pt tks.length ct, .int .i64 fk, .slice pf fks.length cf, .int .i64 lb, .slice q ks.length cq]], x.2.2.2.2⟩) (fun x => x.1 ≤ ks.length ∧ C0 G3 x.2.2.2.2 ∧ D0 x.2.2.2.2 (U6 (ks.take x.1) (L.drop (a + 1))) x.2.2.2.1) (fun x => ks.length - x.1) (0, none, 0, [], G3) ?_ ?_ ?_)
 (simp only [I5]; exact E2)
 exact A6W
 (rintro ⟨(i : Nat), pn, cn, es, Gi⟩ ⟨hi, hle, hst⟩; simp only [] at hi hle hst ⊢)
 refine B2 ?_
 refine sB (J1 rfl rfl) rfl rfl (fun h88 => ?_) (fun h88 => ?_)
 refine A8 ?_
 refine C1 ?_
 refine B6 ?_
 refine sE (A6 rfl) rfl (fun b99 => ?_)
 refine D4 ?_
 (obtain ⟨b, o, e, rfl, hl, hat, hre, hgb⟩ := (hsl.mono (by first | exact hle | exact hle3.trans hle)).kidTm (hkl.mono (by first | exact hle | exact hle3.trans hle)) (i := i) (by omega) (by omega); have hone9 := hre.one; have hsc := A0S (ks := ks) (i := i) (by omega); have hsk := A0R (ks := ks) (i := i) (by omega); have hts1 := A6T (ks := ks) (i := i) (by omega); have e9 : (K9 (ks.take (i + 1))).length = (K9 (ks.take i)).length + (O3 ks[i]).length := (by rw [A27 (by omega), List.length_append]); refine sP (B4 rfl rfl rfl (by omega)) rfl rfl ?_)
 refine sL (A2 rfl rfl (hat _) hl) rfl rfl ?_
 refine A3 ?_
 (have hih := ih ks[i] (List.getElem_mem (by omega)) _ Gi e el (by rw [hL2] at hlen; (try simp only [List.length_append, List.length_singleton] at hlen); first | exact (show a + 1 + (K9 (ks.take i)).length + (O3 ks[i]).length ≤ L.length by omega) | exact (show a + (K9 (ks.take i)).length + (O3 ks[i]).length ≤ L.length by omega)) hLb (Tm.smallL_mem hks _ (List.getElem_mem (by omega))) (by omega) hre (hse.mono (by first | exact hle | exact hle3.trans hle)) (hel.mono (by first | exact hle | exact hle3.trans hle)); refine A05 rfl hih rfl rfl (fun v G7 outs hle7 hh => ?_); obtain ⟨rfl, cu, rfl, hru⟩ := hh; rw [← List.drop_drop] at hru; have hsn := D0.snoc (hst.mono hle7) hru; obtain ⟨u1, u2, u3, u4, u5, u6, u7, u8, u9, rfl⟩ : ∃ u1 u2 u3 u4 u5 u6 u7 u8 u9, cu = [u1, u2, u3, u4, u5, u6, u7, u8, u9] := (by obtain ⟨_, _, _, _, _, _, _, _, _, rfl, _⟩ := hru.open; exact ⟨_, _, _, _, _, _, _, _, _, rfl⟩); have huo := hru.one)
 refine B6 ?_
 refine sS rfl rfl rfl rfl huo rfl ?_
 refine B2 ?_
 (refine I7 (C7 rfl rfl rfl (by omega) (by unfold maxLen; omega) rfl) rfl ?_; rintro _ ⟨b124, rfl⟩)
 (refine A0z rfl rfl rfl rfl rfl (fun _ _ => by repeat (first | exact Sw.here | apply Sw.there)) (M6 (by repeat first | exact mH | apply mT)) rfl (fun u hu => List.all_eq_true.1 huo u hu) (by unfold maxLen; omega) (by omega) rfl (fun p4 c4 => ?_))
 refine B2 ?_
 refine sP (J0 rfl rfl (by omega) (by omega)) rfl rfl ?_
 refine A3 ?_
 (rw [← A6S (by omega)] at hsn; refine J6 (i + 1, p4, c4, es ++ [[u1, u2, u3, u4, u5, u6, u7, u8, u9]], G7) (by simp only [List.flatten_append, List.flatten_cons, List.flatten_nil, List.append_nil, e9, ← Nat.add_assoc]; exact (L3 (by repeat (first | exact E1.nil | refine E1.cons rfl ?_)) (by repeat (first | exact A0.refl | exact A0.nil | refine A0.cons (by repeat (first | exact Pk.here | apply Pk.there)) ?_ | apply A0.drop)))) ?_ ?_)
 exact A6X
 exact U8
 refine J9 ?_
 (refine F9 (cs := es.flatten) (by repeat (first | exact Pk.here | apply Pk.there)) (fun G9 hle9 hsl9 hno9 => ?_); obtain rfl : i = ks.length := (by omega); rw [List.take_length] at hst)
 refine tT ?_
 refine I1 (rC rfl (A4 rfl rfl)) (rT rfl) ?_
 (rw [hW2, hL2]; exact A28.mk hk hnum hlb (by first | (rw [List.getD_eq_getElem?_getD, List.getElem?_drop, Nat.add_zero, List.getElem?_eq_getElem (by omega), Option.getD_some, ← hT0]; exact hr3.mono (hle.trans hle9)) | exact hr1.mono (hle2.trans (hle.trans hle9))) (by first | exact hr2.mono (hle3.trans (hle.trans hle9)) | exact hr2.mono (hle.trans hle9)) (by rw [A32]) hsl9 (hst.mono hle9) (by (simp only [List.take_length, List.length_append, List.length_singleton]) <;> omega))
 refine B6 ?_
 refine sB (qE rfl rfl) rfl rfl (fun h162 => ?_) (fun h162 => ?_)
 refine D4 ?_
 (have hL1 := hcy (by omega); have h1 : a + (1 + (K9 ks).length) ≤ L.length := (by rw [hL1] at hlen; simp only [List.length_append, List.length_singleton] at hlen; omega); obtain ⟨b0, o0, p20, c20, rfl, hat0, hre0, hgb0⟩ := hse.kidTy hel (i := a) (by omega) (by omega); obtain ⟨T0, hT0⟩ : ∃ T, T = L[a]'(by omega) := ⟨_, rfl⟩; have hs0 := hsmL _ (List.getElem_mem (show a < L.length by omega)); rw [← hT0] at hre0 hat0 hs0; have hO := O9 T0 G2 _ hs0 hre0; refine sP (B4 rfl rfl rfl (by omega)) rfl rfl ?_)
 refine sL (A2 rfl rfl (hat0 _) rfl) rfl rfl ?_
 (refine E7 rfl hO rfl rfl (fun v G3 hle3 hh => ?_); obtain ⟨cs3, F3, rfl, hs3, hn3⟩ := hh; have hr3 := hs3.R.mono (C5.le _ _); obtain ⟨p3, c3, rfl, _⟩ := hs3.open)
 refine A8 ?_
 refine sP (J0 rfl rfl (by omega) (by omega)) rfl rfl ?_
 refine E0 ?_
 refine C1 ?_
 (have hL2 := hcy (by omega); have hW2 := hwy (by omega); refine S0 37 9 ?_; refine J8 (fun (x : Nat × Option Addr × Nat × List (List Value) × IM) => ⟨[(9, .int .i64 x.1), (2, .int .i64 ((a + 1 + (K9 (ks.take x.1)).length : Nat) : Int)), (1, .slice (some ⟨b0, o0, none⟩) L.length c), (3, .pointer (some ⟨b3, 0, none⟩)), (8, .pointer (some ⟨b11, 0, none⟩)), (6, .pointer (some ⟨b4, 0, none⟩))], [.blk b11 [.int .i64 k, .string nm, .int .i64 num, .int .i64 T0.k, .slice p3 T0.ks.length c3, .int .i64 fk, .slice p2 fks.length c2, .int .i64 lb, .slice x.2.1 x.1 x.2.2.1], .slc x.2.1 x.2.2.1 37 9 x.1 x.2.2.2.1.flatten, .blk b4 [.int .i64 0, .string ⟨⟨[]⟩⟩, .int .i64 0, .int .i64 0, .slice none 0 0, .int .i64 0, .slice none 0 0, .int .i64 0, .slice none 0 0], .blk b3 [.int .i64 k, .string nm, .int .i64 num, .int .i64 tk, .slice pt tks.length ct, .int .i64 fk, .slice pf fks.length cf, .int .i64 lb, .slice q ks.length cq]], x.2.2.2.2⟩) (fun x => x.1 ≤ ks.length ∧ C0 G3 x.2.2.2.2 ∧ D0 x.2.2.2.2 (U6 (ks.take x.1) (L.drop (a + 1))) x.2.2.2.1) (fun x => ks.length - x.1) (0, none, 0, [], G3) ?_ ?_ ?_)
 (simp only [I5]; exact E2)
 exact A6W
 (rintro ⟨(i : Nat), pn, cn, es, Gi⟩ ⟨hi, hle, hst⟩; simp only [] at hi hle hst ⊢)
 refine B2 ?_
 refine sB (J1 rfl rfl) rfl rfl (fun h202 => ?_) (fun h202 => ?_)
 refine A8 ?_
 refine C1 ?_
 refine B6 ?_
 refine sE (A6 rfl) rfl (fun b213 => ?_)
 refine D4 ?_
 (obtain ⟨b, o, e, rfl, hl, hat, hre, hgb⟩ := (hsl.mono (by first | exact hle | exact hle3.trans hle)).kidTm (hkl.mono (by first | exact hle | exact hle3.trans hle)) (i := i) (by omega) (by omega); have hone9 := hre.one; have hsc := A0S (ks := ks) (i := i) (by omega); have hsk := A0R (ks := ks) (i := i) (by omega); have hts1 := A6T (ks := ks) (i := i) (by omega); have e9 : (K9 (ks.take (i + 1))).length = (K9 (ks.take i)).length + (O3 ks[i]).length := (by rw [A27 (by omega), List.length_append]); refine sP (B4 rfl rfl rfl (by omega)) rfl rfl ?_)
 refine sL (A2 rfl rfl (hat _) hl) rfl rfl ?_
 refine A3 ?_
 (have hih := ih ks[i] (List.getElem_mem (by omega)) _ Gi e el (by rw [hL2] at hlen; (try simp only [List.length_append, List.length_singleton] at hlen); first | exact (show a + 1 + (K9 (ks.take i)).length + (O3 ks[i]).length ≤ L.length by omega) | exact (show a + (K9 (ks.take i)).length + (O3 ks[i]).length ≤ L.length by omega)) hLb (Tm.smallL_mem hks _ (List.getElem_mem (by omega))) (by omega) hre (hse.mono (by first | exact hle | exact hle3.trans hle)) (hel.mono (by first | exact hle | exact hle3.trans hle)); refine A05 rfl hih rfl rfl (fun v G7 outs hle7 hh => ?_); obtain ⟨rfl, cu, rfl, hru⟩ := hh; rw [← List.drop_drop] at hru; have hsn := D0.snoc (hst.mono hle7) hru; obtain ⟨u1, u2, u3, u4, u5, u6, u7, u8, u9, rfl⟩ : ∃ u1 u2 u3 u4 u5 u6 u7 u8 u9, cu = [u1, u2, u3, u4, u5, u6, u7, u8, u9] := (by obtain ⟨_, _, _, _, _, _, _, _, _, rfl, _⟩ := hru.open; exact ⟨_, _, _, _, _, _, _, _, _, rfl⟩); have huo := hru.one)
 refine B6 ?_
 refine sS rfl rfl rfl rfl huo rfl ?_
 refine B2 ?_
 (refine I7 (C7 rfl rfl rfl (by omega) (by unfold maxLen; omega) rfl) rfl ?_; rintro _ ⟨b238, rfl⟩)
 (refine A0z rfl rfl rfl rfl rfl (fun _ _ => by repeat (first | exact Sw.here | apply Sw.there)) (M6 (by repeat first | exact mH | apply mT)) rfl (fun u hu => List.all_eq_true.1 huo u hu) (by unfold maxLen; omega) (by omega) rfl (fun p4 c4 => ?_))
 refine B2 ?_
 refine sP (J0 rfl rfl (by omega) (by omega)) rfl rfl ?_
 refine A3 ?_
 (rw [← A6S (by omega)] at hsn; refine J6 (i + 1, p4, c4, es ++ [[u1, u2, u3, u4, u5, u6, u7, u8, u9]], G7) (by simp only [List.flatten_append, List.flatten_cons, List.flatten_nil, List.append_nil, e9, ← Nat.add_assoc]; exact (L3 (by repeat (first | exact E1.nil | refine E1.cons rfl ?_)) (by repeat (first | exact A0.refl | exact A0.nil | refine A0.cons (by repeat (first | exact Pk.here | apply Pk.there)) ?_ | apply A0.drop)))) ?_ ?_)
 exact A6X
 exact U8
 refine J9 ?_
 (refine F9 (cs := es.flatten) (by repeat (first | exact Pk.here | apply Pk.there)) (fun G9 hle9 hsl9 hno9 => ?_); obtain rfl : i = ks.length := (by omega); rw [List.take_length] at hst)
 refine tT ?_
 refine I1 (rC rfl (A4 rfl rfl)) (rT rfl) ?_
 (rw [hW2, hL2]; exact A28.mk hk hnum hlb (by first | (rw [List.getD_eq_getElem?_getD, List.getElem?_drop, Nat.add_zero, List.getElem?_eq_getElem (by omega), Option.getD_some, ← hT0]; exact hr3.mono (hle.trans hle9)) | exact hr1.mono (hle2.trans (hle.trans hle9))) (by first | exact hr2.mono (hle3.trans (hle.trans hle9)) | exact hr2.mono (hle.trans hle9)) (by rw [A32]) hsl9 (hst.mono hle9) (by (simp only [List.take_length, List.length_append, List.length_singleton]) <;> omega))
 refine N0 ?_
 refine C1 ?_
 (have hL2 := hcn (by omega); have hW2 := hwn (by omega); refine S0 37 9 ?_; refine J8 (fun (x : Nat × Option Addr × Nat × List (List Value) × IM) => ⟨[(9, .int .i64 x.1), (2, .int .i64 ((a + (K9 (ks.take x.1)).length : Nat) : Int)), (1, .slice p L.length c), (3, .pointer (some ⟨b3, 0, none⟩)), (8, .pointer (some ⟨b11, 0, none⟩)), (6, .pointer (some ⟨b4, 0, none⟩))], [.blk b11 [.int .i64 k, .string nm, .int .i64 num, .int .i64 tk, .slice p1 tks.length c1, .int .i64 fk, .slice p2 fks.length c2, .int .i64 lb, .slice x.2.1 x.1 x.2.2.1], .slc x.2.1 x.2.2.1 37 9 x.1 x.2.2.2.1.flatten, .blk b4 [.int .i64 0, .string ⟨⟨[]⟩⟩, .int .i64 0, .int .i64 0, .slice none 0 0, .int .i64 0, .slice none 0 0, .int .i64 0, .slice none 0 0], .blk b3 [.int .i64 k, .string nm, .int .i64 num, .int .i64 tk, .slice pt tks.length ct, .int .i64 fk, .slice pf fks.length cf, .int .i64 lb, .slice q ks.length cq]], x.2.2.2.2⟩) (fun x => x.1 ≤ ks.length ∧ C0 G2 x.2.2.2.2 ∧ D0 x.2.2.2.2 (U6 (ks.take x.1) (L.drop a)) x.2.2.2.1) (fun x => ks.length - x.1) (0, none, 0, [], G2) ?_ ?_ ?_)
 (simp only [I5]; exact E2)
 exact A6W
 (rintro ⟨(i : Nat), pn, cn, es, Gi⟩ ⟨hi, hle, hst⟩; simp only [] at hi hle hst ⊢)
 refine B2 ?_
 refine sB (J1 rfl rfl) rfl rfl (fun h297 => ?_) (fun h297 => ?_)
 refine A8 ?_
 refine C1 ?_
 refine B6 ?_
 refine sE (A6 rfl) rfl (fun b308 => ?_)
 refine D4 ?_
 (obtain ⟨b, o, e, rfl, hl, hat, hre, hgb⟩ := (hsl.mono (by first | exact hle | exact hle3.trans hle)).kidTm (hkl.mono (by first | exact hle | exact hle3.trans hle)) (i := i) (by omega) (by omega); have hone9 := hre.one; have hsc := A0S (ks := ks) (i := i) (by omega); have hsk := A0R (ks := ks) (i := i) (by omega); have hts1 := A6T (ks := ks) (i := i) (by omega); have e9 : (K9 (ks.take (i + 1))).length = (K9 (ks.take i)).length + (O3 ks[i]).length := (by rw [A27 (by omega), List.length_append]); refine sP (B4 rfl rfl rfl (by omega)) rfl rfl ?_)
 refine sL (A2 rfl rfl (hat _) hl) rfl rfl ?_
 refine A3 ?_
 (have hih := ih ks[i] (List.getElem_mem (by omega)) _ Gi e el (by rw [hL2] at hlen; (try simp only [List.length_append, List.length_singleton] at hlen); first | exact (show a + 1 + (K9 (ks.take i)).length + (O3 ks[i]).length ≤ L.length by omega) | exact (show a + (K9 (ks.take i)).length + (O3 ks[i]).length ≤ L.length by omega)) hLb (Tm.smallL_mem hks _ (List.getElem_mem (by omega))) (by omega) hre (hse.mono (by first | exact hle | exact hle3.trans hle)) (hel.mono (by first | exact hle | exact hle3.trans hle)); refine A05 rfl hih rfl rfl (fun v G7 outs hle7 hh => ?_); obtain ⟨rfl, cu, rfl, hru⟩ := hh; rw [← List.drop_drop] at hru; have hsn := D0.snoc (hst.mono hle7) hru; obtain ⟨u1, u2, u3, u4, u5, u6, u7, u8, u9, rfl⟩ : ∃ u1 u2 u3 u4 u5 u6 u7 u8 u9, cu = [u1, u2, u3, u4, u5, u6, u7, u8, u9] := (by obtain ⟨_, _, _, _, _, _, _, _, _, rfl, _⟩ := hru.open; exact ⟨_, _, _, _, _, _, _, _, _, rfl⟩); have huo := hru.one)
 refine B6 ?_
 refine sS rfl rfl rfl rfl huo rfl ?_
 refine B2 ?_
 (refine I7 (C7 rfl rfl rfl (by omega) (by unfold maxLen; omega) rfl) rfl ?_; rintro _ ⟨b333, rfl⟩)
 (refine A0z rfl rfl rfl rfl rfl (fun _ _ => by repeat (first | exact Sw.here | apply Sw.there)) (M6 (by repeat first | exact mH | apply mT)) rfl (fun u hu => List.all_eq_true.1 huo u hu) (by unfold maxLen; omega) (by omega) rfl (fun p4 c4 => ?_))
 refine B2 ?_
 refine sP (J0 rfl rfl (by omega) (by omega)) rfl rfl ?_
 refine A3 ?_
 (rw [← A6S (by omega)] at hsn; refine J6 (i + 1, p4, c4, es ++ [[u1, u2, u3, u4, u5, u6, u7, u8, u9]], G7) (by simp only [List.flatten_append, List.flatten_cons, List.flatten_nil, List.append_nil, e9, ← Nat.add_assoc]; exact (L3 (by repeat (first | exact E1.nil | refine E1.cons rfl ?_)) (by repeat (first | exact A0.refl | exact A0.nil | refine A0.cons (by repeat (first | exact Pk.here | apply Pk.there)) ?_ | apply A0.drop)))) ?_ ?_)
 exact A6X
 exact U8
 refine J9 ?_
 (refine F9 (cs := es.flatten) (by repeat (first | exact Pk.here | apply Pk.there)) (fun G9 hle9 hsl9 hno9 => ?_); obtain rfl : i = ks.length := (by omega); rw [List.take_length] at hst)
 refine tT ?_
 refine I1 (rC rfl (A4 rfl rfl)) (rT rfl) ?_
 (rw [hW2, hL2]; exact A28.mk hk hnum hlb (by first | (rw [List.getD_eq_getElem?_getD, List.getElem?_drop, Nat.add_zero, List.getElem?_eq_getElem (by omega), Option.getD_some, ← hT0]; exact hr3.mono (hle.trans hle9)) | exact hr1.mono (hle2.trans (hle.trans hle9))) (by first | exact hr2.mono (hle3.trans (hle.trans hle9)) | exact hr2.mono (hle.trans hle9)) (by rw [A32]) hsl9 (hst.mono hle9) (by (simp only [List.take_length, List.length_append, List.length_singleton]) <;> omega))
def A1j (t : Tm) (L : List Ty) : Option Tm := if S1 t = true ∧ (A0f t).length = L.length ∧ ∀ u ∈ L, E9 u = true then some (A0x t L) else none
theorem B55 {t : Tm} {L : List Ty} (h : S1 t = true) (hl : (A0f t).length = L.length) (ha : ∀ j, j < L.length → (h : j < L.length) → E9 L[j] = true) : A1j t L = some (A0x t L) := by
 unfold A1j
 rw [if_pos ⟨h, hl, fun u hu => by obtain ⟨i, hi, rfl⟩ := List.mem_iff_getElem.1 hu; exact ha i hi hi⟩]
theorem B56 {t : Tm} {L : List Ty} (h : ¬(S1 t = true ∧ (A0f t).length = L.length ∧ ∀ u ∈ L, E9 u = true)) : A1j t L = none := by
 unfold A1j; rw [if_neg h]
def TmB (o : Option Tm) : IM → Value → List A5 → Prop := L8 fun G' v => ∃ cu, v = .tuple ⟨[.agg ⟨cu⟩, .bool o.isSome]⟩ ∧ B0 G' (o.getD J5) cu
theorem B57 {t : Tm} (h : S1 t = true) : A0f t = O3 t := by unfold A0f; rw [if_pos h]
theorem A6Y {Q : Prop} (h : Q := by (rw [hno (fun hc => by first | omega | exact Bool.noConfusion (hc.1.symm.trans (show S1 t = false by assumption)) | exact Bool.noConfusion ((hc.2.2 _ (List.getElem_mem (show i < L.length by omega))).symm.trans (by assumption)))]; exact ⟨rfl, _, rfl, (P8.zero _).R⟩)) : Q := h
theorem B58 (t : Tm) (L : List Ty) (G : IM) (cells : List Value) (p : Option Addr) (c : Nat) (es : List (List Value)) (hts : t.small) (hcnt : D3 t ≤ 4000000) (hLb : L.length ≤ 4000000) (hsm : ∀ u ∈ L, u.small) (hr : B0 G t cells) (hse : D5 G p L.length c 2 es) (hel : D2 G L es) :
  Fn Tryz.prog 95 [.agg ⟨cells⟩, .slice p L.length c] [] G (TmB (A1j t L)) := by
 have hl := hr.len
 have hone := hr.one
 have hyes := @B55 t L
 have hno := @B56 t L
 have htv := @B57 t
 have hT := B0J t G cells hts hcnt hr
 generalize A1j t L = R at hyes hno ⊢
 obtain ⟨TT, hTT⟩ : ∃ TT, A0f t = TT := ⟨_, rfl⟩
 rw [hTT] at hyes hno htv hT
 refine C3 Tryz.func95 rfl Tryz.ntmps95 Tryz.results95 rfl ?_
 intro w0
 refine A3 ?_
 refine sE (C8 rfl rfl) rfl (fun b3 => ?_)
 refine sE (A6 rfl) rfl (fun b4 => ?_)
 refine A8 ?_
 refine sL (A2 rfl rfl (B3 (by repeat first | exact mH | apply mT)) hl) rfl rfl ?_
 (refine A05 rfl hT rfl rfl (fun v G1 outs hle1 hh => ?_); obtain ⟨p1, c1, e1, rfl, rfl, hr1⟩ := hh; replace hr := hr.mono hle1; replace hse := hse.mono hle1; replace hel := hel.mono hle1; have hv := A4x t G1 cells (by omega) hr)
 refine B6 ?_
 refine sB (N9 rfl rfl) rfl rfl (fun h16 => ?_) (fun h16 => ?_)
 refine T1 ?_
 refine I1 (rC rfl (A4 rfl rfl)) (rT rfl) ?_
 exact A6Y
 refine E6 ?_
 refine sL (A2 rfl rfl (B3 (by repeat first | exact mH | apply mT)) hl) rfl rfl ?_
 refine F8 rfl (hv) rfl rfl (fun h38 => ?_) (fun h38 => ?_)
 refine K5 ?_
 refine C1 ?_
 (refine J8 (fun (x : Nat) => ⟨[(6, .int .i64 x), (1, .slice p L.length c), (2, .pointer (some ⟨b3, 0, none⟩)), (4, .pointer (some ⟨b4, 0, none⟩))], [.blk b4 [.int .i64 0, .string ⟨⟨[]⟩⟩, .int .i64 0, .int .i64 0, .slice none 0 0, .int .i64 0, .slice none 0 0, .int .i64 0, .slice none 0 0], .blk b3 cells], G1⟩) (fun x => x ≤ L.length ∧ ∀ j, j < x → (h : j < L.length) → E9 L[j] = true) (fun x => L.length - x) 0 ?_ ?_ ?_)
 exact E2
 (exact ⟨Nat.zero_le _, fun j hj => absurd hj (by omega)⟩)
 (rintro (i : Nat) ⟨hi, hval⟩)
 refine A8 ?_
 refine sB (J1 rfl rfl) rfl rfl (fun h63 => ?_) (fun h63 => ?_)
 refine A8 ?_
 refine C1 ?_
 refine B1 ?_
 (obtain ⟨b0, o0, p20, c20, rfl, hat0, hre0, hgb0⟩ := hse.kidTy hel (i := i) (by omega) (by omega); have hV := A1x _ G1 _ hre0; refine sP (B4 rfl rfl rfl (by omega)) rfl rfl ?_)
 refine sL (A2 rfl rfl (hat0 _) rfl) rfl rfl ?_
 refine F8 rfl (hV) rfl rfl (fun h77 => ?_) (fun h77 => ?_)
 refine E0 ?_
 refine sP (J0 rfl rfl (by omega) (by omega)) rfl rfl ?_
 refine A3 ?_
 refine J6 (i + 1) ?_ ?_ ?_
 exact E2
 (exact ⟨by omega, fun j hj hl => by rcases Nat.lt_succ_iff_lt_or_eq.1 hj with h | h; exact hval j h hl; subst h; assumption⟩)
 (show L.length - (i + 1) < L.length - i; omega)
 refine T1 ?_
 refine I1 (rC rfl (A4 rfl rfl)) (rT rfl) ?_
 exact A6Y
 refine J2 ?_
 refine sL (A2 rfl rfl (B3 (by repeat first | exact mH | apply mT)) hl) rfl rfl ?_
 refine E6 ?_
 (have hTv := htv (by assumption); refine A05 rfl (B54 L p c hsm t 0 G1 cells es (by rw [← hTv]; omega) hLb hts hcnt hr hse hel) rfl rfl (fun v G3 outs hle3 hh => ?_); obtain ⟨rfl, cu, rfl, hru⟩ := hh; rw [List.drop_zero] at hru; have hul := hru.len; have huo := hru.one)
 refine B6 ?_
 refine sE (A6 rfl) rfl (fun b129 => ?_)
 refine sS rfl rfl rfl hul huo rfl ?_ (hu := by exact D6 hul.symm)
 refine A9 ?_
 refine sL (A2 rfl rfl (B3 (by repeat first | exact mH | apply mT)) hul) rfl rfl ?_
 refine sS rfl rfl rfl hul huo rfl ?_ (hu := by exact D6 hul.symm)
 refine B1 ?_
 refine I1 (rC rfl (A2 rfl rfl (B3 (by repeat first | exact mH | apply mT)) hul)) (rT rfl) ?_
 (rw [hyes (by assumption) (by omega) (fun j hj => hval j (by omega))]; exact ⟨rfl, _, rfl, hru⟩)
 refine J3 ?_
 refine I1 (rC rfl (A4 rfl rfl)) (rT rfl) ?_
 exact A6Y
theorem B59 {e : Tm} (h : (A0d e).isSome = true) : S1 e = true := by
 unfold A0d R7 at h
 split at h
 ·rename_i u t hx
  split at hx
  ·assumption
  ·cases hx
 ·cases h
mutual
theorem B0K : ∀ (t : Tm) (d : Int), N7 12 14 t d = true → t.small
 | .mk k nm num ty fr lb ks, d, h => by
  obtain ⟨_, h2, h3, h4⟩ := A0D h
  obtain ⟨n1, n2, n3, n4, n5, n6, n7, n8, n9⟩ := U3.1 h3
  rw [Tm.small]
  refine ⟨by have := A8H h3; omega, (A2R h3).1.small, by rw [A2N (n9 h2).1]; exact A2i, ?_, B0L ks _ h4⟩
  have := A1a k; omega
theorem B0L : ∀ (ts : List Tm) (d : Int), N8 12 14 ts d = true → Tm.smallL ts
 | [], _, _ => by rw [Tm.smallL]; trivial
 | t :: ts, d, h => by
  rw [N8, Bool.and_eq_true] at h
  rw [Tm.smallL]
  exact ⟨B0K t d h.1, B0L ts d h.2⟩
end
theorem B6a {e : Tm} (h : S1 e = true) : e.fit 30 := by
 obtain ⟨h1, h2⟩ := (A1z e).1 h
 exact ⟨B0K e 1 h1, h2⟩
theorem Tm.fit.le {e : Tm} {n m : Nat} (h : e.fit n) (hm : n ≤ m) : e.fit m := ⟨h.1, Nat.le_trans h.2 hm⟩
mutual
theorem B0M : ∀ (t : Tm) (d : Int), N7 12 14 t d = true → ∀ u ∈ O3 t, E9 u = true
 | .mk k nm num ty fr lb ks, d, h => by
  obtain ⟨_, h2, h3, h4⟩ := A0D h
  obtain ⟨n1, n2, n3, n4, n5, n6, n7, n8, n9⟩ := U3.1 h3
  intro u hu
  rw [O3, List.mem_append] at hu
  rcases hu with hu | hu
  ·split at hu
   ·rename_i hk
    obtain rfl := List.mem_singleton.1 hu
    exact n6 (by omega)
   ·simp at hu
  ·exact B0N ks _ h4 u hu
theorem B0N : ∀ (ts : List Tm) (d : Int), N8 12 14 ts d = true → ∀ u ∈ K9 ts, E9 u = true
 | [], _, _ => by simp [K9]
 | t :: ts, d, h => by
  rw [N8, Bool.and_eq_true] at h
  intro u hu
  rw [K9, List.mem_append] at hu
  rcases hu with hu | hu
  ·exact B0M t d h.1 u hu
  ·exact B0N ts d h.2 u hu
end
theorem B6b (e : Tm) : (A0f e).length ≤ 30 ∧ ∀ u ∈ A0f e, E9 u = true := by
 unfold A0f
 split
 ·rename_i h
  obtain ⟨h1, h2⟩ := (A1z e).1 h
  exact ⟨by have := B0B e; omega, B0M e 1 h1⟩
 ·simp
mutual
theorem B0O : ∀ (t : Tm) (l : List Ty), t.small → (∀ u ∈ l, u.small) → (A0x t l).small ∧ D3 (A0x t l) = D3 t
 | .mk k nm num ty fr lb ks, l, h, hl => by
  obtain ⟨h1, h2, h3, h4, h5⟩ := A0a.1 h
  rw [A0x]
  have hd : ∀ u ∈ (if k = 5 ∨ k = 13 then l.drop 1 else l), u.small := by
   intro u hu
   split at hu
   ·exact hl u (List.mem_of_mem_drop hu)
   ·exact hl u hu
  obtain ⟨g1, g2⟩ := B0P ks _ h5 hd
  refine ⟨A0a.2 ⟨h1, ?_, h3, by rw [A32]; exact h4, g1⟩, by rw [W9, W9, g2]⟩
  split
  ·rw [List.getD_eq_getElem?_getD]
   cases hx : l[0]? with
   | none => exact A2i
   | some t => exact hl t (List.mem_of_getElem? hx)
  ·exact h2
theorem B0P : ∀ (ts : List Tm) (l : List Ty), Tm.smallL ts → (∀ u ∈ l, u.small) → Tm.smallL (U6 ts l) ∧ E4 (U6 ts l) = E4 ts
 | [], l, _, _ => by simp [U6, Tm.smallL, E4]
 | t :: ts, l, h, hl => by
  simp only [Tm.smallL] at h
  obtain ⟨a1, a2⟩ := B0O t l h.1 hl
  obtain ⟨b1, b2⟩ := B0P ts (l.drop (O3 t).length) h.2 (fun u hu => hl u (List.mem_of_mem_drop hu))
  simp only [U6, Tm.smallL, E4, a2, b2]
  exact ⟨⟨a1, b1⟩, trivial⟩
end
theorem B6c {t : Tm} {l : List Ty} {N : Nat} (h : t.fit N) (hl : ∀ u ∈ l, u.small) : ((A1j t l).getD J5).fit N := by
 unfold A1j
 split
 ·obtain ⟨h1, h2⟩ := B0O t l h.1 hl
  exact ⟨h1, by rw [Option.getD_some, h2]; exact h.2⟩
 ·refine ⟨A3G, ?_⟩
  have h2 := h.2
  have : 1 ≤ D3 t := by cases t; rw [W9]; omega
  show D3 J5 ≤ N
  rw [A8R]; omega
theorem B6d {es : List (List Value)} {i sz : Nat} (hi : i < es.length) (ha : ∀ e ∈ es, e.length = sz) : ∀ j v, es[i][j]? = some v → es.flatten[0 + i * sz + j]? = some v := by
 intro j v hj
 have h1 : es.flatten = (es.take i).flatten ++ (es[i] ++ (es.drop (i + 1)).flatten) := by
  conv => lhs; rw [← List.take_append_drop i es, List.drop_eq_getElem_cons hi]
  rw [List.flatten_append, List.flatten_cons]
 have hA : ((es.take i).flatten).length = 0 + i * sz := by rw [A0A (fun e he => ha e (List.mem_of_mem_take he)), List.length_take, Nat.min_eq_left (by omega)]; omega
 have hjl : j < es[i].length := by
  apply Classical.byContradiction
  intro hn
  rw [List.getElem?_eq_none (by omega)] at hj
  cases hj
 rw [h1, List.getElem?_append_right (by omega), hA, show 0 + i * sz + j - (0 + i * sz) = j by omega, List.getElem?_append_left hjl, hj]
theorem B0Q (br : Nat) (pb : Option Addr) (nb cb : Nat) (bs : List UInt8) (hnb : nb ≤ 2000) (p : Nat) (G : IM) (hb : Sl G pb nb cb 1 (N6 bs)) (hp : p < 1099511627776) :
  Fn Tryz.prog 85 [.pointer (some ⟨br, 0, none⟩)] [rd br pb nb cb p] G
   (Z8 br pb nb cb p 1 (fun _ v => ∃ k, v = .int .i64 k ∧ E8 k)) := by
 refine C3 Tryz.func85 rfl Tryz.ntmps85 Tryz.results85 rfl ?_
 intro w0
 refine D4 ?_
 (refine I7 (C7 rfl rfl rfl (by omega) (by unfold maxLen; omega) rfl) rfl ?_; rintro _ ⟨b9, rfl⟩)
 (refine S9 (by repeat (first | exact Pk.here | apply Pk.there)) (fun Gf hlef hslf _ => ?_); refine I8 rfl (Y8 Gf br pb nb cb p bs _ _ _ _ (hb.mono hlef) hnb (by omega) hslf (by decide)) (Pk.perm (by repeat (first | exact Pk.here | apply Pk.there))) rfl rfl (fun v Gm outs hlen hh => ?_); obtain ⟨rfl, rfl, hv⟩ := hh; obtain ⟨kn, rfl, hkn⟩ : ∃ k, v = .int .i64 k ∧ E8 k := (by simp only [List.mem_cons, List.not_mem_nil, or_false] at hv; rcases hv with rfl | rfl | rfl | rfl | rfl | rfl | rfl | rfl <;> exact ⟨_, rfl, by unfold E8; omega⟩))
 refine B1 ?_
 refine H2 (outs := [rd br pb nb cb (p + 1)]) (rT rfl) (by repeat (first | exact A0.nil | refine A0.cons Pk.here ?_ | refine A0.cons (Pk.there Pk.here) ?_ | refine A0.cons (Pk.there (Pk.there Pk.here)) ?_ | apply A0.drop)) ?_
 (exact ⟨p + 1, by omega, by omega, rfl, kn, rfl, hkn⟩)
theorem B6e (br : Nat) (pb : Option Addr) (nb cb : Nat) (bs : List UInt8) (hnb : nb ≤ 2000) (p : Nat) (G : IM) (hb : Sl G pb nb cb 1 (N6 bs)) (hp : p + 9000000 < 1099511627776) :
  Fn Tryz.prog 82 [.pointer (some ⟨br, 0, none⟩)] [rd br pb nb cb p] G
   (Z8 br pb nb cb p 9000000 (fun G' v => ∃ e cells, v = .agg ⟨cells⟩ ∧ B0 G' e cells ∧ e.fit 1100)) := by
 have hm8 : mB 8 = 1968200 := by decide
 refine C3 Tryz.func82 rfl Tryz.ntmps82 Tryz.results82 rfl ?_
 intro w0
 refine A3 ?_
 refine sE (A6 rfl) rfl (fun b3 => ?_)
 refine D4 ?_
 refine C1 ?_
 (refine J8 (fun (x : Nat × Nat × IM) => ⟨[(3, .int .i64 x.1), (0, .pointer (some ⟨br, 0, none⟩)), (2, .pointer (some ⟨b3, 0, none⟩))], [rd br pb nb cb x.2.1, .blk b3 [.int .i64 0, .string ⟨⟨[]⟩⟩, .int .i64 0, .int .i64 0, .slice none 0 0, .int .i64 0, .slice none 0 0, .int .i64 0, .slice none 0 0]], x.2.2⟩) (fun x => x.1 ≤ 4 ∧ C0 G x.2.2 ∧ p ≤ x.2.1 ∧ x.2.1 ≤ p + x.1 * 2000000) (fun x => 4 - x.1) (0, p, G) ?_ ?_ ?_)
 (simp only [I5]; exact E2)
 (exact ⟨by omega, C0.refl _, Nat.le_refl _, by dsimp only; omega⟩)
 (rintro ⟨(i : Nat), (p1 : Nat), G1⟩ ⟨hi, hleL, hpL, hpL2⟩; simp only [] at hi hleL hpL hpL2 ⊢; replace hb := hb.mono hleL)
 refine B1 ?_
 refine sB (J1 rfl rfl) rfl rfl (fun h21 => ?_) (fun h21 => ?_)
 refine A8 ?_
 refine C1 ?_
 refine A9 ?_
 (refine I7 (C7 rfl rfl rfl (by omega) (by unfold maxLen; omega) rfl) rfl ?_; rintro _ ⟨b34, rfl⟩)
 (refine S9 (by repeat (first | exact Pk.here | apply Pk.there)) (fun Gf hlef hslf _ => ?_); refine I8 rfl (Y8 Gf br pb nb cb (p1) bs _ _ _ _ (hb.mono hlef) hnb (by omega) hslf (by decide)) (Pk.perm (by repeat (first | exact Pk.here | apply Pk.there))) rfl rfl (fun v Gm outs hlen hh => ?_); obtain ⟨rfl, rfl, hv⟩ := hh; replace hb := hb.mono hlef; obtain ⟨dd, rfl, hdd⟩ : ∃ d : Nat, v = .int .i64 ((d + 1 : Nat) : Int) ∧ d ≤ 2 := (by simp only [List.mem_cons, List.not_mem_nil, or_false] at hv; rcases hv with rfl | rfl | rfl | rfl <;> first | exact ⟨0, rfl, by decide⟩ | exact ⟨1, rfl, by decide⟩ | exact ⟨2, rfl, by decide⟩); have hdB := A5X hdd; replace hleL := hleL.trans hlef)
 (have hcall := A3B br pb nb cb bs hnb dd (p1 + 1) _ (by omega) hb (by omega); refine I8 rfl hcall (Pk.perm (by repeat (first | exact Pk.here | apply Pk.there))) rfl rfl (fun v Gn outs hleD hh => ?_); obtain ⟨pD, hpD1, hpD2, rfl, uD, cD, rfl, hrD, hsD, haD⟩ := hh; obtain ⟨qD, dD, eD, rfl, _⟩ := hrD.open; replace hb := hb.mono hleD; replace hleL := hleL.trans hleD)
 refine E6 ?_
 (refine I7 (C7 rfl rfl rfl (by omega) (by unfold maxLen; omega) rfl) rfl ?_; rintro _ ⟨b38, rfl⟩)
 (refine S9 (by repeat (first | exact Pk.here | apply Pk.there)) (fun Gf hlef hslf _ => ?_); refine I8 rfl (Y8 Gf br pb nb cb (pD) bs _ _ _ _ (hb.mono hlef) hnb (by omega) hslf (by decide)) (Pk.perm (by repeat (first | exact Pk.here | apply Pk.there))) rfl rfl (fun v Gm outs hlen hh => ?_); obtain ⟨rfl, rfl, hv⟩ := hh; replace hb := hb.mono hlef; replace hleL := hleL.trans hlef; replace hrD := hrD.mono hlef; obtain ⟨dp, rfl, hdp1, hdp2⟩ : ∃ d : Int, v = .int .i64 d ∧ 3 ≤ d ∧ d ≤ 5 := (by simp only [List.mem_cons, List.not_mem_nil, or_false] at hv; rcases hv with rfl | rfl | rfl | rfl <;> exact ⟨_, rfl, by decide, by decide⟩))
 (have hcall := B52 br pb nb cb bs hnb 8 dp uD (pD + 1) _ none 0 0 _ ⟨haD.le (by omega), by omega, by omega, .inr ⟨by omega, by omega⟩⟩ (by omega) (by omega) (by omega) (W8.nil _) hrD hb (by omega); refine I8 rfl hcall (Pk.perm (by repeat (first | exact Pk.here | apply Pk.there))) rfl rfl (fun v Gn outs hleM hh => ?_); obtain ⟨pM, hpM1, hpM2, rfl, eM, cM, rfl, hrM, hsmM, hcM⟩ := hh; have hlM := hrM.len; have hoM := hrM.one; replace hb := hb.mono hleM; replace hleL := hleL.trans hleM)
 refine sE (A6 rfl) rfl (fun b41 => ?_)
 refine Y2 rfl rfl rfl hlM hoM rfl (by repeat first | exact Sw.here | apply Sw.there) (by exact D6 (by first | exact hlM.symm | omega)) ?_
 refine B1 ?_
 refine sL (A2 rfl rfl (B3 (by repeat first | exact mH | apply mT)) hlM) rfl rfl ?_
 (refine E7 rfl (B0s eM _ _ (by omega) hrM) rfl rfl (fun v G9 hle9 hh => ?_); have hmv := @B59 eM; obtain ⟨mc, mt, rfl, hmr, hmu⟩ := hh; obtain ⟨pt, ct, et, rfl, _⟩ := hmr.open; replace hb := hb.mono hle9; replace hleL := hleL.trans hle9; replace hrM := hrM.mono hle9; generalize (A0d eM).isSome = mx at *; cases mx)
 refine B6 ?_
 refine sE (A6 rfl) rfl (fun b52 => ?_)
 refine I0 ?_
 refine sP (J0 rfl rfl (by omega) (by omega)) rfl rfl ?_
 refine A3 ?_
 refine J6 (i + 1, pM, G9) ?_ ?_ ?_
 (simp only [I5]; exact E2)
 (dsimp only; exact ⟨by omega, hleL, by omega, by omega⟩)
 (show 4 - (i + 1) < 4 - i; omega)
 refine B6 ?_
 refine sE (A6 rfl) rfl (fun b78 => ?_)
 refine N0 ?_
 refine sL (A2 rfl rfl (B3 (by repeat first | exact mH | apply mT)) hlM) rfl rfl ?_
 refine Y2 rfl rfl rfl hlM hoM rfl (by repeat first | exact Sw.here | apply Sw.there) (by exact D6 (by first | exact hlM.symm | omega)) ?_
 refine D4 ?_
 refine H2 (outs := [rd br pb nb cb pM]) (rC rfl (A2 rfl rfl (B3 (by repeat first | exact mH | apply mT)) hlM)) (by repeat (first | exact A0.nil | refine A0.cons Pk.here ?_ | refine A0.cons (Pk.there Pk.here) ?_ | refine A0.cons (Pk.there (Pk.there Pk.here)) ?_ | apply A0.drop)) ?_
 (exact ⟨pM, by omega, by omega, rfl, eM, _, rfl, hrM, (B6a (hmv rfl)).le (by omega)⟩)
 refine J4 ?_
 (have hcall := B20 br pb nb cb bs hnb p1 _ hb (by omega); refine I8 rfl hcall (Pk.perm (by repeat (first | exact Pk.here | apply Pk.there))) rfl rfl (fun v Gn outs hleC hh => ?_); obtain ⟨pC, hpC1, hpC2, rfl, eC, cC, rfl, hrC, hcC⟩ := hh; have hlC := hrC.len; have hoC := hrC.one; have hcnt := A5H eC)
 refine Y2 rfl rfl rfl hlC hoC rfl (by repeat first | exact Sw.here | apply Sw.there) (by exact D6 (by first | exact hlC.symm | omega)) ?_
 refine B6 ?_
 refine H2 (outs := [rd br pb nb cb pC]) (rC rfl (A2 rfl rfl (B3 (by repeat first | exact mH | apply mT)) hlC)) (by repeat (first | exact A0.nil | refine A0.cons Pk.here ?_ | refine A0.cons (Pk.there Pk.here) ?_ | refine A0.cons (Pk.there (Pk.there Pk.here)) ?_ | apply A0.drop)) ?_
 (exact ⟨pC, by omega, by omega, rfl, eC, _, rfl, hrC, A71 _ (by omega), by omega⟩)
theorem B6f (br : Nat) (pb : Option Addr) (nb cb : Nat) (bs : List UInt8) (hnb : nb ≤ 2000) (p : Nat) (G : IM) (hb : Sl G pb nb cb 1 (N6 bs)) (hp : p + 1000 < 1099511627776) (e : Tm) (ce : List Value) (N : Nat) (hfit : e.fit N) (hN : N ≤ 4000000) (hr : B0 G e ce) :
  Fn Tryz.prog 84 [.pointer (some ⟨br, 0, none⟩), .agg ⟨ce⟩] [rd br pb nb cb p] G
   (Z8 br pb nb cb p 1000 (fun G' v => ∃ u cu, v = .agg ⟨cu⟩ ∧ B0 G' u cu ∧ u.fit N)) := by
 have hl := hr.len
 have hone := hr.one
 have hcnt := hfit.2
 obtain ⟨hTl, hTv⟩ := B6b e
 have hT := B0J e G ce hfit.1 (by omega) hr
 generalize A0f e = L0 at hTl hTv hT
 refine C3 Tryz.func84 rfl Tryz.ntmps84 Tryz.results84 rfl ?_
 intro w0
 refine A3 ?_
 refine sE (C8 rfl rfl) rfl (fun b3 => ?_)
 refine sE (A6 rfl) rfl (fun b4 => ?_)
 refine B1 ?_
 refine sL (A2 rfl rfl (B3 (by repeat first | exact mH | apply mT)) hl) rfl rfl ?_
 (refine A05 rfl hT rfl rfl (fun v G1 outs hle1 hh => ?_); obtain ⟨q, c, es0, rfl, rfl, hr1⟩ := hh; replace hb := hb.mono hle1; replace hr := hr.mono hle1)
 refine E0 ?_
 refine C1 ?_
 (refine B1D (fun a w hs => hs.slc_ptT (p := q) (c := c) (el := 34) (sz := 2) (n := L0.length) (cs := es0.flatten) (by repeat first | exact mH | apply mT)) (fun hq => ?_); refine J8 (fun (x : Nat × Nat × List (List Value) × IM) => ⟨[(6, .int .i64 x.1), (5, .slice q L0.length c), (0, .pointer (some ⟨br, 0, none⟩)), (3, .pointer (some ⟨b3, 0, none⟩)), (4, .pointer (some ⟨b4, 0, none⟩))], [.slc q c 34 2 L0.length x.2.2.1.flatten, rd br pb nb cb x.2.1, .blk b4 [.int .i64 0, .string ⟨⟨[]⟩⟩, .int .i64 0, .int .i64 0, .slice none 0 0, .int .i64 0, .slice none 0 0, .int .i64 0, .slice none 0 0], .blk b3 ce], x.2.2.2⟩) (fun x => x.1 ≤ L0.length ∧ C0 G1 x.2.2.2 ∧ p ≤ x.2.1 ∧ x.2.1 ≤ p + x.1 * 31 ∧ ∃ L, L.length = L0.length ∧ D2 x.2.2.2 L x.2.2.1 ∧ ∀ u ∈ L, E5 u ∧ K0 u ≤ 30) (fun x => L0.length - x.1) (0, p, es0, G1) ?_ ?_ ?_)
 (simp only [I5]; exact E2)
 (exact ⟨Nat.zero_le _, C0.refl _, Nat.le_refl _, by dsimp only; omega, L0, rfl, hr1, fun u hu => A3D (hTv u hu)⟩)
 (rintro ⟨(i : Nat), (p1 : Nat), es, Gi⟩ ⟨hi, hle, hp1, hp2, L, hL, hst, hal⟩; simp only [] at hi hle hp1 hp2 hst ⊢; replace hb := hb.mono hle; have hesl : es.length = L0.length := (by have h0 := hst.len; omega))
 refine A8 ?_
 refine sB (J1 rfl rfl) rfl rfl (fun h31 => ?_) (fun h31 => ?_)
 refine A8 ?_
 refine C1 ?_
 refine A8 ?_
 (obtain ⟨g, rfl, hgc⟩ := hq.resolve_left (by omega); obtain ⟨hai, hsi⟩ := hal L[i] (List.getElem_mem (by omega)); have hri : B9 Gi L[i] (es[i]'(by omega)) := (by have h0 := (hst.inv (i := i) (List.getElem?_eq_getElem (by omega)) B7).2; rw [List.getD_eq_getElem?_getD, List.getElem?_eq_getElem (by omega), Option.getD_some] at h0; exact h0); have hei := hri.len; refine sP (B4 (j := i) rfl rfl rfl (by omega)) rfl rfl ?_)
 refine sL (A2 rfl rfl (A68 (by repeat first | exact mH | apply mT) (B6d (by omega) (fun e he => (hst.each e he).1))) hei) rfl rfl ?_
 (have hcall := A4B br pb nb cb bs hnb _ p1 _ _ hai hri hb (by omega); refine I8 rfl hcall (Pk.perm (by repeat (first | exact Pk.here | apply Pk.there))) rfl rfl (fun v Gn outs hleu hh => ?_); obtain ⟨p2, hp21, hp22, rfl, u, cu, rfl, hru, hua, hus, huh⟩ := hh; have hul := hru.len; have huo := hru.one; replace hb := hb.mono hleu; replace hle := hle.trans hleu; replace hst := hst.mono hleu)
 refine sP (B4 (j := i) rfl rfl rfl (by omega)) rfl rfl ?_
 refine B5X rfl rfl rfl hul huo rfl (by repeat first | exact Sw.here | apply Sw.there) (B5Y (by omega) (fun e he => (hst.each e he).1) hul) ?_
 refine A9 ?_
 refine sP (J0 rfl rfl (by omega) (by omega)) rfl rfl ?_
 refine A3 ?_
 (refine J6 (i + 1, p2, es.set i cu, Gn) ?_ ?_ ?_)
 (simp only [I5]; exact E2)
 (dsimp only; exact ⟨by omega, hle, by omega, by omega, L.set i u, by rw [List.length_set]; exact hL, hst.set i hru, fun w hw => by rcases List.mem_or_eq_of_mem_set hw with h | h; exact hal w h; rw [h]; exact ⟨hua, by omega⟩⟩)
 (show L0.length - (i + 1) < L0.length - i; omega)
 refine J2 ?_
 refine sL (A2 rfl rfl (B3 (by repeat first | exact mH | apply mT)) hl) rfl rfl ?_
 refine E6 ?_
 (refine S9 (cs := es.flatten) (by repeat (first | exact Pk.here | apply Pk.there)) (fun G2 hle2 hsl2 hno2 => ?_); have hw := B58 e L G2 ce q c es hfit.1 (by omega) (by omega) (fun u hu => (hal u hu).1.small) ((hr.mono hle).mono hle2) (D5.of (by rw [hL]; exact hsl2) (by omega) hst.all (fun e he => (hst.each e he).2)) (hst.mono hle2); rw [hL] at hw; refine E7 rfl hw rfl rfl (fun v G3 hle3 hh => ?_); obtain ⟨cu, rfl, hru⟩ := hh; have hfu := B6c hfit (fun u hu => (hal u hu).1.small); generalize (A1j e L).isSome = bx; generalize (A1j e L).getD J5 = ux at *; have hul := hru.len; have huo := hru.one)
 refine B6 ?_
 refine sE (A6 rfl) rfl (fun b78 => ?_)
 refine sS rfl rfl rfl hul huo rfl ?_ (hu := by exact D6 hul.symm)
 refine A9 ?_
 refine sL (A2 rfl rfl (B3 (by repeat first | exact mH | apply mT)) hul) rfl rfl ?_
 refine sS rfl rfl rfl hul huo rfl ?_ (hu := by exact D6 hul.symm)
 refine B6 ?_
 refine H2 (outs := [rd br pb nb cb p1]) (rC rfl (A2 rfl rfl (B3 (by repeat first | exact mH | apply mT)) hul)) (by repeat (first | exact A0.nil | refine A0.cons Pk.here ?_ | refine A0.cons (Pk.there Pk.here) ?_ | refine A0.cons (Pk.there (Pk.there Pk.here)) ?_ | apply A0.drop)) ?_
 (exact ⟨p1, by omega, by omega, rfl, ux, cu, rfl, hru, hfu⟩)
def PLe (l l' : List Ty) : Prop := ∀ i, A6a (l.getD i B7) (l'.getD i B7) = true
section masks
variable {P : Program} {Γ : L6} {env : M0} {hp : List A5} {G : IM} {ty : TypeId}
end masks
def A44 (e : Tm) (fuel : Int) : List Int × Int × Bool :=
 if (R8 e fuel).2.1 = 2 then ((A30 ((R7 e).getD (J5, B7)).1 (A0V (R8 e fuel).2.2)).1, (R8 e fuel).2.2, (A30 ((R7 e).getD (J5, B7)).1 (A0V (R8 e fuel).2.2)).2) else ([], 0, false)
def B6V (e : Tm) (fuel : Int) (G : IM) : IM → Value → List A5 → Prop := L8 fun G' v => ∃ p c, v = .tuple ⟨[.slice p (A44 e fuel).1.length c, .int .i64 (A44 e fuel).2.1, .bool (A44 e fuel).2.2]⟩ ∧ SP1 (C5 G' G) (A44 e fuel).1 p c
def mLb (t : Tm) : List Int := (Q4 t).map Tm.lb
def Z1 (ts : List Tm) : List Int := (Q5 ts).map Tm.lb
theorem B0R : Z1 [] = [] := by unfold Z1; rw [Q5]; rfl
theorem A37 (t : Tm) (ts : List Tm) : Z1 (t :: ts) = mLb t ++ Z1 ts := by unfold Z1 mLb; rw [Q5, List.map_append]
theorem B6g {k : Int} {nm : ByteArray} {num : Int} {ty fr : Ty} {lb : Int} {ks : List Tm} (hk : k ≠ 14) : mLb (.mk k nm num ty fr lb ks) = Z1 ks := by unfold Z1 mLb; rw [Q4, if_neg hk, List.nil_append]
theorem B6h (u : Tm) (a b : Ty) (l : Int) : mLb (J7 u a b l) = l :: mLb u := by
 unfold mLb J7
 rw [Q4, if_pos rfl, Q5, Q5, List.append_nil]
 rfl
structure Lbs (ls : List Int) (l l' : Int) : Prop where
 le : l ≤ l'
 nd : ls.Nodup
 len : (ls.length : Int) = l' - l
 mem : ∀ m ∈ ls, l < m ∧ m ≤ l'
theorem Lbs.nil (l : Int) : Lbs [] l l := ⟨Int.le_refl _, List.nodup_nil, by simp, fun m h => by simp at h⟩
theorem Lbs.app {a b : List Int} {l l1 l2 : Int} (h : Lbs a l l1) (h2 : Lbs b l1 l2) : Lbs (a ++ b) l l2 := by
 have e1 := h.le
 have e2 := h2.le
 have e3 := h.len
 have e4 := h2.len
 refine ⟨by omega, ?_, by rw [List.length_append]; omega, ?_⟩
 ·rw [List.nodup_append]
  refine ⟨h.nd, h2.nd, ?_⟩
  rintro x hx y hy rfl
  have g1 := h.mem x hx
  have g2 := h2.mem x hy
  omega
 ·intro m hm
  rcases List.mem_append.1 hm with hm | hm
  ·have := h.mem m hm; omega
  ·have := h2.mem m hm; omega
theorem A29 {us : List Tm} {h w : List Ty} {l : Int} (hn : us = [] ∨ h = [] ∨ w = []) : F4 us h w l = (us, l) := by
 rcases hn with rfl | rfl | rfl
 ·simp [F4]
 ·simp [F4]
 ·simp [F4]
theorem A6Z : ∀ (us : List Tm) (h w : List Ty) (l : Int), (∀ m ∈ Z1 us, m ≤ l) → (Z1 us).Nodup →
  l ≤ (F4 us h w l).2 ∧ (Z1 (F4 us h w l).1).Nodup ∧ ((Z1 (F4 us h w l).1).length : Int) = (Z1 us).length + ((F4 us h w l).2 - l) ∧ ∀ m ∈ Z1 (F4 us h w l).1, m ∈ Z1 us ∨ (l < m ∧ m ≤ (F4 us h w l).2)
 | [], h, w, l, h1, h2 => by rw [A29 (by simp)]; exact ⟨Int.le_refl _, h2, by simp, fun m hm => .inl hm⟩
 | u :: us, [], w, l, h1, h2 => by rw [A29 (by simp)]; exact ⟨Int.le_refl _, h2, by simp, fun m hm => .inl hm⟩
 | u :: us, a :: h, [], l, h1, h2 => by rw [A29 (by simp)]; exact ⟨Int.le_refl _, h2, by simp, fun m hm => .inl hm⟩
 | u :: us, a :: h, b :: w, l, h1, h2 => by
  rw [A37] at h1 h2
  rw [List.nodup_append] at h2
  obtain ⟨n1, n2, n3⟩ := h2
  rw [F4]
  split
  ·obtain ⟨i1, i2, i3, i4⟩ := A6Z us h w l (fun m hm => h1 m (List.mem_append_right _ hm)) n2
   simp only [A37, List.length_append]
   refine ⟨i1, ?_, by omega, ?_⟩
   ·rw [List.nodup_append]
    refine ⟨n1, i2, ?_⟩
    rintro x hx y hy rfl
    rcases i4 x hy with g | g
    ·exact n3 x hx x g rfl
    ·have := h1 x (List.mem_append_left _ hx); omega
   ·intro m hm
    rcases List.mem_append.1 hm with hm | hm
    ·exact .inl (List.mem_append_left _ hm)
    ·rcases i4 m hm with g | g
     ·exact .inl (List.mem_append_right _ g)
     ·exact .inr g
  ·obtain ⟨i1, i2, i3, i4⟩ := A6Z us h w (l + 1) (fun m hm => by have := h1 m (List.mem_append_right _ hm); omega) n2
   simp only [A37, B6h, List.length_append, List.length_cons, List.cons_append]
   refine ⟨by omega, ?_, by omega, ?_⟩
   ·rw [List.nodup_cons, List.nodup_append]
    refine ⟨fun hm => ?_, n1, i2, ?_⟩
    ·rcases List.mem_append.1 hm with hm | hm
     ·have := h1 _ (List.mem_append_left _ hm); omega
     ·rcases i4 _ hm with g | g
      ·have := h1 _ (List.mem_append_right _ g); omega
      ·omega
    ·rintro x hx y hy rfl
     rcases i4 x hy with g | g
     ·exact n3 x hx x g rfl
     ·have := h1 x (List.mem_append_left _ hx); omega
   ·intro m hm
    rcases List.mem_cons.1 hm with rfl | hm
    ·exact .inr (by omega)
    rcases List.mem_append.1 hm with hm | hm
    ·exact .inl (List.mem_append_left _ hm)
    ·rcases i4 m hm with g | g
     ·exact .inl (List.mem_append_right _ g)
     ·exact .inr (by omega)
theorem A60 : ∀ (us : List Tm) (h w : List Ty) (l : Int), (F4 us h w l).1.length = us.length
 | [], h, w, l => by rw [A29 (by simp)]
 | u :: us, [], w, l => by rw [A29 (by simp)]
 | u :: us, a :: h, [], l => by rw [A29 (by simp)]
 | u :: us, a :: h, b :: w, l => by
  rw [F4]
  split
  ·simp only [List.length_cons, A60 us h w l]
  ·simp only [List.length_cons, A60 us h w (l + 1)]
theorem B6i (ks : List Tm) (ih : ∀ t ∈ ks, ∀ (d : Int) (cx : Cx) (l : Int) (u : Tm) (a : Ty) (l' : Int), N7 12 14 t d = true → M9 cx t l = some (u, a, l') → Lbs (mLb u) l l') :
  ∀ (d : Int) (cx : Cx) (l : Int) (us : List Tm) (h : List Ty) (l' : Int), N8 12 14 ks d = true → M3 cx ks l = some (us, h, l') → Lbs (Z1 us) l l' ∧ us.length = ks.length := by
 induction ks with
 | nil =>
  intro d cx l us h l' _ hE
  rw [M3] at hE
  cases hE
  rw [B0R]
  exact ⟨Lbs.nil _, rfl⟩
 | cons t ts ihl =>
  intro d cx l us h l' hs hE
  rw [N8, Bool.and_eq_true] at hs
  rw [M3] at hE
  split at hE
  ·cases hE
  ·rename_i u a l1 h1
   split at hE
   ·cases hE
   ·rename_i us2 h2 l2 hE2
    cases hE
    obtain ⟨g1, g2⟩ := ihl (fun t ht => ih t (List.mem_cons_of_mem _ ht)) d cx l1 us2 h2 _ hs.2 hE2
    rw [A37]
    exact ⟨(ih t List.mem_cons_self d cx l u a l1 hs.1 h1).app g1, by simp only [List.length_cons, g2]⟩
theorem B6j : ∀ (t : Tm) (d : Int) (cx : Cx) (l : Int) (u : Tm) (a : Ty) (l' : Int), N7 12 14 t d = true → M9 cx t l = some (u, a, l') → Lbs (mLb u) l l' := by
 refine Tm.ind fun k nm num ty fr lb ks ih d cx l u a l' hs hE => ?_
 obtain ⟨_, h2, h3, h4⟩ := A0D hs
 have hops := (U3.1 h3).1
 rw [M9] at hE
 split at hE
 ·cases hE
 ·rename_i us h l1 hL
  obtain ⟨g1, g2⟩ := B6i ks ih _ _ _ _ _ _ h4 hL
  rw [A1b] at hE
  split at hE
  ·cases hE
  ·rename_i w t' hN
   cases hE
   obtain ⟨i1, i2, i3, i4⟩ := A6Z us h w l1 (fun m hm => (g1.mem m hm).2) g1.nd
   have hle := g1.le
   have hln := g1.len
   have hR : Lbs (Z1 (F4 us h w l1).1) l (F4 us h w l1).2 := ⟨by omega, i2, by omega, fun m hm => by
    rcases i4 m hm with g | g
    ·have := g1.mem m g; omega
    ·omega⟩
   split
   ·rename_i hk
    subst hk
    have hl : (F4 us h w l1).1.length = 1 := by rw [A60, g2]; rw [show D9 13 = 1 from rfl] at hops; omega
    obtain ⟨x, hx⟩ : ∃ x, (F4 us h w l1).1 = [x] := List.length_eq_one_iff.1 hl
    rw [hx] at hR ⊢
    rw [A37, B0R, List.append_nil] at hR
    exact hR
   ·rw [B6g h2]; exact hR
theorem B0S {e u : Tm} {t : Ty} (h : R7 e = some (u, t)) : Lbs (mLb u) 0 ((Q4 u).length : Int) := by
 unfold R7 at h
 split at h
 ·rename_i hv
  split at h
  ·rename_i u' t' l' he
   cases h
   have := B6j e 1 [] 0 u t l' ((A1z e).1 hv).1 he
   have hl := this.len
   unfold mLb at hl ⊢
   rw [List.length_map] at hl
   rw [hl, Int.sub_zero]
   exact this
  ·cases h
 ·cases h
mutual
theorem B0T {L : Int → Prop} : ∀ (t : Tm), (∀ c ∈ Q4 t, L c.lb) → V2 L t
 | .mk k nm num ty fr lb ks, h => by
  rw [A0m]
  refine ⟨fun hk => h (.mk k nm num ty fr lb ks) (by rw [Q4, if_pos hk]; simp), B0U ks fun c hc => h c ?_⟩
  rw [Q4]; exact List.mem_append_right _ hc
theorem B0U {L : Int → Prop} : ∀ (ts : List Tm), (∀ c ∈ Q5 ts, L c.lb) → A00 L ts
 | [], _ => A01.2 fun t ht => by cases ht
 | t :: ts, h => by
  rw [Q5] at h
  have h1 := B0T t fun c hc => h c (List.mem_append_left _ hc)
  have h2 := B0U ts fun c hc => h c (List.mem_append_right _ hc)
  refine A01.2 fun t' ht => ?_
  rcases List.mem_cons.1 ht with he | ht
  ·rw [he]; exact h1
  ·exact A01.1 h2 t' ht
end
theorem A3a {P : Program} {Γ : L6} {env : M0} {hp : List A5} {G : IM} {ty : TypeId} {x y : Operand} {t t' : TypeId} {i : K4} [hI : H3 P t i] (hd : i.desc = .bool) {r : Bool} (hx : evo env x = some (.bool r)) (hy : evo env y = some (.bool r)) :
  H8 P Γ ⟨env, hp, G⟩ (.binOp .eql t x y t') ty (.bool true) := by
 have h := B1i (P := P) (Γ := Γ) (hp := hp) (G := G) (t := t) (t' := t') (ty := ty) (i := i) hd hx hy
 simpa using h
def B6W (G : IM) : IM → Value → List A5 → Prop := L8 fun G' v => ∃ u cu t ct b, v = .tuple ⟨[.agg ⟨cu⟩, .agg ⟨ct⟩, .bool b]⟩ ∧ B0 G' u cu ∧ u.small ∧ D3 u ≤ 60 ∧ B9 G' t ct ∧ E5 t ∧ K0 t ≤ 960
def B6X (G : IM) : IM → Value → List A5 → Prop := L8 fun G' v => ∃ t cells l q c, v = .tuple ⟨[.agg ⟨cells⟩, .slice q l.length c]⟩ ∧ B0 G' t cells ∧ t.fit 100 ∧ Sl G' q l.length c 1 (S8 l) ∧ l.length ≤ 100
def B6Y (G : IM) : IM → Value → List A5 → Prop := L8 fun G' v => ∃ a ca b cb f, v = .tuple ⟨[.agg ⟨ca⟩, .agg ⟨cb⟩, .int .i64 f]⟩ ∧ B0 G' a ca ∧ a.fit 1100 ∧ B0 G' b cb ∧ b.fit 1100 ∧ E8 f
def B6Z (G : IM) : IM → Value → List A5 → Prop := L8 fun G' v => ∃ a ca b cb d cd, v = .tuple ⟨[.agg ⟨ca⟩, .agg ⟨cb⟩, .agg ⟨cd⟩]⟩ ∧ B0 G' a ca ∧ a.fit 1100 ∧ B0 G' b cb ∧ b.fit 1100 ∧ B0 G' d cd ∧ d.fit 1100
def B6k (N : Nat) (G : IM) : IM → Value → List A5 → Prop := L8 fun G' v => ∃ a ca f, v = .tuple ⟨[.agg ⟨ca⟩, .int .i64 f]⟩ ∧ B0 G' a ca ∧ a.fit N ∧ E8 f
theorem B6l (G : IM) (q : Option Addr) (n c : Nat) (bs : List UInt8) (hb : Sl G q n c 1 (N6 bs)) : Fn Tryz.prog 36 [.slice q n c] [] G (B6k 1100 G) := by
 refine C3 Tryz.func36 rfl Tryz.ntmps36 Tryz.results36 rfl ?_
 intro w0
 refine A3 ?_
 refine sE (A6 rfl) rfl (fun b3 => ?_)
 refine A8 ?_
 (refine I8 rfl (B2Z G q n c bs hb) (List.Perm.refl _) rfl rfl (fun v G1 outs hle1 hh => ?_); obtain ⟨rfl, br, pb, nb, cb, bs', rfl, rfl, hnb, hb'⟩ := hh)
 refine B2 ?_
 (have hcall := B6e br pb nb cb bs' hnb 0 _ hb' (by omega); refine I8 rfl hcall (Pk.perm (by repeat (first | exact Pk.here | apply Pk.there))) rfl rfl (fun v Gn outs hle1 hh => ?_); obtain ⟨p1, hp11, hp12, rfl, e0, ce0, rfl, hr0, hf0⟩ := hh; replace hb' := hb'.mono hle1)
 (have hcall := B3a br pb nb cb bs' hnb p1 _ hb' (by omega) e0 ce0 1100 hf0 hr0; refine I8 rfl hcall (Pk.perm (by repeat (first | exact Pk.here | apply Pk.there))) rfl rfl (fun v Gn outs hle2 hh => ?_); obtain ⟨p2, hp21, hp22, rfl, e, ce, rfl, hre, hfe⟩ := hh; have hl1 := hre.len; have ho1 := hre.one; replace hb' := hb'.mono hle2)
 refine sE (A6 rfl) rfl (fun b20 => ?_)
 refine Y2 rfl rfl rfl hl1 ho1 rfl (by repeat first | exact Sw.here | apply Sw.there) (by exact D6 (by first | exact hl1.symm | omega)) ?_
 refine A8 ?_
 (refine I8 rfl (W7 _ br pb nb cb (p2) bs' 2 hb' hnb (by omega)) (Pk.perm (by repeat (first | exact Pk.here | apply Pk.there))) rfl rfl (fun v Gp outs hle28 hh => ?_); obtain ⟨rfl, rfl, j28, rfl, hj28, hk28⟩ := hh; skip)
 replace hre := hre.mono hle28
 replace hb' := hb'.mono hle28
 refine sB (qE rfl rfl) rfl rfl (fun h29 => ?_) (fun h29 => ?_)
 refine A9 ?_
 refine sL (A2 rfl rfl (B3 (by repeat first | exact mH | apply mT)) hl1) rfl rfl ?_
 (have hcall := B6f br pb nb cb bs' hnb (p2 + 1) _ hb' (by omega) e ce 1100 hfe (by omega) hre; refine I8 rfl hcall (Pk.perm (by repeat (first | exact Pk.here | apply Pk.there))) rfl rfl (fun v Gn outs hle3 hh => ?_); obtain ⟨p3, hp31, hp32, rfl, b, cb1, rfl, hrb, hfb⟩ := hh; have hl2 := hrb.len; have ho2 := hrb.one; replace hb' := hb'.mono hle3)
 refine Y2 rfl rfl rfl hl2 ho2 rfl (by repeat first | exact Sw.here | apply Sw.there) (by exact D6 (by first | exact (hl2.trans hl1.symm).symm | omega)) ?_
 refine B6 ?_
 refine D7 D8 rfl ?_
 refine K7 (i := 0) (l' := [tt,ff,ff,ff,ff]) rfl D1 (A2 rfl rfl (B3 (by repeat first | exact mH | apply mT)) hl2) rfl (by kernel_rfl) rfl rfl ?_
 refine aP 1 rfl (qM rfl) rfl ?_
 refine A1 2 ?_
 (have hcall := B0Q br pb nb cb bs' hnb p3 _ hb' (by omega); refine V9 (l' := [tt,tt,tt,ff,ff]) rfl rfl hcall (Pk.perm (by repeat (first | exact Pk.here | apply Pk.there))) rfl rfl rfl (by repeat (first | exact A7.nil | apply A7.dep (by decide +kernel) | apply A7.blk (by decide +kernel) (by repeat (first | exact Pk.here | apply Pk.there)) (by repeat first | exact mH | apply mT))) (fun v Gn outs hle5 hh => ?_); obtain ⟨p5, hp51, hp52, rfl, fl, rfl, hfl⟩ := hh; replace hrb := hrb.mono hle5)
 refine A1 3 ?_
 refine A3m rfl rfl rfl rfl hl2 ho2 rfl rfl (by repeat first | exact Sw.here | apply Sw.there) (by exact D6 hl2.symm) (by repeat (first | exact A7.nil | apply A7.dep (by decide +kernel) | apply A7.blk (by decide +kernel) (by repeat (first | exact Pk.here | apply Pk.there)) (by repeat first | exact mH | apply mT))) ?_
 refine aP 4 rfl (qA rfl) rfl ?_
 refine B6 ?_
 refine I1 (rC rfl (A2 rfl rfl (B3 (by repeat first | exact mH | apply mT)) hl2)) (rT rfl) ?_
 (exact ⟨rfl, b, cb1, fl, rfl, hrb, hfb, hfl⟩)
 refine A8 ?_
 refine D7 D8 rfl ?_
 refine K7 (i := 0) (l' := [tt,ff,ff,ff,ff]) rfl D1 (A2 rfl rfl (B3 (by repeat first | exact mH | apply mT)) hl1) rfl (by kernel_rfl) rfl rfl ?_
 refine aP 1 rfl (qM rfl) rfl ?_
 refine A1 2 ?_
 (have hcall := B0Q br pb nb cb bs' hnb (p2 + 1) _ hb' (by omega); refine V9 (l' := [tt,tt,tt,ff,ff]) rfl rfl hcall (Pk.perm (by repeat (first | exact Pk.here | apply Pk.there))) rfl rfl rfl (by repeat (first | exact A7.nil | apply A7.dep (by decide +kernel) | apply A7.blk (by decide +kernel) (by repeat (first | exact Pk.here | apply Pk.there)) (by repeat first | exact mH | apply mT))) (fun v Gn outs hle5 hh => ?_); obtain ⟨p5, hp51, hp52, rfl, fl, rfl, hfl⟩ := hh; replace hre := hre.mono hle5)
 refine A1 3 ?_
 refine A3m rfl rfl rfl rfl hl1 ho1 rfl rfl (by repeat first | exact Sw.here | apply Sw.there) (by exact D6 hl1.symm) (by repeat (first | exact A7.nil | apply A7.dep (by decide +kernel) | apply A7.blk (by decide +kernel) (by repeat (first | exact Pk.here | apply Pk.there)) (by repeat first | exact mH | apply mT))) ?_
 refine aP 4 rfl (qA rfl) rfl ?_
 refine B6 ?_
 refine I1 (rC rfl (A2 rfl rfl (B3 (by repeat first | exact mH | apply mT)) hl1)) (rT rfl) ?_
 (exact ⟨rfl, e, ce, fl, rfl, hre, hfe, hfl⟩)
def B60 (e : Tm) : Bool := M2 e && F0 e
theorem B6m (n : Int) : A4X n ≠ ⟨⟨[]⟩⟩ := by
 unfold A4X
 intro h
 have h1 : Lib.decDigits n.toNat = [] := by
  have := congrArg (fun b : ByteArray => b.data.toList) h
  simpa using this
 unfold Lib.decDigits at h1
 split at h1 <;> simp at h1
theorem B6n : ∀ (t : Tm), cv t → F0 t = true → A0c t ≠ ⟨⟨[]⟩⟩ := by
 refine Tm.ind fun k nm num ty fr lb ks ih hc hv => ?_
 obtain ⟨hN, hk⟩ := hc.node
 by_cases h1 : k = 10 ∨ (N2 (.mk k nm num ty fr lb ks) = true ∧ ty.k = 5)
 ·rw [A6v h1]; decide
 ·by_cases h2 : k = 5 ∨ N2 (.mk k nm num ty fr lb ks) = true
  ·rw [A6w h1 h2]; decide
  ·have hp : N2 (.mk k nm num ty fr lb ks) = false := by
    cases h : N2 (.mk k nm num ty fr lb ks) with
    | false => rfl
    | true => exact absurd (.inr h) h2
   by_cases h3 : k = 14
   ·have h0 : 0 < ks.length := by
     have := hN.ops
     rw [h3, show D9 14 = 1 from rfl] at this; omega
    rw [A6x hp h3 h0]
    refine ih _ (List.getElem_mem h0) (hk _ (List.getElem_mem h0)) ?_
    have hi : inj (.mk k nm num ty fr lb ks) = true := by
     cases h : inj (.mk k nm num ty fr lb ks) with
     | true => rfl
     | false =>
      rw [A3S (fun e => h1 (.inl e)) hp h] at hv
      have := of_decide_eq_true hv; omega
    rw [A2n (.inr (.inr hi)), List.all_eq_true] at hv
    exact hv _ (List.getElem_mem h0)
   ·rw [A6y hp h3 (fun e => h1 (.inl e)) (fun e => h2 (.inl e))]
    unfold A1g
    split
    ·exact B6m num
    ·split <;> decide
theorem B6o {e u : Tm} {t : Ty} {fuel : Int} (hi : R7 e = some (u, t)) (hf : P1 fuel 0 300 = true) :
  ((R8 e fuel).2.1 = 0 ∧ (R8 e fuel).1 ≠ ⟨⟨[]⟩⟩ ∧ (R8 e fuel).2.2 = 0) ∨
  ((R8 e fuel).2.1 = 2 ∧ (R8 e fuel).1 = ⟨⟨[]⟩⟩ ∧ (R8 e fuel).2.2 ≠ 0 ∧ (R8 e fuel).2.2 ≤ ((Q4 u).length : Int) ∧ -(R8 e fuel).2.2 ≤ ((Q4 u).length : Int)) ∨
  (((R8 e fuel).2.1 = 4 ∨ (R8 e fuel).2.1 = 5) ∧ (R8 e fuel).1 = ⟨⟨[]⟩⟩ ∧ (R8 e fuel).2.2 = 0) := by
 obtain ⟨g1, g2, _⟩ := A4V hi
 have hL := B0S hi
 have he := B5S hf u
 have := A9M (fun l => l ≠ 0 ∧ l ≤ ((Q4 u).length : Int) ∧ -l ≤ ((Q4 u).length : Int)) (fun l h => ⟨by omega, h.2.2, by omega⟩) fuel.toNat u t g1 g2
  (B0T u fun c hc => by have := hL.mem c.lb (List.mem_map.2 ⟨c, hc, rfl⟩); exact ⟨by omega, by omega, by omega⟩)
 by_cases h0 : (R6 u fuel).2.1 = 0
 ·rw [A6A hi h0]
  rw [he] at h0 ⊢
  rcases this with ⟨_, _, _, q1, q2⟩ | ⟨q, _⟩ | ⟨q, _⟩ | ⟨q, _⟩
  ·exact .inl ⟨rfl, B6n _ (A0X q2).1 q1, rfl⟩
  all_goals (simp only at h0; omega)
 ·rw [A6B hi h0]
  rw [he] at h0 ⊢
  rcases this with ⟨q, _⟩ | ⟨q, q1, q2, q3⟩ | ⟨q, q1⟩ | ⟨q, q1⟩
  ·simp only at h0; omega
  ·exact .inr (.inl ⟨q, rfl, q1, q2, q3⟩)
  ·exact .inr (.inr ⟨.inl q, rfl, q1⟩)
  ·exact .inr (.inr ⟨.inr q, rfl, q1⟩)
def A45 (ts : List Tm) (G : IM) : IM → Value → List A5 → Prop := L8 fun G' v => ∃ p c es, v = .slice p ts.length c ∧ D5 G' p ts.length c 9 es ∧ D0 G' ts es
theorem A45.mk {ts : List Tm} {n : Nat} {G G' : IM} {p : Option Addr} {c : Nat} {es : List (List Value)} (hn : ts.length = n) (hs : Sl G' p n c 9 es.flatten) (hr : D0 G' ts es) : A45 ts G G' (.slice p n c) [] := by
 subst hn
 exact ⟨rfl, p, c, es, rfl, D5.of hs hr.len hr.all (fun e he => by obtain ⟨q, hq⟩ := List.getElem?_of_mem he; exact (hr.inv hq J5).2.one), hr⟩
theorem B0V {Q : Prop} (h : Q := by (dsimp only; exact ⟨by omega, hle.trans hle3, by rw [B0y (by omega), ← List.append_assoc]; exact hap, by rw [B0y (by omega)]; simp only [List.length_append, List.length_singleton, List.length_nil]; omega⟩)) : Q := h
theorem B0W {Q : Prop} (h : Q := by (rw [h14]; rw [List.take_length] at hst hlen; exact A45.mk (by simp only [List.length_append, List.length_singleton, List.length_nil]; omega) hsl5 (hst.mono hle5))) : Q := h
theorem B6p : ∀ (t : Tm) (G : IM) (cells : List Value), D3 t ≤ 1000000 → B0 G t cells → Fn Tryz.prog 88 [.agg ⟨cells⟩] [] G (A45 (Q4 t) G) := by
 refine Tm.ind fun k nm num ty fr lb ks ih G cells hcnt hr => ?_
 have hone := hr.one
 have hself := hr
 have hc14 : k = 14 → Q4 (.mk k nm num ty fr lb ks) = [.mk k nm num ty fr lb ks] ++ Q5 ks := fun h => by rw [Q4, if_pos h]
 have hcne : k ≠ 14 → Q4 (.mk k nm num ty fr lb ks) = [] ++ Q5 ks := fun h => by rw [Q4, if_neg h]
 rw [D3] at hcnt
 obtain ⟨tk, tks⟩ := ty
 obtain ⟨fk, fks⟩ := fr
 obtain ⟨pt, ct, pf, cf, q, cq, ek, rfl, hk, hnum, hlb, hty, hfr, hsl, hkl⟩ := hr.open9
 have hn := hsl.le
 refine C3 Tryz.func88 rfl Tryz.ntmps88 Tryz.results88 rfl ?_
 intro w0
 refine A3 ?_
 refine sE (C8 rfl rfl) rfl (fun b3 => ?_)
 refine K5 ?_
 refine sB (qE rfl rfl) rfl rfl (fun h17 => ?_) (fun h17 => ?_)
 refine B6 ?_
 (show I4 _ _ (.region 3 ..) _ _; refine S0 37 9 ?_; refine tR ?_)
 refine A3 ?_
 (refine I7 (C7 rfl rfl rfl (by omega) (by unfold maxLen; omega) rfl) rfl ?_; rintro _ ⟨b24, rfl⟩)
 (refine A0z rfl rfl rfl rfl rfl (fun _ _ => by repeat (first | exact Sw.here | apply Sw.there)) (M6 (by repeat first | exact mH | apply mT)) rfl (by simp [Value.oneCell']) (by unfold maxLen; omega) (by omega) rfl (fun pn0 cn0 => ?_))
 refine N0 ?_
 refine C1 ?_
 (have h14 := hc14 (by omega); have hinit := D0.one1 hself; refine J8 (fun (x : Nat × Nat × Option Addr × Nat × List (List Value) × IM) => ⟨[(16, .int .i64 x.1), (15, .int .i64 ks.length), (14, .slice q ks.length cq), (3, .slice x.2.2.1 x.2.1 x.2.2.2.1)], [.slc x.2.2.1 x.2.2.2.1 37 9 x.2.1 x.2.2.2.2.1.flatten], x.2.2.2.2.2⟩) (fun x => x.1 ≤ ks.length ∧ C0 G x.2.2.2.2.2 ∧ D0 x.2.2.2.2.2 ([.mk k nm num (.mk tk tks) (.mk fk fks) lb ks] ++ Q5 (ks.take x.1)) x.2.2.2.2.1 ∧ ([Tm.mk k nm num (.mk tk tks) (.mk fk fks) lb ks] ++ Q5 (ks.take x.1)).length = x.2.1) (fun x => ks.length - x.1) (0, 1, pn0, cn0, [[.int .i64 k, .string nm, .int .i64 num, .int .i64 tk, .slice pt tks.length ct, .int .i64 fk, .slice pf fks.length cf, .int .i64 lb, .slice q ks.length cq]], G) ?_ ?_ ?_)
 (simp only [I5]; exact E2)
 (exact ⟨Nat.zero_le _, C0.refl _, by simpa [Q5] using hinit, by simp [Q5]⟩)
 (rintro ⟨(i : Nat), (m : Nat), pn, cn, es, Gi⟩ ⟨hi, hle, hst, hlen⟩; simp only [] at hi hle hst hlen ⊢; replace hsl := hsl.mono hle; replace hkl := hkl.mono hle; have hb1 := A25 (ks.take i); have hb2 := A25 ks; simp only [List.length_append, List.length_singleton, List.length_nil] at hlen)
 refine A3 ?_
 refine sB (J1 rfl rfl) rfl rfl (fun h45 => ?_) (fun h45 => ?_)
 refine B2 ?_
 refine C1 ?_
 refine A3 ?_
 (obtain ⟨b, o, e, rfl, hl, hat, hre, hgb⟩ := hsl.kidTm hkl (i := i) (by omega) (by omega); have hone9 := hre.one; have hsc := A0S (ks := ks) (i := i) (by omega); have hsk := A0R (ks := ks) (i := i) (by omega); refine sP (B4 rfl rfl rfl (by omega)) rfl rfl ?_)
 refine sL (A2 rfl rfl (hat _) hl) rfl rfl ?_
 refine sE (A6 rfl) rfl (fun b58 => ?_)
 refine sS rfl rfl rfl hl hone9 rfl ?_ (hu := by exact D6 hl.symm)
 refine B1 ?_
 refine sL (A2 rfl rfl (B3 (by repeat first | exact mH | apply mT)) hl) rfl rfl ?_
 (refine E7 rfl (ih ks[i] (List.getElem_mem (by omega)) _ _ (by omega) hre) rfl rfl (fun v G3 hle3 hh => ?_); obtain ⟨p3, c3, e3, rfl, hs3, hr3⟩ := hh; have hlk := A31 ks[i]; refine B0E (cs := es.flatten) (by repeat (first | exact Pk.here | apply Pk.there)) (fun hcap => ?_))
 (refine A3A rfl rfl rfl rfl rfl (fun _ _ => by repeat (first | exact Sw.here | apply Sw.there)) hs3.1 hr3.ones hcap (by unfold maxLen; omega) (by omega) rfl (fun p4 c4 => ?_))
 refine A9 ?_
 refine sP (J0 rfl rfl (by omega) (by omega)) rfl rfl ?_
 refine A3 ?_
 (have hap := D0.append (hst.mono hle3) hr3; refine J6 (i + 1, m + (Q4 ks[i]).length, p4, c4, es ++ e3, G3) (by simp only [List.flatten_append]; exact (L3 (by repeat (first | exact E1.nil | refine E1.cons rfl ?_)) (by repeat (first | exact A0.refl | exact A0.nil | refine A0.cons (by repeat (first | exact Pk.here | apply Pk.there)) ?_ | apply A0.drop)))) ?_ ?_)
 exact B0V
 exact U8
 refine I0 ?_
 (refine F9 (cs := es.flatten) (by repeat (first | exact Pk.here | apply Pk.there)) (fun G5 hle5 hsl5 hno5 => ?_); obtain rfl : i = ks.length := (by omega))
 refine A3 ?_
 exact B0W
 refine J3 ?_
 refine C1 ?_
 (have h14 := hcne (by omega); refine S0 37 9 ?_; refine J8 (fun (x : Nat × Nat × Option Addr × Nat × List (List Value) × IM) => ⟨[(16, .int .i64 x.1), (15, .int .i64 ks.length), (14, .slice q ks.length cq), (3, .slice x.2.2.1 x.2.1 x.2.2.2.1)], [.slc x.2.2.1 x.2.2.2.1 37 9 x.2.1 x.2.2.2.2.1.flatten], x.2.2.2.2.2⟩) (fun x => x.1 ≤ ks.length ∧ C0 G x.2.2.2.2.2 ∧ D0 x.2.2.2.2.2 ([] ++ Q5 (ks.take x.1)) x.2.2.2.2.1 ∧ ([] ++ Q5 (ks.take x.1)).length = x.2.1) (fun x => ks.length - x.1) (0, 0, none, 0, [], G) ?_ ?_ ?_)
 (simp only [I5]; exact E2)
 (exact ⟨Nat.zero_le _, C0.refl _, by simp [Q5, D0], by simp [Q5]⟩)
 (rintro ⟨(i : Nat), (m : Nat), pn, cn, es, Gi⟩ ⟨hi, hle, hst, hlen⟩; simp only [] at hi hle hst hlen ⊢; replace hsl := hsl.mono hle; replace hkl := hkl.mono hle; have hb1 := A25 (ks.take i); have hb2 := A25 ks; simp only [List.length_append, List.length_singleton, List.length_nil] at hlen)
 refine A3 ?_
 refine sB (J1 rfl rfl) rfl rfl (fun h118 => ?_) (fun h118 => ?_)
 refine B2 ?_
 refine C1 ?_
 refine A3 ?_
 (obtain ⟨b, o, e, rfl, hl, hat, hre, hgb⟩ := hsl.kidTm hkl (i := i) (by omega) (by omega); have hone9 := hre.one; have hsc := A0S (ks := ks) (i := i) (by omega); have hsk := A0R (ks := ks) (i := i) (by omega); refine sP (B4 rfl rfl rfl (by omega)) rfl rfl ?_)
 refine sL (A2 rfl rfl (hat _) hl) rfl rfl ?_
 refine sE (A6 rfl) rfl (fun b131 => ?_)
 refine sS rfl rfl rfl hl hone9 rfl ?_ (hu := by exact D6 hl.symm)
 refine B1 ?_
 refine sL (A2 rfl rfl (B3 (by repeat first | exact mH | apply mT)) hl) rfl rfl ?_
 (refine E7 rfl (ih ks[i] (List.getElem_mem (by omega)) _ _ (by omega) hre) rfl rfl (fun v G3 hle3 hh => ?_); obtain ⟨p3, c3, e3, rfl, hs3, hr3⟩ := hh; have hlk := A31 ks[i]; refine B0E (cs := es.flatten) (by repeat (first | exact Pk.here | apply Pk.there)) (fun hcap => ?_))
 (refine A3A rfl rfl rfl rfl rfl (fun _ _ => by repeat (first | exact Sw.here | apply Sw.there)) hs3.1 hr3.ones hcap (by unfold maxLen; omega) (by omega) rfl (fun p4 c4 => ?_))
 refine A9 ?_
 refine sP (J0 rfl rfl (by omega) (by omega)) rfl rfl ?_
 refine A3 ?_
 (have hap := D0.append (hst.mono hle3) hr3; refine J6 (i + 1, m + (Q4 ks[i]).length, p4, c4, es ++ e3, G3) (by simp only [List.flatten_append]; exact (L3 (by repeat (first | exact E1.nil | refine E1.cons rfl ?_)) (by repeat (first | exact A0.refl | exact A0.nil | refine A0.cons (by repeat (first | exact Pk.here | apply Pk.there)) ?_ | apply A0.drop)))) ?_ ?_)
 exact B0V
 exact U8
 refine I0 ?_
 (refine F9 (cs := es.flatten) (by repeat (first | exact Pk.here | apply Pk.there)) (fun G5 hle5 hsl5 hno5 => ?_); obtain rfl : i = ks.length := (by omega))
 refine A3 ?_
 exact B0W
def B61 (ts : List Ty) (G : IM) : IM → Value → List A5 → Prop := L8 fun G' v => ∃ p c es, v = .slice p ts.length c ∧ D5 G' p ts.length c 2 es ∧ D2 G' ts es
theorem B0X (zs : List Int) (j : Nat) (h : j < zs.length) : (S8 zs)[j]? = some (.int .i64 zs[j]) := by simp [S8, h]
theorem B0Y {w : World} {p : Option Addr} {c el : Nat} {zs : List Int} (h : (A5.slc p c el 1 zs.length (S8 zs)).ok w) (h0 : zs ≠ []) :
  ∃ g cur, p = some ⟨g, 0, none⟩ ∧ w.heap[g]? = some (.cells cur el (0, 0)) ∧ zs.length ≤ c ∧ c ≤ maxLen ∧ cur.size = c ∧ cur.toList.take zs.length = S8 zs := by
 obtain ⟨_, h⟩ := h
 rcases h with ⟨_, hn⟩ | ⟨g, cap, cur, hv, _, hg, h1, h2, h3, h4⟩
 ·exact absurd (List.length_eq_zero_iff.1 hn) h0
 ·simp only [Value.slice.injEq] at hv
  obtain ⟨rfl, _, rfl⟩ := hv
  exact ⟨g, cur, rfl, hg, h1, h2, by omega, by rw [Nat.mul_one] at h4; exact h4⟩
theorem B0Z {w : World} {g el : Nat} {cur : Array Value} {zs : List Int} (hg : w.heap[g]? = some (.cells cur el (0, 0))) (ht : cur.toList.take zs.length = S8 zs) : Sort.Holds (Value.int .i64) w g 0 zs.toArray := by
 intro j hj
 have hj' : j < zs.length := by simpa using hj
 have hc : cur[j]? = some (.int .i64 zs[j]) := by
  have h1 := B0X zs j hj'
  rw [← ht, List.getElem?_take, if_pos hj'] at h1
  simpa using h1
 refine ⟨?_, ?_⟩
 ·unfold World.cell?
  simp only [hg, Nat.zero_add, Option.isSome_none, Bool.false_eq_true, if_false, hc]
  have hg9 : zs.toArray[j]! = zs[j] := by rw [getElem!_pos zs.toArray j hj]; simp
  rw [hg9]
 ·unfold World.frozen?
  simp [hg]
theorem B00 {G : IM} {w : World} {g c el n : Nat} {cur : Array Value} {zs ds : List Int} (hw : R2 [.slc (some ⟨g, 0, none⟩) c el 1 zs.length (S8 zs)] G w) (hg : w.heap[g]? = some (.cells cur el (0, 0))) (hc : zs.length ≤ c) (hc2 : c ≤ maxLen) (hs : cur.size = c)
  (hd : ds.length = zs.length) (hn : n ≤ zs.length) (k : Nat) (os : Array Obj) :
  P7 [.slc (some ⟨g, 0, none⟩) c el 1 zs.length (S8 zs)] G w [.slc (some ⟨g, 0, none⟩) c el 1 n (S8 (ds.take n))] G (Sort.grow (Sort.putRow (Value.int .i64) (Sort.ahead w k) g 0 ds.toArray) os) := by
 have hlt := Z2 hg
 have hb : ∀ b, b < w.heap.size → b ≠ g → (Sort.grow (Sort.putRow (Value.int .i64) (Sort.ahead w k) g 0 ds.toArray) os).heap[b]? = w.heap[b]? := by
  intro b h hne
  show ((w.heap.modify g _) ++ os)[b]? = _
  rw [Array.getElem?_append_left (by simpa using h), Array.getElem?_modify, if_neg (fun e => hne e.symm)]
 have hgb : (Sort.grow (Sort.putRow (Value.int .i64) (Sort.ahead w k) g 0 ds.toArray) os).heap[g]? = some (.cells (Sort.putCells (Value.int .i64) 0 ds.toArray cur) el (0, 0)) := by
  show ((w.heap.modify g _) ++ os)[g]? = _
  rw [Array.getElem?_append_left (by simpa using hlt), Array.getElem?_modify, if_pos rfl, hg]
  rfl
 have hdis : G g = none := hw.disj g (by simp [Fp, A5.fp, I2])
 have hne : ∀ b l, G b = some l → b ≠ g := by rintro b l h rfl; rw [hdis] at h; cases h
 refine ⟨⟨?_, ?_, by simp [Fp, A5.fp, I2], ?_⟩, ⟨rfl, rfl, rfl, ?_, ?_⟩, C0.refl _, fun _ _ h => .inl h, ?_, fun b l h h0 => absurd h (by rw [h0]; simp)⟩
 ·intro b l h
  obtain ⟨e, f, hh⟩ := hw.inn b l h
  exact ⟨e, f, by rw [hb b (Z2 hh) (hne b l h)]; exact hh⟩
 ·intro e he
  simp at he
  subst he
  refine ⟨by rw [A7E, List.length_take]; omega, .inr ⟨g, c, _, rfl, Nat.zero_le _, hgb, by omega, hc2, ?_, ?_⟩⟩
  ·simp [Sort.putCells, hs]
  ·apply List.ext_getElem?
   intro j
   rw [List.getElem?_take]
   by_cases hj : j < n
   ·have hj2 : j < ds.length := by omega
    rw [if_pos (by omega), B0X _ _ (by rw [List.length_take]; omega), List.getElem_take]
    simp only [Sort.putCells, Array.getElem?_toList, Array.getElem?_mapIdx]
    have hcur : cur[j]? = some cur[j] := Array.getElem?_eq_getElem (by omega)
    rw [hcur]
    simp only [Option.map_some, Nat.zero_le, true_and, Nat.zero_add, List.size_toArray, hj2, if_true, Nat.sub_zero]
    rw [getElem!_pos _ _ (by simpa using hj2)]
    simp
   ·rw [if_neg (by omega), List.getElem?_eq_none (by rw [A7E, List.length_take]; omega)]
 ·intro b h
  simp [Fp, A5.fp, I2] at h
  subst h; exact hdis
 ·show w.heap.size ≤ ((w.heap.modify g _) ++ os).size
  simp
 ·intro b h hnb
  exact hb b h (by rintro rfl; exact hnb (by simp [Fp, A5.fp, I2]))
 ·intro b h
  exact .inr (by simpa [Fp, A5.fp, I2] using h)
def Y0 (zs : List Int) : List Int := zs.mergeSort fun x y => decide (x ≤ y)
theorem B6q (zs : List Int) (G : IM) (p : Option Addr) (c el : Nat) (hz : zs.length ≤ 4294967296) :
  Fn Tryz.prog 89 [.slice p zs.length c] [.slc p c el 1 zs.length (S8 zs)] G (fun G' v outs => G' = G ∧ v = .tuple #[] ∧ outs = [.slc p c el 1 zs.length (S8 (Y0 zs))]) := by
 refine ⟨fun w hw => ?_⟩
 by_cases h0 : zs = []
 ·subst h0
  refine (Tryz.slices_Sort_int_none p c w).mono ?_
  rintro e w' ⟨rfl, rfl⟩
  exact ⟨_, G, _, rfl, P7.refl hw, rfl, rfl, by unfold Y0; rw [List.mergeSort_nil]⟩
 ·obtain ⟨g, cur, rfl, hg, h1, h2, h3, h4⟩ := B0Y (hw.ok _ List.mem_cons_self) h0
  refine (Tryz.slices_Sort_int g 0 c zs w (B0Z hg h4) (Z2 hg) (by omega)).mono ?_
  rintro e w' ⟨rfl, n, os, rfl⟩
  have hl : (Y0 zs).length = zs.length := by unfold Y0; exact List.length_mergeSort _
  have := B00 (n := zs.length) (ds := Y0 zs) hw hg h1 h2 h3 hl (Nat.le_refl _) n os
  rw [← hl, List.take_length, hl] at this
  exact ⟨_, G, _, rfl, this, rfl, rfl, rfl⟩
theorem B6r (zs : List Int) : (Lib.compact zs).length ≤ zs.length := by
 unfold Lib.compact Lib.compactUpTo
 rw [List.length_map]
 have := List.length_filter_le (Lib.keeps zs.toArray) (List.range zs.length)
 rw [List.length_range] at this
 exact this
theorem B6s (zs : List Int) (G : IM) (p : Option Addr) (c el : Nat) (hz : zs.length ≤ 4294967296) :
  Fn Tryz.prog 90 [.slice p zs.length c] [.slc p c el 1 zs.length (S8 zs)] G (fun G' v outs => G' = G ∧ v = .slice p (Lib.compact zs).length c ∧ outs = [.slc p c el 1 (Lib.compact zs).length (S8 (Lib.compact zs))]) := by
 refine ⟨fun w hw => ?_⟩
 by_cases h0 : zs = []
 ·subst h0
  refine (Tryz.slices_Compact_int_empty p c w).mono ?_
  rintro e w' ⟨rfl, rfl⟩
  exact ⟨_, G, _, rfl, P7.refl hw, rfl, rfl, rfl⟩
 ·obtain ⟨g, cur, rfl, hg, h1, h2, h3, h4⟩ := B0Y (hw.ok _ List.mem_cons_self) h0
  refine (Tryz.slices_Compact_int g 0 c zs w (B0Z hg h4) (by omega) h1).mono ?_
  rintro e w' ⟨rfl, n, rfl⟩
  have hcl := B6r zs
  have := B00 (n := (Lib.compact zs).length) (ds := Lib.compact zs ++ List.replicate (zs.length - (Lib.compact zs).length) 0) hw hg h1 h2 h3 (by simp; omega) hcl n #[]
  rw [List.take_left] at this
  have hgr : ∀ w : World, Sort.grow w #[] = w := fun w => by unfold Sort.grow; simp
  rw [hgr] at this
  exact ⟨_, G, _, rfl, this, rfl, rfl, rfl⟩
theorem A61 (zs : List Int) : (Y0 zs).Perm zs := List.mergeSort_perm _ _
theorem B6t {zs : List Int} (h : zs.Nodup) : Lib.compact (Y0 zs) = Y0 zs := by
 refine Lib.compact_all _ fun j hj => ?_
 have hn : (Y0 zs).Nodup := (A61 zs).nodup_iff.2 h
 unfold Lib.keeps
 refine decide_eq_true ?_
 by_cases h0 : j = 0
 ·exact .inl h0
 ·refine .inr ?_
  rw [getElem!_pos (Y0 zs).toArray j (by simpa using hj), getElem!_pos (Y0 zs).toArray (j - 1) (by simp; omega)]
  simp only [List.getElem_toArray]
  exact fun he => (List.pairwise_iff_getElem.1 hn (j - 1) j (by omega) hj (by omega)) he.symm
def A1k (t : Tm) : List Int := if M2 t = true then Lib.compact (Y0 ((Q4 t).map Tm.lb)) else []
theorem B6u {t : Tm} (hv : M2 t = true) (h : ((Q4 t).map Tm.lb).Nodup) : (A1k t).length = (Q4 t).length := by
 unfold A1k
 rw [if_pos hv, B6t h, (A61 _).length_eq, List.length_map]
theorem B6v {ks : List Tm} {i : Nat} (h : i < ks.length) : (ks.take (i + 1)).map Tm.lb = (ks.take i).map Tm.lb ++ [ks[i].lb] := by
 rw [List.take_succ_eq_append_getElem h, List.map_append]; rfl
theorem B6w (t : Tm) (G : IM) (cells : List Value) (hr : B0 G t cells) :
  Fn Tryz.prog 38 [.agg ⟨cells⟩] [] G (fun G' v outs => ∃ p c, v = .slice p (A1k t).length c ∧ (outs = [] ∧ A1k t = [] ∨ outs = [.slc p c 3 1 (A1k t).length (S8 (A1k t))])) := by
 have hl := hr.len
 have hone := hr.one
 have hV := A5G t G cells hr
 have hno : M2 t = false → A1k t = [] := fun h => by unfold A1k; rw [if_neg (by rw [h]; decide)]
 have hyes : M2 t = true → A1k t = Lib.compact (Y0 ((Q4 t).map Tm.lb)) := fun h => by unfold A1k; rw [if_pos h]
 have hcc := fun h : M2 t = true => (A0X h).2
 have hcl := A31 t
 generalize M2 t = CV at *
 obtain ⟨L, hL⟩ : ∃ L, Q4 t = L := ⟨_, rfl⟩
 refine C3 Tryz.func38 rfl Tryz.ntmps38 Tryz.results38 rfl ?_
 intro w0
 refine A3 ?_
 refine sE (C8 rfl rfl) rfl (fun b3 => ?_)
 refine A8 ?_
 refine sL (A2 rfl rfl (B3 (by repeat first | exact mH | apply mT)) hl) rfl rfl ?_
 refine F8 rfl (hV) rfl rfl (fun h11 => ?_) (fun h11 => ?_)
 refine J3 ?_
 refine sL (A2 rfl rfl (B3 (by repeat first | exact mH | apply mT)) hl) rfl rfl ?_
 (have hcv := hcc (by assumption); have hy2 := hyes (by assumption); refine E7 rfl (B6p t G cells (by omega) hr) rfl rfl (fun v1 G1 hle1 hh => ?_); obtain ⟨p1, c1, e1, rfl, hs1, hr1⟩ := hh; rw [hL] at hs1 hr1 hy2 hcl ⊢)
 refine B1 ?_
 refine C1 ?_
 (refine S0 3 1 ?_; refine J8 (fun (x : Nat × Option Addr × Nat) => ⟨[(12, .int .i64 x.1), (11, .int .i64 L.length), (10, .slice p1 L.length c1), (3, .slice x.2.1 x.1 x.2.2)], [.slc x.2.1 x.2.2 3 1 x.1 (S8 ((L.take x.1).map Tm.lb))], G1⟩) (fun x => x.1 ≤ L.length) (fun x => L.length - x.1) (0, none, 0) ?_ ?_ ?_)
 (simp only [I5]; exact E2)
 exact Nat.zero_le _
 (rintro ⟨(i : Nat), pn, cn⟩ hi; simp only [] at hi ⊢)
 refine A3 ?_
 refine sB (J1 rfl rfl) rfl rfl (fun h39 => ?_) (fun h39 => ?_)
 refine B2 ?_
 refine C1 ?_
 refine A3 ?_
 (obtain ⟨b, o, e, rfl, hel, hat, hre, hgb⟩ := hs1.kidTm hr1 (i := i) (by omega) (by omega); obtain ⟨qt, dt, et, qf, df, ef, q3, d3, es3, rfl, _⟩ := hre.open; refine sP (B4 rfl rfl rfl (by omega)) rfl rfl ?_)
 refine sL (A2 rfl rfl (hat _) hel) rfl rfl ?_
 refine sE (A6 rfl) rfl (fun b52 => ?_)
 refine B2 ?_
 (refine I7 (C7 rfl rfl rfl (by omega) (by unfold maxLen; omega) rfl) rfl ?_; rintro _ ⟨b60, rfl⟩)
 (refine A0z rfl rfl rfl rfl rfl (fun _ _ => by repeat (first | exact Sw.here | apply Sw.there)) (M6 (by repeat first | exact mH | apply mT)) rfl (by simp [Value.oneCell']) (by unfold maxLen; omega) (by omega) rfl (fun p8 c8 => ?_))
 refine A9 ?_
 refine sP (J0 rfl rfl (by omega) (by omega)) rfl rfl ?_
 refine A3 ?_
 (have hst := B6v (ks := L) (i := i) (by omega); refine J6 (i + 1, p8, c8) (by rw [hst, B1W]; exact (L3 (by repeat (first | exact E1.nil | refine E1.cons rfl ?_)) (by repeat (first | exact A0.refl | exact A0.nil | refine A0.cons (by repeat (first | exact Pk.here | apply Pk.there)) ?_ | apply A0.drop)))) ?_ ?_)
 (show i + 1 ≤ L.length; omega)
 (show L.length - (i + 1) < L.length - i; omega)
 refine N0 ?_
 (obtain rfl : i = L.length := (by omega); rw [List.take_length]; have hml : (L.map Tm.lb).length = L.length := List.length_map _; have hS := B6q (L.map Tm.lb) G1 pn cn 3 (by omega); rw [hml] at hS; refine I8 rfl hS (Pk.perm (by repeat (first | exact Pk.here | apply Pk.there))) rfl rfl (fun v2 G2 outs hle2 hh => ?_); obtain ⟨rfl, rfl, rfl⟩ := hh)
 refine A9 ?_
 (have hsl : (Y0 (L.map Tm.lb)).length = L.length := (by rw [(A61 _).length_eq]; exact hml); have hK := B6s (Y0 (L.map Tm.lb)) G2 pn cn 3 (by omega); rw [hsl] at hK; refine I8 rfl hK (Pk.perm (by repeat (first | exact Pk.here | apply Pk.there))) rfl rfl (fun v3 G3 outs hle3 hh => ?_); obtain ⟨rfl, rfl, rfl⟩ := hh)
 refine B1 ?_
 refine H2 (outs := [.slc pn cn 3 1 (Lib.compact (Y0 (L.map Tm.lb))).length (S8 (Lib.compact (Y0 (L.map Tm.lb))))]) (rT rfl) (A0.cons (by repeat (first | exact Pk.here | apply Pk.there)) A0.nil) ?_
 (rw [hy2]; exact ⟨pn, cn, rfl, .inr rfl⟩)
 refine N0 ?_
 (rw [hno (by assumption)]; exact ⟨none, 0, rfl, .inl ⟨rfl, rfl⟩⟩)
section slaws
variable {P : Program} {Γ : L6} {env : M0} {hp : List A5} {G : IM} {ty : TypeId}
theorem A62 {x y : Operand} {t t' : TypeId} {r : ByteArray} (hx : evo env x = some (.string r)) (hy : evo env y = some (.string r)) :
  H8 P Γ ⟨env, hp, G⟩ (.binOp .eql t x y t') ty (.bool true) := by
 have h := A04 (P := P) (Γ := Γ) (hp := hp) (G := G) (t := t) (t' := t') (ty := ty) hx hy
 rwa [decide_eq_true rfl] at h
theorem B6x {x y : Operand} {t t' : TypeId} {r s : ByteArray} (hx : evo env x = some (.string r)) (hy : evo env y = some (.string s)) (hn : r ≠ s) :
  H8 P Γ ⟨env, hp, G⟩ (.binOp .neq t x y t') ty (.bool true) := by
 have h := A1q (P := P) (Γ := Γ) (hp := hp) (G := G) (t := t) (t' := t') (ty := ty) hx hy
 rwa [decide_eq_true hn] at h
end slaws
theorem B6y (bs : List UInt8) (G : IM) (p : Option Addr) (n c : Nat) (hT : A07 G) (hb : Sl G p n c 1 (N6 bs)) : Fn Tryz.prog 10 [.slice p n c] [] G (L8 fun _ v => v = .bool true) := by
 have hn := hb.le
 refine C3 Tryz.func10 rfl Tryz.ntmps10 Tryz.results10 rfl ?_
 intro w0
 refine J2 ?_
 refine sB (X5 rfl rfl) rfl rfl (fun h11 => ?_) (fun h11 => ?_)
 refine J4 ?_
 (exact ⟨rfl, rfl⟩)
 refine D4 ?_
 (refine E7 rfl (B6l G _ _ _ bs hb) rfl rfl (fun v G1 hle1 hh => ?_); obtain ⟨a, ca, fl, rfl, hra, hfa, hfl⟩ := hh; replace hT := hT.mono hle1; have hca := hfa.2; have hla := hra.len; have hoa := hra.one; have hA := B4T a fl G1 ca hT hra; have hS := B5Q a fl; have hk := fun u t h => @B6o a u t fl h; obtain ⟨⟨s1, c1, l1⟩, hr1⟩ : ∃ r, R8 a fl = r := ⟨_, rfl⟩; rw [hr1] at hA hk hS; replace hk : ∀ u t, R7 a = some (u, t) → P1 fl 0 300 = true → (c1 = 0 ∧ s1 ≠ ⟨⟨[]⟩⟩ ∧ l1 = 0) ∨ (c1 = 2 ∧ s1 = ⟨⟨[]⟩⟩ ∧ l1 ≠ 0 ∧ l1 ≤ ((Q4 u).length : Int) ∧ -l1 ≤ ((Q4 u).length : Int)) ∨ ((c1 = 4 ∨ c1 = 5) ∧ s1 = ⟨⟨[]⟩⟩ ∧ l1 = 0) := hk)
 refine B6 ?_
 refine sE (A6 rfl) rfl (fun b36 => ?_)
 refine sS rfl rfl rfl hla hoa rfl ?_ (hu := by exact D6 hla.symm)
 refine A9 ?_
 refine sL (A2 rfl rfl (B3 (by repeat first | exact mH | apply mT)) hla) rfl rfl ?_
 refine E6 ?_
 (refine E7 rfl hA rfl rfl (fun v2 G2 hle2 hh => ?_); replace hh : v2 = .tuple ⟨[.string s1, .int .i64 c1, .int .i64 l1]⟩ := hh; subst hh; replace hra := hra.mono hle2; have hS2 := hS G2 ca (by omega) hra)
 refine J4 ?_
 refine sL (A2 rfl rfl (B3 (by repeat first | exact mH | apply mT)) hla) rfl rfl ?_
 refine E6 ?_
 (refine E7 rfl hS2 rfl rfl (fun v3 G3 hle3 hh => ?_); replace hh : v3 = .tuple ⟨[.string s1, .int .i64 c1, .int .i64 l1]⟩ := hh; subst hh; replace hra := hra.mono hle3)
 refine J4 ?_
 refine sL (A2 rfl rfl (B3 (by repeat first | exact mH | apply mT)) hla) rfl rfl ?_
 focus (refine E7 rfl (A96 a _ ca hra) rfl rfl (fun v4 G4 hle4 hh => ?_); obtain ⟨cu, ct, rfl, hru, hrt⟩ := hh; obtain ⟨qt, dt, et2, rfl, _⟩ := hrt.open; have hlu := hru.len; have hou := hru.one; rcases hI : R7 a with _ | ⟨u, t⟩; rotate_left; (rw [hI] at hru; replace hru : B0 G4 u cu := hru); rotate_left)
 refine B1 ?_
 refine sE (A6 rfl) rfl (fun b77 => ?_)
 refine sE (A6 rfl) rfl (fun b78 => ?_)
 refine sS rfl rfl rfl hlu hou rfl ?_ (hu := by exact D6 hlu.symm)
 refine E0 ?_
 refine sQ (A4n rfl rfl) rfl ?_
 refine B6 ?_
 refine sP (A0N rfl rfl (by omega)) rfl rfl ?_
 refine B1 ?_
 refine sP (A0N rfl rfl (by omega)) rfl rfl ?_
 refine Z5 ?_
 refine sQ (A62 rfl rfl) rfl ?_
 refine B6 ?_
 refine sP (T8 rfl rfl (by omega)) rfl rfl ?_
 refine B1 ?_
 refine sP (T8 rfl rfl (by omega)) rfl rfl ?_
 refine B2 ?_
 (exact ⟨rfl, rfl⟩)
 refine B1 ?_
 refine sE (A6 rfl) rfl (fun b141 => ?_)
 refine sE (A6 rfl) rfl (fun b142 => ?_)
 refine sS rfl rfl rfl hlu hou rfl ?_ (hu := by exact D6 hlu.symm)
 refine E0 ?_
 refine sQ (A4n rfl rfl) rfl ?_
 refine B6 ?_
 refine sP (A0N rfl rfl (by omega)) rfl rfl ?_
 refine B1 ?_
 refine sP (A0N rfl rfl (by omega)) rfl rfl ?_
 refine B2 ?_
 refine sB (J1 rfl rfl) rfl rfl (fun h170 => ?_) (fun h170 => ?_)
 refine N0 ?_
 refine sQ (A62 rfl rfl) rfl ?_
 refine B6 ?_
 refine sP (T8 rfl rfl (by omega)) rfl rfl ?_
 refine B1 ?_
 refine sP (T8 rfl rfl (by omega)) rfl rfl ?_
 refine B2 ?_
 (exact ⟨rfl, rfl⟩)
 refine B6 ?_
 refine sB (X5 rfl rfl) rfl rfl (fun h204 => ?_) (fun h204 => ?_)
 refine D4 ?_
 refine sQ (A62 rfl rfl) rfl ?_
 refine B6 ?_
 refine sP (T8 rfl rfl (by omega)) rfl rfl ?_
 refine B1 ?_
 refine sP (T8 rfl rfl (by omega)) rfl rfl ?_
 refine B2 ?_
 (exact ⟨rfl, rfl⟩)
 refine D4 ?_
 refine sL (A2 rfl rfl (B3 (by repeat first | exact mH | apply mT)) hlu) rfl rfl ?_
 (have hkk := hk u t hI (A2S.2 ⟨by omega, by omega⟩); have hcv := (A4V hI).1; have hcl := A31 u; have hc2 := (A0X hcv).2; have hnn := B6u hcv (B0S hI).nd; refine A05 rfl (B6w u _ cu hru) rfl rfl (fun v5 G5 outs hle5 hh => ?_); obtain ⟨p5, c5, rfl, _⟩ := hh; rw [hnn]; rcases hkk with ⟨k1, k2, k3⟩ | ⟨k1, rfl, k3, k4, k5⟩ | ⟨k1, rfl, k3⟩)
 refine B2 ?_
 refine sP (W6 rfl rfl (by omega)) rfl rfl ?_
 refine A3 ?_
 refine sP (B6x rfl rfl k2) rfl rfl ?_
 refine E6 ?_
 refine sP (T8 rfl rfl (by omega)) rfl rfl ?_
 refine sQ (A3a rfl rfl rfl) rfl ?_
 refine B1 ?_
 refine sP (A12 rfl rfl (by omega)) rfl rfl ?_
 refine B6 ?_
 refine sP (A1Z rfl (by omega) (by omega)) rfl rfl ?_
 refine E6 ?_
 refine sP (A12 rfl rfl (by omega)) rfl rfl ?_
 refine B6 ?_
 refine sP (A0N rfl rfl (by omega)) rfl rfl ?_
 refine E6 ?_
 refine sP (H9 rfl rfl (by omega)) rfl rfl ?_
 refine sQ (A3a rfl rfl rfl) rfl ?_
 refine A8 ?_
 (exact ⟨rfl, rfl⟩)
 refine B2 ?_
 refine sP (W6 rfl rfl (by omega)) rfl rfl ?_
 refine A3 ?_
 refine sQ (A4n rfl rfl) rfl ?_
 refine E6 ?_
 refine sP (H9 rfl rfl (by omega)) rfl rfl ?_
 refine sQ (A3a rfl rfl rfl) rfl ?_
 refine B1 ?_
 refine sP (A12 rfl rfl (by omega)) rfl rfl ?_
 refine B6 ?_
 refine sP (A1Z rfl (by omega) (by omega)) rfl rfl ?_
 refine E6 ?_
 refine sP (A12 rfl rfl (by omega)) rfl rfl ?_
 refine B6 ?_
 refine sP (W6 rfl rfl (by omega)) rfl rfl ?_
 refine E6 ?_
 refine sP (T8 rfl rfl (by omega)) rfl rfl ?_
 refine sQ (A3a rfl rfl rfl) rfl ?_
 refine A8 ?_
 (exact ⟨rfl, rfl⟩)
 refine B2 ?_
 refine sP (W6 rfl rfl (by omega)) rfl rfl ?_
 refine A3 ?_
 refine sQ (A4n rfl rfl) rfl ?_
 refine E6 ?_
 refine sP (H9 rfl rfl (by omega)) rfl rfl ?_
 refine sQ (A3a rfl rfl rfl) rfl ?_
 refine B1 ?_
 refine sP (A12 rfl rfl (by omega)) rfl rfl ?_
 refine B6 ?_
 refine sP (A1Z rfl (by omega) (by omega)) rfl rfl ?_
 refine E6 ?_
 refine sP (A12 rfl rfl (by omega)) rfl rfl ?_
 refine B6 ?_
 refine sP (A0N rfl rfl (by omega)) rfl rfl ?_
 refine E6 ?_
 refine sP (H9 rfl rfl (by omega)) rfl rfl ?_
 refine sQ (A3a rfl rfl rfl) rfl ?_
 refine A8 ?_
 (exact ⟨rfl, rfl⟩)
end Gw
end Go.Proofs.YtebfignffjhnhaaGreatDoor
