/-
  Drawn terms that often have a type. The reference's typing, exactly. The reference's typing, exactly: meets, the types of nodes. The reference's typing, exactly: types of terms. The reference's insertion of casts, exactly. The types that a term's text holds: the reference's list. TermTypes and CountSlots of the reference. Terms with other types: the reference's. WithTypes of the reference. Drawn terms that are small, terms with blurred types, fuel. Configurations: plain laws (they are valid, ordered by precision; fewer types fail less); `and` and `and not` of masks. The labels of inserted casts: from 1 on, each once; what a run may blame (plain). Terms that differ in their labels alone run alike (plain). Drawn terms with casts, paths, arguments. The casts of a term and their types: walked. slices.Sort and slices.Compact over own slices of numbers: the kit's contracts; CastLabels of the program. Labels only name casts: the law (plain). SimplifyCasts, DynamicCasts, ForgetCast, RelabelCasts of the program. ForgetCast, RelabelCasts of the program. The type of a node of a term with casts, the reference's way (plain).
-/
import Derived.Test.YtfpgncjeejickaaGreatDoorKa6
import Derived.Test.YtfpgncjeejickaaGreatDoorKa5
import Derived.Test.YtfpgncjeejickaaGreatDoorKa4
import Derived.Test.YtfpgncjeejickaaGreatDoorKa3
import Derived.Test.YtfpgncjeejickaaGreatDoorKa1
import Derived.Test.YtfpgncjeejickaaGreatDoorKa2
import Derived.Test.YtfpgncjeejickaaGreatDoorShelf
set_option linter.unusedVariables false
set_option linter.unusedSimpArgs false
set_option maxHeartbeats 0
set_option maxRecDepth 100000
set_option synthInstance.maxSize 4000
set_option synthInstance.maxHeartbeats 0
namespace Go.Proofs.YtfpgncjeejickaaGreatDoor
open Go Go.RowKit
namespace Gw
structure A30 {ι : Type} (S : ι → Sy) (φ : ι → Prop) (K : Po) (e : Exit) (σ : Sy) : Prop where
 run : match e with
  | .normal => ∃ i, φ i ∧ Sub σ (S i)
  | e => K e σ
section cut
variable {P : Program} {Γ : M1} {K : Po} {σ : Sy} {ι : Type}
theorem B0Q {c y : Code} (S : ι → Sy) (φ : ι → Prop) (h : J5 P Γ c (A30 S φ K) σ) (k : ∀ i, φ i → J5 P Γ y K (S i)) : J5 P Γ c (A0Z P Γ y K) σ := by
 refine A5f h ?_
 rintro e σ ⟨hk⟩
 cases e with
 | normal => obtain ⟨i, hi, hs⟩ := hk; exact ⟨A7f hs (k i hi)⟩
 | _ => exact ⟨hk⟩
theorem A31 {S : ι → Sy} {φ : ι → Prop} {σ : Sy} (i : ι) (hs : Sub σ (S i)) (h : φ i) : A30 S φ K .normal σ := ⟨⟨i, h, hs⟩⟩
theorem A0W {S : ι → Sy} {φ : ι → Prop} {σ : Sy} (h : K .ret σ) : A30 S φ K .ret σ := ⟨h⟩
theorem B5n {S : ι → Sy} {φ : ι → Prop} (h : Y1 K) : Y1 (A30 S φ K) := fun c σ hk => h c σ hk.run
instance npC6 {S : ι → Sy} {φ : ι → Prop} [h : NpC K] : NpC (A30 S φ K) := ⟨B5n h.h⟩
end cut
theorem A16 (G : IM) (nm : ByteArray) (num : Int) {k : Int} (hk : E9 k) (hn : E9 num) : A8 G (.mk k nm num B1 B1 0 []) [.int .i64 k, .string nm, .int .i64 num, .int .i64 0, .slice none 0 0, .int .i64 0, .slice none 0 0, .int .i64 0, .slice none 0 0] := A1h hk hn
theorem B2.kidsM {G : IM} {k : Int} {ks : List Ty} {q : Option Addr} {c : Nat} (h : B2 G (.mk k ks) [.int .i64 k, .slice q ks.length c]) : ∃ es, C9 G q ks.length c 2 es ∧ E0 G ks es := by
 obtain ⟨q', c', es, he, _, h1, h2⟩ := h.open
 cases he
 exact ⟨es, h1, h2⟩
theorem B5o (br : Nat) (pb : Option Addr) (nb cb : Nat) (bs : List UInt8) (hnb : nb ≤ 2000) : ∀ n, B0O br pb nb cb bs n := by
 refine fun n => Nat.strongRecOn n fun n ih depth t p G pc nc cc cells hfu hd0 hd1 hnc hx hrt hb hp => ?_
 have hge := A1q n
 have har := hfu.1.ar
 have hszt := A4w hfu.1
 have hnn := A0f t
 have hncl := hx.le
 obtain ⟨k, ks⟩ := t
 obtain ⟨q, c, es, rfl, hk, _, _⟩ := hrt.open
 simp only [Ty.k, Ty.ks] at hk hrt ⊢
 have hsz30 : H4 (.mk k ks) ≤ 30 := hszt
 have hops : k = 4 ∨ k = 5 → ks.length = 2 := by have h2 := har; rw [D4] at h2; exact h2.1
 refine B6 Tryz.func127 rfl Tryz.ntmps127 Tryz.results127 rfl ?_
 intro w0
 refine tS (tR ?_)
 refine sE (C4 rfl rfl) rfl (fun b3 => ?_)
 refine sE (A6 rfl) rfl (fun b4 => ?_)
 refine D5 ?_
 refine sP (O8 rfl rfl (by omega) (by omega)) rfl rfl ?_
 refine sQ (qA rfl) rfl (sD (nS ?_))
 refine C3 ?_
 (refine M6 (fun (x : Nat × Nat × IM) => ⟨(9, .int .i64 ((x.1 : Int) - 1)) :: [(0, .pointer (some ⟨br, 0, none⟩)), (1, .slice pc nc cc), (3, .int .i64 depth), (6, .pointer (some ⟨b3, 0, none⟩)), (8, .pointer (some ⟨b4, 0, none⟩))], [rd br pb nb cb x.2.1, .blk b4 [.int .i64 0, .string ⟨⟨[]⟩⟩, .int .i64 0, .int .i64 0, .slice none 0 0, .int .i64 0, .slice none 0 0, .int .i64 0, .slice none 0 0], .blk b3 [.int .i64 k, .slice q ks.length c]], x.2.2⟩) (fun x => x.1 ≤ nc ∧ B8 G x.2.2 ∧ p ≤ x.2.1 ∧ x.2.1 + x.1 ≤ p + nc) (fun x => x.1) (nc, p, G) ?_ ?_ ?_)
 (simp only [K4]; exact E1)
 (exact ⟨Nat.le_refl _, B8.refl _, Nat.le_refl _, Nat.le_refl _⟩)
 (rintro ⟨(i : Nat), (p1 : Nat), G1⟩ ⟨hi, hleL, hpL, hpL2⟩; simp only [] at hi hleL hpL hpL2 ⊢; replace hx := hx.mono hleL; replace hb := hb.mono hleL; replace hrt := hrt.mono hleL;)
 refine tS (tS (tR (sQ (qM rfl) rfl ?_)))
 refine sB (A0G rfl rfl) rfl rfl (fun h25 => ?_) (fun h25 => ?_)
 refine sD (nS (qT rfl (tK (nS (tS ?_)))))
 (show J5 _ _ (.block 1 ..) _ _; obtain ⟨j, rfl⟩ : ∃ j, i = j + 1 := ⟨i - 1, by omega⟩; rw [show ((j + 1 : Nat) : Int) - 1 = (j : Int) from by omega]; obtain ⟨b, o, nm1, t1, qq1, dd1, rfl, hat, hr1, ha1, hs1, hgb, hns1⟩ := hx.get (i := j) (by omega); refine C3 ?_)
 refine R0 ?_
 refine sP (B4 (j := j) rfl rfl rfl (by omega)) rfl rfl ?_
 refine sQ (qF rfl) rfl ?_
 refine sL (V4 rfl rfl ((hat _).sub (j := 0) rfl)) rfl rfl ?_
 (refine D7 rfl (A8I _ _ nc cc nm1 hx) rfl rfl (fun v G2 hle2 hh => ?_); obtain ⟨ts, tcs, xs, rfl, hrs, has, hss⟩ := hh; obtain ⟨ps, cs, ess, rfl, _⟩ := hrs.open; obtain ⟨b, o, nm1, t1, qq1, dd1, hpp, hat, hr1, ha1, hs1, hgb, hns1⟩ := (hx.mono hle2).get (i := j) (by omega); cases hpp; replace hx := hx.mono hle2; replace hb := hb.mono hle2; replace hrt := hrt.mono hle2;)
 refine H9 ?_
 refine sE (A6 rfl) rfl (fun b45 => ?_)
 refine D5 ?_
 (have hinloop := hrs; refine H5 rfl (T4 _ br pb nb cb (p1) bs 3 hb hnb (by omega)) (Pk.perm (by repeat (first | exact Pk.here | apply Pk.there))) rfl rfl (fun v Gp outs hle53 hh => ?_); obtain ⟨rfl, rfl, j53, rfl, hj53, hk53⟩ := hh; have hinl := hj53)
 replace hrs := hrs.mono hle53
 replace hr1 := hr1.mono hle53
 replace hb := hb.mono hle53
 replace hrt := hrt.mono hle53
 replace hinloop := hinloop.mono hle53
 refine sB (qE rfl rfl) rfl rfl (fun h54 => ?_) (fun h54 => ?_)
 refine sQ (qM rfl) rfl (sL (A4 rfl rfl) rfl rfl ?_)
 refine F4 rfl ((A0N ts _ _ hrs)) rfl rfl (fun h57 => ?_) (fun h57 => ?_)
 refine J8 ?_
 refine F4 rfl ((A07 ts (.mk k ks) _ _ _ has har hrs hrt)) rfl rfl (fun h62 => ?_) (fun h62 => ?_)
 refine F8 ?_
 refine sP (B4 (j := j) rfl rfl rfl (by omega)) rfl rfl ?_
 refine sQ (qF rfl) rfl ?_
 refine sL (V4 rfl rfl ((hat _).sub (j := 0) rfl)) rfl rfl ?_
 refine I8 ?_
 refine I1 (outs := [rd br pb nb cb (p1 + 1)]) (rC rfl (A4 rfl rfl)) (by repeat (first | exact A1.nil | refine A1.cons Pk.here ?_ | refine A1.cons (Pk.there Pk.here) ?_ | refine A1.cons (Pk.there (Pk.there Pk.here)) ?_ | apply A1.drop)) ?_
 (exact ⟨(p1 + 1), by omega, by omega, rfl, _, _, rfl, A16 _ _ _ ⟨by omega, by omega⟩ (by first | exact ⟨by omega, by omega⟩ | exact hkn), by first | exact O5 (by first | assumption | decide) | exact A0x (by decide) (by assumption) (by assumption) (by assumption) | exact S2 (by decide) (by assumption) (by assumption) | exact L3 (by decide) Q1 (by assumption) | exact L3 (by decide) har.small (by assumption) | exact L3 (by decide) Q1 (S2 (by decide) (by assumption) (O5 (by decide))) | exact L3 (by decide) A0y (O5 (by decide)) | assumption, by simp only [E7, H3]; omega⟩)
 refine D8 ?_
 refine sP (O8 rfl rfl (by omega) (by omega)) rfl rfl ?_
 refine sQ (qA rfl) rfl (sD ?_)
 (have hinloop := hrs; refine L8 (j, p1 + 1, Gp) ?_ ?_ ?_)
 (simp only [K4]; exact E1)
 (dsimp only; exact ⟨by omega, hleL.trans hle2, by omega, by omega⟩)
 (show _ < _ + 1; omega)
 refine O0 ?_
 refine sP (O8 rfl rfl (by omega) (by omega)) rfl rfl ?_
 refine sQ (qA rfl) rfl (sD ?_)
 (have hinloop := hrs; refine L8 (j, p1 + 1, Gp) ?_ ?_ ?_)
 (simp only [K4]; exact E1)
 (dsimp only; exact ⟨by omega, hleL.trans hle2, by omega, by omega⟩)
 (show _ < _ + 1; omega)
 refine P7 ?_
 refine sP (O8 rfl rfl (by omega) (by omega)) rfl rfl ?_
 refine sQ (qA rfl) rfl (sD ?_)
 (have hinloop := hrs; refine L8 (j, p1 + 1, Gp) ?_ ?_ ?_)
 (simp only [K4]; exact E1)
 (dsimp only; exact ⟨by omega, hleL.trans hle2, by omega, by omega⟩)
 (show _ < _ + 1; omega)
 refine I8 ?_
 (show J5 _ _ (.region 7 ..) _ _; refine A0q (fun (x : Bool) => ⟨(49, .bool x) :: [(0, .pointer (some ⟨br, 0, none⟩)), (1, .slice pc nc cc), (3, .int .i64 depth), (6, .pointer (some ⟨b3, 0, none⟩)), (8, .pointer (some ⟨b4, 0, none⟩))], [rd br pb nb cb p1, .blk b4 [.int .i64 0, .string ⟨⟨[]⟩⟩, .int .i64 0, .int .i64 0, .slice none 0 0, .int .i64 0, .slice none 0 0, .int .i64 0, .slice none 0 0], .blk b3 [.int .i64 k, .slice q ks.length c]], G1⟩) (fun x => x = true → 1 < depth) ?_ ?_)
 refine tR (sQ (qM rfl) rfl ?_)
 refine sB (Y2 rfl rfl) rfl rfl (fun h160 => ?_) (fun h160 => ?_)
 refine sD ?_
 refine Q2 true (O9 (by repeat (first | exact H8.nil | refine H8.cons rfl ?_)) (by repeat (first | exact A1.refl | exact A1.nil | refine A1.cons (by repeat (first | exact Pk.here | apply Pk.there)) ?_ | apply A1.drop))) (fun _ => by omega)
 refine sD ?_
 refine Q2 false (O9 (by repeat (first | exact H8.nil | refine H8.cons rfl ?_)) (by repeat (first | exact A1.refl | exact A1.nil | refine A1.cons (by repeat (first | exact Pk.here | apply Pk.there)) ?_ | apply A1.drop))) (fun h => absurd h (by decide))
 (rintro (x49 : Bool) hx49)
 (show J5 _ _ (.cond (.tmp 49) _ _) _ _; refine B0Q (fun (x : Nat × IM) => ⟨[(0, .pointer (some ⟨br, 0, none⟩)), (1, .slice pc nc cc), (3, .int .i64 depth), (6, .pointer (some ⟨b3, 0, none⟩)), (8, .pointer (some ⟨b4, 0, none⟩))], [rd br pb nb cb x.1, .blk b4 [.int .i64 0, .string ⟨⟨[]⟩⟩, .int .i64 0, .int .i64 0, .slice none 0 0, .int .i64 0, .slice none 0 0, .int .i64 0, .slice none 0 0], .blk b3 [.int .i64 k, .slice q ks.length c]], x.2⟩) (fun x => B8 G1 x.2 ∧ p1 ≤ x.1 ∧ x.1 ≤ p1 + 1) (A3k rfl (fun hxt => ?_) (fun hxf => ?_)) ?_)
 refine tS (tR (sQ (qM rfl) rfl ?_))
 (have hx49b := hx49 hxt; refine H5 rfl (T4 _ br pb nb cb (p1) bs 9 hb hnb (by omega)) (Pk.perm (by repeat (first | exact Pk.here | apply Pk.there))) rfl rfl (fun v Gp outs hle170 hh => ?_); obtain ⟨rfl, rfl, j170, rfl, hj170, hk170⟩ := hh; have hpk9 := hj170)
 replace hb := hb.mono hle170
 replace hrt := hrt.mono hle170
 refine sD (nS ?_)
 refine C3 (tS (tR (sB (qE rfl rfl) rfl rfl (fun h176 => ?_) (fun h176 => ?_))))
 refine sQ (qA rfl) rfl (sD (nS (qT rfl (tS ?_))))
 (obtain ⟨m, rfl⟩ := hfu.pos (.inl (by omega)); have hmB : mB (m + 1) = 3 * mB m + 200 := rfl; have hgm := A1q m; refine D1 D2 rfl ?_)
 refine N8 (i := 0) (l' := [tt,ff,ff,ff,ff,ff,ff,ff,ff,ff,ff,ff,ff]) rfl C8 (A4 rfl rfl) rfl (by kernel_rfl) rfl rfl ?_
 refine aP 2 rfl (qM rfl) rfl ?_
 refine aP 3 rfl (qM rfl) rfl ?_
 refine aP 4 rfl (qM rfl) rfl ?_
 refine aL 5 rfl (A4 rfl rfl) rfl ?_
 refine aP 7 rfl (qM rfl) rfl ?_
 refine aP 8 rfl (O8 rfl rfl (by omega) (by omega)) rfl ?_
 refine A2 1 ?_
 (refine E3 rfl rfl (Q3 _ _ _ har.small hrt) rfl rfl rfl (fun v G6 hle6 hh => ?_); obtain ⟨K9, F1, rfl, hs1, hn1⟩ := hh; obtain ⟨pz, cz, rfl, _⟩ := hs1.open; have hrz := hs1.R.mono (C2.le G6 _); replace hx := hx.mono hle6; replace hb := hb.mono hle6; replace hrt := hrt.mono hle6;)
 refine A2 6 ?_
 (have hcall := A4D br pb nb cb bs hnb (.mk k ks) (p1 + 1) _ _ har hrt hb (by omega); refine Y6 (l' := [tt,tt,tt,tt,tt,tt,tt,tt,tt,ff,ff,ff,ff]) rfl rfl hcall (Pk.perm (by repeat (first | exact Pk.here | apply Pk.there))) rfl rfl rfl (by repeat (first | exact A9.nil | apply A9.dep (by decide +kernel) | apply A9.im (by decide +kernel) hg0 (by repeat first | exact mH | apply mT) | apply A9.im (by decide +kernel) hg1 (by repeat first | exact mH | apply mT) | apply A9.blk (by decide +kernel) (by repeat (first | exact Pk.here | apply Pk.there)) (by repeat first | exact mH | apply mT))) (fun v Gn outs hleA hh => ?_); obtain ⟨pA, hpA1, hpA2, rfl, uA, cuA, rfl, hruA, huaA, husA, huhA⟩ := hh; obtain ⟨quA, duA, euA, rfl, _⟩ := hruA.open; replace hrz := hrz.mono hleA; replace hx := hx.mono hleA; replace hb := hb.mono hleA; replace hrt := hrt.mono hleA;)
 refine A2 9 ?_
 (have hcall := ih m (by omega) (depth - 1) uA pA _ pc nc cc _ (hfu.sub (by omega) (huhA 4 hfu.1)) (by omega) (by omega) (by omega) hx hruA hb (by omega); refine Y6 (l' := [tt,tt,tt,tt,tt,tt,tt,tt,tt,tt,ff,ff,ff]) rfl rfl hcall (Pk.perm (by repeat (first | exact Pk.here | apply Pk.there))) rfl rfl rfl (by repeat (first | exact A9.nil | apply A9.dep (by decide +kernel) | apply A9.im (by decide +kernel) hg0 (by repeat first | exact mH | apply mT) | apply A9.im (by decide +kernel) hg1 (by repeat first | exact mH | apply mT) | apply A9.blk (by decide +kernel) (by repeat (first | exact Pk.here | apply Pk.there)) (by repeat first | exact mH | apply mT))) (fun v Gn outs hlea hh => ?_); obtain ⟨pa, hpa1, hpa2, rfl, ea, ca, rfl, hra, hsma, hca⟩ := hh; obtain ⟨a1, a2, a3, a4, a5, a6, a7, a8, a9, rfl⟩ := hra.nine; replace hrz := hrz.mono hlea; replace hx := hx.mono hlea; replace hb := hb.mono hlea; replace hrt := hrt.mono hlea;)
 refine A2 10 ?_
 (refine D9 rfl (D0 rfl rfl rfl (by omega) (by unfold maxLen; omega) rfl) rfl rfl ?_; rintro _ ⟨b197, rfl⟩)
 refine aP 11 rfl (Q9 rfl rfl) rfl ?_
 refine A2 12 ?_
 refine M3 rfl rfl rfl rfl rfl rfl rfl rfl (by decide +kernel) (by repeat first | exact Sw.here | apply Sw.there) (by rfl) ?_
 refine C0 (nS ?_)
 (refine I6 (cs := [a1, a2, a3, a4, a5, a6, a7, a8, a9]) (by repeat (first | exact Pk.here | apply Pk.there)) (fun G9 hle9 hsl9 hno9 => ?_); have hN := A3Y (k := 13) (nm := ⟨⟨[]⟩⟩) ⟨by omega, by omega⟩ (hrz.mono hle9) (hra.mono hle9) hsl9)
 refine tT (rB ?_)
 refine A0W ?_
 refine I1 (outs := [rd br pb nb cb pa]) (rC rfl (A4 rfl rfl)) (by repeat (first | exact A1.nil | refine A1.cons Pk.here ?_ | refine A1.cons (Pk.there Pk.here) ?_ | refine A1.cons (Pk.there (Pk.there Pk.here)) ?_ | apply A1.drop)) ?_
 (exact ⟨pa, by omega, by omega, rfl, _, _, rfl, hN, by first | exact O5 (by first | assumption | decide) | exact A0x (by decide) (by assumption) (by assumption) (by assumption) | exact S2 (by decide) (by assumption) (by assumption) | exact L3 (by decide) Q1 (by assumption) | exact L3 (by decide) har.small (by assumption) | exact L3 (by decide) Q1 (S2 (by decide) (by assumption) (O5 (by decide))) | exact L3 (by decide) A0y (O5 (by decide)) | assumption, by simp only [E7, H3]; omega⟩)
 refine sQ (qA rfl) rfl (sD (nS (cF rfl (tS (tR ?_)))))
 refine sB (qE rfl rfl) rfl rfl (fun h215 => ?_) (fun h215 => ?_)
 refine sQ (qA rfl) rfl (sD (nS (qT rfl (tS ?_))))
 (obtain ⟨m, rfl⟩ := hfu.pos (.inl (by omega)); have hmB : mB (m + 1) = 3 * mB m + 200 := rfl; have hgm := A1q m; refine D1 D2 rfl ?_)
 refine I4 (i := 0) (l' := [tt,ff,ff,ff,ff,ff,ff,ff,ff,ff,ff,ff,ff,ff,ff,ff,ff,ff,ff,ff,ff]) rfl C8 (qM rfl) rfl (by kernel_rfl) rfl rfl ?_
 refine aP 1 rfl (qM rfl) rfl ?_
 refine aP 3 rfl (qM rfl) rfl ?_
 refine aP 4 rfl (O8 rfl rfl (by omega) (by omega)) rfl ?_
 refine aP 6 rfl (qM rfl) rfl ?_
 refine aP 7 rfl (qM rfl) rfl ?_
 refine aL 8 rfl (A4 rfl rfl) rfl ?_
 refine aP 9 rfl (qM rfl) rfl ?_
 refine aP 10 rfl (O8 rfl rfl (by omega) (by omega)) rfl ?_
 refine aP 12 rfl (qM rfl) rfl ?_
 refine aP 13 rfl (qM rfl) rfl ?_
 refine aL 14 rfl (A4 rfl rfl) rfl ?_
 refine aP 15 rfl (qM rfl) rfl ?_
 refine aP 16 rfl (O8 rfl rfl (by omega) (by omega)) rfl ?_
 refine A2 2 ?_
 refine J0 rfl rfl ((A1i _)) rfl rfl rfl ?_
 refine A2 5 ?_
 (have hcall := ih m (by omega) (depth - 1) (.mk 3 []) (p1 + 1) _ pc nc cc _ (hfu.sub (by omega) (A2P 4 (by decide) (by decide))) (by omega) (by omega) (by omega) hx (K5 _ ⟨by omega, by omega⟩) hb (by omega); refine Y6 (l' := [tt,tt,tt,tt,tt,tt,tt,tt,tt,tt,tt,ff,tt,tt,tt,tt,tt,ff,ff,ff,ff]) rfl rfl hcall (Pk.perm (by repeat (first | exact Pk.here | apply Pk.there))) rfl rfl rfl (by repeat (first | exact A9.nil | apply A9.dep (by decide +kernel) | apply A9.im (by decide +kernel) hg0 (by repeat first | exact mH | apply mT) | apply A9.im (by decide +kernel) hg1 (by repeat first | exact mH | apply mT) | apply A9.blk (by decide +kernel) (by repeat (first | exact Pk.here | apply Pk.there)) (by repeat first | exact mH | apply mT))) (fun v Gn outs hlef hh => ?_); obtain ⟨pf, hpf1, hpf2, rfl, ef, cf, rfl, hrf, hsmf, hcf⟩ := hh; obtain ⟨f1, f2, f3, f4, f5, f6, f7, f8, f9, rfl⟩ := hrf.nine; replace hx := hx.mono hlef; replace hb := hb.mono hlef; replace hrt := hrt.mono hlef;)
 refine A2 11 ?_
 (have hcall := ih m (by omega) (depth - 1) (.mk k ks) pf _ pc nc cc _ (hfu.sub (by omega) hfu.1) (by omega) (by omega) (by omega) hx hrt hb (by omega); refine Y6 (l' := [tt,tt,tt,tt,tt,tt,tt,tt,tt,tt,tt,tt,tt,tt,tt,tt,tt,ff,ff,ff,ff]) rfl rfl hcall (Pk.perm (by repeat (first | exact Pk.here | apply Pk.there))) rfl rfl rfl (by repeat (first | exact A9.nil | apply A9.dep (by decide +kernel) | apply A9.im (by decide +kernel) hg0 (by repeat first | exact mH | apply mT) | apply A9.im (by decide +kernel) hg1 (by repeat first | exact mH | apply mT) | apply A9.blk (by decide +kernel) (by repeat (first | exact Pk.here | apply Pk.there)) (by repeat first | exact mH | apply mT))) (fun v Gn outs hleg hh => ?_); obtain ⟨pg, hpg1, hpg2, rfl, eg, cg, rfl, hrg, hsmg, hcg⟩ := hh; obtain ⟨g1, g2, g3, g4, g5, g6, g7, g8, g9, rfl⟩ := hrg.nine; replace hrf := hrf.mono hleg; replace hx := hx.mono hleg; replace hb := hb.mono hleg; replace hrt := hrt.mono hleg;)
 refine A2 17 ?_
 (have hcall := ih m (by omega) (depth - 1) (.mk k ks) pg _ pc nc cc _ (hfu.sub (by omega) hfu.1) (by omega) (by omega) (by omega) hx hrt hb (by omega); refine Y6 (l' := [tt,tt,tt,tt,tt,tt,tt,tt,tt,tt,tt,tt,tt,tt,tt,tt,tt,tt,ff,ff,ff]) rfl rfl hcall (Pk.perm (by repeat (first | exact Pk.here | apply Pk.there))) rfl rfl rfl (by repeat (first | exact A9.nil | apply A9.dep (by decide +kernel) | apply A9.im (by decide +kernel) hg0 (by repeat first | exact mH | apply mT) | apply A9.im (by decide +kernel) hg1 (by repeat first | exact mH | apply mT) | apply A9.blk (by decide +kernel) (by repeat (first | exact Pk.here | apply Pk.there)) (by repeat first | exact mH | apply mT))) (fun v Gn outs hlei hh => ?_); obtain ⟨pi, hpi1, hpi2, rfl, ei, ci, rfl, hri, hsmi, hci⟩ := hh; obtain ⟨i1, i2, i3, i4, i5, i6, i7, i8, i9, rfl⟩ := hri.nine; replace hrf := hrf.mono hlei; replace hrg := hrg.mono hlei; replace hx := hx.mono hlei; replace hb := hb.mono hlei; replace hrt := hrt.mono hlei;)
 refine A2 18 ?_
 (refine D9 rfl (D0 rfl rfl rfl (by omega) (by unfold maxLen; omega) rfl) rfl rfl ?_; rintro _ ⟨b245, rfl⟩)
 refine A2 19 ?_
 refine J0 rfl rfl ((A2r _ _ _ _ _)) rfl rfl rfl ?_
 refine A2 20 ?_
 refine M3 rfl rfl rfl rfl rfl rfl rfl rfl (by decide +kernel) (by repeat first | exact Sw.here | apply Sw.there) (by rfl) ?_
 refine C0 (nS ?_)
 (refine I6 (cs := [f1, f2, f3, f4, f5, f6, f7, f8, f9] ++ ([g1, g2, g3, g4, g5, g6, g7, g8, g9] ++ [i1, i2, i3, i4, i5, i6, i7, i8, i9])) (by repeat (first | exact Pk.here | apply Pk.there)) (fun G9 hle9 hsl9 hno9 => ?_); have hN := B5m (k := 9) (nm := ⟨⟨[]⟩⟩) ⟨by omega, by omega⟩ (hrf.mono hle9) (hrg.mono hle9) (hri.mono hle9) hsl9)
 refine tT (rB ?_)
 refine A0W ?_
 refine I1 (outs := [rd br pb nb cb pi]) (rC rfl (A4 rfl rfl)) (by repeat (first | exact A1.nil | refine A1.cons Pk.here ?_ | refine A1.cons (Pk.there Pk.here) ?_ | refine A1.cons (Pk.there (Pk.there Pk.here)) ?_ | apply A1.drop)) ?_
 (exact ⟨pi, by omega, by omega, rfl, _, _, rfl, hN, by first | exact O5 (by first | assumption | decide) | exact A0x (by decide) (by assumption) (by assumption) (by assumption) | exact S2 (by decide) (by assumption) (by assumption) | exact L3 (by decide) Q1 (by assumption) | exact L3 (by decide) har.small (by assumption) | exact L3 (by decide) Q1 (S2 (by decide) (by assumption) (O5 (by decide))) | exact L3 (by decide) A0y (O5 (by decide)) | assumption, by simp only [E7, H3]; omega⟩)
 refine sQ (qA rfl) rfl (sD (nS (cF rfl (tS (tR ?_)))))
 refine sB (qE rfl rfl) rfl rfl (fun h264 => ?_) (fun h264 => ?_)
 refine D5 ?_
 (have hcall := A3H br pb nb cb bs hnb 0 (p1 + 1) _ (by omega) hb (by have : dB (0 + 1) ≤ 6 := (by decide); omega); refine H5 rfl hcall (Pk.perm (by repeat (first | exact Pk.here | apply Pk.there))) rfl rfl (fun v Gn outs hleD hh => ?_); obtain ⟨pD, hpD1, hpD2, rfl, uD, cuD, rfl, hruD, husD, huhD⟩ := hh; have huaD := huhD.ar; obtain ⟨quD, duD, euD, rfl, _⟩ := hruD.open; have hdBD : dB (0 + 1) ≤ 6 := (by decide); replace hx := hx.mono hleD; replace hb := hb.mono hleD; replace hrt := hrt.mono hleD;)
 refine sE (A6 rfl) rfl (fun b273 => ?_)
 refine H6 ?_
 refine sD (nS (tS ?_))
 (obtain ⟨m, rfl⟩ := hfu.pos (.inl (by omega)); have hmB : mB (m + 1) = 3 * mB m + 200 := rfl; have hgm := A1q m; refine D1 D2 rfl ?_)
 refine I4 (i := 0) (l' := [tt,ff,ff,ff,ff,ff,ff,ff,ff,ff,ff,ff,ff,ff,ff,ff,ff,ff]) rfl C8 (qM rfl) rfl (by kernel_rfl) rfl rfl ?_
 refine aP 1 rfl (qM rfl) rfl ?_
 refine aL 2 rfl (A4 rfl rfl) rfl ?_
 refine aL 3 rfl (A4 rfl rfl) rfl ?_
 refine aP 4 rfl (qM rfl) rfl ?_
 refine aP 5 rfl (O8 rfl rfl (by omega) (by omega)) rfl ?_
 refine aP 7 rfl (qM rfl) rfl ?_
 refine aP 8 rfl (qM rfl) rfl ?_
 refine aP 9 rfl (qM rfl) rfl ?_
 refine aL 10 rfl (A4 rfl rfl) rfl ?_
 refine aP 12 rfl (qM rfl) rfl ?_
 refine aP 13 rfl (O8 rfl rfl (by omega) (by omega)) rfl ?_
 refine A2 6 ?_
 (have hcall := B0P br pb nb cb bs hnb m (ih m (by omega)) (depth - 1) uD (.mk k ks) (pD) _ pc nc cc _ _ (hfu.sub (by omega) hfu.1) (by omega) (by omega) (by omega) hx hruD ⟨huaD, by omega⟩ hrt hb (by omega); refine Y6 (l' := [tt,tt,tt,tt,tt,tt,tt,tt,tt,tt,tt,ff,tt,tt,ff,ff,ff,ff]) rfl rfl hcall (Pk.perm (by repeat (first | exact Pk.here | apply Pk.there))) rfl rfl rfl (by repeat (first | exact A9.nil | apply A9.dep (by decide +kernel) | apply A9.im (by decide +kernel) hg0 (by repeat first | exact mH | apply mT) | apply A9.im (by decide +kernel) hg1 (by repeat first | exact mH | apply mT) | apply A9.blk (by decide +kernel) (by repeat (first | exact Pk.here | apply Pk.there)) (by repeat first | exact mH | apply mT))) (fun v Gn outs hlel hh => ?_); obtain ⟨pl, hpl1, hpl2, rfl, el, cl, rfl, hrl, hsml, hcl⟩ := hh; obtain ⟨l1, l2, l3, l4, l5, l6, l7, l8, l9, rfl⟩ := hrl.nine; replace hruD := hruD.mono hlel; replace hx := hx.mono hlel; replace hb := hb.mono hlel; replace hrt := hrt.mono hlel;)
 refine A2 11 ?_
 (have hcall := A4D br pb nb cb bs hnb uD (pl) _ _ huaD hruD hb (by omega); refine Y6 (l' := [tt,tt,tt,tt,tt,tt,tt,tt,tt,tt,tt,tt,tt,tt,ff,ff,ff,ff]) rfl rfl hcall (Pk.perm (by repeat (first | exact Pk.here | apply Pk.there))) rfl rfl rfl (by repeat (first | exact A9.nil | apply A9.dep (by decide +kernel) | apply A9.im (by decide +kernel) hg0 (by repeat first | exact mH | apply mT) | apply A9.im (by decide +kernel) hg1 (by repeat first | exact mH | apply mT) | apply A9.blk (by decide +kernel) (by repeat (first | exact Pk.here | apply Pk.there)) (by repeat first | exact mH | apply mT))) (fun v Gn outs hleE hh => ?_); obtain ⟨pE, hpE1, hpE2, rfl, uE, cuE, rfl, hruE, huaE, husE, huhE⟩ := hh; obtain ⟨quE, duE, euE, rfl, _⟩ := hruE.open; replace hrl := hrl.mono hleE; replace hx := hx.mono hleE; replace hb := hb.mono hleE; replace hrt := hrt.mono hleE;)
 refine A2 14 ?_
 (have hcall := ih m (by omega) (depth - 1) uE pE _ pc nc cc _ (hfu.sub (by omega) (huhE 4 (huhD.le (by omega)))) (by omega) (by omega) (by omega) hx hruE hb (by omega); refine Y6 (l' := [tt,tt,tt,tt,tt,tt,tt,tt,tt,tt,tt,tt,tt,tt,tt,ff,ff,ff]) rfl rfl hcall (Pk.perm (by repeat (first | exact Pk.here | apply Pk.there))) rfl rfl rfl (by repeat (first | exact A9.nil | apply A9.dep (by decide +kernel) | apply A9.im (by decide +kernel) hg0 (by repeat first | exact mH | apply mT) | apply A9.im (by decide +kernel) hg1 (by repeat first | exact mH | apply mT) | apply A9.blk (by decide +kernel) (by repeat (first | exact Pk.here | apply Pk.there)) (by repeat first | exact mH | apply mT))) (fun v Gn outs hled hh => ?_); obtain ⟨pd, hpd1, hpd2, rfl, ed, cd, rfl, hrd, hsmd, hcd⟩ := hh; obtain ⟨d1, d2, d3, d4, d5, d6, d7, d8, d9, rfl⟩ := hrd.nine; replace hrl := hrl.mono hled; replace hx := hx.mono hled; replace hb := hb.mono hled; replace hrt := hrt.mono hled;)
 refine A2 15 ?_
 (refine D9 rfl (D0 rfl rfl rfl (by omega) (by unfold maxLen; omega) rfl) rfl rfl ?_; rintro _ ⟨b298, rfl⟩)
 refine A2 16 ?_
 refine J0 rfl rfl ((A2r _ _ _ _ _)) rfl rfl rfl ?_
 refine A2 17 ?_
 refine M3 rfl rfl rfl rfl rfl rfl rfl rfl (by decide +kernel) (by repeat first | exact Sw.here | apply Sw.there) (by rfl) ?_
 refine C0 (nS ?_)
 (refine I6 (cs := [l1, l2, l3, l4, l5, l6, l7, l8, l9] ++ [d1, d2, d3, d4, d5, d6, d7, d8, d9]) (by repeat (first | exact Pk.here | apply Pk.there)) (fun G9 hle9 hsl9 hno9 => ?_); have hN := A3Z (k := 6) (nm := ⟨⟨[]⟩⟩) ⟨by omega, by omega⟩ (hrl.mono hle9) (hrd.mono hle9) hsl9)
 refine tT (rB ?_)
 refine A0W ?_
 refine I1 (outs := [rd br pb nb cb pd]) (rC rfl (A4 rfl rfl)) (by repeat (first | exact A1.nil | refine A1.cons Pk.here ?_ | refine A1.cons (Pk.there Pk.here) ?_ | refine A1.cons (Pk.there (Pk.there Pk.here)) ?_ | apply A1.drop)) ?_
 (exact ⟨pd, by omega, by omega, rfl, _, _, rfl, hN, by first | exact O5 (by first | assumption | decide) | exact A0x (by decide) (by assumption) (by assumption) (by assumption) | exact S2 (by decide) (by assumption) (by assumption) | exact L3 (by decide) Q1 (by assumption) | exact L3 (by decide) har.small (by assumption) | exact L3 (by decide) Q1 (S2 (by decide) (by assumption) (O5 (by decide))) | exact L3 (by decide) A0y (O5 (by decide)) | assumption, by simp only [E7, H3]; omega⟩)
 refine sQ (qA rfl) rfl (sD (nS (cF rfl (tS (tR ?_)))))
 refine sB (qE rfl rfl) rfl rfl (fun h317 => ?_) (fun h317 => ?_)
 refine I8 ?_
 refine sP (O8 rfl rfl (by omega) (by omega)) rfl rfl ?_
 (have hpkq := hpk9; obtain ⟨m, rfl⟩ := hfu.pos (.inl (by omega)); have hmB : mB (m + 1) = 3 * mB m + 200 := rfl; have hgm := A1q m; have hcall := ih m (by omega) (depth - 1) (.mk k ks) (p1 + 1) _ pc nc cc _ (hfu.sub (by omega) hfu.1) (by omega) (by omega) (by omega) hx hrt hb (by omega); refine H5 rfl hcall (Pk.perm (by repeat (first | exact Pk.here | apply Pk.there))) rfl rfl (fun v Gn outs hleh hh => ?_); obtain ⟨ph, hph1, hph2, rfl, eh, ch, rfl, hrh, hsmh, hch⟩ := hh; obtain ⟨h1, h2, h3, h4, h5, h6, h7, h8, h9, rfl⟩ := hrh.nine; replace hx := hx.mono hleh; replace hb := hb.mono hleh; replace hrt := hrt.mono hleh;)
 refine E8 rfl ((A2q _ _)) rfl rfl ?_
 (refine K7 (D0 rfl rfl rfl (by omega) (by unfold maxLen; omega) rfl) rfl ?_; rintro _ ⟨b331, rfl⟩)
 refine E8 rfl ((A2r _ _ _ _ _)) rfl rfl ?_
 (refine K7 (D0 rfl rfl rfl (by omega) (by unfold maxLen; omega) rfl) rfl ?_; rintro _ ⟨b333, rfl⟩)
 refine E8 rfl ((A2r _ _ _ _ _)) rfl rfl ?_
 refine H6 ?_
 refine sD (nS ?_)
 (refine I6 (cs := [h1, h2, h3, h4, h5, h6, h7, h8, h9] ++ [.int .i64 2, .string ⟨⟨[]⟩⟩, .int .i64 1, .int .i64 0, .slice none 0 0, .int .i64 0, .slice none 0 0, .int .i64 0, .slice none 0 0]) (by repeat (first | exact Pk.here | apply Pk.there)) (fun G8 hle8 hsl8 hno8 => ?_); have hNi := A3Z (k := 10) (nm := ⟨⟨[]⟩⟩) ⟨by omega, by omega⟩ (hrh.mono hle8) (A16 G8 ⟨⟨[]⟩⟩ 1 (k := 2) ⟨by omega, by omega⟩ ⟨by omega, by omega⟩) hsl8; refine I6 (by repeat (first | exact Pk.here | apply Pk.there)) (fun G9 hle9 hsl9 hno9 => ?_); have hN := A3Y (k := 11) (nm := ⟨⟨[]⟩⟩) ⟨by omega, by omega⟩ (K5 G9 (k := 0) ⟨by omega, by omega⟩) (hNi.mono hle9) hsl9)
 refine tT (rB ?_)
 refine A0W ?_
 refine I1 (outs := [rd br pb nb cb ph]) (rC rfl (A4 rfl rfl)) (by repeat (first | exact A1.nil | refine A1.cons Pk.here ?_ | refine A1.cons (Pk.there Pk.here) ?_ | refine A1.cons (Pk.there (Pk.there Pk.here)) ?_ | apply A1.drop)) ?_
 (exact ⟨ph, by omega, by omega, rfl, _, _, rfl, hN, by first | exact O5 (by first | assumption | decide) | exact A0x (by decide) (by assumption) (by assumption) (by assumption) | exact S2 (by decide) (by assumption) (by assumption) | exact L3 (by decide) Q1 (by assumption) | exact L3 (by decide) har.small (by assumption) | exact L3 (by decide) Q1 (S2 (by decide) (by assumption) (O5 (by decide))) | exact L3 (by decide) A0y (O5 (by decide)) | assumption, by simp only [E7, H3]; omega⟩)
 refine sQ (qA rfl) rfl (sD (nS (cF rfl (tK (O2 ?_)))))
 refine A31 (p1 + 1, Gp) (O9 (by repeat (first | exact H8.nil | refine H8.cons rfl ?_)) (by repeat (first | exact A1.refl | exact A1.nil | refine A1.cons (by repeat (first | exact Pk.here | apply Pk.there)) ?_ | apply A1.drop))) ⟨B8.refl _, by dsimp only; omega, by dsimp only; omega⟩
 refine tK ?_
 refine A31 (p1, G1) (O9 (by repeat (first | exact H8.nil | refine H8.cons rfl ?_)) (by repeat (first | exact A1.refl | exact A1.nil | refine A1.cons (by repeat (first | exact Pk.here | apply Pk.there)) ?_ | apply A1.drop))) ⟨B8.refl _, by dsimp only; omega, by dsimp only; omega⟩
 (rintro ⟨(p2 : Nat), G2⟩ ⟨hle2c, hp2a, hp2b⟩; simp only [] at hle2c hp2a hp2b ⊢; have hcut1 := hp2a; replace hx := hx.mono hle2c; replace hb := hb.mono hle2c; replace hrt := hrt.mono hle2c;)
 refine D5 ?_
 (show J5 _ _ (.block 3 ..) _ _; refine B0Q (fun (x : Nat × IM) => ⟨[(0, .pointer (some ⟨br, 0, none⟩)), (1, .slice pc nc cc), (3, .int .i64 depth), (6, .pointer (some ⟨b3, 0, none⟩)), (8, .pointer (some ⟨b4, 0, none⟩))], [rd br pb nb cb x.1, .blk b4 [.int .i64 0, .string ⟨⟨[]⟩⟩, .int .i64 0, .int .i64 0, .slice none 0 0, .int .i64 0, .slice none 0 0, .int .i64 0, .slice none 0 0], .blk b3 [.int .i64 k, .slice q ks.length c]], x.2⟩) (fun x => B8 G2 x.2 ∧ p2 ≤ x.1 ∧ x.1 ≤ p2 + 2) ?_ ?_)
 refine C3 (tS (tR (sB (qE rfl rfl) rfl rfl (fun h365 => ?_) (fun h365 => ?_))))
 refine F8 ?_
 refine sB (Y2 rfl rfl) rfl rfl (fun h374 => ?_) (fun h374 => ?_)
 refine sQ (qM rfl) rfl (sQ (qM rfl) rfl ?_)
 (have hkk3 : k = 3 := (by omega); refine H5 rfl (T4 _ br pb nb cb (p2) bs 2 hb hnb (by omega)) (Pk.perm (by repeat (first | exact Pk.here | apply Pk.there))) rfl rfl (fun v Gp outs hle377 hh => ?_); obtain ⟨rfl, rfl, j377, rfl, hj377, hk377⟩ := hh; have hpk22 := hj377)
 replace hb := hb.mono hle377
 replace hrt := hrt.mono hle377
 refine sB (qE rfl rfl) rfl rfl (fun h378 => ?_) (fun h378 => ?_)
 refine F8 ?_
 refine E8 rfl ((W3 _)) rfl rfl ?_
 refine sQ (qM rfl) rfl ?_
 refine sP (O8 rfl rfl (by omega) (by omega)) rfl rfl ?_
 (have hkk3q := hkk3; obtain ⟨m, rfl⟩ := hfu.pos (.inl (by omega)); have hmB : mB (m + 1) = 3 * mB m + 200 := rfl; have hgm := A1q m; have hcall := ih m (by omega) (depth - 1) (.mk 2 []) (p2 + 1) _ pc nc cc _ (hfu.sub (by omega) (A2P 4 (by decide) (by decide))) (by omega) (by omega) (by omega) hx (K5 _ ⟨by omega, by omega⟩) hb (by omega); refine H5 rfl hcall (Pk.perm (by repeat (first | exact Pk.here | apply Pk.there))) rfl rfl (fun v Gn outs hlen hh => ?_); obtain ⟨pn, hpn1, hpn2, rfl, en, cn, rfl, hrn, hsmn, hcn⟩ := hh; obtain ⟨n1, n2, n3, n4, n5, n6, n7, n8, n9, rfl⟩ := hrn.nine; replace hx := hx.mono hlen; replace hb := hb.mono hlen; replace hrt := hrt.mono hlen;)
 refine sQ (qM rfl) rfl (sQ (qM rfl) rfl ?_)
 refine E8 rfl ((W3 _)) rfl rfl ?_
 refine sQ (qM rfl) rfl ?_
 refine sP (O8 rfl rfl (by omega) (by omega)) rfl rfl ?_
 (have hcall := ih m (by omega) (depth - 1) (.mk 2 []) pn _ pc nc cc _ (hfu.sub (by omega) (A2P 4 (by decide) (by decide))) (by omega) (by omega) (by omega) hx (K5 _ ⟨by omega, by omega⟩) hb (by omega); refine H5 rfl hcall (Pk.perm (by repeat (first | exact Pk.here | apply Pk.there))) rfl rfl (fun v Gn outs hleo hh => ?_); obtain ⟨po, hpo1, hpo2, rfl, eo, co, rfl, hro, hsmo, hco⟩ := hh; obtain ⟨o1, o2, o3, o4, o5, o6, o7, o8, o9, rfl⟩ := hro.nine; replace hrn := hrn.mono hleo; replace hx := hx.mono hleo; replace hb := hb.mono hleo; replace hrt := hrt.mono hleo;)
 (refine K7 (D0 rfl rfl rfl (by omega) (by unfold maxLen; omega) rfl) rfl ?_; rintro _ ⟨b397, rfl⟩)
 refine E8 rfl ((A2r _ _ _ _ _)) rfl rfl ?_
 refine H6 ?_
 refine sD (nS ?_)
 (refine I6 (cs := [n1, n2, n3, n4, n5, n6, n7, n8, n9] ++ [o1, o2, o3, o4, o5, o6, o7, o8, o9]) (by repeat (first | exact Pk.here | apply Pk.there)) (fun G9 hle9 hsl9 hno9 => ?_); have hN := A3Z (k := 8) (nm := ⟨⟨[]⟩⟩) ⟨by omega, by omega⟩ (hrn.mono hle9) (hro.mono hle9) hsl9)
 refine tT (rS (rB ?_))
 refine A0W ?_
 refine I1 (outs := [rd br pb nb cb po]) (rC rfl (A4 rfl rfl)) (by repeat (first | exact A1.nil | refine A1.cons Pk.here ?_ | refine A1.cons (Pk.there Pk.here) ?_ | refine A1.cons (Pk.there (Pk.there Pk.here)) ?_ | apply A1.drop)) ?_
 (exact ⟨po, by omega, by omega, rfl, _, _, rfl, hN, by first | exact O5 (by first | assumption | decide) | exact A0x (by decide) (by assumption) (by assumption) (by assumption) | exact S2 (by decide) (by assumption) (by assumption) | exact L3 (by decide) Q1 (by assumption) | exact L3 (by decide) har.small (by assumption) | exact L3 (by decide) Q1 (S2 (by decide) (by assumption) (O5 (by decide))) | exact L3 (by decide) A0y (O5 (by decide)) | assumption, by simp only [E7, H3]; omega⟩)
 refine O0 ?_
 refine A0W ?_
 refine I1 (outs := [rd br pb nb cb (p2 + 1)]) (rC rfl (A4 rfl rfl)) (by repeat (first | exact A1.nil | refine A1.cons Pk.here ?_ | refine A1.cons (Pk.there Pk.here) ?_ | refine A1.cons (Pk.there (Pk.there Pk.here)) ?_ | apply A1.drop)) ?_
 (exact ⟨(p2 + 1), by omega, by omega, rfl, _, _, rfl, A16 _ _ _ ⟨by omega, by omega⟩ (by first | exact ⟨by omega, by omega⟩ | exact hkn), by first | exact O5 (by first | assumption | decide) | exact A0x (by decide) (by assumption) (by assumption) (by assumption) | exact S2 (by decide) (by assumption) (by assumption) | exact L3 (by decide) Q1 (by assumption) | exact L3 (by decide) har.small (by assumption) | exact L3 (by decide) Q1 (S2 (by decide) (by assumption) (O5 (by decide))) | exact L3 (by decide) A0y (O5 (by decide)) | assumption, by simp only [E7, H3]; omega⟩)
 refine U9 ?_
 refine A0W ?_
 refine I1 (outs := [rd br pb nb cb p2]) (rC rfl (A4 rfl rfl)) (by repeat (first | exact A1.nil | refine A1.cons Pk.here ?_ | refine A1.cons (Pk.there Pk.here) ?_ | refine A1.cons (Pk.there (Pk.there Pk.here)) ?_ | apply A1.drop)) ?_
 (exact ⟨p2, by omega, by omega, rfl, _, _, rfl, A16 _ _ _ ⟨by omega, by omega⟩ (by first | exact ⟨by omega, by omega⟩ | exact hkn), by first | exact O5 (by first | assumption | decide) | exact A0x (by decide) (by assumption) (by assumption) (by assumption) | exact S2 (by decide) (by assumption) (by assumption) | exact L3 (by decide) Q1 (by assumption) | exact L3 (by decide) har.small (by assumption) | exact L3 (by decide) Q1 (S2 (by decide) (by assumption) (O5 (by decide))) | exact L3 (by decide) A0y (O5 (by decide)) | assumption, by simp only [E7, H3]; omega⟩)
 refine sQ (qA rfl) rfl (sD (nS (cF rfl (tS (tR ?_)))))
 refine sB (qE rfl rfl) rfl rfl (fun h453 => ?_) (fun h453 => ?_)
 refine sQ (qA rfl) rfl (sD (nS (qT rfl (tS ?_))))
 (have hk45 : k = 4 ∨ k = 5 := (by omega); have hl2 := hops hk45; obtain ⟨m, rfl⟩ := hfu.pos (.inr hk45); have hmB : mB (m + 1) = 3 * mB m + 200 := rfl; have hgm := A1q m; obtain ⟨es9, hsl, hkl⟩ := hrt.kidsM; obtain ⟨b0, o0, q0, d0, hp0, hat0, hre0, hg0⟩ := hsl.kidTy hkl (i := 0) (by omega) (by omega); obtain ⟨b1, o1, q1, d1, hp1, hat1, hre1, hg1⟩ := hsl.kidTy hkl (i := 1) (by omega) (by omega); cases hp0; cases hp1; have hmem0 := List.getElem_mem (l := ks) (n := 0) (by omega); have hmem1 := List.getElem_mem (l := ks) (n := 1) (by omega); refine D1 D2 rfl ?_)
 refine I4 (i := 0) (l' := [tt,ff,ff,ff,ff,ff,ff,ff,ff,ff,ff,ff,ff,ff]) rfl C8 (qM rfl) rfl (by kernel_rfl) rfl rfl ?_
 refine aP 1 rfl (qM rfl) rfl ?_
 refine aP 2 rfl (B5 rfl) rfl ?_
 refine aL 3 rfl (C7 rfl rfl) rfl ?_
 refine aP 4 rfl (B4 (j := 0) rfl rfl rfl (by omega)) rfl ?_
 refine aL 5 rfl (A3 rfl rfl (hat0 _) rfl) rfl ?_
 refine aP 6 rfl (B5 rfl) rfl ?_
 refine aL 7 rfl (C7 rfl rfl) rfl ?_
 refine aP 8 rfl (B4 (j := 1) rfl rfl rfl (by omega)) rfl ?_
 refine aL 9 rfl (A3 rfl rfl (hat1 _) rfl) rfl ?_
 refine aP 10 rfl (qM rfl) rfl ?_
 refine aP 11 rfl (O8 rfl rfl (by omega) (by omega)) rfl ?_
 refine A2 12 ?_
 (have hcall := B0P br pb nb cb bs hnb m (ih m (by omega)) (depth - 1) ks[0] ks[1] (p2) _ pc nc cc _ _ (hfu.kid hmem1) (by omega) (by omega) (by omega) hx hre0 ⟨har.kid _ hmem0, by have := A52 (k := k) hmem0; omega⟩ hre1 hb (by omega); refine Y6 (l' := [tt,tt,tt,tt,tt,tt,tt,tt,tt,tt,tt,tt,tt,ff]) rfl rfl hcall (Pk.perm (by repeat (first | exact Pk.here | apply Pk.there))) rfl rfl rfl (by repeat (first | exact A9.nil | apply A9.dep (by decide +kernel) | apply A9.im (by decide +kernel) hg0 (by repeat first | exact mH | apply mT) | apply A9.im (by decide +kernel) hg1 (by repeat first | exact mH | apply mT) | apply A9.blk (by decide +kernel) (by repeat (first | exact Pk.here | apply Pk.there)) (by repeat first | exact mH | apply mT))) (fun v Gn outs hlek hh => ?_); obtain ⟨pk, hpk1, hpk2, rfl, ek, ck, rfl, hrk, hsmk, hck⟩ := hh; obtain ⟨k1, k2, k3, k4, k5, k6, k7, k8, k9, rfl⟩ := hrk.nine; replace hx := hx.mono hlek; replace hb := hb.mono hlek; replace hrt := hrt.mono hlek;)
 refine A2 13 ?_
 refine M3 rfl rfl rfl rfl rfl hrk.one rfl rfl (by kernel_rfl) (by repeat first | exact Sw.here | apply Sw.there) (by rfl) ?_
 refine C0 (nS (tT (rB ?_)))
 refine A0W ?_
 refine I1 (outs := [rd br pb nb cb pk]) (rC rfl (A4 rfl rfl)) (by repeat (first | exact A1.nil | refine A1.cons Pk.here ?_ | refine A1.cons (Pk.there Pk.here) ?_ | refine A1.cons (Pk.there (Pk.there Pk.here)) ?_ | apply A1.drop)) ?_
 (exact ⟨pk, by omega, by omega, rfl, _, _, rfl, hrk, hsmk, by omega⟩)
 refine sQ (qA rfl) rfl (sD (nS (cF rfl (tS (tR ?_)))))
 refine sB (qE rfl rfl) rfl rfl (fun h489 => ?_) (fun h489 => ?_)
 refine sQ (qA rfl) rfl (sD (nS (qT rfl (tS ?_))))
 (have hk45 : k = 4 ∨ k = 5 := (by omega); have hl2 := hops hk45; obtain ⟨m, rfl⟩ := hfu.pos (.inr hk45); have hmB : mB (m + 1) = 3 * mB m + 200 := rfl; have hgm := A1q m; obtain ⟨es9, hsl, hkl⟩ := hrt.kidsM; obtain ⟨b0, o0, q0, d0, hp0, hat0, hre0, hg0⟩ := hsl.kidTy hkl (i := 0) (by omega) (by omega); obtain ⟨b1, o1, q1, d1, hp1, hat1, hre1, hg1⟩ := hsl.kidTy hkl (i := 1) (by omega) (by omega); cases hp0; cases hp1; have hmem0 := List.getElem_mem (l := ks) (n := 0) (by omega); have hmem1 := List.getElem_mem (l := ks) (n := 1) (by omega); refine D1 D2 rfl ?_)
 refine I4 (i := 0) (l' := [tt,ff,ff,ff,ff,ff,ff,ff,ff,ff,ff,ff,ff,ff,ff,ff,ff,ff,ff,ff,ff]) rfl C8 (qM rfl) rfl (by kernel_rfl) rfl rfl ?_
 refine aP 1 rfl (qM rfl) rfl ?_
 refine aP 2 rfl (B5 rfl) rfl ?_
 refine aL 3 rfl (C7 rfl rfl) rfl ?_
 refine aP 4 rfl (B4 (j := 0) rfl rfl rfl (by omega)) rfl ?_
 refine aL 5 rfl (A3 rfl rfl (hat0 _) rfl) rfl ?_
 refine aP 6 rfl (qM rfl) rfl ?_
 refine aP 7 rfl (O8 rfl rfl (by omega) (by omega)) rfl ?_
 refine aP 9 rfl (qM rfl) rfl ?_
 refine aP 10 rfl (qM rfl) rfl ?_
 refine aP 11 rfl (B5 rfl) rfl ?_
 refine aL 12 rfl (C7 rfl rfl) rfl ?_
 refine aP 13 rfl (B4 (j := 1) rfl rfl rfl (by omega)) rfl ?_
 refine aL 14 rfl (A3 rfl rfl (hat1 _) rfl) rfl ?_
 refine aP 15 rfl (qM rfl) rfl ?_
 refine aP 16 rfl (O8 rfl rfl (by omega) (by omega)) rfl ?_
 refine A2 8 ?_
 (have hcall := ih m (by omega) (depth - 1) ks[0] p2 _ pc nc cc _ (hfu.kid hmem0) (by omega) (by omega) (by omega) hx hre0 hb (by omega); refine Y6 (l' := [tt,tt,tt,tt,tt,tt,tt,tt,tt,tt,tt,tt,tt,tt,tt,tt,tt,ff,ff,ff,ff]) rfl rfl hcall (Pk.perm (by repeat (first | exact Pk.here | apply Pk.there))) rfl rfl rfl (by repeat (first | exact A9.nil | apply A9.dep (by decide +kernel) | apply A9.im (by decide +kernel) hg0 (by repeat first | exact mH | apply mT) | apply A9.im (by decide +kernel) hg1 (by repeat first | exact mH | apply mT) | apply A9.blk (by decide +kernel) (by repeat (first | exact Pk.here | apply Pk.there)) (by repeat first | exact mH | apply mT))) (fun v Gn outs hles hh => ?_); obtain ⟨ps, hps1, hps2, rfl, es, cs, rfl, hrs, hsms, hcs⟩ := hh; obtain ⟨s1, s2, s3, s4, s5, s6, s7, s8, s9, rfl⟩ := hrs.nine; replace hre1 := hre1.mono hles; replace hx := hx.mono hles; replace hb := hb.mono hles; replace hrt := hrt.mono hles;)
 refine A2 17 ?_
 (have hcall := ih m (by omega) (depth - 1) ks[1] ps _ pc nc cc _ (hfu.kid hmem1) (by omega) (by omega) (by omega) hx hre1 hb (by omega); refine Y6 (l' := [tt,tt,tt,tt,tt,tt,tt,tt,tt,tt,tt,tt,tt,tt,tt,tt,tt,tt,ff,ff,ff]) rfl rfl hcall (Pk.perm (by repeat (first | exact Pk.here | apply Pk.there))) rfl rfl rfl (by repeat (first | exact A9.nil | apply A9.dep (by decide +kernel) | apply A9.im (by decide +kernel) hg0 (by repeat first | exact mH | apply mT) | apply A9.im (by decide +kernel) hg1 (by repeat first | exact mH | apply mT) | apply A9.blk (by decide +kernel) (by repeat (first | exact Pk.here | apply Pk.there)) (by repeat first | exact mH | apply mT))) (fun v Gn outs hlew hh => ?_); obtain ⟨pw, hpw1, hpw2, rfl, ew, cw, rfl, hrw, hsmw, hcw⟩ := hh; obtain ⟨w1, w2, w3, w4, w5, w6, w7, w8, w9, rfl⟩ := hrw.nine; replace hrs := hrs.mono hlew; replace hx := hx.mono hlew; replace hb := hb.mono hlew; replace hrt := hrt.mono hlew;)
 refine A2 18 ?_
 (refine D9 rfl (D0 rfl rfl rfl (by omega) (by unfold maxLen; omega) rfl) rfl rfl ?_; rintro _ ⟨b517, rfl⟩)
 refine A2 19 ?_
 refine J0 rfl rfl ((A2r _ _ _ _ _)) rfl rfl rfl ?_
 refine A2 20 ?_
 refine M3 rfl rfl rfl rfl rfl rfl rfl rfl (by decide +kernel) (by repeat first | exact Sw.here | apply Sw.there) (by rfl) ?_
 refine C0 (nS ?_)
 (refine I6 (cs := [s1, s2, s3, s4, s5, s6, s7, s8, s9] ++ [w1, w2, w3, w4, w5, w6, w7, w8, w9]) (by repeat (first | exact Pk.here | apply Pk.there)) (fun G9 hle9 hsl9 hno9 => ?_); have hN := A3Z (k := 10) (nm := ⟨⟨[]⟩⟩) ⟨by omega, by omega⟩ (hrs.mono hle9) (hrw.mono hle9) hsl9)
 refine tT (rB ?_)
 refine A0W ?_
 refine I1 (outs := [rd br pb nb cb pw]) (rC rfl (A4 rfl rfl)) (by repeat (first | exact A1.nil | refine A1.cons Pk.here ?_ | refine A1.cons (Pk.there Pk.here) ?_ | refine A1.cons (Pk.there (Pk.there Pk.here)) ?_ | apply A1.drop)) ?_
 (exact ⟨pw, by omega, by omega, rfl, _, _, rfl, hN, by first | exact O5 (by first | assumption | decide) | exact A0x (by decide) (by assumption) (by assumption) (by assumption) | exact S2 (by decide) (by assumption) (by assumption) | exact L3 (by decide) Q1 (by assumption) | exact L3 (by decide) har.small (by assumption) | exact L3 (by decide) Q1 (S2 (by decide) (by assumption) (O5 (by decide))) | exact L3 (by decide) A0y (O5 (by decide)) | assumption, by simp only [E7, H3]; omega⟩)
 refine sQ (qA rfl) rfl (sD (nS (cF rfl (tS (tR ?_)))))
 refine sB (qE rfl rfl) rfl rfl (fun h536 => ?_) (fun h536 => ?_)
 refine F8 ?_
 refine sB (Y2 rfl rfl) rfl rfl (fun h545 => ?_) (fun h545 => ?_)
 refine sQ (qM rfl) rfl (sQ (qM rfl) rfl ?_)
 (have hkk1 : k = 1 := (by omega); refine H5 rfl (T4 _ br pb nb cb (p2) bs 3 hb hnb (by omega)) (Pk.perm (by repeat (first | exact Pk.here | apply Pk.there))) rfl rfl (fun v Gp outs hle548 hh => ?_); obtain ⟨rfl, rfl, j548, rfl, hj548, hk548⟩ := hh; have hpk23 := hj548)
 replace hb := hb.mono hle548
 replace hrt := hrt.mono hle548
 refine sB (qE rfl rfl) rfl rfl (fun h549 => ?_) (fun h549 => ?_)
 refine D8 ?_
 (have hcall := A3H br pb nb cb bs hnb 1 (p2 + 1) _ (by omega) hb (by have : dB (1 + 1) ≤ 6 := (by decide); omega); refine H5 rfl hcall (Pk.perm (by repeat (first | exact Pk.here | apply Pk.there))) rfl rfl (fun v Gn outs hleF hh => ?_); obtain ⟨pF, hpF1, hpF2, rfl, uF, cuF, rfl, hruF, husF, huhF⟩ := hh; have huaF := huhF.ar; obtain ⟨quF, duF, euF, rfl, _⟩ := hruF.open; have hdBF : dB (1 + 1) ≤ 6 := (by decide); replace hx := hx.mono hleF; replace hb := hb.mono hleF; replace hrt := hrt.mono hleF;)
 refine sQ (qM rfl) rfl ?_
 refine sP (O8 rfl rfl (by omega) (by omega)) rfl rfl ?_
 (obtain ⟨m, rfl⟩ := hfu.pos (.inl (by omega)); have hmB : mB (m + 1) = 3 * mB m + 200 := rfl; have hgm := A1q m; have hcall := ih m (by omega) (depth - 1) uF pF _ pc nc cc _ (hfu.sub (by omega) (huhF.le (by omega))) (by omega) (by omega) (by omega) hx hruF hb (by omega); refine H5 rfl hcall (Pk.perm (by repeat (first | exact Pk.here | apply Pk.there))) rfl rfl (fun v Gn outs hlex hh => ?_); obtain ⟨px, hpx1, hpx2, rfl, ex, cx, rfl, hrx, hsmx, hcx⟩ := hh; obtain ⟨x1, x2, x3, x4, x5, x6, x7, x8, x9, rfl⟩ := hrx.nine; replace hx := hx.mono hlex; replace hb := hb.mono hlex; replace hrt := hrt.mono hlex;)
 refine sS rfl rfl rfl rfl hrx.one rfl ?_
 refine sD (nS (tT (rS (rB ?_))))
 refine A0W ?_
 refine I1 (outs := [rd br pb nb cb px]) (rC rfl (A4 rfl rfl)) (by repeat (first | exact A1.nil | refine A1.cons Pk.here ?_ | refine A1.cons (Pk.there Pk.here) ?_ | refine A1.cons (Pk.there (Pk.there Pk.here)) ?_ | apply A1.drop)) ?_
 (exact ⟨px, by omega, by omega, rfl, _, _, rfl, hrx, hsmx, by omega⟩)
 refine D8 ?_
 (refine H5 rfl (T4 _ br pb nb cb (p2 + 1) bs 3 hb hnb (by omega)) (Pk.perm (by repeat (first | exact Pk.here | apply Pk.there))) rfl rfl (fun v Gp outs hle581 hh => ?_); obtain ⟨rfl, rfl, j581, rfl, hj581, hk581⟩ := hh; have hpk21 := hj581)
 replace hb := hb.mono hle581
 replace hrt := hrt.mono hle581
 refine sB (qE rfl rfl) rfl rfl (fun h582 => ?_) (fun h582 => ?_)
 refine sD (nS (qT rfl (tS (tR ?_))))
 refine E8 rfl ((W1 _)) rfl rfl ?_
 refine sQ (Q9 rfl rfl) rfl ?_
 (refine K7 (D0 rfl rfl rfl (by omega) (by unfold maxLen; omega) rfl) rfl ?_; rintro _ ⟨b590, rfl⟩)
 refine sQ (Q9 rfl rfl) rfl (H6 ?_)
 refine sD (nS ?_)
 (refine I6 (cs := [.int .i64 4, .string ⟨⟨[]⟩⟩, .int .i64 0, .int .i64 0, .slice none 0 0, .int .i64 0, .slice none 0 0, .int .i64 0, .slice none 0 0]) (by repeat (first | exact Pk.here | apply Pk.there)) (fun G9 hle9 hsl9 hno9 => ?_); have hN := A3Y (k := 13) (nm := ⟨⟨[]⟩⟩) ⟨by omega, by omega⟩ (A0O _) (A16 G9 ⟨⟨[]⟩⟩ 0 (k := 4) ⟨by omega, by omega⟩ ⟨by omega, by omega⟩) hsl9)
 refine tT (rB ?_)
 refine A0W ?_
 refine I1 (outs := [rd br pb nb cb (p2 + 1 + 1)]) (rC rfl (A4 rfl rfl)) (by repeat (first | exact A1.nil | refine A1.cons Pk.here ?_ | refine A1.cons (Pk.there Pk.here) ?_ | refine A1.cons (Pk.there (Pk.there Pk.here)) ?_ | apply A1.drop)) ?_
 (exact ⟨(p2 + 1 + 1), by omega, by omega, rfl, _, _, rfl, hN, by first | exact O5 (by first | assumption | decide) | exact A0x (by decide) (by assumption) (by assumption) (by assumption) | exact S2 (by decide) (by assumption) (by assumption) | exact L3 (by decide) Q1 (by assumption) | exact L3 (by decide) har.small (by assumption) | exact L3 (by decide) Q1 (S2 (by decide) (by assumption) (O5 (by decide))) | exact L3 (by decide) A0y (O5 (by decide)) | assumption, by simp only [E7, H3]; omega⟩)
 refine sD (nS (cF rfl (tK (O2 ?_))))
 refine A31 (p2 + 1 + 1, Gp) (O9 (by repeat (first | exact H8.nil | refine H8.cons rfl ?_)) (by repeat (first | exact A1.refl | exact A1.nil | refine A1.cons (by repeat (first | exact Pk.here | apply Pk.there)) ?_ | apply A1.drop))) ⟨B8.refl _, by dsimp only; omega, by dsimp only; omega⟩
 refine J4 ?_
 (have hkk1 : k = 1 := (by omega); refine H5 rfl (T4 _ br pb nb cb (p2) bs 3 hb hnb (by omega)) (Pk.perm (by repeat (first | exact Pk.here | apply Pk.there))) rfl rfl (fun v Gp outs hle620 hh => ?_); obtain ⟨rfl, rfl, j620, rfl, hj620, hk620⟩ := hh; have hpk23 := hj620)
 replace hb := hb.mono hle620
 replace hrt := hrt.mono hle620
 refine sB (qE rfl rfl) rfl rfl (fun h621 => ?_) (fun h621 => ?_)
 refine sD (nS (qT rfl (tS (tR ?_))))
 refine E8 rfl ((W1 _)) rfl rfl ?_
 refine sQ (Q9 rfl rfl) rfl ?_
 (refine K7 (D0 rfl rfl rfl (by omega) (by unfold maxLen; omega) rfl) rfl ?_; rintro _ ⟨b629, rfl⟩)
 refine sQ (Q9 rfl rfl) rfl (H6 ?_)
 refine sD (nS ?_)
 (refine I6 (cs := [.int .i64 4, .string ⟨⟨[]⟩⟩, .int .i64 0, .int .i64 0, .slice none 0 0, .int .i64 0, .slice none 0 0, .int .i64 0, .slice none 0 0]) (by repeat (first | exact Pk.here | apply Pk.there)) (fun G9 hle9 hsl9 hno9 => ?_); have hN := A3Y (k := 13) (nm := ⟨⟨[]⟩⟩) ⟨by omega, by omega⟩ (A0O _) (A16 G9 ⟨⟨[]⟩⟩ 0 (k := 4) ⟨by omega, by omega⟩ ⟨by omega, by omega⟩) hsl9)
 refine tT (rB ?_)
 refine A0W ?_
 refine I1 (outs := [rd br pb nb cb (p2 + 1)]) (rC rfl (A4 rfl rfl)) (by repeat (first | exact A1.nil | refine A1.cons Pk.here ?_ | refine A1.cons (Pk.there Pk.here) ?_ | refine A1.cons (Pk.there (Pk.there Pk.here)) ?_ | apply A1.drop)) ?_
 (exact ⟨(p2 + 1), by omega, by omega, rfl, _, _, rfl, hN, by first | exact O5 (by first | assumption | decide) | exact A0x (by decide) (by assumption) (by assumption) (by assumption) | exact S2 (by decide) (by assumption) (by assumption) | exact L3 (by decide) Q1 (by assumption) | exact L3 (by decide) har.small (by assumption) | exact L3 (by decide) Q1 (S2 (by decide) (by assumption) (O5 (by decide))) | exact L3 (by decide) A0y (O5 (by decide)) | assumption, by simp only [E7, H3]; omega⟩)
 refine sD (nS (cF rfl (tK (O2 ?_))))
 refine A31 (p2 + 1, Gp) (O9 (by repeat (first | exact H8.nil | refine H8.cons rfl ?_)) (by repeat (first | exact A1.refl | exact A1.nil | refine A1.cons (by repeat (first | exact Pk.here | apply Pk.there)) ?_ | apply A1.drop))) ⟨B8.refl _, by dsimp only; omega, by dsimp only; omega⟩
 refine sQ (qA rfl) rfl (sD (nS (cF rfl (tK (O2 ?_)))))
 refine A31 (p2, G2) (O9 (by repeat (first | exact H8.nil | refine H8.cons rfl ?_)) (by repeat (first | exact A1.refl | exact A1.nil | refine A1.cons (by repeat (first | exact Pk.here | apply Pk.there)) ?_ | apply A1.drop))) ⟨B8.refl _, by dsimp only; omega, by dsimp only; omega⟩
 (have hq := hcut1; rintro ⟨(p5 : Nat), G5⟩ ⟨hle5c, hp5a, hp5b⟩; simp only [] at hle5c hp5a hp5b ⊢; have hcut2 := hp5a; replace hx := hx.mono hle5c; replace hb := hb.mono hle5c; replace hrt := hrt.mono hle5c;)
 refine tS (tS (tR (sQ (qM rfl) rfl ?_)))
 refine sB (Y2 rfl rfl) rfl rfl (fun h658 => ?_) (fun h658 => ?_)
 refine sQ (qM rfl) rfl (sQ (qM rfl) rfl ?_)
 (refine H5 rfl (T4 _ br pb nb cb (p5) bs 2 hb hnb (by omega)) (Pk.perm (by repeat (first | exact Pk.here | apply Pk.there))) rfl rfl (fun v Gp outs hle661 hh => ?_); obtain ⟨rfl, rfl, j661, rfl, hj661, hk661⟩ := hh; have hpk5 := hj661)
 replace hb := hb.mono hle661
 replace hrt := hrt.mono hle661
 refine sB (qE rfl rfl) rfl rfl (fun h662 => ?_) (fun h662 => ?_)
 refine D8 ?_
 refine E8 rfl ((W3 _)) rfl rfl ?_
 (have hz2 : H4 (.mk 2 []) = 0 := rfl; have hcall := A4D br pb nb cb bs hnb (.mk 2 []) (p5 + 1) _ _ (N1 (by decide) (by decide)) (K5 _ ⟨by omega, by omega⟩) hb (by omega); refine H5 rfl hcall (Pk.perm (by repeat (first | exact Pk.here | apply Pk.there))) rfl rfl (fun v Gn outs hleG hh => ?_); obtain ⟨pG, hpG1, hpG2, rfl, uG, cuG, rfl, hruG, huaG, husG, huhG⟩ := hh; obtain ⟨quG, duG, euG, rfl, _⟩ := hruG.open; replace hx := hx.mono hleG; replace hb := hb.mono hleG; replace hrt := hrt.mono hleG;)
 refine sQ (qM rfl) rfl ?_
 refine sP (O8 rfl rfl (by omega) (by omega)) rfl rfl ?_
 (obtain ⟨m, rfl⟩ := hfu.pos (.inl (by omega)); have hmB : mB (m + 1) = 3 * mB m + 200 := rfl; have hgm := A1q m; have hcall := ih m (by omega) (depth - 1) uG pG _ pc nc cc _ (hfu.sub (by omega) (huhG 4 (A2P 4 (by decide) (by decide)))) (by omega) (by omega) (by omega) hx hruG hb (by omega); refine H5 rfl hcall (Pk.perm (by repeat (first | exact Pk.here | apply Pk.there))) rfl rfl (fun v Gn outs hley hh => ?_); obtain ⟨py, hpy1, hpy2, rfl, ey, cy, rfl, hry, hsmy, hcy⟩ := hh; obtain ⟨y1, y2, y3, y4, y5, y6, y7, y8, y9, rfl⟩ := hry.nine; replace hx := hx.mono hley; replace hb := hb.mono hley; replace hrt := hrt.mono hley;)
 refine sQ (qM rfl) rfl (sQ (qM rfl) rfl ?_)
 refine E8 rfl ((W3 _)) rfl rfl ?_
 refine sQ (qM rfl) rfl ?_
 refine sP (O8 rfl rfl (by omega) (by omega)) rfl rfl ?_
 (have hcall := ih m (by omega) (depth - 1) (.mk 2 []) py _ pc nc cc _ (hfu.sub (by omega) (A2P 4 (by decide) (by decide))) (by omega) (by omega) (by omega) hx (K5 _ ⟨by omega, by omega⟩) hb (by omega); refine H5 rfl hcall (Pk.perm (by repeat (first | exact Pk.here | apply Pk.there))) rfl rfl (fun v Gn outs hlec hh => ?_); obtain ⟨pc, hpc1, hpc2, rfl, ec, cc, rfl, hrc, hsmc, hcc⟩ := hh; obtain ⟨c1, c2, c3, c4, c5, c6, c7, c8, c9, rfl⟩ := hrc.nine; replace hry := hry.mono hlec; replace hx := hx.mono hlec; replace hb := hb.mono hlec; replace hrt := hrt.mono hlec;)
 (refine K7 (D0 rfl rfl rfl (by omega) (by unfold maxLen; omega) rfl) rfl ?_; rintro _ ⟨b683, rfl⟩)
 refine E8 rfl ((A2r _ _ _ _ _)) rfl rfl ?_
 refine H6 ?_
 refine sD (nS ?_)
 (refine I6 (cs := [y1, y2, y3, y4, y5, y6, y7, y8, y9] ++ [c1, c2, c3, c4, c5, c6, c7, c8, c9]) (by repeat (first | exact Pk.here | apply Pk.there)) (fun G9 hle9 hsl9 hno9 => ?_); have hN := A3Z (k := 7) (nm := ⟨⟨[]⟩⟩) ⟨by omega, by omega⟩ (hry.mono hle9) (hrc.mono hle9) hsl9)
 refine tT (rS ?_)
 refine I1 (outs := [rd br pb nb cb pc]) (rC rfl (A4 rfl rfl)) (by repeat (first | exact A1.nil | refine A1.cons Pk.here ?_ | refine A1.cons (Pk.there Pk.here) ?_ | refine A1.cons (Pk.there (Pk.there Pk.here)) ?_ | apply A1.drop)) ?_
 (exact ⟨pc, by omega, by omega, rfl, _, _, rfl, hN, by first | exact O5 (by first | assumption | decide) | exact A0x (by decide) (by assumption) (by assumption) (by assumption) | exact S2 (by decide) (by assumption) (by assumption) | exact L3 (by decide) Q1 (by assumption) | exact L3 (by decide) har.small (by assumption) | exact L3 (by decide) Q1 (S2 (by decide) (by assumption) (O5 (by decide))) | exact L3 (by decide) A0y (O5 (by decide)) | assumption, by simp only [E7, H3]; omega⟩)
 refine D8 ?_
 (refine K7 (D0 rfl rfl rfl (by omega) (by unfold maxLen; omega) rfl) rfl ?_; rintro _ ⟨b702, rfl⟩)
 (refine U1 (by repeat (first | exact Pk.here | apply Pk.there)) (fun G4 hle4 hsl4 _ => ?_); refine H5 rfl (Y7 G4 br pb nb cb (p5 + 1) bs _ _ _ _ (hb.mono hle4) hnb (by omega) hsl4 (by decide)) (Pk.perm (by repeat (first | exact Pk.here | apply Pk.there))) rfl rfl (fun v G7 outs hle7 hh => ?_); obtain ⟨rfl, rfl, hv⟩ := hh; obtain ⟨kn, rfl, hkn⟩ : ∃ k, v = .int .i64 k ∧ E9 k := (by simp only [List.mem_cons, List.not_mem_nil, or_false] at hv; rcases hv with rfl | rfl | rfl | rfl | rfl <;> exact ⟨_, rfl, by unfold E9; omega⟩))
 refine E8 rfl ((A2q _ _)) rfl rfl ?_
 refine H6 ?_
 refine sD (nS (tT ?_))
 refine I1 (outs := [rd br pb nb cb (p5 + 1 + 1)]) (rC rfl (A4 rfl rfl)) (by repeat (first | exact A1.nil | refine A1.cons Pk.here ?_ | refine A1.cons (Pk.there Pk.here) ?_ | refine A1.cons (Pk.there (Pk.there Pk.here)) ?_ | apply A1.drop)) ?_
 (exact ⟨(p5 + 1 + 1), by omega, by omega, rfl, _, _, rfl, A16 _ _ _ ⟨by omega, by omega⟩ (by first | exact ⟨by omega, by omega⟩ | exact hkn), by first | exact O5 (by first | assumption | decide) | exact A0x (by decide) (by assumption) (by assumption) (by assumption) | exact S2 (by decide) (by assumption) (by assumption) | exact L3 (by decide) Q1 (by assumption) | exact L3 (by decide) har.small (by assumption) | exact L3 (by decide) Q1 (S2 (by decide) (by assumption) (O5 (by decide))) | exact L3 (by decide) A0y (O5 (by decide)) | assumption, by simp only [E7, H3]; omega⟩)
 refine J4 ?_
 (refine K7 (D0 rfl rfl rfl (by omega) (by unfold maxLen; omega) rfl) rfl ?_; rintro _ ⟨b724, rfl⟩)
 (refine U1 (by repeat (first | exact Pk.here | apply Pk.there)) (fun G4 hle4 hsl4 _ => ?_); refine H5 rfl (Y7 G4 br pb nb cb p5 bs _ _ _ _ (hb.mono hle4) hnb (by omega) hsl4 (by decide)) (Pk.perm (by repeat (first | exact Pk.here | apply Pk.there))) rfl rfl (fun v G7 outs hle7 hh => ?_); obtain ⟨rfl, rfl, hv⟩ := hh; obtain ⟨kn, rfl, hkn⟩ : ∃ k, v = .int .i64 k ∧ E9 k := (by simp only [List.mem_cons, List.not_mem_nil, or_false] at hv; rcases hv with rfl | rfl | rfl | rfl | rfl <;> exact ⟨_, rfl, by unfold E9; omega⟩))
 refine E8 rfl ((A2q _ _)) rfl rfl ?_
 refine H6 ?_
 refine sD (nS (tT ?_))
 refine I1 (outs := [rd br pb nb cb (p5 + 1)]) (rC rfl (A4 rfl rfl)) (by repeat (first | exact A1.nil | refine A1.cons Pk.here ?_ | refine A1.cons (Pk.there Pk.here) ?_ | refine A1.cons (Pk.there (Pk.there Pk.here)) ?_ | apply A1.drop)) ?_
 (exact ⟨(p5 + 1), by omega, by omega, rfl, _, _, rfl, A16 _ _ _ ⟨by omega, by omega⟩ (by first | exact ⟨by omega, by omega⟩ | exact hkn), by first | exact O5 (by first | assumption | decide) | exact A0x (by decide) (by assumption) (by assumption) (by assumption) | exact S2 (by decide) (by assumption) (by assumption) | exact L3 (by decide) Q1 (by assumption) | exact L3 (by decide) har.small (by assumption) | exact L3 (by decide) Q1 (S2 (by decide) (by assumption) (O5 (by decide))) | exact L3 (by decide) A0y (O5 (by decide)) | assumption, by simp only [E7, H3]; omega⟩)
def N6 (o : Option Ty) (G : IM) : IM → Value → List A5 → Prop := L2 fun G' v => ∃ t cells, v = .tuple ⟨[.agg ⟨cells⟩, .bool o.isSome]⟩ ∧ B2 G' t cells ∧ D4 t ∧ ∀ u, o = some u → u = t
theorem N6.yes {G G' : IM} {o : Option Ty} {t : Ty} {cells : List Value} (h : o = some t) (hr : B2 G' t cells) (ha : D4 t) : N6 o G G' (.tuple ⟨[.agg ⟨cells⟩, .bool true]⟩) [] := by
 subst h; exact ⟨rfl, t, cells, rfl, hr, ha, fun u h => (by cases h; rfl)⟩
theorem N6.no {G G' : IM} {o : Option Ty} {t : Ty} {cells : List Value} (h : o = none) (hr : B2 G' t cells) (ha : D4 t) : N6 o G G' (.tuple ⟨[.agg ⟨cells⟩, .bool false]⟩) [] := by
 subst h; exact ⟨rfl, t, cells, rfl, hr, ha, fun u h => (by cases h)⟩
theorem N6.mk {G G' : IM} {o : Option Ty} {b : Bool} {t : Ty} {cells : List Value} (h : o = if b = true then some t else none) (hr : B2 G' t cells) (ha : D4 t) : N6 o G G' (.tuple ⟨[.agg ⟨cells⟩, .bool b]⟩) [] := by
 cases b
 ·exact N6.no h hr ha
 ·exact N6.yes h hr ha
theorem B5p {t : Ty} (h : M5 t = true) : D4 t := (A4E h).1
theorem A46 (k : Int) (a b : Ty) (G : IM) (ca cb : List Value) (hk : k = 4 ∨ k = 5) (ha : D4 a) (hb : D4 b) (hra : B2 G a ca) (hrb : B2 G b cb) :
  Fn Tryz.prog 198 [.int .i64 k, .agg ⟨ca⟩, .agg ⟨cb⟩] [] G (L2 fun G' v => ∃ cells, v = .tuple ⟨[.agg ⟨cells⟩, .bool (M5 (.mk k [a, b]))]⟩ ∧ B2 G' (.mk k [a, b]) cells) := by
 obtain ⟨ak, aks⟩ := a
 obtain ⟨bk, bks⟩ := b
 obtain ⟨pa, cca, ea, rfl, _⟩ := hra.open
 obtain ⟨pb, ccb, eb, rfl, _⟩ := hrb.open
 have hki : E9 k := ⟨by omega, by omega⟩
 refine B6 Tryz.func198 rfl Tryz.ntmps198 Tryz.results198 rfl ?_
 intro w0
 refine tS (tR ?_)
 refine sE (C4 rfl rfl) rfl (fun b3 => ?_)
 refine sE (C4 rfl rfl) rfl (fun b4 => ?_)
 refine sE (A6 rfl) rfl (fun b5 => ?_)
 refine sQ (qA rfl) rfl (sD (nS (tS ?_)))
 refine D1 D2 rfl ?_
 refine I4 (i := 0) (l' := [tt,ff,ff,ff,ff,ff,ff,ff,ff]) rfl C8 (qM rfl) rfl (by kernel_rfl) rfl rfl ?_
 refine aL 1 rfl (A4 rfl rfl) rfl ?_
 refine aL 3 rfl (A4 rfl rfl) rfl ?_
 refine Q0 (j := 2) (j' := 7) (by kernel_rfl) ?_ ?_
 (refine E3 rfl rfl (Q3 _ G _ ha.small hra) rfl rfl rfl (fun v G1 hle1 hh => ?_); obtain ⟨K9, F1, rfl, hs1, hn1⟩ := hh; obtain ⟨p1, c1, rfl, _⟩ := hs1.open; have hC2 := Q3 _ G1 _ hb.small (hrb.mono hle1))
 refine Q0 (j := 4) (j' := 7) (by kernel_rfl) ?_ ?_
 (refine E3 rfl rfl hC2 rfl rfl rfl (fun v G2 hle2 hh => ?_); obtain ⟨cs2, F2, rfl, hs2, hn2⟩ := hh; obtain ⟨p2, c2, rfl, _⟩ := hs2.open; have hr1 := hs1.R.mono ((C2.le G1 G).trans hle2); have hr2 := hs2.R.mono (C2.le G2 G1))
 refine Q0 (j := 5) (j' := 7) (by kernel_rfl) ?_ ?_
 (refine D9 rfl (D0 rfl rfl rfl (by omega) (by unfold maxLen; omega) rfl) rfl rfl ?_; rintro _ ⟨b19, rfl⟩)
 refine aP 6 rfl (Q9 rfl rfl) rfl ?_
 refine A2 7 ?_
 (refine D9 rfl (A6 rfl) rfl rfl ?_; rintro _ ⟨b22, rfl⟩)
 refine A2 8 ?_
 refine H0 rfl ?_
 refine C0 (nS (tS ?_))
 (have hr1' := hr1; refine A0l (by repeat (first | exact Pk.here | apply Pk.there)) (fun G5 hle5 hsl5 hno5 => ?_); have hRT : B2 G5 (.mk k [.mk ak aks, .mk bk bks]) _ := E0.ty (ts := [.mk ak aks, .mk bk bks]) (es := [[.int .i64 ak, .slice p1 aks.length c1], [.int .i64 bk, .slice p2 bks.length c2]]) ⟨_, _, rfl, hr1.mono hle5, _, _, rfl, hr2.mono hle5, rfl⟩ rfl hsl5 hki; have hV := A0N _ G5 _ hRT; refine D1 D2 rfl ?_)
 refine N8 (i := 0) (l' := [tt,ff,ff,ff,ff]) rfl C8 (A4 rfl rfl) rfl (by kernel_rfl) rfl rfl ?_
 refine aL 1 rfl (A4 rfl rfl) rfl ?_
 refine A2 2 ?_
 refine J0 rfl rfl (hV) rfl rfl rfl ?_
 refine A2 3 ?_
 refine H0 rfl ?_
 refine aP 4 rfl (qA rfl) rfl ?_
 refine C0 (nS (tT ?_))
 refine C5 (rC rfl (A4 rfl rfl)) (rT rfl) ?_
 (exact ⟨rfl, _, rfl, hRT⟩)
 (refine D9 rfl (A6 rfl) rfl rfl ?_; rintro _ ⟨b41, rfl⟩)
 refine A2 5 ?_
 (refine D9 rfl (D0 rfl rfl rfl (by omega) (by unfold maxLen; omega) rfl) rfl rfl ?_; rintro _ ⟨b43, rfl⟩)
 refine aP 6 rfl (Q9 rfl rfl) rfl ?_
 refine A2 8 ?_
 refine H0 rfl ?_
 refine C0 (nS (tS ?_))
 (have hr1' := hr1; refine A0l (by repeat (first | exact Pk.here | apply Pk.there)) (fun G5 hle5 hsl5 hno5 => ?_); have hRT : B2 G5 (.mk k [.mk ak aks, .mk bk bks]) _ := E0.ty (ts := [.mk ak aks, .mk bk bks]) (es := [[.int .i64 ak, .slice p1 aks.length c1], [.int .i64 bk, .slice p2 bks.length c2]]) ⟨_, _, rfl, hr1.mono hle5, _, _, rfl, hr2.mono hle5, rfl⟩ rfl hsl5 hki; have hV := A0N _ G5 _ hRT; refine D1 D2 rfl ?_)
 refine N8 (i := 0) (l' := [tt,ff,ff,ff,ff]) rfl C8 (A4 rfl rfl) rfl (by kernel_rfl) rfl rfl ?_
 refine aL 1 rfl (A4 rfl rfl) rfl ?_
 refine A2 2 ?_
 refine J0 rfl rfl (hV) rfl rfl rfl ?_
 refine A2 3 ?_
 refine H0 rfl ?_
 refine aP 4 rfl (qA rfl) rfl ?_
 refine C0 (nS (tT ?_))
 refine C5 (rC rfl (A4 rfl rfl)) (rT rfl) ?_
 (exact ⟨rfl, _, rfl, hRT⟩)
 (refine D9 rfl (A6 rfl) rfl rfl ?_; rintro _ ⟨b63, rfl⟩)
 refine A2 4 ?_
 (refine E3 rfl rfl hC2 rfl rfl rfl (fun v G2 hle2 hh => ?_); obtain ⟨cs2, F2, rfl, hs2, hn2⟩ := hh; obtain ⟨p2, c2, rfl, _⟩ := hs2.open; have hr1 := hs1.R.mono ((C2.le G1 G).trans hle2); have hr2 := hs2.R.mono (C2.le G2 G1))
 refine A2 5 ?_
 (refine D9 rfl (D0 rfl rfl rfl (by omega) (by unfold maxLen; omega) rfl) rfl rfl ?_; rintro _ ⟨b67, rfl⟩)
 refine aP 6 rfl (Q9 rfl rfl) rfl ?_
 refine A2 8 ?_
 refine H0 rfl ?_
 refine C0 (nS (tS ?_))
 (have hr1' := hr1; refine A0l (by repeat (first | exact Pk.here | apply Pk.there)) (fun G5 hle5 hsl5 hno5 => ?_); have hRT : B2 G5 (.mk k [.mk ak aks, .mk bk bks]) _ := E0.ty (ts := [.mk ak aks, .mk bk bks]) (es := [[.int .i64 ak, .slice p1 aks.length c1], [.int .i64 bk, .slice p2 bks.length c2]]) ⟨_, _, rfl, hr1.mono hle5, _, _, rfl, hr2.mono hle5, rfl⟩ rfl hsl5 hki; have hV := A0N _ G5 _ hRT; refine D1 D2 rfl ?_)
 refine N8 (i := 0) (l' := [tt,ff,ff,ff,ff]) rfl C8 (A4 rfl rfl) rfl (by kernel_rfl) rfl rfl ?_
 refine aL 1 rfl (A4 rfl rfl) rfl ?_
 refine A2 2 ?_
 refine J0 rfl rfl (hV) rfl rfl rfl ?_
 refine A2 3 ?_
 refine H0 rfl ?_
 refine aP 4 rfl (qA rfl) rfl ?_
 refine C0 (nS (tT ?_))
 refine C5 (rC rfl (A4 rfl rfl)) (rT rfl) ?_
 (exact ⟨rfl, _, rfl, hRT⟩)
 (refine D9 rfl (A6 rfl) rfl rfl ?_; rintro _ ⟨b87, rfl⟩)
 refine A2 2 ?_
 (refine E3 rfl rfl (Q3 _ G _ ha.small hra) rfl rfl rfl (fun v G1 hle1 hh => ?_); obtain ⟨K9, F1, rfl, hs1, hn1⟩ := hh; obtain ⟨p1, c1, rfl, _⟩ := hs1.open; have hC2 := Q3 _ G1 _ hb.small (hrb.mono hle1))
 refine A2 4 ?_
 (refine E3 rfl rfl hC2 rfl rfl rfl (fun v G2 hle2 hh => ?_); obtain ⟨cs2, F2, rfl, hs2, hn2⟩ := hh; obtain ⟨p2, c2, rfl, _⟩ := hs2.open; have hr1 := hs1.R.mono ((C2.le G1 G).trans hle2); have hr2 := hs2.R.mono (C2.le G2 G1))
 refine A2 5 ?_
 (refine D9 rfl (D0 rfl rfl rfl (by omega) (by unfold maxLen; omega) rfl) rfl rfl ?_; rintro _ ⟨b93, rfl⟩)
 refine aP 6 rfl (Q9 rfl rfl) rfl ?_
 refine A2 8 ?_
 refine H0 rfl ?_
 refine C0 (nS (tS ?_))
 (have hr1' := hr1; refine A0l (by repeat (first | exact Pk.here | apply Pk.there)) (fun G5 hle5 hsl5 hno5 => ?_); have hRT : B2 G5 (.mk k [.mk ak aks, .mk bk bks]) _ := E0.ty (ts := [.mk ak aks, .mk bk bks]) (es := [[.int .i64 ak, .slice p1 aks.length c1], [.int .i64 bk, .slice p2 bks.length c2]]) ⟨_, _, rfl, hr1.mono hle5, _, _, rfl, hr2.mono hle5, rfl⟩ rfl hsl5 hki; have hV := A0N _ G5 _ hRT; refine D1 D2 rfl ?_)
 refine N8 (i := 0) (l' := [tt,ff,ff,ff,ff]) rfl C8 (A4 rfl rfl) rfl (by kernel_rfl) rfl rfl ?_
 refine aL 1 rfl (A4 rfl rfl) rfl ?_
 refine A2 2 ?_
 refine J0 rfl rfl (hV) rfl rfl rfl ?_
 refine A2 3 ?_
 refine H0 rfl ?_
 refine aP 4 rfl (qA rfl) rfl ?_
 refine C0 (nS (tT ?_))
 refine C5 (rC rfl (A4 rfl rfl)) (rT rfl) ?_
 (exact ⟨rfl, _, rfl, hRT⟩)
theorem B5q (G : IM) (cx : Cx) (hv : cxV cx) (p : Option Addr) (n c : Nat) (nm : ByteArray) (hx : S7 G cx p n c) :
  Fn Tryz.prog 177 [.slice p n c, .string nm] [] G (N6 (P2 cx nm) G) := by
 have hn := hx.le
 refine B6 Tryz.func177 rfl Tryz.ntmps177 Tryz.results177 rfl ?_
 intro w0
 refine tS (tR ?_)
 refine sE (A6 rfl) rfl (fun b3 => ?_)
 refine F8 ?_
 refine sP (O8 rfl rfl (by omega) (by omega)) rfl rfl ?_
 refine sQ (qA rfl) rfl (sD (nS ?_))
 refine C3 ?_
 (refine M6 (fun (i : Nat) => ⟨[(6, .int .i64 ((i : Int) - 1)), (0, .slice p n c), (1, .string nm), (4, .pointer (some ⟨b3, 0, none⟩))], [.blk b3 [.int .i64 0, .slice none 0 0]], G⟩) (fun i => i ≤ n ∧ P2 cx nm = V2 cx nm i) (fun i => i) n ?_ ?_ ?_)
 exact E1
 (exact ⟨Nat.le_refl _, by unfold P2; rw [hx.1]⟩)
 (rintro i ⟨hi, hlk⟩)
 refine tS (tS (tR (sQ (qM rfl) rfl ?_)))
 refine sB (A0G rfl rfl) rfl rfl (fun h25 => ?_) (fun h25 => ?_)
 refine sD (nS (qT rfl (tK (nS (tS ?_)))))
 (show J5 _ _ (.block 1 _) _ _; obtain ⟨j, rfl⟩ : ∃ j, i = j + 1 := ⟨i - 1, by omega⟩; rw [show ((j + 1 : Nat) : Int) - 1 = (j : Int) from by omega]; obtain ⟨b, o, nm1, t1, q1, d1, hcx, rfl, hat, hr1, hgb⟩ := hx.get (i := j) (by omega); have ha1 := B5p (hv _ (List.mem_of_getElem? hcx)); refine C3 ?_)
 refine tS (tR (sQ (qM rfl) rfl (sQ (qM rfl) rfl ?_)))
 refine sP (B4 rfl rfl rfl (by omega)) rfl rfl ?_
 refine sQ (qF rfl) rfl ?_
 refine sL (V4 rfl rfl ((hat _).sub (j := 0) rfl)) rfl rfl ?_
 refine sQ (qM rfl) rfl ?_
 refine sB (A1Q rfl rfl) rfl rfl (fun h41 => ?_) (fun h41 => ?_)
 refine D5 ?_
 refine sP (B4 rfl rfl rfl (by omega)) rfl rfl ?_
 refine sQ (qF rfl) rfl ?_
 refine sL (A3 rfl rfl (hat _).drop rfl) rfl rfl ?_
 (refine D7 rfl (Q3 _ G _ ha1.small hr1) rfl rfl (fun v G1 hle1 hh => ?_); obtain ⟨K9, F1, rfl, hs1', hn1⟩ := hh; obtain ⟨p1, c1, rfl, _⟩ := hs1'.open; have hrr := hs1'.R.mono (C2.le G1 G))
 refine I8 ?_
 refine C5 (rC rfl (A4 rfl rfl)) (rT rfl) ?_
 (exact N6.yes (by rw [hlk]; exact A2Q hcx (by assumption)) hrr ha1)
 refine F8 ?_
 refine sP (O8 rfl rfl (by omega) (by omega)) rfl rfl ?_
 refine sQ (qA rfl) rfl (sD ?_)
 refine L8 j ?_ ?_ ?_
 exact E1
 (exact ⟨by omega, by rw [hlk]; exact A2R hcx (by assumption)⟩)
 (show _ < _ + 1; omega)
 refine M9 ?_
 refine C5 (rC rfl (A4 rfl rfl)) (rT rfl) ?_
 (obtain rfl : i = 0 := (by omega); exact N6.no (by rw [hlk]; rfl) (K5 _ ⟨by omega, by omega⟩) (N1 (by omega) (by omega)))
section
variable {cx : Cx} {k : Int} {nm : ByteArray} {ty : Ty} {ts : List Ty}
end
section
variable {ak bk : Int} {aks bks : List Ty}
theorem B5r (h : ak ≠ bk) : H7 (.mk ak aks) (.mk bk bks) = false := by rw [A2o, decide_eq_false h]; rfl
theorem B5s (h : aks.length ≠ bks.length) : H7 (.mk ak aks) (.mk bk bks) = false := by
 rw [A2o]
 cases hl : Z7 aks bks with
 | false => simp
 | true => exact absurd ((A3G _ _).1 hl).1 h
theorem B5t {i : Nat} (hi : i < aks.length) (hi' : i < bks.length) (h : H7 aks[i] bks[i] = false) : H7 (.mk ak aks) (.mk bk bks) = false := by
 rw [A2o]
 cases hl : Z7 aks bks with
 | false => simp
 | true => have := ((A3G _ _).1 hl).2 i hi hi'; rw [h] at this; cases this
theorem B5u (hk : ak = bk) (hl : aks.length = bks.length) (h : ∀ i, (h : i < aks.length) → (h' : i < bks.length) → H7 aks[i] bks[i] = true) : H7 (.mk ak aks) (.mk bk bks) = true := by
 rw [A2o, decide_eq_true hk, (A3G _ _).2 ⟨hl, h⟩]; rfl
end
theorem A17 : ∀ (a b : Ty) (G : IM) (ca cb : List Value), B2 G a ca → B2 G b cb → Fn Tryz.prog 146 [.agg ⟨ca⟩, .agg ⟨cb⟩] [] G (J3 (.bool (H7 a b)) G) := by
 refine Ty.ind fun ak aks ih b G ca cb hra hrb => ?_
 obtain ⟨bk, bks⟩ := b
 obtain ⟨pa, cca, ea, rfl, hak, hsla, hkla⟩ := hra.open
 obtain ⟨pb, ccb, eb, rfl, hbk, hslb, hklb⟩ := hrb.open
 simp only [Ty.k, Ty.ks] at hak hsla hkla hbk hslb hklb ⊢
 have hna := hsla.le
 have hnb := hslb.le
 have e1 := @B5r ak bk aks bks
 have e2 := @B5s ak bk aks bks
 have e3 := fun i => @B5t ak bk aks bks i
 have e4 := @B5u ak bk aks bks
 generalize H7 (.mk ak aks) (.mk bk bks) = R at e1 e2 e3 e4 ⊢
 refine B6 Tryz.func146 rfl Tryz.ntmps146 Tryz.results146 rfl ?_
 intro w0
 refine tS (tR ?_)
 refine sE (C4 rfl rfl) rfl (fun b3 => ?_)
 refine sE (C4 rfl rfl) rfl (fun b4 => ?_)
 refine I8 ?_
 refine sB (Q6 rfl rfl) rfl rfl (fun h15 => ?_) (fun h15 => ?_)
 refine A0d ?_
 (exact ⟨rfl, by rw [e1 (by omega)], rfl⟩)
 refine D5 ?_
 refine sB (Q6 rfl rfl) rfl rfl (fun h44 => ?_) (fun h44 => ?_)
 refine N2 ?_
 (exact ⟨rfl, by rw [e2 (by omega)], rfl⟩)
 refine N2 ?_
 refine C3 ?_
 (refine M6 (fun (i : Nat) => ⟨[(5, .int .i64 i), (2, .pointer (some ⟨b3, 0, none⟩)), (3, .pointer (some ⟨b4, 0, none⟩))], [.blk b4 [.int .i64 bk, .slice pb bks.length ccb], .blk b3 [.int .i64 ak, .slice pa aks.length cca]], G⟩) (fun i => i ≤ aks.length ∧ ∀ j, (h : j < aks.length) → (h' : j < bks.length) → j < i → H7 aks[j] bks[j] = true) (fun i => aks.length - i) 0 ?_ ?_ ?_)
 exact E1
 (exact ⟨Nat.zero_le _, fun j _ _ hj => absurd hj (Nat.not_lt_zero j)⟩)
 (rintro i ⟨hi, hall⟩)
 refine D5 ?_
 refine sB (M2 rfl rfl) rfl rfl (fun h82 => ?_) (fun h82 => ?_)
 refine sD (nS (qT rfl (tK (nS (tS ?_)))))
 refine C3 ?_
 refine tS ?_
 (obtain ⟨b, o, q0, d0, hp0, hat0, hre0, hg0⟩ := hsla.kidTy hkla (i := i) (by omega) (by omega); obtain ⟨b', o', q1, d1, hp1, hat1, hre1, hg1⟩ := hslb.kidTy hklb (i := i) (by omega) (by omega); subst hp0; subst hp1; have hih := ih aks[i] (List.getElem_mem (by omega)) bks[i] G _ _ hre0 hre1; refine D1 D2 rfl ?_)
 refine I4 (i := 0) (l' := [tt,ff,ff,ff,ff,ff,ff,ff,ff,ff,ff,ff]) rfl C8 (B5 rfl) rfl (by kernel_rfl) rfl rfl ?_
 refine aL 1 rfl (C7 rfl rfl) rfl ?_
 refine aP 2 rfl (qM rfl) rfl ?_
 refine aP 3 rfl (B4 rfl rfl rfl (by omega)) rfl ?_
 refine aL 4 rfl (A3 rfl rfl (hat0 _) rfl) rfl ?_
 refine aP 5 rfl (B5 rfl) rfl ?_
 refine aL 6 rfl (C7 rfl rfl) rfl ?_
 refine aP 7 rfl (qM rfl) rfl ?_
 refine aP 8 rfl (B4 rfl rfl rfl (by omega)) rfl ?_
 refine aL 9 rfl (A3 rfl rfl (hat1 _) rfl) rfl ?_
 refine A2 10 ?_
 refine R1 rfl rfl (hih) rfl rfl rfl (fun h103 => ?_) (fun h103 => ?_)
 refine aP 11 rfl (Q5 rfl) rfl ?_
 refine F8 ?_
 refine sP (M8 rfl rfl (by omega) (by omega)) rfl rfl ?_
 refine sQ (qA rfl) rfl (sD ?_)
 refine L8 (i + 1) ?_ ?_ ?_
 exact E1
 (exact ⟨by omega, fun j h h' hj => by by_cases hji : j = i; (subst hji; assumption); exact hall j h h' (by omega)⟩)
 omega
 refine aP 11 rfl (pNf rfl) rfl ?_
 refine K0 ?_
 (exact ⟨rfl, by rw [e3 i (by omega) (by omega) (by assumption)], rfl⟩)
 refine K0 ?_
 (exact ⟨rfl, by rw [e4 (by omega) (by omega) (fun j h h' => hall j h h' (by omega))], rfl⟩)
theorem B5v (G : IM) (cx : Cx) (p : Option Addr) (n c : Nat) (nm : ByteArray) (t : Ty) (cells : List Value) (hx : S7 G cx p n c) (hn : n ≤ 1000) (hr : B2 G t cells) :
  Fn Tryz.prog 197 [.slice p n c, .string nm, .agg ⟨cells⟩] [] G (L2 fun G' v => ∃ p' c', v = .slice p' (n + 1) c' ∧ S7 G' (cx ++ [(nm, t)]) p' (n + 1) c') := by
 obtain ⟨k, ks⟩ := t
 obtain ⟨q, d, es0, rfl, _⟩ := hr.open
 simp only [Ty.k, Ty.ks] at hr ⊢
 obtain ⟨hx1, es, h2, h3⟩ := id hx
 have hSl : Sl G p n c 3 es.flatten := h2.1
 have h1c : ∀ u ∈ es.flatten, u.oneCell' = true := by
  intro u hu
  obtain ⟨e, he, hue⟩ := List.mem_flatten.1 hu
  exact List.all_eq_true.1 (h2.one e he) u hue
 refine B6 Tryz.func197 rfl Tryz.ntmps197 Tryz.results197 rfl ?_
 intro w0
 refine tS (tR ?_)
 refine sE (C4 rfl rfl) rfl (fun b3 => ?_)
 refine sQ (qA rfl) rfl (sD (nS (tS ?_)))
 refine D1 D2 rfl ?_
 refine I4 (i := 1) (l' := [ff,tt,ff,ff,ff,ff,ff,ff,ff]) rfl C8 (qM rfl) rfl (by kernel_rfl) rfl rfl ?_
 refine aP 3 rfl (qM rfl) rfl ?_
 refine aL 4 rfl (A4 rfl rfl) rfl ?_
 refine aP 5 rfl (Q9 rfl rfl) rfl ?_
 refine Q0 (j := 0) (j' := 6) (by kernel_rfl) ?_ ?_
 (refine D9 rfl (D0 rfl rfl rfl (by omega) (by unfold maxLen; omega) rfl) rfl rfl ?_; rintro _ ⟨b14, rfl⟩)
 refine Q0 (j := 2) (j' := 6) (by kernel_rfl) ?_ ?_
 (refine A2S rfl rfl rfl rfl rfl rfl (fun _ _ => by repeat (first | exact Sw.here | apply Sw.there)) hSl h1c (Nat.zero_le _) (by unfold maxLen; omega) (by omega) rfl rfl (by repeat (first | exact A9.nil | apply A9.dep (by decide +kernel) | apply A9.blk (by decide +kernel) (by repeat (first | exact Pk.here | apply Pk.there)) (by repeat first | exact mH | apply mT))) (fun p4 c4 => ?_); simp only [Nat.zero_add, List.nil_append])
 refine A2 6 ?_
 (refine D9 rfl (D0 rfl rfl rfl (by omega) (by unfold maxLen; omega) rfl) rfl rfl ?_; rintro _ ⟨b18, rfl⟩)
 refine A2 7 ?_
 (refine V8 rfl rfl rfl rfl rfl rfl (fun _ _ => by repeat (first | exact Sw.here | apply Sw.there)) (R9 (by repeat first | exact mH | apply mT)) rfl (by simp [Value.oneCell']) (by unfold maxLen; omega) (by omega) rfl rfl (by repeat (first | exact A9.nil | apply A9.dep (by decide +kernel) | apply A9.blk (by decide +kernel) (by repeat (first | exact Pk.here | apply Pk.there)) (by repeat first | exact mH | apply mT))) (fun p5 c5 => ?_))
 refine aP 8 rfl (qA rfl) rfl ?_
 refine C0 (nS ?_)
 (refine I6 (cs := es.flatten ++ [.string nm, .int .i64 k, .slice q ks.length d]) (by repeat (first | exact Pk.here | apply Pk.there)) (fun G5 hle5 hsl5 hno5 => ?_))
 refine tT (D6 (rT rfl) ?_)
 (exact ⟨rfl, _, _, rfl, S7.snoc (nm := nm) (t := .mk k ks) hx1 h2.len h2.all h2.one h3 hle5 ⟨_, _, rfl, hr.mono hle5⟩ hsl5⟩)
 (refine D9 rfl (D0 rfl rfl rfl (by omega) (by unfold maxLen; omega) rfl) rfl rfl ?_; rintro _ ⟨b28, rfl⟩)
 refine A2 2 ?_
 (refine A2S rfl rfl rfl rfl rfl rfl (fun _ _ => by repeat (first | exact Sw.here | apply Sw.there)) hSl h1c (Nat.zero_le _) (by unfold maxLen; omega) (by omega) rfl rfl (by repeat (first | exact A9.nil | apply A9.dep (by decide +kernel) | apply A9.blk (by decide +kernel) (by repeat (first | exact Pk.here | apply Pk.there)) (by repeat first | exact mH | apply mT))) (fun p4 c4 => ?_); simp only [Nat.zero_add, List.nil_append])
 refine A2 7 ?_
 (refine V8 rfl rfl rfl rfl rfl rfl (fun _ _ => by repeat (first | exact Sw.here | apply Sw.there)) (R9 (by repeat first | exact mH | apply mT)) rfl (by simp [Value.oneCell']) (by unfold maxLen; omega) (by omega) rfl rfl (by repeat (first | exact A9.nil | apply A9.dep (by decide +kernel) | apply A9.blk (by decide +kernel) (by repeat (first | exact Pk.here | apply Pk.there)) (by repeat first | exact mH | apply mT))) (fun p5 c5 => ?_))
 refine aP 8 rfl (qA rfl) rfl ?_
 refine C0 (nS ?_)
 (refine I6 (cs := es.flatten ++ [.string nm, .int .i64 k, .slice q ks.length d]) (by repeat (first | exact Pk.here | apply Pk.there)) (fun G5 hle5 hsl5 hno5 => ?_))
 refine tT (D6 (rT rfl) ?_)
 (exact ⟨rfl, _, _, rfl, S7.snoc (nm := nm) (t := .mk k ks) hx1 h2.len h2.all h2.one h3 hle5 ⟨_, _, rfl, hr.mono hle5⟩ hsl5⟩)
 (refine D9 rfl (D0 rfl rfl rfl (by omega) (by unfold maxLen; omega) rfl) rfl rfl ?_; rintro _ ⟨b40, rfl⟩)
 refine A2 0 ?_
 (refine D9 rfl (D0 rfl rfl rfl (by omega) (by unfold maxLen; omega) rfl) rfl rfl ?_; rintro _ ⟨b42, rfl⟩)
 refine A2 2 ?_
 (refine A2S rfl rfl rfl rfl rfl rfl (fun _ _ => by repeat (first | exact Sw.here | apply Sw.there)) hSl h1c (Nat.zero_le _) (by unfold maxLen; omega) (by omega) rfl rfl (by repeat (first | exact A9.nil | apply A9.dep (by decide +kernel) | apply A9.blk (by decide +kernel) (by repeat (first | exact Pk.here | apply Pk.there)) (by repeat first | exact mH | apply mT))) (fun p4 c4 => ?_); simp only [Nat.zero_add, List.nil_append])
 refine A2 7 ?_
 (refine V8 rfl rfl rfl rfl rfl rfl (fun _ _ => by repeat (first | exact Sw.here | apply Sw.there)) (R9 (by repeat first | exact mH | apply mT)) rfl (by simp [Value.oneCell']) (by unfold maxLen; omega) (by omega) rfl rfl (by repeat (first | exact A9.nil | apply A9.dep (by decide +kernel) | apply A9.blk (by decide +kernel) (by repeat (first | exact Pk.here | apply Pk.there)) (by repeat first | exact mH | apply mT))) (fun p5 c5 => ?_))
 refine aP 8 rfl (qA rfl) rfl ?_
 refine C0 (nS ?_)
 (refine I6 (cs := es.flatten ++ [.string nm, .int .i64 k, .slice q ks.length d]) (by repeat (first | exact Pk.here | apply Pk.there)) (fun G5 hle5 hsl5 hno5 => ?_))
 refine tT (D6 (rT rfl) ?_)
 (exact ⟨rfl, _, _, rfl, S7.snoc (nm := nm) (t := .mk k ks) hx1 h2.len h2.all h2.one h3 hle5 ⟨_, _, rfl, hr.mono hle5⟩ hsl5⟩)
section
variable {cx : Cx} {k : Int} {nm : ByteArray} {num : Int} {ty fr : Ty} {lb : Int} {ks : List Tm}
end
def A62 (t : Ty) (x : Bool) (G : IM) : IM → Value → List A5 → Prop := L2 fun G' v => ∃ cells, v = .tuple ⟨[.agg ⟨cells⟩, .bool x]⟩ ∧ B2 G' (if x = true then t else B1) cells
theorem B5w (t : Ty) (G : IM) (cells : List Value) (hr : B2 G t cells) : Fn Tryz.prog 149 [.agg ⟨cells⟩, .bool true] [] G (A62 t true G) := by
 obtain ⟨p, c, e, rfl, _⟩ := hr.open
 refine B6 Tryz.func149 rfl Tryz.ntmps149 Tryz.results149 rfl ?_
 intro w0
 refine tS (tR ?_)
 refine sE (C4 rfl rfl) rfl (fun b3 => ?_)
 refine sE (A6 rfl) rfl (fun b4 => ?_)
 refine Z3 ?_
 refine C5 (rC rfl (A4 rfl rfl)) (rT rfl) ?_
 (exact ⟨rfl, _, rfl, hr⟩)
theorem B5x (t : Ty) (G : IM) (cells : List Value) (hr : B2 G t cells) : Fn Tryz.prog 149 [.agg ⟨cells⟩, .bool false] [] G (A62 t false G) := by
 obtain ⟨p, c, e, rfl, _⟩ := hr.open
 refine B6 Tryz.func149 rfl Tryz.ntmps149 Tryz.results149 rfl ?_
 intro w0
 refine tS (tR ?_)
 refine sE (C4 rfl rfl) rfl (fun b3 => ?_)
 refine sE (A6 rfl) rfl (fun b4 => ?_)
 refine A0d ?_
 refine C5 (rC rfl (A4 rfl rfl)) (rT rfl) ?_
 (exact ⟨rfl, _, rfl, K5 _ ⟨by omega, by omega⟩⟩)
theorem B5y (t : Ty) (x : Bool) (G : IM) (cells : List Value) (hr : B2 G t cells) : Fn Tryz.prog 149 [.agg ⟨cells⟩, .bool x] [] G (A62 t x G) := by
 cases x
 ·exact B5x t G cells hr
 ·exact B5w t G cells hr
theorem V6.sure {o : Option Ty} {t : Ty} {G G' : IM} {cells : List Value} (h : ∀ u, o = some u → u = t) (hr : B2 G' (if o.isSome = true then t else B1) cells) : V6 o G G' (.tuple ⟨[.agg ⟨cells⟩, .bool o.isSome]⟩) [] := by
 cases o with
 | none => exact ⟨rfl, cells, B1, rfl, hr, by simp⟩
 | some u => exact ⟨rfl, cells, t, rfl, hr, fun x hx => by cases hx; exact (h _ rfl).symm⟩
def B61 (e : Tm) (a b : Ty) (l : Int) : IM → Value → List A5 → Prop := L2 fun G' v => ∃ cells, v = .tuple ⟨[.agg ⟨cells⟩, .int .i64 (if H7 a b = true then l else l + 1)]⟩ ∧ A8 G' (if H7 a b = true then e else L1 e a b l) cells
def B62 (w ts : List Ty) : List Ty := if w = [] then ts else w
def B63 (ws : List Ty) (n : Nat) (G : IM) : IM → Value → List A5 → Prop := L2 fun G' v => ∃ p c es, v = .slice p n c ∧ ws.length = n ∧ C9 G' p n c 2 es ∧ E0 G' ws es
section
variable {cx : Cx} {k : Int} {nm : ByteArray} {ty : Ty} {ts w : List Ty} {t : Ty}
end
def B64 (u : Tm) (t : Ty) (l : Int) (G : IM) : IM → Value → List A5 → Prop := L2 fun G' v => ∃ cu ct, v = .tuple ⟨[.agg ⟨cu⟩, .agg ⟨ct⟩, .int .i64 (l + 1)]⟩ ∧ A8 G' u cu ∧ B2 G' t ct
def B5z (t : Tm) : List Ty := if A0L t = true then A3d t else []
def B65 (u : Tm) (n : Int) : IM → Value → List A5 → Prop := fun G' v outs => outs = [] ∧ ∃ cu, v = .tuple ⟨[.agg ⟨cu⟩, .int .i64 n]⟩ ∧ A8 G' u cu
def B66 (t : Tm) (L : List Ty) : Option Tm := if A0L t = true ∧ (B5z t).length = L.length ∧ ∀ u ∈ L, M5 u = true then some (A61 t L) else none
def TmB (o : Option Tm) : IM → Value → List A5 → Prop := L2 fun G' v => ∃ cu, v = .tuple ⟨[.agg ⟨cu⟩, .bool o.isSome]⟩ ∧ A8 G' (o.getD I9) cu
def PLe (l l' : List Ty) : Prop := ∀ i, A6B (l.getD i B1) (l'.getD i B1) = true
section masks
variable {P : Program} {Γ : M1} {env : M7} {hp : List A5} {G : IM} {ty : TypeId}
end masks
def mLb (t : Tm) : List Int := (A2D t).map Tm.lb
def B67 (ts : List Tm) : List Int := (A60 ts).map Tm.lb
structure Lbs (ls : List Int) (l l' : Int) : Prop where
 le : l ≤ l'
 nd : ls.Nodup
 len : (ls.length : Int) = l' - l
 mem : ∀ m ∈ ls, l < m ∧ m ≤ l'
mutual
def lz : Tm → Tm
 | .mk k nm num ty fr lb ks => .mk k nm num ty fr (if k = 14 then 0 else lb) (lzL ks)
def lzL : List Tm → List Tm
 | [] => []
 | t :: ts => lz t :: lzL ts
end
def SL (r s : Stp) : Prop := r.2.1 = s.2.1 ∧ lz r.1 = lz s.1
abbrev LbV (t : Tm) : Prop := U6 (fun l => W2 l = true) t
mutual
def mRl : Tm → Int → Tm × Int
 | .mk k nm num ty fr lb ks, n => (.mk k nm num ty fr (if k = 14 then (A3e ks n).2 + 1 else lb) (A3e ks n).1, if k = 14 then (A3e ks n).2 + 1 else (A3e ks n).2)
def A3e : List Tm → Int → List Tm × Int
 | [], n => ([], n)
 | t :: ts, n => ((mRl t n).1 :: (A3e ts (mRl t n).2).1, (A3e ts (mRl t n).2).2)
end
theorem mB8 : mB 8 = 1968200 := by decide
theorem B5A (br : Nat) (pb : Option Addr) (nb cb : Nat) (bs : List UInt8) (hnb : nb ≤ 2000) (p : Nat) (G : IM) (hb : Sl G pb nb cb 1 (N5 bs)) (hp : p + 9000000 < 1099511627776) :
  Fn Tryz.prog 59 [.pointer (some ⟨br, 0, none⟩)] [rd br pb nb cb p] G
   (Z6 br pb nb cb p 9000000 (fun G' v => ∃ e cells, v = .agg ⟨cells⟩ ∧ A8 G' e cells ∧ E7 e ≤ 2000000)) := by
 have hm8 := mB8
 refine B6 Tryz.func59 rfl Tryz.ntmps59 Tryz.results59 rfl ?_
 intro w0
 refine tS (tR ?_)
 refine sE (A6 rfl) rfl (fun b3 => ?_)
 refine sD (nS (tS (tS (tR (sQ (qA rfl) rfl (sD (nS ?_)))))))
 refine C3 ?_
 (refine M6 (fun (x : Nat × Nat × IM) => ⟨[(3, .int .i64 x.1), (0, .pointer (some ⟨br, 0, none⟩)), (2, .pointer (some ⟨b3, 0, none⟩))], [rd br pb nb cb x.2.1, .blk b3 [.int .i64 0, .string ⟨⟨[]⟩⟩, .int .i64 0, .int .i64 0, .slice none 0 0, .int .i64 0, .slice none 0 0, .int .i64 0, .slice none 0 0]], x.2.2⟩) (fun x => x.1 ≤ 4 ∧ B8 G x.2.2 ∧ p ≤ x.2.1 ∧ x.2.1 ≤ p + x.1 * 2000000) (fun x => 4 - x.1) (0, p, G) ?_ ?_ ?_)
 (simp only [K4]; exact E1)
 (exact ⟨by omega, B8.refl _, Nat.le_refl _, by dsimp only; omega⟩)
 (rintro ⟨(i : Nat), (p1 : Nat), G1⟩ ⟨hi, hleL, hpL, hpL2⟩; simp only [] at hi hleL hpL hpL2 ⊢; replace hb := hb.mono hleL)
 refine tS (tS (tR (sQ (qM rfl) rfl ?_)))
 refine sB (M2 rfl rfl) rfl rfl (fun h21 => ?_) (fun h21 => ?_)
 refine sD (nS (qT rfl (tK (nS (tS ?_)))))
 refine C3 ?_
 refine R0 ?_
 (refine K7 (D0 rfl rfl rfl (by omega) (by unfold maxLen; omega) rfl) rfl ?_; rintro _ ⟨b34, rfl⟩)
 (refine U1 (by repeat (first | exact Pk.here | apply Pk.there)) (fun Gf hlef hslf _ => ?_); refine H5 rfl (Y7 Gf br pb nb cb (p1) bs _ _ _ _ (hb.mono hlef) hnb (by omega) hslf (by decide)) (Pk.perm (by repeat (first | exact Pk.here | apply Pk.there))) rfl rfl (fun v Gm outs hlen hh => ?_); obtain ⟨rfl, rfl, hv⟩ := hh; replace hb := hb.mono hlef; obtain ⟨dd, rfl, hdd⟩ : ∃ d : Nat, v = .int .i64 ((d + 1 : Nat) : Int) ∧ d ≤ 2 := (by simp only [List.mem_cons, List.not_mem_nil, or_false] at hv; rcases hv with rfl | rfl | rfl | rfl <;> first | exact ⟨0, rfl, by decide⟩ | exact ⟨1, rfl, by decide⟩ | exact ⟨2, rfl, by decide⟩); have hdB := A5Z hdd; replace hleL := hleL.trans hlef)
 (have hcall := A3H br pb nb cb bs hnb dd (p1 + 1) _ (by omega) hb (by omega); refine H5 rfl hcall (Pk.perm (by repeat (first | exact Pk.here | apply Pk.there))) rfl rfl (fun v Gn outs hleD hh => ?_); obtain ⟨pD, hpD1, hpD2, rfl, uD, cD, rfl, hrD, hsD, haD⟩ := hh; obtain ⟨qD, dD, eD, rfl, _⟩ := hrD.open; replace hb := hb.mono hleD; replace hleL := hleL.trans hleD)
 refine sQ (qM rfl) rfl ?_
 (refine K7 (D0 rfl rfl rfl (by omega) (by unfold maxLen; omega) rfl) rfl ?_; rintro _ ⟨b38, rfl⟩)
 (refine U1 (by repeat (first | exact Pk.here | apply Pk.there)) (fun Gf hlef hslf _ => ?_); refine H5 rfl (Y7 Gf br pb nb cb (pD) bs _ _ _ _ (hb.mono hlef) hnb (by omega) hslf (by decide)) (Pk.perm (by repeat (first | exact Pk.here | apply Pk.there))) rfl rfl (fun v Gm outs hlen hh => ?_); obtain ⟨rfl, rfl, hv⟩ := hh; replace hb := hb.mono hlef; replace hleL := hleL.trans hlef; replace hrD := hrD.mono hlef; obtain ⟨dp, rfl, hdp1, hdp2⟩ : ∃ d : Int, v = .int .i64 d ∧ 3 ≤ d ∧ d ≤ 5 := (by simp only [List.mem_cons, List.not_mem_nil, or_false] at hv; rcases hv with rfl | rfl | rfl | rfl <;> exact ⟨_, rfl, by decide, by decide⟩))
 (have hcall := B5o br pb nb cb bs hnb 8 dp uD (pD + 1) _ none 0 0 _ ⟨haD.le (by omega), by omega, by omega, .inr ⟨by omega, by omega⟩⟩ (by omega) (by omega) (by omega) (T5.nil _) hrD hb (by omega); refine H5 rfl hcall (Pk.perm (by repeat (first | exact Pk.here | apply Pk.there))) rfl rfl (fun v Gn outs hleM hh => ?_); obtain ⟨pM, hpM1, hpM2, rfl, eM, cM, rfl, hrM, hsmM, hcM⟩ := hh; have hlM := hrM.len; have hoM := hrM.one; replace hb := hb.mono hleM; replace hleL := hleL.trans hleM)
 refine sE (A6 rfl) rfl (fun b41 => ?_)
 refine P5 rfl rfl rfl hlM hoM rfl (by repeat first | exact Sw.here | apply Sw.there) (by exact C1 (by first | exact hlM.symm | omega)) ?_
 refine sD (nS (tS (tR ?_)))
 refine sL (A3 rfl rfl (A7 (by repeat first | exact mH | apply mT)) hlM) rfl rfl ?_
 (refine D7 rfl (A8Q eM _ _ (by omega) hrM) rfl rfl (fun v G9 hle9 hh => ?_); obtain ⟨mt, mc, mx, rfl, hmr, hma, hms, hmv⟩ := hh; obtain ⟨pt, ct, et, rfl, _⟩ := hmr.open; replace hb := hb.mono hle9; replace hleL := hleL.trans hle9; replace hrM := hrM.mono hle9; cases mx)
 refine H9 ?_
 refine sE (A6 rfl) rfl (fun b52 => ?_)
 refine K0 ?_
 refine sP (M8 rfl rfl (by omega) (by omega)) rfl rfl ?_
 refine sQ (qA rfl) rfl (sD ?_)
 refine L8 (i + 1, pM, G9) ?_ ?_ ?_
 (simp only [K4]; exact E1)
 (dsimp only; exact ⟨by omega, hleL, by omega, by omega⟩)
 (show 4 - (i + 1) < 4 - i; omega)
 refine H9 ?_
 refine sE (A6 rfl) rfl (fun b78 => ?_)
 refine N2 ?_
 refine sL (A3 rfl rfl (A7 (by repeat first | exact mH | apply mT)) hlM) rfl rfl ?_
 refine P5 rfl rfl rfl hlM hoM rfl (by repeat first | exact Sw.here | apply Sw.there) (by exact C1 (by first | exact hlM.symm | omega)) ?_
 refine sD (nS (tT (rB (rS (A5g (rB (rS ?_)))))))
 refine I1 (outs := [rd br pb nb cb pM]) (rC rfl (A3 rfl rfl (A7 (by repeat first | exact mH | apply mT)) hlM)) (by repeat (first | exact A1.nil | refine A1.cons Pk.here ?_ | refine A1.cons (Pk.there Pk.here) ?_ | refine A1.cons (Pk.there (Pk.there Pk.here)) ?_ | apply A1.drop)) ?_
 (exact ⟨pM, by omega, by omega, rfl, eM, _, rfl, hrM, by omega⟩)
 refine J6 ?_
 (have hcall := B2Z br pb nb cb bs hnb p1 _ hb (by omega); refine H5 rfl hcall (Pk.perm (by repeat (first | exact Pk.here | apply Pk.there))) rfl rfl (fun v Gn outs hleC hh => ?_); obtain ⟨pC, hpC1, hpC2, rfl, eC, cC, rfl, hrC, hcC⟩ := hh; have hlC := hrC.len; have hoC := hrC.one; have hcnt := A5M eC)
 refine P5 rfl rfl rfl hlC hoC rfl (by repeat first | exact Sw.here | apply Sw.there) (by exact C1 (by first | exact hlC.symm | omega)) ?_
 refine sD (nS (tT ?_))
 refine I1 (outs := [rd br pb nb cb pC]) (rC rfl (A3 rfl rfl (A7 (by repeat first | exact mH | apply mT)) hlC)) (by repeat (first | exact A1.nil | refine A1.cons Pk.here ?_ | refine A1.cons (Pk.there Pk.here) ?_ | refine A1.cons (Pk.there (Pk.there Pk.here)) ?_ | apply A1.drop)) ?_
 (exact ⟨pC, by omega, by omega, rfl, eC, _, rfl, hrC, by omega⟩)
def B5B (G : IM) : IM → Value → List A5 → Prop := L2 fun G' v => ∃ u cu t ct b, v = .tuple ⟨[.agg ⟨cu⟩, .agg ⟨ct⟩, .bool b]⟩ ∧ A8 G' u cu ∧ u.small ∧ E7 u ≤ 60 ∧ B2 G' t ct ∧ D4 t ∧ H4 t ≤ 960
theorem B5C (G : IM) : A8 G I9 [.int .i64 0, .string ⟨⟨[]⟩⟩, .int .i64 0, .int .i64 0, .slice none 0 0, .int .i64 0, .slice none 0 0, .int .i64 0, .slice none 0 0] := (P6.zero G).R
theorem B5D : I9.small := by simp [I9, Tm.small, Ty.small, Ty.smallL, Tm.smallL, ByteArray.size]
theorem B5E : E7 I9 = 1 := by simp [I9, E7, H3]
theorem B5F (e : Tm) (G : IM) (cells : List Value) (hcnt : E7 e ≤ 4294967296) (hr : A8 G e cells) :
  Fn Tryz.prog 103 [.agg ⟨cells⟩] [] G (B5B G) := by
 have hl := hr.len
 have hone := hr.one
 refine B6 Tryz.func103 rfl Tryz.ntmps103 Tryz.results103 rfl ?_
 intro w0
 refine tS (tR ?_)
 refine sE (C4 rfl rfl) rfl (fun b3 => ?_)
 refine sE (A6 rfl) rfl (fun b4 => ?_)
 refine sE (A6 rfl) rfl (fun b5 => ?_)
 refine sQ (qA rfl) rfl (sD (nS (tS (tR ?_))))
 refine sL (A3 rfl rfl (A7 (by repeat first | exact mH | apply mT)) (by assumption)) rfl rfl ?_
 (refine D7 rfl (A8Q e _ _ (by omega) hr) rfl rfl (fun v G1 hle1 hh => ?_); obtain ⟨mt, mc, mx, rfl, hmr, hma, hms, hmv⟩ := hh; obtain ⟨pt, ct, et, rfl, _⟩ := hmr.open; cases mx)
 refine H9 ?_
 refine sE (A6 rfl) rfl (fun b16 => ?_)
 refine A0A ?_
 refine I0 (rC rfl (A4 rfl rfl)) (rC rfl (A4 rfl rfl)) (rT rfl) ?_
 (exact ⟨rfl, I9, _, .mk 0 [], _, _, rfl, B5C _, B5D, by rw [B5E]; omega, K5 _ ⟨by omega, by omega⟩, N1 (by omega) (by omega), by rw [X9]; omega⟩)
 refine H9 ?_
 refine sE (A6 rfl) rfl (fun b45 => ?_)
 refine M9 ?_
 refine sL (A3 rfl rfl (A7 (by repeat first | exact mH | apply mT)) (by assumption)) rfl rfl ?_
 (have hv := (A4z e).1 (hmv rfl); have hv2 := hv.2; have hI := B3h e 1 G1 none 0 0 1 cells hv.1 (by omega) (T5.nil _) (hr.mono hle1) (by omega) (by omega); refine D7 rfl hI rfl rfl (fun v G2 hle2 hh => ?_); obtain ⟨u, cu, t, tc, l3, rfl, hru, hu1, hu2, hrt, ht1, ht2, _⟩ := hh; obtain ⟨qt, dt, et2, rfl, _⟩ := hrt.open; have hlu := hru.len; have hou := hru.one)
 refine J8 ?_
 refine sE (A6 rfl) rfl (fun b68 => ?_)
 refine sE (A6 rfl) rfl (fun b69 => ?_)
 refine P5 rfl rfl rfl hlu hou rfl (by repeat first | exact Sw.here | apply Sw.there) (by exact C1 (by first | exact hlu.symm | omega)) ?_
 refine H6 ?_
 refine sQ (qA rfl) rfl (sD (nS (tS ?_)))
 refine D1 D2 rfl ?_
 refine N8 (i := 0) (l' := [tt,ff,ff,ff,ff]) rfl C8 (A3 rfl rfl (A7 (by repeat first | exact mH | apply mT)) hlu) rfl (by kernel_rfl) rfl rfl ?_
 refine aL 1 rfl (A4 rfl rfl) rfl ?_
 refine A2 2 ?_
 refine A0I rfl rfl rfl rfl hlu hou rfl rfl (by repeat first | exact Sw.here | apply Sw.there) (by exact C1 hlu.symm) (by repeat (first | exact A9.nil | apply A9.dep (by decide +kernel) | apply A9.blk (by decide +kernel) (by repeat (first | exact Pk.here | apply Pk.there)) (by repeat first | exact mH | apply mT))) ?_
 refine A2 3 ?_
 refine A0I rfl rfl rfl rfl rfl rfl rfl rfl (by repeat first | exact Sw.here | apply Sw.there) (by rfl) (by repeat (first | exact A9.nil | apply A9.dep (by decide +kernel) | apply A9.blk (by decide +kernel) (by repeat (first | exact Pk.here | apply Pk.there)) (by repeat first | exact mH | apply mT))) ?_
 refine aP 4 rfl (qA rfl) rfl ?_
 refine C0 (nS (tT ?_))
 refine I0 (rC rfl (A3 rfl rfl (A7 (by repeat first | exact mH | apply mT)) hlu)) (rC rfl (A4 rfl rfl)) (rT rfl) ?_
 (exact ⟨rfl, u, _, t, _, _, rfl, hru, hu1, by omega, hrt, ht1, by omega⟩)
theorem A32 (br : Nat) (pb : Option Addr) (nb cb : Nat) (bs : List UInt8) (hnb : nb ≤ 2000) (p : Nat) (G : IM) (hb : Sl G pb nb cb 1 (N5 bs)) (hp : p + 200 < 1099511627776) (t : Tm) (cells : List Value) (N : Nat) (hfit : t.fit N) (hr : A8 G t cells) :
  Fn Tryz.prog 47 [.pointer (some ⟨br, 0, none⟩), .agg ⟨cells⟩] [rd br pb nb cb p] G
   (Z6 br pb nb cb p 100 (fun G' v => ∃ t cells, v = .agg ⟨cells⟩ ∧ A8 G' t cells ∧ t.fit N)) := by
 have hl := hr.len
 have hone := hr.one
 refine B6 Tryz.func47 rfl Tryz.ntmps47 Tryz.results47 rfl ?_
 intro w0
 refine tS (tR ?_)
 refine sE (C4 rfl rfl) rfl (fun b3 => ?_)
 refine sE (A6 rfl) rfl (fun b4 => ?_)
 refine sD (nS (tS (tR (sQ (qM rfl) rfl ?_))))
 refine sL (A3 rfl rfl (A7 (by repeat first | exact mH | apply mT)) (by assumption)) rfl rfl ?_
 (have hcall := B29 br pb nb cb bs hnb p _ hb (by omega) t cells N hfit hr; refine H5 rfl hcall (Pk.perm (by repeat (first | exact Pk.here | apply Pk.there))) rfl rfl (fun v Gn outs hle1 hh => ?_); obtain ⟨p1, hp11, hp12, rfl, t1, c1, rfl, hr1, hf1, hc1⟩ := hh; obtain ⟨k, nm, num, ⟨tk, tks⟩, ⟨fk, fks⟩, lb, ks⟩ := t1; obtain ⟨q1, d1, q2, d2, q3, d3, es, rfl, hk, hnum, hlb, hty, hfr, hsl, hkl⟩ := hr1.open9; have hsm := hf1; simp only [Tm.small] at hsm; obtain ⟨hs1, hs2, hs3, _⟩ := hsm; replace hb := hb.mono hle1)
 refine sE (A6 rfl) rfl (fun b12 => ?_)
 refine H6 ?_
 refine sD (nS (tS (tS (tR (sQ (qM rfl) rfl ?_)))))
 (refine H5 rfl (T4 _ br pb nb cb (p1) bs 40 hb hnb (by omega)) (Pk.perm (by repeat (first | exact Pk.here | apply Pk.there))) rfl rfl (fun v Gp outs hle20 hh => ?_); obtain ⟨rfl, rfl, j20, rfl, hj20, hk20⟩ := hh; skip)
 replace hr1 := hr1.mono hle20
 replace hty := hty.mono hle20
 replace hfr := hfr.mono hle20
 replace hsl := hsl.mono hle20
 replace hkl := hkl.mono hle20
 replace hb := hb.mono hle20
 refine sD (nS ?_)
 refine C3 (tS (tR (sB (qE rfl rfl) rfl rfl (fun h26 => ?_) (fun h26 => ?_))))
 refine sQ (qA rfl) rfl (sD (nS (qT rfl (tR (sQ (qM rfl) rfl ?_)))))
 (refine K7 (D0 rfl rfl rfl (by omega) (by unfold maxLen; omega) rfl) rfl ?_; rintro _ ⟨b33, rfl⟩)
 (refine U1 (by repeat (first | exact Pk.here | apply Pk.there)) (fun Gf hlef hslf _ => ?_); refine H5 rfl (Y7 Gf br pb nb cb (p1 + 1) bs _ _ _ _ (hb.mono hlef) hnb (by omega) hslf (by decide)) (Pk.perm (by repeat (first | exact Pk.here | apply Pk.there))) rfl rfl (fun v Gm outs hlen hh => ?_); obtain ⟨rfl, rfl, hv⟩ := hh; replace hb := hb.mono hlef; obtain ⟨kn, rfl, hkn⟩ : ∃ k, v = .int .i64 k ∧ E9 k := (by simp only [List.mem_cons, List.not_mem_nil, or_false] at hv; rcases hv with rfl | rfl | rfl | rfl <;> exact ⟨_, rfl, by unfold E9; omega⟩); have hrN := A8.of9 (nm := nm) hk hnum hkn (hty.mono hlef) (hfr.mono hlef) (hsl.mono hlef) (hkl.mono hlef))
 refine N2 ?_
 refine I1 (outs := [rd br pb nb cb (p1 + 1 + 1)]) (rC rfl (A4 rfl rfl)) (by repeat (first | exact A1.nil | refine A1.cons Pk.here ?_ | refine A1.cons (Pk.there Pk.here) ?_ | refine A1.cons (Pk.there (Pk.there Pk.here)) ?_ | apply A1.drop)) ?_
 (exact ⟨p1 + 1 + 1, by omega, by omega, rfl, _, _, rfl, hrN, A1G hf1 hs1 hs2 hs3, hc1⟩)
 refine sQ (qA rfl) rfl (sD (nS (cF rfl (tS (tR ?_)))))
 refine sB (qE rfl rfl) rfl rfl (fun h55 => ?_) (fun h55 => ?_)
 refine D5 ?_
 (have hcall := A8B br pb nb cb bs hnb (p1 + 1) _ hb (by omega); refine H5 rfl hcall (Pk.perm (by repeat (first | exact Pk.here | apply Pk.there))) rfl rfl (fun v Gn outs hle3 hh => ?_); obtain ⟨p3, hp31, hp32, rfl, t3, cells3, rfl, hr3, hs4⟩ := hh; replace hb := hb.mono hle3)
 (have hcall := A8C br pb nb cb bs hnb p3 _ hb (by omega) t3 cells3 hr3 hs4; refine H5 rfl hcall (Pk.perm (by repeat (first | exact Pk.here | apply Pk.there))) rfl rfl (fun v Gn outs hle4 hh => ?_); obtain ⟨p4, hp41, hp42, rfl, t4, cells4, rfl, hr4, hs5⟩ := hh; have hts4 := A2O t4 (by omega); obtain ⟨t4k, t4s⟩ := t4; obtain ⟨q4, c4, es4, rfl, _⟩ := hr4.open; have hle24 := hle3.trans hle4; have hrM := A8.of9 (nm := nm) hk hnum hlb (hty.mono hle24) hr4 (hsl.mono hle24) (hkl.mono hle24))
 refine N2 ?_
 refine I1 (outs := [rd br pb nb cb p4]) (rC rfl (A4 rfl rfl)) (by repeat (first | exact A1.nil | refine A1.cons Pk.here ?_ | refine A1.cons (Pk.there Pk.here) ?_ | refine A1.cons (Pk.there (Pk.there Pk.here)) ?_ | apply A1.drop)) ?_
 (exact ⟨p4, by omega, by omega, rfl, _, _, rfl, hrM, A1G hf1 hs1 hs2 hts4, hc1⟩)
 refine O0 ?_
 refine I1 (outs := [rd br pb nb cb (p1 + 1)]) (rC rfl (A4 rfl rfl)) (by repeat (first | exact A1.nil | refine A1.cons Pk.here ?_ | refine A1.cons (Pk.there Pk.here) ?_ | refine A1.cons (Pk.there (Pk.there Pk.here)) ?_ | apply A1.drop)) ?_
 (exact ⟨p1 + 1, by omega, by omega, rfl, _, _, rfl, hr1, hf1, hc1⟩)
theorem B5G (br : Nat) (pb : Option Addr) (nb cb : Nat) (bs : List UInt8) (hnb : nb ≤ 2000) (p : Nat) (G : IM) (hb : Sl G pb nb cb 1 (N5 bs)) (hp : p + 9100000 < 1099511627776) :
  Fn Tryz.prog 44 [.pointer (some ⟨br, 0, none⟩)] [rd br pb nb cb p] G
   (Z6 br pb nb cb p 9100000 (fun G' v => ∃ e cells, v = .agg ⟨cells⟩ ∧ A8 G' e cells ∧ e.fit 100)) := by
 refine B6 Tryz.func44 rfl Tryz.ntmps44 Tryz.results44 rfl ?_
 intro w0
 refine tS (tR ?_)
 refine sE (A6 rfl) rfl (fun b3 => ?_)
 refine sD (nS (tS (tR (sQ (qM rfl) rfl ?_))))
 (have hcall := B5A br pb nb cb bs hnb p _ hb (by omega); refine H5 rfl hcall (Pk.perm (by repeat (first | exact Pk.here | apply Pk.there))) rfl rfl (fun v Gn outs hleT hh => ?_); obtain ⟨pT, hpT1, hpT2, rfl, eT, cT, rfl, hrT, hcT⟩ := hh; replace hb := hb.mono hleT)
 (refine D7 rfl (B5F eT _ _ (by omega) hrT) rfl rfl (fun v G9 hle9 hh => ?_); obtain ⟨u0, cu0, t0, ct0, ok0, rfl, hru0, hsu0, hcu0, hrt0, hat0, hst0⟩ := hh; have hl0 := hru0.len; have ho0 := hru0.one; have hl1 := hrt0.len; have ho1 := hrt0.one; replace hb := hb.mono hle9; cases ok0)
 refine J8 ?_
 refine sE (A6 rfl) rfl (fun b15 => ?_)
 refine sE (A6 rfl) rfl (fun b16 => ?_)
 refine P5 rfl rfl rfl hl0 ho0 rfl (by repeat first | exact Sw.here | apply Sw.there) (by exact C1 (by first | exact hl0.symm | omega)) ?_
 refine P5 rfl rfl rfl hl1 ho1 rfl (by repeat first | exact Sw.here | apply Sw.there) (by exact C1 (by first | exact hl1.symm | omega)) ?_
 refine J4 ?_
 refine E8 rfl ((A2q _ _)) rfl rfl ?_
 refine H6 ?_
 refine sD (nS (tT (rS ?_)))
 refine I1 (outs := [rd br pb nb cb pT]) (rC rfl (A4 rfl rfl)) (by repeat (first | exact A1.nil | refine A1.cons Pk.here ?_ | refine A1.cons (Pk.there Pk.here) ?_ | refine A1.cons (Pk.there (Pk.there Pk.here)) ?_ | apply A1.drop)) ?_
 (exact ⟨pT, by omega, by omega, rfl, _, _, rfl, A1h ⟨by omega, by omega⟩ ⟨by omega, by omega⟩, A77 _ (by rw [A1E]; decide), by simp only [E7, H3]; omega⟩)
 refine J8 ?_
 refine sE (A6 rfl) rfl (fun b44 => ?_)
 refine sE (A6 rfl) rfl (fun b45 => ?_)
 refine P5 rfl rfl rfl hl0 ho0 rfl (by repeat first | exact Sw.here | apply Sw.there) (by exact C1 (by first | exact hl0.symm | omega)) ?_
 refine P5 rfl rfl rfl hl1 ho1 rfl (by repeat first | exact Sw.here | apply Sw.there) (by exact C1 (by first | exact hl1.symm | omega)) ?_
 refine P7 ?_
 (refine H5 rfl (T4 _ br pb nb cb (pT) bs 3 hb hnb (by omega)) (Pk.perm (by repeat (first | exact Pk.here | apply Pk.there))) rfl rfl (fun v Gp outs hle65 hh => ?_); obtain ⟨rfl, rfl, j65, rfl, hj65, hk65⟩ := hh; obtain ⟨i0, rfl⟩ := Int.eq_ofNat_of_zero_le hj65; have hi0 := hk65)
 replace hru0 := hru0.mono hle65
 replace hrt0 := hrt0.mono hle65
 replace hb := hb.mono hle65
 refine sQ (qA rfl) rfl (sD (nS ?_))
 refine C3 ?_
 (refine M6 (fun (x : Nat × List Value × List Value × Nat × IM) => ⟨[(6, .int .i64 x.1), (0, .pointer (some ⟨br, 0, none⟩)), (2, .pointer (some ⟨b3, 0, none⟩)), (3, .pointer (some ⟨b44, 0, none⟩)), (4, .pointer (some ⟨b45, 0, none⟩))], [.blk b44 x.2.1, .blk b45 x.2.2.1, rd br pb nb cb x.2.2.2.1, .blk b3 [.int .i64 0, .string ⟨⟨[]⟩⟩, .int .i64 0, .int .i64 0, .slice none 0 0, .int .i64 0, .slice none 0 0, .int .i64 0, .slice none 0 0]], x.2.2.2.2⟩) (fun x => x.1 ≤ 2 ∧ B8 Gp x.2.2.2.2 ∧ (∃ e, A8 x.2.2.2.2 e x.2.1 ∧ e.small ∧ E7 e + x.1 ≤ 62) ∧ (∃ t, B2 x.2.2.2.2 t x.2.2.1 ∧ D4 t ∧ H4 t ≤ 960) ∧ pT + 1 ≤ x.2.2.2.1 ∧ x.2.2.2.1 + x.1 * 2000 ≤ pT + 1 + 4000) (fun x => x.1) (i0, cu0, ct0, pT + 1, Gp) ?_ ?_ ?_)
 (simp only [K4]; exact E1)
 (exact ⟨by dsimp only; omega, B8.refl _, ⟨u0, hru0, hsu0, by dsimp only; omega⟩, ⟨t0, hrt0, hat0, hst0⟩, Nat.le_refl _, by dsimp only; omega⟩)
 (rintro ⟨(i : Nat), ce, ct, (p1 : Nat), G1⟩ ⟨hi, hleL, ⟨e, hre, hse, hce⟩, ⟨t, hrt, hat, hst⟩, hpL, hpL2⟩; simp only [] at hi hleL hre hse hce hrt hat hst hpL hpL2 ⊢; replace hb := hb.mono hleL; have hl2 := hre.len; have ho2 := hre.one; have hl3 := hrt.len; have ho3 := hrt.one; have hnt := A0f t)
 refine tS (tS (tR (sQ (qM rfl) rfl ?_)))
 refine sB (Y2 rfl rfl) rfl rfl (fun h78 => ?_) (fun h78 => ?_)
 refine sD (nS (qT rfl (tK (nS (tS ?_)))))
 (show J5 _ _ (.block 1 ..) _ _; obtain ⟨j, rfl⟩ : ∃ j, i = j + 1 := ⟨i - 1, by omega⟩; refine C3 ?_)
 refine tS (tR (sQ (qM rfl) rfl ?_))
 refine sL (A3 rfl rfl (A7 (by repeat first | exact mH | apply mT)) hl3) rfl rfl ?_
 (have hcall := A4D br pb nb cb bs hnb t p1 _ _ hat hrt hb (by omega); refine H5 rfl hcall (Pk.perm (by repeat (first | exact Pk.here | apply Pk.there))) rfl rfl (fun v Gn outs hleu hh => ?_); obtain ⟨p2, hp21, hp22, rfl, u, cu, rfl, hru, hua, hus, huh⟩ := hh; have hl4 := hru.len; have ho4 := hru.one; replace hb := hb.mono hleu; replace hrt := hrt.mono hleu; replace hre := hre.mono hleu; replace hleL := hleL.trans hleu)
 refine sE (A6 rfl) rfl (fun b91 => ?_)
 refine P5 rfl rfl rfl hl4 ho4 rfl (by repeat first | exact Sw.here | apply Sw.there) (by exact C1 (by first | exact hl4.symm | omega)) ?_
 refine sD (nS (tS (tS (tR (sQ (qM rfl) rfl ?_)))))
 (refine H5 rfl (T4 _ br pb nb cb (p2) bs 2 hb hnb (by omega)) (Pk.perm (by repeat (first | exact Pk.here | apply Pk.there))) rfl rfl (fun v Gp outs hle99 hh => ?_); obtain ⟨rfl, rfl, j99, rfl, hj99, hk99⟩ := hh; have hpickA := hj99)
 replace hru := hru.mono hle99
 replace hb := hb.mono hle99
 replace hrt := hrt.mono hle99
 replace hre := hre.mono hle99
 refine sB (qE rfl rfl) rfl rfl (fun h100 => ?_) (fun h100 => ?_)
 refine sD (nS (qT rfl (tR (sQ (qM rfl) rfl ?_))))
 (have hcall := A8A br pb nb cb bs hnb (p2 + 1) _ hb (by omega); refine H5 rfl hcall (Pk.perm (by repeat (first | exact Pk.here | apply Pk.there))) rfl rfl (fun v Gn outs hlew hh => ?_); obtain ⟨p3, hp31, hp32, rfl, w, cw, rfl, hrw, hws, hwh⟩ := hh; have hl5 := hrw.len; have ho5 := hrw.one; have hwa := hwh.ar; replace hb := hb.mono hlew; replace hrt := hrt.mono hlew; replace hre := hre.mono hlew; replace hleL := hleL.trans hlew)
 refine P5 rfl rfl rfl hl5 ho5 rfl (by repeat first | exact Sw.here | apply Sw.there) (by exact C1 (by first | exact hl5.symm | omega)) ?_
 refine sD (nS (tS (tR ?_)))
 refine sL (A3 rfl rfl (A7 (by repeat first | exact mH | apply mT)) hl3) rfl rfl ?_
 refine sL (A3 rfl rfl (A7 (by repeat first | exact mH | apply mT)) hl5) rfl rfl ?_
 refine F4 rfl ((A07 t w _ _ _ hat hwa hrt hrw)) rfl rfl (fun h114 => ?_) (fun h114 => ?_)
 refine sD (nS (qT rfl (tS (tR (sQ (qM rfl) rfl ?_)))))
 refine sP (M8 rfl rfl (by omega) (by omega)) rfl rfl ?_
 refine D5 ?_
 (refine H5 rfl (T4 _ br pb nb cb (p3) bs 3 hb hnb (by omega)) (Pk.perm (by repeat (first | exact Pk.here | apply Pk.there))) rfl rfl (fun v Gp outs hle129 hh => ?_); obtain ⟨rfl, rfl, j129, rfl, hj129, hk129⟩ := hh; have hpickB := hwa)
 replace hrw := hrw.mono hle129
 replace hb := hb.mono hle129
 replace hrt := hrt.mono hle129
 replace hre := hre.mono hle129
 refine sB (qE rfl rfl) rfl rfl (fun h130 => ?_) (fun h130 => ?_)
 refine sD (nS (qT rfl (tR (sQ (qM rfl) rfl ?_))))
 refine sP (A3n rfl (by omega) (by omega)) rfl rfl ?_
 refine sQ (qA rfl) rfl (sD (nS (tS (tR ?_))))
 refine sL (A3 rfl rfl (A7 (by repeat first | exact mH | apply mT)) hl2) rfl rfl ?_
 refine sL (A3 rfl rfl (A7 (by repeat first | exact mH | apply mT)) hl3) rfl rfl ?_
 refine sL (A3 rfl rfl (A7 (by repeat first | exact mH | apply mT)) hl5) rfl rfl ?_
 refine sQ (qM rfl) rfl ?_
 (refine D7 rfl (A3J e t w _ _ _ _ _ (by omega) hre hrt hrw hat hwa) rfl rfl (fun v G8 hle8 hh => ?_); obtain ⟨y, cy, ly, rfl, hry, hsy, hcy, _⟩ := hh; have hl6 := hry.len; have ho6 := hry.one; replace hb := hb.mono hle8; have hrN := hrw.mono hle8; replace hleL := hleL.trans hle8; have hNa := hwa; have hNs : H4 w ≤ 960 := (by omega))
 refine H9 ?_
 refine P5 rfl rfl rfl hl6 ho6 rfl (by repeat first | exact Sw.here | apply Sw.there) (by exact C1 (by first | exact hl6.symm | omega)) ?_
 refine sD (nS (tR ?_))
 refine sL (A3 rfl rfl (A7 (by repeat first | exact mH | apply mT)) hl5) rfl rfl ?_
 refine P5 rfl rfl rfl hl5 ho5 rfl (by repeat first | exact Sw.here | apply Sw.there) (by exact C1 (by first | exact hl5.symm | omega)) ?_
 refine sD (O2 (nS (tR (sQ (qM rfl) rfl ?_))))
 refine sP (A1c rfl rfl (by omega)) rfl rfl ?_
 refine sQ (qA rfl) rfl (sD ?_)
 refine L8 (j, cy, cw, p3 + 1, G8) ?_ ?_ ?_
 (simp only [K4]; exact E1)
 (dsimp only; exact ⟨by omega, hleL, ⟨y, hry, hsy hse, by omega⟩, ⟨_, hrN, hNa, hNs⟩, by omega, by omega⟩)
 (show _ < _ + 1; omega)
 refine sD (nS (cF rfl (tK (nS (tS (tR ?_))))))
 refine sL (A3 rfl rfl (A7 (by repeat first | exact mH | apply mT)) hl2) rfl rfl ?_
 refine sL (A3 rfl rfl (A7 (by repeat first | exact mH | apply mT)) hl3) rfl rfl ?_
 refine sL (A3 rfl rfl (A7 (by repeat first | exact mH | apply mT)) hl5) rfl rfl ?_
 refine sQ (qM rfl) rfl ?_
 (refine D7 rfl (A3J e t w _ _ _ _ _ (by omega) hre hrt hrw hat hwa) rfl rfl (fun v G8 hle8 hh => ?_); obtain ⟨y, cy, ly, rfl, hry, hsy, hcy, _⟩ := hh; have hl6 := hry.len; have ho6 := hry.one; replace hb := hb.mono hle8; have hrN := hrw.mono hle8; replace hleL := hleL.trans hle8; have hNa := hwa; have hNs : H4 w ≤ 960 := (by omega))
 refine H9 ?_
 refine P5 rfl rfl rfl hl6 ho6 rfl (by repeat first | exact Sw.here | apply Sw.there) (by exact C1 (by first | exact hl6.symm | omega)) ?_
 refine sD (nS (tR ?_))
 refine sL (A3 rfl rfl (A7 (by repeat first | exact mH | apply mT)) hl5) rfl rfl ?_
 refine P5 rfl rfl rfl hl5 ho5 rfl (by repeat first | exact Sw.here | apply Sw.there) (by exact C1 (by first | exact hl5.symm | omega)) ?_
 refine sD (O2 (nS (tR (sQ (qM rfl) rfl ?_))))
 refine sP (A1c rfl rfl (by omega)) rfl rfl ?_
 refine sQ (qA rfl) rfl (sD ?_)
 refine L8 (j, cy, cw, p3 + 1, G8) ?_ ?_ ?_
 (simp only [K4]; exact E1)
 (dsimp only; exact ⟨by omega, hleL, ⟨y, hry, hsy hse, by omega⟩, ⟨_, hrN, hNa, hNs⟩, by omega, by omega⟩)
 (show _ < _ + 1; omega)
 refine F8 ?_
 refine sP (A1c rfl rfl (by omega)) rfl rfl ?_
 refine sQ (qA rfl) rfl (sD ?_)
 refine L8 (j, ce, ct, p3, Gn) ?_ ?_ ?_
 (simp only [K4]; exact E1)
 (dsimp only; exact ⟨by omega, hleL, ⟨e, hre, hse, by omega⟩, ⟨t, hrt, hat, hst⟩, by omega, by omega⟩)
 (show _ < _ + 1; omega)
 refine sD (nS (cF rfl (tK (nS (tS (tR ?_))))))
 refine sL (A3 rfl rfl (A7 (by repeat first | exact mH | apply mT)) hl3) rfl rfl ?_
 refine sL (A3 rfl rfl (A7 (by repeat first | exact mH | apply mT)) hl4) rfl rfl ?_
 refine F4 rfl ((A07 t u _ _ _ hat hua hrt hru)) rfl rfl (fun h225 => ?_) (fun h225 => ?_)
 refine sD (nS (qT rfl (tS (tR (sQ (qM rfl) rfl ?_)))))
 refine sP (M8 rfl rfl (by omega) (by omega)) rfl rfl ?_
 refine D5 ?_
 (refine H5 rfl (T4 _ br pb nb cb (p2 + 1) bs 3 hb hnb (by omega)) (Pk.perm (by repeat (first | exact Pk.here | apply Pk.there))) rfl rfl (fun v Gp outs hle240 hh => ?_); obtain ⟨rfl, rfl, j240, rfl, hj240, hk240⟩ := hh; have hpickB := hua)
 replace hru := hru.mono hle240
 replace hb := hb.mono hle240
 replace hrt := hrt.mono hle240
 replace hre := hre.mono hle240
 refine sB (qE rfl rfl) rfl rfl (fun h241 => ?_) (fun h241 => ?_)
 refine sD (nS (qT rfl (tR (sQ (qM rfl) rfl ?_))))
 refine sP (A3n rfl (by omega) (by omega)) rfl rfl ?_
 refine sQ (qA rfl) rfl (sD (nS (tS (tR ?_))))
 refine sL (A3 rfl rfl (A7 (by repeat first | exact mH | apply mT)) hl2) rfl rfl ?_
 refine sL (A3 rfl rfl (A7 (by repeat first | exact mH | apply mT)) hl3) rfl rfl ?_
 refine sL (A3 rfl rfl (A7 (by repeat first | exact mH | apply mT)) hl4) rfl rfl ?_
 refine sQ (qM rfl) rfl ?_
 (refine D7 rfl (A3J e t u _ _ _ _ _ (by omega) hre hrt hru hat hua) rfl rfl (fun v G8 hle8 hh => ?_); obtain ⟨y, cy, ly, rfl, hry, hsy, hcy, _⟩ := hh; have hl6 := hry.len; have ho6 := hry.one; replace hb := hb.mono hle8; have hrN := hru.mono hle8; replace hleL := hleL.trans hle8; have hNa := hua; have hNs : H4 u ≤ 960 := (by omega))
 refine H9 ?_
 refine P5 rfl rfl rfl hl6 ho6 rfl (by repeat first | exact Sw.here | apply Sw.there) (by exact C1 (by first | exact hl6.symm | omega)) ?_
 refine sD (nS (tR ?_))
 refine sL (A3 rfl rfl (A7 (by repeat first | exact mH | apply mT)) hl4) rfl rfl ?_
 refine P5 rfl rfl rfl hl4 ho4 rfl (by repeat first | exact Sw.here | apply Sw.there) (by exact C1 (by first | exact hl4.symm | omega)) ?_
 refine sD (O2 (nS (tR (sQ (qM rfl) rfl ?_))))
 refine sP (A1c rfl rfl (by omega)) rfl rfl ?_
 refine sQ (qA rfl) rfl (sD ?_)
 refine L8 (j, cy, cu, p2 + 1 + 1, G8) ?_ ?_ ?_
 (simp only [K4]; exact E1)
 (dsimp only; exact ⟨by omega, hleL, ⟨y, hry, hsy hse, by omega⟩, ⟨_, hrN, hNa, hNs⟩, by omega, by omega⟩)
 (show _ < _ + 1; omega)
 refine sD (nS (cF rfl (tK (nS (tS (tR ?_))))))
 refine sL (A3 rfl rfl (A7 (by repeat first | exact mH | apply mT)) hl2) rfl rfl ?_
 refine sL (A3 rfl rfl (A7 (by repeat first | exact mH | apply mT)) hl3) rfl rfl ?_
 refine sL (A3 rfl rfl (A7 (by repeat first | exact mH | apply mT)) hl4) rfl rfl ?_
 refine sQ (qM rfl) rfl ?_
 (refine D7 rfl (A3J e t u _ _ _ _ _ (by omega) hre hrt hru hat hua) rfl rfl (fun v G8 hle8 hh => ?_); obtain ⟨y, cy, ly, rfl, hry, hsy, hcy, _⟩ := hh; have hl6 := hry.len; have ho6 := hry.one; replace hb := hb.mono hle8; have hrN := hru.mono hle8; replace hleL := hleL.trans hle8; have hNa := hua; have hNs : H4 u ≤ 960 := (by omega))
 refine H9 ?_
 refine P5 rfl rfl rfl hl6 ho6 rfl (by repeat first | exact Sw.here | apply Sw.there) (by exact C1 (by first | exact hl6.symm | omega)) ?_
 refine sD (nS (tR ?_))
 refine sL (A3 rfl rfl (A7 (by repeat first | exact mH | apply mT)) hl4) rfl rfl ?_
 refine P5 rfl rfl rfl hl4 ho4 rfl (by repeat first | exact Sw.here | apply Sw.there) (by exact C1 (by first | exact hl4.symm | omega)) ?_
 refine sD (O2 (nS (tR (sQ (qM rfl) rfl ?_))))
 refine sP (A1c rfl rfl (by omega)) rfl rfl ?_
 refine sQ (qA rfl) rfl (sD ?_)
 refine L8 (j, cy, cu, p2 + 1 + 1, G8) ?_ ?_ ?_
 (simp only [K4]; exact E1)
 (dsimp only; exact ⟨by omega, hleL, ⟨y, hry, hsy hse, by omega⟩, ⟨_, hrN, hNa, hNs⟩, by omega, by omega⟩)
 (show _ < _ + 1; omega)
 refine F8 ?_
 refine sP (A1c rfl rfl (by omega)) rfl rfl ?_
 refine sQ (qA rfl) rfl (sD ?_)
 refine L8 (j, ce, ct, p2 + 1, Gp) ?_ ?_ ?_
 (simp only [K4]; exact E1)
 (dsimp only; exact ⟨by omega, hleL, ⟨e, hre, hse, by omega⟩, ⟨t, hrt, hat, hst⟩, by omega, by omega⟩)
 (show _ < _ + 1; omega)
 refine I8 ?_
 refine sL (A3 rfl rfl (A7 (by repeat first | exact mH | apply mT)) hl2) rfl rfl ?_
 refine P5 rfl rfl rfl (by assumption) (by assumption) rfl (by repeat first | exact Sw.here | apply Sw.there) (by exact C1 (by symm; assumption)) ?_
 refine sD (nS (tT ?_))
 refine I1 (outs := [rd br pb nb cb p1]) (rC rfl (A3 rfl rfl (A7 (by repeat first | exact mH | apply mT)) hl2)) (by repeat (first | exact A1.nil | refine A1.cons Pk.here ?_ | refine A1.cons (Pk.there Pk.here) ?_ | refine A1.cons (Pk.there (Pk.there Pk.here)) ?_ | apply A1.drop)) ?_
 (exact ⟨p1, by omega, by omega, rfl, e, _, rfl, hre, hse, by omega⟩)
def B68 (G : IM) : IM → Value → List A5 → Prop := L2 fun G' v => ∃ t cells l q c, v = .tuple ⟨[.agg ⟨cells⟩, .slice q l.length c]⟩ ∧ A8 G' t cells ∧ t.fit 100 ∧ Sl G' q l.length c 1 (A3x l) ∧ l.length ≤ 100
def B69 (ts : List Tm) (G : IM) : IM → Value → List A5 → Prop := L2 fun G' v => ∃ p c es, v = .slice p ts.length c ∧ C9 G' p ts.length c 9 es ∧ E5 G' ts es
def B7a (ts : List Ty) (G : IM) : IM → Value → List A5 → Prop := L2 fun G' v => ∃ p c es, v = .slice p ts.length c ∧ C9 G' p ts.length c 2 es ∧ E0 G' ts es
def srt (zs : List Int) : List Int := zs.mergeSort fun x y => decide (x ≤ y)
def B7b (t : Tm) : List Int := if I3 t = true then Lib.compact (srt ((A2D t).map Tm.lb)) else []
def B7c (t : Tm) : Tm × Bool := if I3 t = true ∧ (A2D t).length ≤ 99 then ((mRl t 0).1, true) else (I9, false)
mutual
def K9 : Tm → Prop
 | .mk k _ _ _ _ _ ks => (k = 14 → ks.length = 1) ∧ X2 ks
def X2 : List Tm → Prop
 | [] => True
 | t :: ts => K9 t ∧ X2 ts
end
theorem A63 : ∀ {ks : List Tm}, X2 ks → ∀ t ∈ ks, K9 t
 | [], _, t, h => by simp at h
 | u :: us, h, t, ht => by
  rw [X2] at h
  rcases List.mem_cons.1 ht with rfl | ht
  ·exact h.1
  ·exact A63 h.2 t ht
theorem A18 {k : Int} {nm : ByteArray} {num : Int} {ty fr : Ty} {lb : Int} {ks : List Tm} (h : K9 (.mk k nm num ty fr lb ks)) (hk : k = 14) : ∃ a, ks = [a] ∧ K9 a := by
 rw [K9] at h
 match ks, h.1 hk with
 | [a], _ => exact ⟨a, rfl, by have := h.2; rw [X2] at this; exact this.1⟩
theorem A47 : ∀ t : Tm, cv t → K9 t := by
 refine Tm.ind fun k nm num ty fr lb ks ih hc => ?_
 obtain ⟨hN, hk⟩ := hc.node
 have hops := hN.ops
 rw [K9]
 refine ⟨fun h => ?_, ?_⟩
 ·rw [h] at hops; have : D3 14 = 1 := rfl; omega
 ·clear hN hops hc
  induction ks with
  | nil => rw [X2]; trivial
  | cons t ts ihl =>
   rw [X2]
   exact ⟨ih t List.mem_cons_self (hk t List.mem_cons_self), ihl (fun u hu => ih u (List.mem_cons_of_mem _ hu)) fun u hu => hk u (List.mem_cons_of_mem _ hu)⟩
theorem B5H {t : Tm} (h : K9 t) : K9 (N9 t) := by
 obtain ⟨k, nm, num, ty, fr, lb, ks⟩ := t
 by_cases hk : k = 14
 ·obtain ⟨a, rfl, ha⟩ := A18 h hk
  unfold N9
  split
  ·exact h
  ·split
   ·exact ha
   ·split
    ·rename_i h3
     obtain ⟨ak, anm, anum, aty, afr, alb, aks⟩ := a
     obtain ⟨b, rfl, hb⟩ := A18 ha h3.2.1
     exact hb
    ·exact h
 ·rw [show N9 (.mk k nm num ty fr lb ks) = .mk k nm num ty fr lb ks from if_pos hk]; exact h
mutual
theorem B5I : ∀ t : Tm, K9 t → K9 (J7 N9 t)
 | .mk k nm num ty fr lb ks, h => by
  rw [J7]
  refine B5H ?_
  rw [K9] at h ⊢
  exact ⟨fun hk => by rw [A1d, List.length_map]; exact h.1 hk, A48 ks h.2⟩
theorem A48 : ∀ ks : List Tm, X2 ks → X2 (H1 N9 ks)
 | [], _ => by rw [H1, X2]; trivial
 | t :: ts, h => by
  rw [X2] at h
  rw [H1, X2]
  exact ⟨B5I t h.1, A48 ts h.2⟩
end
mutual
theorem B0R : ∀ t : Tm, K9 t → mOk K9 N9 t
 | .mk k nm num ty fr lb ks, h => by
  rw [K9] at h
  rw [mOk, K9]
  exact ⟨B0S ks h.2, fun hk => by rw [A1d, List.length_map]; exact h.1 hk, A48 ks h.2⟩
theorem B0S : ∀ ks : List Tm, X2 ks → A0g K9 N9 ks
 | [], _ => by rw [A0g]; trivial
 | t :: ts, h => by
  rw [X2] at h
  rw [A0g]
  exact ⟨B0R t h.1, B0S ts h.2⟩
end
def cq1 (t : Tm) : Prop := t.k = 14 → t.ks.length = 1
mutual
theorem B0T {g : Tm → Tm} : ∀ t : Tm, K9 t → mOk cq1 g t
 | .mk k nm num ty fr lb ks, h => by
  rw [K9] at h
  rw [mOk]
  exact ⟨B0U ks h.2, fun hk => by show (H1 g ks).length = 1; rw [A1d, List.length_map]; exact h.1 hk⟩
theorem B0U {g : Tm → Tm} : ∀ ks : List Tm, X2 ks → A0g cq1 g ks
 | [], _ => by rw [A0g]; trivial
 | t :: ts, h => by
  rw [X2] at h
  rw [A0g]
  exact ⟨B0T t h.1, B0U ts h.2⟩
end
mutual
theorem B0V {g : Tm → Tm} (hg : ∀ t, t.small → (g t).small) : ∀ t : Tm, t.small → (J7 g t).small
 | .mk k nm num ty fr lb ks, h => by
  rw [J7]
  refine hg _ ?_
  rw [Tm.small] at h ⊢
  exact ⟨h.1, h.2.1, h.2.2.1, by rw [A1d, List.length_map]; exact h.2.2.2.1, B0W hg ks h.2.2.2.2⟩
theorem B0W {g : Tm → Tm} (hg : ∀ t, t.small → (g t).small) : ∀ ks : List Tm, Tm.smallL ks → Tm.smallL (H1 g ks)
 | [], _ => by rw [H1, Tm.smallL]; trivial
 | t :: ts, h => by
  rw [Tm.smallL] at h
  rw [H1, Tm.smallL]
  exact ⟨B0V hg t h.1, B0W hg ts h.2⟩
end
theorem B5J {t : Tm} (h : t.small) : (P4 t).small := by
 obtain ⟨k, nm, num, ty, fr, lb, ks⟩ := t
 unfold P4
 split
 ·exact h
 ·rw [Tm.small] at h
  exact A3M (A3M (B3j h.2.2.2.2 0) h.2.2.1 W5) W5 h.2.1
theorem A64 {k : Int} {nm : ByteArray} {num : Int} {ty fr : Ty} {lb : Int} {ks : List Tm} (h : k ≠ 14) : N9 (.mk k nm num ty fr lb ks) = .mk k nm num ty fr lb ks := if_pos h
theorem B0X {nm : ByteArray} {num : Int} {ty fr : Ty} {lb : Int} {a : Tm} (h : H7 fr ty = true) : N9 (.mk 14 nm num ty fr lb [a]) = a := by
 unfold N9; rw [if_neg (fun h => h rfl)]; exact if_pos h
theorem B0Y {nm : ByteArray} {num : Int} {ty fr : Ty} {lb : Int} {a : Tm} (h : H7 fr ty = false) (h2 : fr.k = 1 ∧ a.k = 14 ∧ a.ty.k = 1 ∧ H7 ty a.fr = true) : N9 (.mk 14 nm num ty fr lb [a]) = kd a.ks 0 := by
 unfold N9; rw [if_neg (fun h => h rfl), if_neg (by show ¬ H7 fr ty = true; rw [h]; decide)]; exact if_pos h2
theorem B0Z {nm : ByteArray} {num : Int} {ty fr : Ty} {lb : Int} {a : Tm} (h : H7 fr ty = false) (h2 : ¬(fr.k = 1 ∧ a.k = 14 ∧ a.ty.k = 1 ∧ H7 ty a.fr = true)) : N9 (.mk 14 nm num ty fr lb [a]) = .mk 14 nm num ty fr lb [a] := by
 unfold N9; rw [if_neg (fun h => h rfl), if_neg (by show ¬ H7 fr ty = true; rw [h]; decide)]; exact if_neg h2
theorem B5K (t : Tm) (G : IM) (cells : List Value) (hq : K9 t) (hr : A8 G t cells) : Fn Tryz.prog 82 [.agg ⟨cells⟩] [] G (S8 (N9 t)) := by
 have hr0 := hr
 obtain ⟨k, nm, num, ⟨tk, tks⟩, ⟨fk, fks⟩, lb, ks⟩ := t
 by_cases hk14 : k = 14
 ·subst hk14
  obtain ⟨a, rfl, hqa⟩ := A18 hq rfl
  obtain ⟨ak, anm, anum, ⟨atk, atks⟩, ⟨afk, afks⟩, alb, aks⟩ := a
  obtain ⟨pt, ct, pf, cf, p, c, es, rfl, hk, hnum, hlb, hty, hfr, hsl, hkl⟩ := hr.open9
  have hS1 := A2W (.mk fk fks) (.mk tk tks) G _ _ hfr hty
  have hid := @B0X nm num (.mk tk tks) (.mk fk fks) lb (.mk ak anm anum (.mk atk atks) (.mk afk afks) alb aks)
  have hbk := @B0Y nm num (.mk tk tks) (.mk fk fks) lb (.mk ak anm anum (.mk atk atks) (.mk afk afks) alb aks)
  have hst := @B0Z nm num (.mk tk tks) (.mk fk fks) lb (.mk ak anm anum (.mk atk atks) (.mk afk afks) alb aks)
  generalize N9 (.mk 14 nm num (.mk tk tks) (.mk fk fks) lb [.mk ak anm anum (.mk atk atks) (.mk afk afks) alb aks]) = R at hid hbk hst ⊢
  obtain ⟨bx, ox, e, rfl, hl, hat, hre, hgb⟩ := hsl.kidTm hkl (i := 0) (by simp) (by simp)
  have heo := hre.one
  simp only [List.getElem_cons_zero] at hre
  obtain ⟨apt, act, apf, acf, ap, ac, aes, rfl, hak, hanum, halb, haty, hafr, hasl, hakl⟩ := hre.open9
  have hS2 := A2W (.mk tk tks) (.mk afk afks) G _ _ hty hafr
  simp only [show ∀ a b, (Ty.mk a b).k = a from fun _ _ => rfl, show ∀ a b c d e f g, (Tm.mk a b c d e f g).k = a from fun _ _ _ _ _ _ _ => rfl, show ∀ a b c d e f g, (Tm.mk a b c d e f g).ty = d from fun _ _ _ _ _ _ _ => rfl, show ∀ a b c d e f g, (Tm.mk a b c d e f g).fr = e from fun _ _ _ _ _ _ _ => rfl, show ∀ a b c d e f g, (Tm.mk a b c d e f g).ks = g from fun _ _ _ _ _ _ _ => rfl] at hbk hst
  generalize H7 (.mk fk fks) (.mk tk tks) = s1 at hS1 hid hbk hst
  generalize H7 (.mk tk tks) (.mk afk afks) = s2 at hS2 hbk hst
  refine B6 Tryz.func82 rfl Tryz.ntmps82 Tryz.results82 rfl ?_
  intro w0
  refine tS (tR ?_)
  refine sE (C4 rfl rfl) rfl (fun b3 => ?_)
  refine sE (A6 rfl) rfl (fun b4 => ?_)
  refine D5 ?_
  refine sP (A1y rfl rfl (by omega)) rfl rfl ?_
  refine D8 ?_
  refine sP (B4 (j := 0) rfl rfl rfl (by simp)) rfl rfl ?_
  refine sL (A3 rfl rfl (hat _) rfl) rfl rfl ?_
  refine sE (A6 rfl) rfl (fun b24 => ?_)
  refine sS rfl rfl rfl rfl heo rfl ?_ (hu := by exact C1 rfl)
  refine sD (nS (tS ?_))
  refine C3 ?_
  refine J9 ?_
  refine F4 rfl (hS1) rfl rfl (fun h36 => ?_) (fun h36 => ?_)
  refine D5 ?_
  refine sS rfl rfl rfl rfl heo rfl ?_ (hu := by exact C1 rfl)
  refine sD (nS (tT (rB (rS ?_))))
  refine D6 (rC rfl (A4 rfl rfl)) ?_
  (rw [hid (by assumption)]; exact ⟨rfl, _, rfl, hre⟩)
  refine D8 ?_
  refine sB (qE rfl rfl) rfl rfl (fun h61 => ?_) (fun h61 => ?_)
  refine H9 ?_
  refine sB (qE rfl rfl) rfl rfl (fun h65 => ?_) (fun h65 => ?_)
  refine R0 ?_
  refine sB (qE rfl rfl) rfl rfl (fun h71 => ?_) (fun h71 => ?_)
  refine J9 ?_
  refine F4 rfl (hS2) rfl rfl (fun h78 => ?_) (fun h78 => ?_)
  refine D8 ?_
  (obtain ⟨b, rfl, hqb⟩ := A18 hqa (by omega); obtain ⟨by1, oy, f, rfl, hfl, hfat, hrf, hfgb⟩ := hasl.kidTm hakl (i := 0) (by simp) (by simp); have hfo := hrf.one; refine sP (B4 (j := 0) rfl rfl rfl (by simp)) rfl rfl ?_)
  refine sL (A3 rfl rfl (hfat _) hfl) rfl rfl ?_
  refine sS rfl rfl rfl hfl hfo rfl ?_ (hu := by exact C1 hfl.symm)
  refine sD (nS (tT (rB (rS ?_))))
  refine D6 (rC rfl (A3 rfl rfl (A7 (by repeat first | exact mH | apply mT)) hfl)) ?_
  (rw [hbk (by assumption) ⟨by omega, by omega, by omega, by assumption⟩]; exact ⟨rfl, _, rfl, hrf⟩)
  refine J6 ?_
  refine sS rfl rfl rfl rfl heo rfl ?_ (hu := by exact C1 rfl)
  refine sD (nS (tT ?_))
  refine D6 (rC rfl (A4 rfl rfl)) ?_
  (rw [hst (by assumption) (by rintro ⟨q1, q2, q3, q4⟩; first | omega | simp_all)]; exact ⟨rfl, _, rfl, hr0⟩)
  refine U9 ?_
  refine sS rfl rfl rfl rfl heo rfl ?_ (hu := by exact C1 rfl)
  refine sD (nS (tT ?_))
  refine D6 (rC rfl (A4 rfl rfl)) ?_
  (rw [hst (by assumption) (by rintro ⟨q1, q2, q3, q4⟩; first | omega | simp_all)]; exact ⟨rfl, _, rfl, hr0⟩)
  refine A1R ?_
  refine sS rfl rfl rfl rfl heo rfl ?_ (hu := by exact C1 rfl)
  refine sD (nS (tT ?_))
  refine D6 (rC rfl (A4 rfl rfl)) ?_
  (rw [hst (by assumption) (by rintro ⟨q1, q2, q3, q4⟩; first | omega | simp_all)]; exact ⟨rfl, _, rfl, hr0⟩)
  refine A7C ?_
  refine sS rfl rfl rfl rfl heo rfl ?_ (hu := by exact C1 rfl)
  refine sD (nS (tT ?_))
  refine D6 (rC rfl (A4 rfl rfl)) ?_
  (rw [hst (by assumption) (by rintro ⟨q1, q2, q3, q4⟩; first | omega | simp_all)]; exact ⟨rfl, _, rfl, hr0⟩)
 ·obtain ⟨pt, ct, pf, cf, p, c, es, rfl, hk, hnum, hlb, hty, hfr, hsl, hkl⟩ := hr.open9
  rw [A64 hk14]
  refine B6 Tryz.func82 rfl Tryz.ntmps82 Tryz.results82 rfl ?_
  intro w0
  refine tS (tR ?_)
  refine sE (C4 rfl rfl) rfl (fun b3 => ?_)
  refine sE (A6 rfl) rfl (fun b4 => ?_)
  refine D5 ?_
  refine sP (W7 rfl rfl (by omega)) rfl rfl ?_
  refine J6 ?_
  refine D6 (rC rfl (A4 rfl rfl)) ?_
  (exact ⟨rfl, _, rfl, hr0⟩)
theorem B5L : A4J N9 K9 82 [] [] := fun t G cells hq hr => B5K t G cells hq hr
def P8 (r : Tm × Bool) : IM → Value → List A5 → Prop := L2 fun G' v => ∃ cells, v = .tuple ⟨[.agg ⟨cells⟩, .bool r.2]⟩ ∧ A8 G' r.1 cells
theorem P8.mk {r : Tm × Bool} {x : Tm} {b : Bool} {G : IM} {cells : List Value} (h : r = (x, b)) (hr : A8 G x cells) : P8 r G (.tuple ⟨[.agg ⟨cells⟩, .bool b]⟩) [] := by
 subst h; exact ⟨rfl, cells, rfl, hr⟩
theorem A33 {e : Tm} (h : I3 e = true) : A0E e = (J7 N9 e, true) := by unfold A0E; rw [if_pos h]
theorem B00 {e : Tm} (h : I3 e = false) : A0E e = (I9, false) := by unfold A0E; rw [if_neg (by rw [h]; decide)]
theorem A65 (t : Tm) (G : IM) (cells : List Value) (hr : A8 G t cells) : Fn Tryz.prog 28 [.agg ⟨cells⟩] [] G (P8 (A0E t)) := by
 have hl := hr.len
 have hone := hr.one
 have hV := A2m t G cells hr
 have hM := fun (h : I3 t = true) => A9c N9 K9 82 [] [] B5L (.slc none 0 3 1 0 []) t G cells (B0R t (A47 t (A1H h).1)) (A1M h) hr
 have hy := @A33 t
 have hn := @B00 t
 generalize A0E t = R at hy hn ⊢
 refine B6 Tryz.func28 rfl Tryz.ntmps28 Tryz.results28 rfl ?_
 intro w0
 refine tS (tR ?_)
 refine sE (C4 rfl rfl) rfl (fun b3 => ?_)
 refine sE (A6 rfl) rfl (fun b4 => ?_)
 refine sQ (qA rfl) rfl (sD (nS (tS (tS (tR ?_)))))
 refine sL (A3 rfl rfl (A7 (by repeat first | exact mH | apply mT)) hl) rfl rfl ?_
 refine F4 rfl (hV) rfl rfl (fun h12 => ?_) (fun h12 => ?_)
 refine sQ (Q5 rfl) rfl (sD (nS (cF rfl (tK (nS (tS (tR ?_)))))))
 refine sL (A3 rfl rfl (A7 (by repeat first | exact mH | apply mT)) hl) rfl rfl ?_
 (refine A7v 3 1 ?_; refine H5 rfl (hM (by assumption)) (Pk.perm (by repeat (first | exact Pk.here | apply Pk.there))) rfl rfl (fun v3 G3 outs hle3 hh => ?_); obtain ⟨rfl, cu, rfl, hru⟩ := hh; have hul := hru.len; have huo := hru.one)
 refine sS rfl rfl rfl hul huo rfl ?_ (hu := by exact C1 hul.symm)
 refine sQ (qA rfl) rfl (sD (nS (tT ?_)))
 refine C5 (rC rfl (A3 rfl rfl (A7 (by repeat first | exact mH | apply mT)) hul)) (rT rfl) ?_
 (exact P8.mk (hy (by assumption)) hru)
 refine J4 ?_
 refine C5 (rC rfl (A4 rfl rfl)) (rT rfl) ?_
 (exact P8.mk (hn (by assumption)) (O4 _))
theorem B01 (e : Tm) (a b : Ty) (l : Int) (G : IM) (ce ca cb : List Value) (hl : E9 l) (he : A8 G e ce) (ha : B2 G a ca) (hb : B2 G b cb) :
  Fn Tryz.prog 87 [.agg ⟨ce⟩, .agg ⟨ca⟩, .agg ⟨cb⟩, .int .i64 l] [] G (S8 (L1 (L1 e a L0 l) L0 b l)) := by
 have hel := he.len
 have heo := he.one
 obtain ⟨ak, aks⟩ := a
 obtain ⟨bk, bks⟩ := b
 obtain ⟨pa, cca, ea, rfl, _⟩ := ha.open
 obtain ⟨pb, ccb, eb, rfl, _⟩ := hb.open
 have h1 := A0R e (.mk ak aks) L0 l G ce _ _ hl he ha (A0w G)
 refine B6 Tryz.func87 rfl Tryz.ntmps87 Tryz.results87 rfl ?_
 intro w0
 refine tS (tR ?_)
 refine sE (C4 rfl rfl) rfl (fun b3 => ?_)
 refine sE (C4 rfl rfl) rfl (fun b4 => ?_)
 refine sE (C4 rfl rfl) rfl (fun b5 => ?_)
 refine sE (A6 rfl) rfl (fun b6 => ?_)
 refine sD (nS (tS ?_))
 refine D1 D2 rfl ?_
 refine N8 (i := 0) (l' := [tt,ff,ff,ff,ff,ff,ff,ff,ff,ff]) rfl C8 (A3 rfl rfl (A7 (by repeat first | exact mH | apply mT)) (by assumption)) rfl (by kernel_rfl) rfl rfl ?_
 refine aL 1 rfl (A4 rfl rfl) rfl ?_
 refine aP 3 rfl (qM rfl) rfl ?_
 refine aL 6 rfl (A4 rfl rfl) rfl ?_
 refine aP 7 rfl (qM rfl) rfl ?_
 refine A2 2 ?_
 refine J0 rfl rfl (A05 1 _) rfl rfl rfl ?_
 refine A2 4 ?_
 (refine E3 rfl rfl h1 rfl rfl rfl (fun v G1 hle1 hh => ?_); obtain ⟨cu, rfl, hru⟩ := hh; have hlu := hru.len; have huo := hru.one; have h2 := A0R _ L0 (.mk bk bks) l G1 cu _ _ hl hru (A0w G1) (hb.mono hle1))
 refine A2 5 ?_
 refine J0 rfl rfl (A05 1 _) rfl rfl rfl ?_
 refine A2 8 ?_
 (refine E3 rfl rfl h2 rfl rfl rfl (fun v G2 hle2 hh => ?_); obtain ⟨cw, rfl, hrw⟩ := hh; have hlw := hrw.len; have how := hrw.one)
 refine A2 9 ?_
 refine M3 rfl rfl rfl rfl hlw how rfl rfl (by kernel_rfl) (by repeat first | exact Sw.here | apply Sw.there) (by exact C1 hlw.symm) ?_
 refine C0 (nS (tT ?_))
 refine D6 (rC rfl (A3 rfl rfl (A7 (by repeat first | exact mH | apply mT)) hlw)) ?_
 (exact ⟨rfl, cw, rfl, hrw⟩)
theorem A34 {k : Int} {nm : ByteArray} {num : Int} {ty fr : Ty} {lb : Int} {ks : List Tm} (h : k ≠ 14 ∨ fr.k = 1 ∨ ty.k = 1) : P4 (.mk k nm num ty fr lb ks) = .mk k nm num ty fr lb ks := if_pos h
theorem A66 {k : Int} {nm : ByteArray} {num : Int} {ty fr : Ty} {lb : Int} {ks : List Tm} (h : ¬(k ≠ 14 ∨ fr.k = 1 ∨ ty.k = 1)) : P4 (.mk k nm num ty fr lb ks) = L1 (L1 (kd ks 0) fr L0 lb) L0 ty lb := if_neg h
theorem B5M (t : Tm) (G : IM) (cells : List Value) (hq : cq1 t) (hr : A8 G t cells) : Fn Tryz.prog 86 [.agg ⟨cells⟩] [] G (S8 (P4 t)) := by
 have hr0 := hr
 obtain ⟨k, nm, num, ⟨tk, tks⟩, ⟨fk, fks⟩, lb, ks⟩ := t
 by_cases hk14 : k = 14
 ·subst hk14
  obtain ⟨a, rfl⟩ : ∃ a, ks = [a] := by
   have : ks.length = 1 := hq rfl
   match ks, this with
   | [a], _ => exact ⟨a, rfl⟩
  obtain ⟨pt, ct, pf, cf, p, c, es, rfl, hk, hnum, hlb, hty, hfr, hsl, hkl⟩ := hr.open9
  have hn := @A34 14 nm num (.mk tk tks) (.mk fk fks) lb [a]
  have hy := @A66 14 nm num (.mk tk tks) (.mk fk fks) lb [a]
  generalize P4 (.mk 14 nm num (.mk tk tks) (.mk fk fks) lb [a]) = R at hn hy ⊢
  obtain ⟨bx, ox, e, rfl, hl, hat, hre, hgb⟩ := hsl.kidTm hkl (i := 0) (by simp) (by simp)
  have heo := hre.one
  simp only [List.getElem_cons_zero] at hre
  simp only [show ∀ a b, (Ty.mk a b).k = a from fun _ _ => rfl] at hn hy
  have hT := B01 a (.mk fk fks) (.mk tk tks) lb G e _ _ hlb hre hfr hty
  refine B6 Tryz.func86 rfl Tryz.ntmps86 Tryz.results86 rfl ?_
  intro w0
  refine tS (tR ?_)
  refine sE (C4 rfl rfl) rfl (fun b3 => ?_)
  refine sE (A6 rfl) rfl (fun b4 => ?_)
  refine D5 ?_
  refine sP (A1y rfl rfl (by omega)) rfl rfl ?_
  refine J8 ?_
  refine sB (qE rfl rfl) rfl rfl (fun h17 => ?_) (fun h17 => ?_)
  refine U9 ?_
  refine D6 (rC rfl (A4 rfl rfl)) ?_
  (rw [hn (by omega)]; exact ⟨rfl, _, rfl, hr0⟩)
  refine R0 ?_
  refine sB (qE rfl rfl) rfl rfl (fun h43 => ?_) (fun h43 => ?_)
  refine N2 ?_
  refine D6 (rC rfl (A4 rfl rfl)) ?_
  (rw [hn (by omega)]; exact ⟨rfl, _, rfl, hr0⟩)
  refine sQ (L6 rfl rfl) rfl (sD (nS (cF rfl (tK (nS (tS ?_))))))
  refine D1 D2 rfl ?_
  refine I4 (i := 0) (l' := [tt,ff,ff,ff,ff,ff,ff,ff,ff,ff,ff,ff]) rfl C8 (B5 rfl) rfl (by kernel_rfl) rfl rfl ?_
  refine aL 1 rfl (C7 rfl rfl) rfl ?_
  refine aP 2 rfl (B4 (j := 0) rfl rfl rfl (by simp)) rfl ?_
  refine aL 3 rfl (A3 rfl rfl (hat _) hl) rfl ?_
  refine aP 4 rfl (B5 rfl) rfl ?_
  refine aL 5 rfl (A4 rfl rfl) rfl ?_
  refine aP 6 rfl (B5 rfl) rfl ?_
  refine aL 7 rfl (A4 rfl rfl) rfl ?_
  refine aP 8 rfl (B5 rfl) rfl ?_
  refine aL 9 rfl (C7 rfl rfl) rfl ?_
  refine A2 10 ?_
  (refine E3 rfl rfl hT rfl rfl rfl (fun v G2 hle2 hh => ?_); obtain ⟨cw, rfl, hrw⟩ := hh; have hlw := hrw.len; have how := hrw.one)
  refine A2 11 ?_
  refine M3 rfl rfl rfl rfl hlw how rfl rfl (by kernel_rfl) (by repeat first | exact Sw.here | apply Sw.there) (by exact C1 hlw.symm) ?_
  refine C0 (nS (tT ?_))
  refine D6 (rC rfl (A3 rfl rfl (A7 (by repeat first | exact mH | apply mT)) hlw)) ?_
  (rw [hy (by omega)]; exact ⟨rfl, _, rfl, hrw⟩)
 ·obtain ⟨pt, ct, pf, cf, p, c, es, rfl, hk, hnum, hlb, hty, hfr, hsl, hkl⟩ := hr.open9
  rw [A34 (.inl hk14)]
  refine B6 Tryz.func86 rfl Tryz.ntmps86 Tryz.results86 rfl ?_
  intro w0
  refine tS (tR ?_)
  refine sE (C4 rfl rfl) rfl (fun b3 => ?_)
  refine sE (A6 rfl) rfl (fun b4 => ?_)
  refine D5 ?_
  refine sP (W7 rfl rfl (by omega)) rfl rfl ?_
  refine A0A ?_
  refine D6 (rC rfl (A4 rfl rfl)) ?_
  (exact ⟨rfl, _, rfl, hr0⟩)
theorem B5N : A4J P4 cq1 86 [] [] := fun t G cells hq hr => B5M t G cells hq hr
mutual
theorem B02 : ∀ t : Tm, E7 (J7 P4 t) ≤ 3 * E7 t
 | .mk k nm num ty fr lb ks => by
  have h := B03 ks
  have h1 : E7 (.mk k nm num ty fr lb (H1 P4 ks)) ≤ 3 * H3 ks + 1 := by rw [A58]; omega
  rw [J7, A58]
  by_cases hc : k ≠ 14 ∨ fr.k = 1 ∨ ty.k = 1
  ·rw [A34 hc]; omega
  ·rw [A66 hc, A0i, A0i]
   have : E7 (kd (H1 P4 ks) 0) ≤ H3 (H1 P4 ks) + 1 := by
    cases H1 P4 ks with
    | nil => decide
    | cons a bs => show E7 a ≤ _; rw [H3]; omega
   omega
theorem B03 : ∀ ts : List Tm, H3 (H1 P4 ts) ≤ 3 * H3 ts
 | [] => by rw [H1]; decide
 | t :: ts => by
  have h1 := B02 t
  have h2 := B03 ts
  rw [H1, H3, H3]
  omega
end
def A1s (e : Tm) : Tm × Bool := if I3 e = true then A14 (J7 P4 e) else (I9, false)
theorem A67 {e : Tm} (h : I3 e = true) : A1s e = A14 (J7 P4 e) := by unfold A1s; rw [if_pos h]
theorem B04 {e : Tm} (h : I3 e = false) : A1s e = (I9, false) := by unfold A1s; rw [if_neg (by rw [h]; decide)]
theorem P8.of {r r' : Tm × Bool} {G : IM} {cells : List Value} (h : r = r') (hr : A8 G r'.1 cells) : P8 r G (.tuple ⟨[.agg ⟨cells⟩, .bool r'.2]⟩) [] := by
 subst h; exact ⟨rfl, cells, rfl, hr⟩
theorem B5O (t : Tm) (G : IM) (cells : List Value) (hr : A8 G t cells) : Fn Tryz.prog 32 [.agg ⟨cells⟩] [] G (P8 (A1s t)) := by
 have hl := hr.len
 have hone := hr.one
 have hV := A2m t G cells hr
 have hM := fun (h : I3 t = true) => A9c P4 cq1 86 [] [] B5N (.slc none 0 3 1 0 []) t G cells (B0T t (A47 t (A1H h).1)) (A1M h) hr
 have hsm := fun (h : I3 t = true) => B0V (g := P4) (fun _ => B5J) t (A1M h)
 have hy := @A67 t
 have hn := @B04 t
 generalize A1s t = R at hy hn ⊢
 refine B6 Tryz.func32 rfl Tryz.ntmps32 Tryz.results32 rfl ?_
 intro w0
 refine tS (tR ?_)
 refine sE (C4 rfl rfl) rfl (fun b3 => ?_)
 refine sE (A6 rfl) rfl (fun b4 => ?_)
 refine sQ (qA rfl) rfl (sD (nS (tS (tS (tR ?_)))))
 refine sL (A3 rfl rfl (A7 (by repeat first | exact mH | apply mT)) hl) rfl rfl ?_
 refine F4 rfl (hV) rfl rfl (fun h12 => ?_) (fun h12 => ?_)
 refine sQ (Q5 rfl) rfl (sD (nS (cF rfl (tK (nS (tS (tR ?_)))))))
 refine sL (A3 rfl rfl (A7 (by repeat first | exact mH | apply mT)) hl) rfl rfl ?_
 (refine A7v 3 1 ?_; refine H5 rfl (hM (by assumption)) (Pk.perm (by repeat (first | exact Pk.here | apply Pk.there))) rfl rfl (fun v3 G3 outs hle3 hh => ?_); obtain ⟨rfl, cu, rfl, hru⟩ := hh; have hul := hru.len; have huo := hru.one; have hC := A9x _ G3 cu (hsm (by assumption)) hru)
 (refine D7 rfl hC rfl rfl (fun v G4 hle4 hh => ?_); obtain ⟨cw, Fw, rfl, hsw, _⟩ := hh; have hrw := hsw.R.mono (C2.le _ _); have hwl := hrw.len; have hwo := hrw.one)
 refine sQ (pX rfl rfl) rfl (sQ (pX rfl rfl) rfl ?_)
 refine sS rfl rfl rfl hwl hwo rfl ?_ (hu := by exact C1 hwl.symm)
 refine sQ (qA rfl) rfl (sD (nS (tT ?_)))
 refine C5 (rC rfl (A3 rfl rfl (A7 (by repeat first | exact mH | apply mT)) hwl)) (rT rfl) ?_
 (exact P8.of (hy (by assumption)) hrw)
 refine J4 ?_
 refine C5 (rC rfl (A4 rfl rfl)) (rT rfl) ?_
 (exact P8.mk (hn (by assumption)) (O4 _))
def A0X (e : Tm) (l : Int) : Tm × Bool := match R3 e with
 | some T => if W2 l = true then A14 (L1 (L1 e T L0 l) L0 T l) else (I9, false)
 | none => (I9, false)
theorem A68 {e : Tm} {l : Int} {T : Ty} (h : R3 e = some T) (h2 : W2 l = true) : A0X e l = A14 (L1 (L1 e T L0 l) L0 T l) := by unfold A0X; rw [h]; exact if_pos h2
theorem A69 {e : Tm} {l : Int} {T : Ty} (h : R3 e = some T) (h2 : W2 l = false) : A0X e l = (I9, false) := by unfold A0X; rw [h]; exact if_neg (by rw [h2]; decide)
theorem A7a {e : Tm} {l : Int} (h : R3 e = none) : A0X e l = (I9, false) := by unfold A0X; rw [h]
theorem A3f {e : Tm} {T : Ty} (h : R3 e = some T) : I3 e = true ∧ B9 [] e = some T := by
 unfold R3 at h
 split at h
 ·exact ⟨by assumption, h⟩
 ·cases h
theorem A7b {e : Tm} {T : Ty} (h : R3 e = some T) : T.small := by
 obtain ⟨h1, h2⟩ := A3f h
 exact (A6o ((A1D e).1 h1).1 h2).small
theorem B5P (t : Tm) (l : Int) (G : IM) (cells : List Value) (hl64 : E9 l) (hr : A8 G t cells) : Fn Tryz.prog 35 [.agg ⟨cells⟩, .int .i64 l] [] G (P8 (A0X t l)) := by
 have hl := hr.len
 have hone := hr.one
 have hC := A3U t G cells hr
 have hsv := fun (h : I3 t = true) => A1M h
 have hy := @A68 t l
 have hlb := @A69 t l
 have hn := @A7a t l
 have hsT := @A7b t
 have hvT := @A3f t
 generalize A0X t l = R at hy hn hlb ⊢
 generalize R3 t = T at hC hy hn hlb hsT hvT
 refine B6 Tryz.func35 rfl Tryz.ntmps35 Tryz.results35 rfl ?_
 intro w0
 refine tS (tR ?_)
 refine sE (C4 rfl rfl) rfl (fun b3 => ?_)
 refine sE (A6 rfl) rfl (fun b4 => ?_)
 refine sQ (qA rfl) rfl (sD (nS (tS (tR ?_))))
 refine sL (A3 rfl rfl (A7 (by repeat first | exact mH | apply mT)) hl) rfl rfl ?_
 focus (refine D7 rfl hC rfl rfl (fun v G1 hle1 hh => ?_); obtain ⟨cT, T', rfl, hrT, hTT⟩ := hh; obtain ⟨pT, dT, eT, rfl, _⟩ := hrT.open; have hr1 := hr.mono hle1; have hLb := A8g l G1; have hTh := B01 t T' T' l G1 cells _ _ hl64 hr1 hrT hrT; rcases T with _ | T; rotate_left; obtain rfl := hTT _ rfl)
 refine H9 ?_
 refine sE (A6 rfl) rfl (fun b15 => ?_)
 refine J6 ?_
 refine F4 rfl (hLb) rfl rfl (fun h27 => ?_) (fun h27 => ?_)
 refine D8 ?_
 refine sL (A3 rfl rfl (A7 (by repeat first | exact mH | apply mT)) hl) rfl rfl ?_
 refine H9 ?_
 (refine D7 rfl hTh rfl rfl (fun v G2 hle2 hh => ?_); obtain ⟨cu, rfl, hru⟩ := hh; have hul := hru.len; have huo := hru.one; have hC2 := A9x _ G2 cu (A3M (A3M (hsv (hvT rfl).1) (hsT rfl) W5) W5 (hsT rfl)) hru)
 (refine D7 rfl hC2 rfl rfl (fun v G4 hle4 hh => ?_); obtain ⟨cw, Fw, rfl, hsw, _⟩ := hh; have hrw := hsw.R.mono (C2.le _ _); have hwl := hrw.len; have hwo := hrw.one)
 refine sQ (pX rfl rfl) rfl (sQ (pX rfl rfl) rfl ?_)
 refine sS rfl rfl rfl hwl hwo rfl ?_ (hu := by exact C1 hwl.symm)
 refine sQ (qA rfl) rfl (sD (nS (tT ?_)))
 refine C5 (rC rfl (A3 rfl rfl (A7 (by repeat first | exact mH | apply mT)) hwl)) (rT rfl) ?_
 (exact P8.of (hy rfl (by assumption)) hrw)
 refine O0 ?_
 refine C5 (rC rfl (A4 rfl rfl)) (rT rfl) ?_
 (exact P8.mk (hlb rfl (by assumption)) (O4 _))
 refine H9 ?_
 refine sE (A6 rfl) rfl (fun b71 => ?_)
 refine A2h ?_
 refine C5 (rC rfl (A4 rfl rfl)) (rT rfl) ?_
 (exact P8.mk (hn rfl) (O4 _))
def rlG (n : Int) : Tm → Tm × Int
 | .mk k nm num ty fr lb ks => if k = 14 then (.mk k nm num ty fr (n + 1) ks, n + 1) else (.mk k nm num ty fr lb ks, n)
def rlQ (n : Int) (_ : Tm) : Prop := 0 ≤ n ∧ n ≤ 1000
def U7 (k : Int) (ty fr : Ty) (h : List Ty) : Option Ty :=
 if k = 14 then (if H7 (h.getD 0 B1) fr = true then some ty else none)
 else if k = 6 then (if (h.getD 0 B1).k = 4 ∧ H7 ((h.getD 0 B1).ks.getD 0 B1) (h.getD 1 B1) = true then some ((h.getD 0 B1).ks.getD 1 B1) else none)
 else if k = 7 then (if H7 (h.getD 0 B1) O1 = true ∧ H7 (h.getD 1 B1) O1 = true then some O1 else none)
 else if k = 8 then (if H7 (h.getD 0 B1) O1 = true ∧ H7 (h.getD 1 B1) O1 = true then some S5 else none)
 else if k = 9 then (if H7 (h.getD 0 B1) S5 = true ∧ H7 (h.getD 1 B1) (h.getD 2 B1) = true then some (h.getD 1 B1) else none)
 else if k = 10 then (if M5 (.mk 5 [h.getD 0 B1, h.getD 1 B1]) = true then some (.mk 5 [h.getD 0 B1, h.getD 1 B1]) else none)
 else (if (h.getD 0 B1).k = 5 then some ((h.getD 0 B1).ks.getD (k - 11).toNat B1) else none)
theorem A2E {α : Type} {a b : Option α} (h : ∀ x, a = some x ↔ b = some x) : a = b := by
 cases a with
 | none => cases b with
  | none => rfl
  | some y => exact ((h y).2 rfl)
 | some x => exact ((h x).1 rfl).symm
theorem B5Q {cx : Cx} {nm : ByteArray} {t : Ty} (n : Nat) (h : V2 cx nm n = some t) : ∃ b ∈ cx, b.2 = t := by
 induction n with
 | zero => rw [V2] at h; cases h
 | succ n ih =>
  cases hb : cx[n]? with
  | none => rw [V2, hb] at h; exact ih h
  | some b =>
   by_cases hn : b.1 = nm
   ·rw [A2Q (x := b.1) (t := b.2) hb hn] at h
    simp only [Option.some.injEq] at h
    exact ⟨b, List.mem_of_getElem? hb, h⟩
   ·rw [A2R (x := b.1) (t := b.2) hb hn] at h
    exact ih h
theorem B5R {cx : Cx} {nm : ByteArray} {t : Ty} (hcv : cxV cx) (h : P2 cx nm = some t) : M5 t = true := by
 obtain ⟨b, hb, rfl⟩ := B5Q _ h
 exact hcv b hb
section
variable {cx : Cx} {k : Int} {nm : ByteArray} {num : Int} {ty fr : Ty} {lb : Int} {ks : List Tm}
theorem B5S {h : List Ty} (hk : k = 6 ∨ k = 7 ∨ k = 8 ∨ k = 9 ∨ k = 10 ∨ k = 11 ∨ k = 12 ∨ k = 14) (hop : D3 k = (ks.length : Int)) (hu : K3 cx ks = some h) (hv : ∀ u ∈ h, M5 u = true) :
  B9 cx (.mk k nm num ty fr lb ks) = U7 k ty fr h := by
 have hin : N3 cx k nm ty = cx := if_neg (by omega)
 have hu' : K3 (N3 cx k nm ty) ks = some h := by rw [hin]; exact hu
 rcases hk with rfl | hk
 ·
  match ks, hop with
  | [a, b], _ =>
   obtain ⟨x, y, hx, hy, rfl⟩ := A1K hu
   refine A2E fun T => ⟨fun h1 => ?_, fun h1 => ?_⟩
   ·obtain ⟨A, h2, h3⟩ := A6v h1
    rw [hx] at h2; cases h2
    rw [hy] at h3; cases h3
    unfold U7
    rw [if_neg (by decide), if_pos rfl, if_pos ⟨rfl, A3F _⟩]
    rfl
   ·unfold U7 at h1
    rw [if_neg (by decide), if_pos rfl] at h1
    split at h1
    ·rename_i hc
     obtain ⟨c1, c2⟩ := hc
     obtain ⟨xk, xks⟩ := x
     simp only [List.getD_cons_zero, List.getD_cons_succ, Ty.k, Ty.ks] at c1 c2 h1
     subst c1
     obtain ⟨A, B, rfl, vA, vB⟩ := A22 (.inl rfl) (hv _ List.mem_cons_self)
     simp only [List.getD_cons_zero, List.getD_cons_succ, Option.some.injEq] at c2 h1
     subst h1
     obtain rfl := (R2 _ _).1 c2
     exact A9L vB hx hy
    ·cases h1
 rcases hk with rfl | hk
 ·match ks, hop with
  | [a, b], _ =>
   obtain ⟨x, y, hx, hy, rfl⟩ := A1K hu
   refine A2E fun T => ⟨fun h1 => ?_, fun h1 => ?_⟩
   ·obtain ⟨h2, h3, rfl⟩ := A4R (.inl rfl) h1
    rw [hx] at h2; cases h2
    rw [hy] at h3; cases h3
    rfl
   ·unfold U7 at h1
    rw [if_neg (by decide), if_neg (by decide), if_pos rfl] at h1
    split at h1
    ·rename_i hc
     cases h1
     obtain rfl : x = O1 := (R2 _ _).1 hc.1
     obtain rfl : y = O1 := (R2 _ _).1 hc.2
     exact A1m hu' (by decide) (by decide) (w := [O1, O1]) (by rfl) (A23 _)
    ·cases h1
 rcases hk with rfl | hk
 ·match ks, hop with
  | [a, b], _ =>
   obtain ⟨x, y, hx, hy, rfl⟩ := A1K hu
   refine A2E fun T => ⟨fun h1 => ?_, fun h1 => ?_⟩
   ·obtain ⟨h2, h3, rfl⟩ := A4R (.inr rfl) h1
    rw [hx] at h2; cases h2
    rw [hy] at h3; cases h3
    rfl
   ·unfold U7 at h1
    rw [if_neg (by decide), if_neg (by decide), if_neg (by decide), if_pos rfl] at h1
    split at h1
    ·rename_i hc
     cases h1
     obtain rfl : x = O1 := (R2 _ _).1 hc.1
     obtain rfl : y = O1 := (R2 _ _).1 hc.2
     exact A1m hu' (by decide) (by decide) (w := [O1, O1]) (by rfl) (A23 _)
    ·cases h1
 rcases hk with rfl | hk
 ·match ks, hop with
  | [a, b, c], _ =>
   obtain ⟨x, y, z, hx, hy, hz, rfl⟩ := A6s hu
   refine A2E fun T => ⟨fun h1 => ?_, fun h1 => ?_⟩
   ·obtain ⟨h2, h3, h4⟩ := A6w h1
    rw [hx] at h2; cases h2
    rw [hy] at h3; cases h3
    rw [hz] at h4; cases h4
    unfold U7
    rw [if_neg (by decide), if_neg (by decide), if_neg (by decide), if_neg (by decide), if_pos rfl, if_pos ⟨A3F _, A3F _⟩]
    rfl
   ·unfold U7 at h1
    rw [if_neg (by decide), if_neg (by decide), if_neg (by decide), if_neg (by decide), if_pos rfl] at h1
    split at h1
    ·rename_i hc
     obtain ⟨c1, c2⟩ := hc
     simp only [List.getD_cons_zero, List.getD_cons_succ, Option.some.injEq] at c1 c2 h1
     subst h1
     obtain rfl : x = S5 := (R2 _ _).1 c1
     obtain rfl := (R2 _ _).1 c2
     refine A1m hu' (by decide) (hv _ (by simp)) (w := [S5, y, y]) ?_ (A23 _)
     unfold O7
     rw [if_neg (by decide), if_neg (by decide), if_neg (by decide), if_neg (by decide), if_neg (by decide), if_neg (by decide), if_pos rfl, if_pos ⟨A4Q _, A4Q _⟩]
     simp only [List.getD_cons_zero, List.getD_cons_succ, A9H]
    ·cases h1
 rcases hk with rfl | hk
 ·match ks, hop with
  | [a, b], _ =>
   obtain ⟨x, y, hx, hy, rfl⟩ := A1K hu
   refine A2E fun T => ⟨fun h1 => ?_, fun h1 => ?_⟩
   ·have hT := A4P (fun h => absurd h (by decide)) h1
    obtain ⟨A, B, h2, h3, rfl⟩ := A4S h1
    rw [hx] at h2; cases h2
    rw [hy] at h3; cases h3
    unfold U7
    rw [if_neg (by decide), if_neg (by decide), if_neg (by decide), if_neg (by decide), if_neg (by decide), if_pos rfl]
    exact if_pos hT
   ·unfold U7 at h1
    rw [if_neg (by decide), if_neg (by decide), if_neg (by decide), if_neg (by decide), if_neg (by decide), if_pos rfl] at h1
    split at h1
    ·rename_i hc
     cases h1
     exact A1m hu' (by decide) hc (w := []) (by rfl) (by rw [R4])
    ·cases h1
 have part : ∀ k : Int, k = 11 ∨ k = 12 → D3 k = (ks.length : Int) → B9 cx (.mk k nm num ty fr lb ks) = U7 k ty fr h := by
  clear hk hop hin hu'
  intro k hk hop
  have hl : ks.length = 1 := by rcases hk with rfl | rfl <;> (have h0 := hop; simp only [show D3 11 = 1 from rfl, show D3 12 = 1 from rfl] at h0; omega)
  match ks, hl with
  | [a], _ =>
   obtain ⟨x, hx, rfl⟩ := A2y hu
   have he : U7 k ty fr [x] = if x.k = 5 then some (x.ks.getD (k - 11).toNat B1) else none := by
    unfold U7
    rw [if_neg (by omega), if_neg (by omega), if_neg (by omega), if_neg (by omega), if_neg (by omega), if_neg (by omega)]
    rfl
   rw [he]
   refine A2E fun T => ⟨fun h1 => ?_, fun h1 => ?_⟩
   ·obtain ⟨A, B, h2, rfl⟩ := A6x hk h1
    rw [hx] at h2; cases h2
    rcases hk with rfl | rfl <;> rfl
   ·split at h1
    ·rename_i hc
     obtain ⟨xk, xks⟩ := x
     simp only [Ty.k] at hc
     subst hc
     obtain ⟨A, B, rfl, vA, vB⟩ := A22 (.inr rfl) (hv _ List.mem_cons_self)
     have h5 : T = if k = 12 then B else A := by
      rcases hk with rfl | rfl
      ·exact (Option.some.inj h1).symm
      ·exact (Option.some.inj h1).symm
     rw [h5]
     exact A6y hk (by split <;> assumption) hx
    ·cases h1
 rcases hk with rfl | rfl | rfl
 ·exact part 11 (.inl rfl) hop
 ·exact part 12 (.inr rfl) hop
 ·match ks, hop with
  | [a], _ =>
   obtain ⟨x, hx, rfl⟩ := A2y hu
   rw [B9, hu']
   simp only [if_true]
   unfold U7
   rw [if_pos rfl]
theorem B5T {b : Tm} (h : B9 (cx ++ [(nm, ty)]) b = none) : B9 cx (.mk 5 nm num ty fr lb [b]) = none := by
 rw [B9, show N3 cx 5 nm ty = cx ++ [(nm, ty)] from if_pos rfl, K3, h]
theorem B5U {b : Tm} {t : Ty} (h : B9 (cx ++ [(nm, ty)]) b = some t) : B9 cx (.mk 5 nm num ty fr lb [b]) = if M5 (.mk 4 [ty, t]) = true then some (.mk 4 [ty, t]) else none := by
 rw [B9, show N3 cx 5 nm ty = cx ++ [(nm, ty)] from if_pos rfl, A3R h]
 simp only [show ¬((5 : Int) = 14) by decide, if_false]
 unfold W0
 rw [show O7 cx 5 nm ty [t] = some ([], .mk 4 [ty, t]) from rfl]
 by_cases hv : M5 (.mk 4 [ty, t]) = true
 ·simp only [hv, if_true, R4]
 ·simp only [hv, if_false]
  rfl
theorem B5V (hcv : cxV cx) : B9 cx (.mk 1 nm num ty fr lb []) = P2 cx nm := by
 refine A2E fun T => ⟨fun h => A3S h, fun h => ?_⟩
 refine A1m (us := []) (w := []) (by rw [K3]) (by decide) (B5R hcv h) ?_ (by rw [R4])
 unfold O7
 rw [if_pos rfl, h]
theorem B5W : B9 cx (.mk 2 nm num ty fr lb []) = some O1 := A1m (us := []) (w := []) (by rw [K3]) (by decide) (by decide) (by rfl) (by rw [R4])
theorem B5X : B9 cx (.mk 3 nm num ty fr lb []) = some S5 := A1m (us := []) (w := []) (by rw [K3]) (by decide) (by decide) (by rfl) (by rw [R4])
theorem B5Y : B9 cx (.mk 4 nm num ty fr lb []) = some S5 := A1m (us := []) (w := []) (by rw [K3]) (by decide) (by decide) (by rfl) (by rw [R4])
end
end Gw
end Go.Proofs.YtfpgncjeejickaaGreatDoor
