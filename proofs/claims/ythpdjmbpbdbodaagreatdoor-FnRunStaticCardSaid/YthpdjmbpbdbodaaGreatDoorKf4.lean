/-
  Drawn terms that often have a type. Casts put into a term, in plain words. The reference's types are those of the insertion. The program's functions on types and contexts: each computes what the plain words say. The reference's typing, exactly. The reference's typing, exactly: meets, the types of nodes. Casts put into a term: operand by operand. Nodes replaced: the program's put, the reference model's l16Replace. The reference model's replacing of nodes. What a node wants of its operands.
-/
import Derived.Test.YthpdjmbpbdbodaaGreatDoorKf3
import Derived.Test.YthpdjmbpbdbodaaGreatDoorKf2
import Derived.Test.YthpdjmbpbdbodaaGreatDoorKf1
set_option linter.unusedVariables false
set_option linter.unusedSimpArgs false
set_option maxHeartbeats 0
set_option maxRecDepth 100000
set_option synthInstance.maxSize 4000
set_option synthInstance.maxHeartbeats 0
namespace Go.Proofs.YthpdjmbpbdbodaaGreatDoor
open Go Go.RowKit
namespace Gw
structure A3p {ι : Type} (S : ι → Sy) (φ : ι → Prop) (K : Po) (e : Exit) (σ : Sy) : Prop where
 run : match e with
  | .normal => ∃ i, φ i ∧ Sub σ (S i)
  | e => K e σ
section cut
variable {P : Program} {Γ : L4} {K : Po} {σ : Sy} {ι : Type}
theorem A7W {c y : Code} (S : ι → Sy) (φ : ι → Prop) (h : H9 P Γ c (A3p S φ K) σ) (k : ∀ i, φ i → H9 P Γ y K (S i)) : H9 P Γ c (A0F P Γ y K) σ := by
 refine A4H h ?_
 rintro e σ ⟨hk⟩
 cases e with
 | normal => obtain ⟨i, hi, hs⟩ := hk; exact ⟨A6j hs (k i hi)⟩
 | _ => exact ⟨hk⟩
theorem A3q {S : ι → Sy} {φ : ι → Prop} {σ : Sy} (i : ι) (hs : Sub σ (S i)) (h : φ i) : A3p S φ K .normal σ := ⟨⟨i, h, hs⟩⟩
theorem A0B {S : ι → Sy} {φ : ι → Prop} {σ : Sy} (h : K .ret σ) : A3p S φ K .ret σ := ⟨h⟩
theorem B1H {S : ι → Sy} {φ : ι → Prop} (h : X1 K) : X1 (A3p S φ K) := fun c σ hk => h c σ hk.run
instance npC6 {S : ι → Sy} {φ : ι → Prop} [h : Z9 K] : Z9 (A3p S φ K) := ⟨B1H h.h⟩
end cut
theorem A1L (G : IM) (nm : ByteArray) (num : Int) {k : Int} (hk : E6 k) (hn : E6 num) : B0 G (.mk k nm num B4 B4 0 []) [.int .i64 k, .string nm, .int .i64 num, .int .i64 0, .slice none 0 0, .int .i64 0, .slice none 0 0, .int .i64 0, .slice none 0 0] := A1t hk hn
theorem B7.kidsM {G : IM} {k : Int} {ks : List Ty} {q : Option Addr} {c : Nat} (h : B7 G (.mk k ks) [.int .i64 k, .slice q ks.length c]) : ∃ es, D2 G q ks.length c 2 es ∧ C6 G ks es := by
 obtain ⟨q', c', es, he, _, h1, h2⟩ := h.open
 cases he
 exact ⟨es, h1, h2⟩
theorem B1I (br : Nat) (pb : Option Addr) (nb cb : Nat) (bs : List UInt8) (hnb : nb ≤ 2000) : ∀ n, A7U br pb nb cb bs n := by
 refine fun n => Nat.strongRecOn n fun n ih depth t p G pc nc cc cells hfu hd0 hd1 hnc hx hrt hb hp => ?_
 have hge := A07 n
 have har := hfu.1.ar
 have hszt := A34 hfu.1
 have hnn := A0S t
 have hncl := hx.le
 obtain ⟨k, ks⟩ := t
 obtain ⟨q, c, es, rfl, hk, _, _⟩ := hrt.open
 simp only [Ty.k, Ty.ks] at hk hrt ⊢
 have hsz30 : J0 (.mk k ks) ≤ 30 := hszt
 have hops : k = 4 ∨ k = 5 → ks.length = 2 := by have h2 := har; rw [E2] at h2; exact h2.1
 refine C0 Tryz.func78 rfl Tryz.ntmps78 Tryz.results78 rfl ?_
 intro w0
 refine tS (tR ?_)
 refine sE (C5 rfl rfl) rfl (fun b3 => ?_)
 refine sE (A7 rfl) rfl (fun b4 => ?_)
 refine sD (nS (tS (tS (tR (sQ (qM rfl) rfl (sQ (H8 rfl rfl) rfl ?_))))))
 refine sP (O7 rfl rfl (by omega) (by omega)) rfl rfl ?_
 refine sQ (qA rfl) rfl (sD (nS ?_))
 refine B9 ?_
 (refine J4 (fun (x : Nat × Nat × IM) => ⟨(9, .int .i64 ((x.1 : Int) - 1)) :: [(0, .pointer (some ⟨br, 0, none⟩)), (1, .slice pc nc cc), (3, .int .i64 depth), (6, .pointer (some ⟨b3, 0, none⟩)), (8, .pointer (some ⟨b4, 0, none⟩))], [rd br pb nb cb x.2.1, .blk b4 [.int .i64 0, .string ⟨⟨[]⟩⟩, .int .i64 0, .int .i64 0, .slice none 0 0, .int .i64 0, .slice none 0 0, .int .i64 0, .slice none 0 0], .blk b3 [.int .i64 k, .slice q ks.length c]], x.2.2⟩) (fun x => x.1 ≤ nc ∧ B8 G x.2.2 ∧ p ≤ x.2.1 ∧ x.2.1 + x.1 ≤ p + nc) (fun x => x.1) (nc, p, G) ?_ ?_ ?_)
 (simp only [I3]; exact D9)
 (exact ⟨Nat.le_refl _, B8.refl _, Nat.le_refl _, Nat.le_refl _⟩)
 (rintro ⟨(i : Nat), (p1 : Nat), G1⟩ ⟨hi, hleL, hpL, hpL2⟩; simp only [] at hi hleL hpL hpL2 ⊢; replace hx := hx.mono hleL; replace hb := hb.mono hleL; replace hrt := hrt.mono hleL;)
 refine tS (tS (tR (sQ (qM rfl) rfl ?_)))
 refine sB (A0I rfl rfl) rfl rfl (fun h25 => ?_) (fun h25 => ?_)
 refine sD (nS (qT rfl (tK (nS (tS ?_)))))
 (show H9 _ _ (.block 1 ..) _ _; obtain ⟨j, rfl⟩ : ∃ j, i = j + 1 := ⟨i - 1, by omega⟩; rw [show ((j + 1 : Nat) : Int) - 1 = (j : Int) from by omega]; obtain ⟨b, o, nm1, t1, qq1, dd1, rfl, hat, hr1, ha1, hs1, hgb⟩ := hx.get (i := j) (by omega); refine B9 ?_)
 refine tS (tR (sQ (qM rfl) rfl (sQ (qM rfl) rfl (sQ (qM rfl) rfl ?_))))
 refine sP (B3 (j := j) rfl rfl rfl (by omega)) rfl rfl ?_
 refine sQ (qF rfl) rfl ?_
 refine sL (A0j rfl rfl ((hat _).sub (j := 0) rfl)) rfl rfl ?_
 (refine E5 rfl (B1u _ _ nc cc nm1 hx) rfl rfl (fun v G2 hle2 hh => ?_); obtain ⟨ts, tcs, xs, rfl, hrs, has, hss⟩ := hh; obtain ⟨ps, cs, ess, rfl, _⟩ := hrs.open; obtain ⟨b, o, nm1, t1, qq1, dd1, hpp, hat, hr1, ha1, hs1, hgb⟩ := (hx.mono hle2).get (i := j) (by omega); cases hpp; replace hx := hx.mono hle2; replace hb := hb.mono hle2; replace hrt := hrt.mono hle2;)
 refine sQ (qM rfl) rfl (sQ (pX rfl rfl) rfl (sQ (pX rfl rfl) rfl ?_))
 refine sE (A7 rfl) rfl (fun b45 => ?_)
 refine B1 ?_
 refine sQ (qA rfl) rfl (sD (nS (tS (tR (sQ (qM rfl) rfl ?_)))))
 (have hinloop := hrs; refine I8 rfl (W5 _ br pb nb cb (p1) bs 3 hb hnb (by omega)) (Pk.perm (by repeat (first | exact Pk.here | apply Pk.there))) rfl rfl (fun v Gp outs hle53 hh => ?_); obtain ⟨rfl, rfl, j53, rfl, hj53, hk53⟩ := hh; have hinl := hj53)
 replace hrs := hrs.mono hle53
 replace hr1 := hr1.mono hle53
 replace hb := hb.mono hle53
 replace hrt := hrt.mono hle53
 replace hinloop := hinloop.mono hle53
 refine sB (qE rfl rfl) rfl rfl (fun h54 => ?_) (fun h54 => ?_)
 refine sQ (qM rfl) rfl (sL (A2 rfl rfl) rfl rfl ?_)
 refine E7 rfl ((A1r ts _ _ hrs)) rfl rfl (fun h57 => ?_) (fun h57 => ?_)
 refine sQ (C2 rfl rfl) rfl (sQ (qM rfl) rfl (sL (A2 rfl rfl) rfl rfl (sL (A2 rfl rfl) rfl rfl ?_)))
 refine E7 rfl ((A1u ts (.mk k ks) _ _ _ has har hrs hrt)) rfl rfl (fun h62 => ?_) (fun h62 => ?_)
 refine sQ (C2 rfl rfl) rfl (sD (nS (qT rfl (tS (tR (sQ (qM rfl) rfl (sQ (qM rfl) rfl ?_)))))))
 refine sP (B3 (j := j) rfl rfl rfl (by omega)) rfl rfl ?_
 refine sQ (qF rfl) rfl ?_
 refine sL (A0j rfl rfl ((hat _).sub (j := 0) rfl)) rfl rfl ?_
 refine sQ (H6 rfl rfl) rfl (B1 ?_)
 refine sD (nS (tT (rB (rS (T4 (rB (rS ?_)))))))
 refine F9 (outs := [rd br pb nb cb (p1 + 1)]) (rC rfl (A2 rfl rfl)) (by repeat (first | exact A1.nil | refine A1.cons Pk.here ?_ | refine A1.cons (Pk.there Pk.here) ?_ | refine A1.cons (Pk.there (Pk.there Pk.here)) ?_ | apply A1.drop)) ?_
 (exact ⟨(p1 + 1), by omega, by omega, rfl, _, _, rfl, A1L _ _ _ ⟨by omega, by omega⟩ (by first | exact ⟨by omega, by omega⟩ | exact hkn), by simp only [D1, E1]; omega⟩)
 refine sQ (C2 rfl rfl) rfl (sD (nS (cF rfl (tK (E3 (nS (tR (sQ (qM rfl) rfl ?_))))))))
 refine sP (O7 rfl rfl (by omega) (by omega)) rfl rfl ?_
 refine sQ (qA rfl) rfl (sD ?_)
 (have hinloop := hrs; refine J3 (j, p1 + 1, Gp) ?_ ?_ ?_)
 (simp only [I3]; exact D9)
 (dsimp only; exact ⟨by omega, hleL.trans hle2, by omega, by omega⟩)
 (show _ < _ + 1; omega)
 refine R2 ?_
 refine sP (O7 rfl rfl (by omega) (by omega)) rfl rfl ?_
 refine sQ (qA rfl) rfl (sD ?_)
 (have hinloop := hrs; refine J3 (j, p1 + 1, Gp) ?_ ?_ ?_)
 (simp only [I3]; exact D9)
 (dsimp only; exact ⟨by omega, hleL.trans hle2, by omega, by omega⟩)
 (show _ < _ + 1; omega)
 refine S9 ?_
 refine sP (O7 rfl rfl (by omega) (by omega)) rfl rfl ?_
 refine sQ (qA rfl) rfl (sD ?_)
 (have hinloop := hrs; refine J3 (j, p1 + 1, Gp) ?_ ?_ ?_)
 (simp only [I3]; exact D9)
 (dsimp only; exact ⟨by omega, hleL.trans hle2, by omega, by omega⟩)
 (show _ < _ + 1; omega)
 refine sD (nS (cF rfl (M3 (M5 (N7 (M6 (nS (tS (tS ?_)))))))))
 (show H9 _ _ (.region 7 ..) _ _; refine Y4 (fun (x : Bool) => ⟨(49, .bool x) :: [(0, .pointer (some ⟨br, 0, none⟩)), (1, .slice pc nc cc), (3, .int .i64 depth), (6, .pointer (some ⟨b3, 0, none⟩)), (8, .pointer (some ⟨b4, 0, none⟩))], [rd br pb nb cb p1, .blk b4 [.int .i64 0, .string ⟨⟨[]⟩⟩, .int .i64 0, .int .i64 0, .slice none 0 0, .int .i64 0, .slice none 0 0, .int .i64 0, .slice none 0 0], .blk b3 [.int .i64 k, .slice q ks.length c]], G1⟩) (fun x => x = true → 1 < depth) ?_ ?_)
 refine tR (sQ (qM rfl) rfl ?_)
 refine sB (X4 rfl rfl) rfl rfl (fun h160 => ?_) (fun h160 => ?_)
 refine sD ?_
 refine P1 true (K6 (by repeat (first | exact D8.nil | refine D8.cons rfl ?_)) (by repeat (first | exact A1.refl | exact A1.nil | refine A1.cons (by repeat (first | exact Pk.here | apply Pk.there)) ?_ | apply A1.drop))) (fun _ => by omega)
 refine sD ?_
 refine P1 false (K6 (by repeat (first | exact D8.nil | refine D8.cons rfl ?_)) (by repeat (first | exact A1.refl | exact A1.nil | refine A1.cons (by repeat (first | exact Pk.here | apply Pk.there)) ?_ | apply A1.drop))) (fun h => absurd h (by decide))
 (rintro (x49 : Bool) hx49)
 (show H9 _ _ (.cond (.tmp 49) _ _) _ _; refine A7W (fun (x : Nat × IM) => ⟨[(0, .pointer (some ⟨br, 0, none⟩)), (1, .slice pc nc cc), (3, .int .i64 depth), (6, .pointer (some ⟨b3, 0, none⟩)), (8, .pointer (some ⟨b4, 0, none⟩))], [rd br pb nb cb x.1, .blk b4 [.int .i64 0, .string ⟨⟨[]⟩⟩, .int .i64 0, .int .i64 0, .slice none 0 0, .int .i64 0, .slice none 0 0, .int .i64 0, .slice none 0 0], .blk b3 [.int .i64 k, .slice q ks.length c]], x.2⟩) (fun x => B8 G1 x.2 ∧ p1 ≤ x.1 ∧ x.1 ≤ p1 + 1) (A2V rfl (fun hxt => ?_) (fun hxf => ?_)) ?_)
 refine tS (tR (sQ (qM rfl) rfl ?_))
 (have hx49b := hx49 hxt; refine I8 rfl (W5 _ br pb nb cb (p1) bs 9 hb hnb (by omega)) (Pk.perm (by repeat (first | exact Pk.here | apply Pk.there))) rfl rfl (fun v Gp outs hle170 hh => ?_); obtain ⟨rfl, rfl, j170, rfl, hj170, hk170⟩ := hh; have hpk9 := hj170)
 replace hb := hb.mono hle170
 replace hrt := hrt.mono hle170
 refine sD (nS ?_)
 refine B9 (tS (tR (sB (qE rfl rfl) rfl rfl (fun h176 => ?_) (fun h176 => ?_))))
 refine sQ (qA rfl) rfl (sD (nS (qT rfl (tS ?_))))
 (obtain ⟨m, rfl⟩ := hfu.pos (.inl (by omega)); have hmB : mB (m + 1) = 3 * mB m + 200 := rfl; have hgm := A07 m; refine D4 D6 rfl ?_)
 refine K2 (i := 0) (l' := [tt,ff,ff,ff,ff,ff,ff,ff,ff,ff,ff,ff,ff]) rfl C9 (A2 rfl rfl) rfl (by kernel_rfl) rfl rfl ?_
 refine aP 2 rfl (qM rfl) rfl ?_
 refine aP 3 rfl (qM rfl) rfl ?_
 refine aP 4 rfl (qM rfl) rfl ?_
 refine aL 5 rfl (A2 rfl rfl) rfl ?_
 refine aP 7 rfl (qM rfl) rfl ?_
 refine aP 8 rfl (O7 rfl rfl (by omega) (by omega)) rfl ?_
 refine A4 1 ?_
 (refine F0 rfl rfl (P0 _ _ _ har.small hrt) rfl rfl rfl (fun v G6 hle6 hh => ?_); obtain ⟨cs1, F1, rfl, hs1, hn1⟩ := hh; obtain ⟨pz, cz, rfl, _⟩ := hs1.open; have hrz := hs1.R.mono (C4.le G6 _); replace hx := hx.mono hle6; replace hb := hb.mono hle6; replace hrt := hrt.mono hle6;)
 refine A4 6 ?_
 (have hcall := A4d br pb nb cb bs hnb (.mk k ks) (p1 + 1) _ _ har hrt hb (by omega); refine V7 (l' := [tt,tt,tt,tt,tt,tt,tt,tt,tt,ff,ff,ff,ff]) rfl rfl hcall (Pk.perm (by repeat (first | exact Pk.here | apply Pk.there))) rfl rfl rfl (by repeat (first | exact A8.nil | apply A8.dep (by decide +kernel) | apply A8.im (by decide +kernel) hg0 (by repeat first | exact mH | apply mT) | apply A8.im (by decide +kernel) hg1 (by repeat first | exact mH | apply mT) | apply A8.blk (by decide +kernel) (by repeat (first | exact Pk.here | apply Pk.there)) (by repeat first | exact mH | apply mT))) (fun v Gn outs hleA hh => ?_); obtain ⟨pA, hpA1, hpA2, rfl, uA, cuA, rfl, hruA, huaA, husA, huhA⟩ := hh; obtain ⟨quA, duA, euA, rfl, _⟩ := hruA.open; replace hrz := hrz.mono hleA; replace hx := hx.mono hleA; replace hb := hb.mono hleA; replace hrt := hrt.mono hleA;)
 refine A4 9 ?_
 (have hcall := ih m (by omega) (depth - 1) uA pA _ pc nc cc _ (hfu.sub (by omega) (huhA 4 hfu.1)) (by omega) (by omega) (by omega) hx hruA hb (by omega); refine V7 (l' := [tt,tt,tt,tt,tt,tt,tt,tt,tt,tt,ff,ff,ff]) rfl rfl hcall (Pk.perm (by repeat (first | exact Pk.here | apply Pk.there))) rfl rfl rfl (by repeat (first | exact A8.nil | apply A8.dep (by decide +kernel) | apply A8.im (by decide +kernel) hg0 (by repeat first | exact mH | apply mT) | apply A8.im (by decide +kernel) hg1 (by repeat first | exact mH | apply mT) | apply A8.blk (by decide +kernel) (by repeat (first | exact Pk.here | apply Pk.there)) (by repeat first | exact mH | apply mT))) (fun v Gn outs hlea hh => ?_); obtain ⟨pa, hpa1, hpa2, rfl, ea, ca, rfl, hra, hca⟩ := hh; obtain ⟨a1, a2, a3, a4, a5, a6, a7, a8, a9, rfl⟩ := hra.nine; replace hrz := hrz.mono hlea; replace hx := hx.mono hlea; replace hb := hb.mono hlea; replace hrt := hrt.mono hlea;)
 refine A4 10 ?_
 (refine E0 rfl (C7 rfl rfl rfl (by omega) (by unfold maxLen; omega) rfl) rfl rfl ?_; rintro _ ⟨b197, rfl⟩)
 refine aP 11 rfl (H6 rfl rfl) rfl ?_
 refine A4 12 ?_
 refine Q6 rfl rfl rfl rfl rfl rfl rfl rfl (by kernel_rfl) (by repeat first | exact Sw.here | apply Sw.there) (by rfl) ?_
 refine B5 (nS ?_)
 (refine E9 (cs := [a1, a2, a3, a4, a5, a6, a7, a8, a9]) (by repeat (first | exact Pk.here | apply Pk.there)) (fun G9 hle9 hsl9 hno9 => ?_); have hN := A3n (k := 13) (nm := ⟨⟨[]⟩⟩) ⟨by omega, by omega⟩ (hrz.mono hle9) (hra.mono hle9) hsl9)
 refine tT (rB ?_)
 refine A0B ?_
 refine F9 (outs := [rd br pb nb cb pa]) (rC rfl (A2 rfl rfl)) (by repeat (first | exact A1.nil | refine A1.cons Pk.here ?_ | refine A1.cons (Pk.there Pk.here) ?_ | refine A1.cons (Pk.there (Pk.there Pk.here)) ?_ | apply A1.drop)) ?_
 (exact ⟨pa, by omega, by omega, rfl, _, _, rfl, hN, by simp only [D1, E1]; omega⟩)
 refine sQ (qA rfl) rfl (sD (nS (cF rfl (tS (tR ?_)))))
 refine sB (qE rfl rfl) rfl rfl (fun h215 => ?_) (fun h215 => ?_)
 refine sQ (qA rfl) rfl (sD (nS (qT rfl (tS ?_))))
 (obtain ⟨m, rfl⟩ := hfu.pos (.inl (by omega)); have hmB : mB (m + 1) = 3 * mB m + 200 := rfl; have hgm := A07 m; refine D4 D6 rfl ?_)
 refine I6 (i := 0) (l' := [tt,ff,ff,ff,ff,ff,ff,ff,ff,ff,ff,ff,ff,ff,ff,ff,ff,ff,ff,ff,ff]) rfl C9 (qM rfl) rfl (by kernel_rfl) rfl rfl ?_
 refine aP 1 rfl (qM rfl) rfl ?_
 refine aP 3 rfl (qM rfl) rfl ?_
 refine aP 4 rfl (O7 rfl rfl (by omega) (by omega)) rfl ?_
 refine aP 6 rfl (qM rfl) rfl ?_
 refine aP 7 rfl (qM rfl) rfl ?_
 refine aL 8 rfl (A2 rfl rfl) rfl ?_
 refine aP 9 rfl (qM rfl) rfl ?_
 refine aP 10 rfl (O7 rfl rfl (by omega) (by omega)) rfl ?_
 refine aP 12 rfl (qM rfl) rfl ?_
 refine aP 13 rfl (qM rfl) rfl ?_
 refine aL 14 rfl (A2 rfl rfl) rfl ?_
 refine aP 15 rfl (qM rfl) rfl ?_
 refine aP 16 rfl (O7 rfl rfl (by omega) (by omega)) rfl ?_
 refine A4 2 ?_
 refine M7 rfl rfl ((A2A _)) rfl rfl rfl ?_
 refine A4 5 ?_
 (have hcall := ih m (by omega) (depth - 1) (.mk 3 []) (p1 + 1) _ pc nc cc _ (hfu.sub (by omega) (A2w 4 (by decide) (by decide))) (by omega) (by omega) (by omega) hx (M1 _ ⟨by omega, by omega⟩) hb (by omega); refine V7 (l' := [tt,tt,tt,tt,tt,tt,tt,tt,tt,tt,tt,ff,tt,tt,tt,tt,tt,ff,ff,ff,ff]) rfl rfl hcall (Pk.perm (by repeat (first | exact Pk.here | apply Pk.there))) rfl rfl rfl (by repeat (first | exact A8.nil | apply A8.dep (by decide +kernel) | apply A8.im (by decide +kernel) hg0 (by repeat first | exact mH | apply mT) | apply A8.im (by decide +kernel) hg1 (by repeat first | exact mH | apply mT) | apply A8.blk (by decide +kernel) (by repeat (first | exact Pk.here | apply Pk.there)) (by repeat first | exact mH | apply mT))) (fun v Gn outs hlef hh => ?_); obtain ⟨pf, hpf1, hpf2, rfl, ef, cf, rfl, hrf, hcf⟩ := hh; obtain ⟨f1, f2, f3, f4, f5, f6, f7, f8, f9, rfl⟩ := hrf.nine; replace hx := hx.mono hlef; replace hb := hb.mono hlef; replace hrt := hrt.mono hlef;)
 refine A4 11 ?_
 (have hcall := ih m (by omega) (depth - 1) (.mk k ks) pf _ pc nc cc _ (hfu.sub (by omega) hfu.1) (by omega) (by omega) (by omega) hx hrt hb (by omega); refine V7 (l' := [tt,tt,tt,tt,tt,tt,tt,tt,tt,tt,tt,tt,tt,tt,tt,tt,tt,ff,ff,ff,ff]) rfl rfl hcall (Pk.perm (by repeat (first | exact Pk.here | apply Pk.there))) rfl rfl rfl (by repeat (first | exact A8.nil | apply A8.dep (by decide +kernel) | apply A8.im (by decide +kernel) hg0 (by repeat first | exact mH | apply mT) | apply A8.im (by decide +kernel) hg1 (by repeat first | exact mH | apply mT) | apply A8.blk (by decide +kernel) (by repeat (first | exact Pk.here | apply Pk.there)) (by repeat first | exact mH | apply mT))) (fun v Gn outs hleg hh => ?_); obtain ⟨pg, hpg1, hpg2, rfl, eg, cg, rfl, hrg, hcg⟩ := hh; obtain ⟨g1, g2, g3, g4, g5, g6, g7, g8, g9, rfl⟩ := hrg.nine; replace hrf := hrf.mono hleg; replace hx := hx.mono hleg; replace hb := hb.mono hleg; replace hrt := hrt.mono hleg;)
 refine A4 17 ?_
 (have hcall := ih m (by omega) (depth - 1) (.mk k ks) pg _ pc nc cc _ (hfu.sub (by omega) hfu.1) (by omega) (by omega) (by omega) hx hrt hb (by omega); refine V7 (l' := [tt,tt,tt,tt,tt,tt,tt,tt,tt,tt,tt,tt,tt,tt,tt,tt,tt,tt,ff,ff,ff]) rfl rfl hcall (Pk.perm (by repeat (first | exact Pk.here | apply Pk.there))) rfl rfl rfl (by repeat (first | exact A8.nil | apply A8.dep (by decide +kernel) | apply A8.im (by decide +kernel) hg0 (by repeat first | exact mH | apply mT) | apply A8.im (by decide +kernel) hg1 (by repeat first | exact mH | apply mT) | apply A8.blk (by decide +kernel) (by repeat (first | exact Pk.here | apply Pk.there)) (by repeat first | exact mH | apply mT))) (fun v Gn outs hlei hh => ?_); obtain ⟨pi, hpi1, hpi2, rfl, ei, ci, rfl, hri, hci⟩ := hh; obtain ⟨i1, i2, i3, i4, i5, i6, i7, i8, i9, rfl⟩ := hri.nine; replace hrf := hrf.mono hlei; replace hrg := hrg.mono hlei; replace hx := hx.mono hlei; replace hb := hb.mono hlei; replace hrt := hrt.mono hlei;)
 refine A4 18 ?_
 (refine E0 rfl (C7 rfl rfl rfl (by omega) (by unfold maxLen; omega) rfl) rfl rfl ?_; rintro _ ⟨b245, rfl⟩)
 refine A4 19 ?_
 refine M7 rfl rfl ((A0f _ _ _ _ _)) rfl rfl rfl ?_
 refine A4 20 ?_
 refine Q6 rfl rfl rfl rfl rfl rfl rfl rfl (by kernel_rfl) (by repeat first | exact Sw.here | apply Sw.there) (by rfl) ?_
 refine B5 (nS ?_)
 (refine E9 (cs := [f1, f2, f3, f4, f5, f6, f7, f8, f9] ++ ([g1, g2, g3, g4, g5, g6, g7, g8, g9] ++ [i1, i2, i3, i4, i5, i6, i7, i8, i9])) (by repeat (first | exact Pk.here | apply Pk.there)) (fun G9 hle9 hsl9 hno9 => ?_); have hN := B1G (k := 9) (nm := ⟨⟨[]⟩⟩) ⟨by omega, by omega⟩ (hrf.mono hle9) (hrg.mono hle9) (hri.mono hle9) hsl9)
 refine tT (rB ?_)
 refine A0B ?_
 refine F9 (outs := [rd br pb nb cb pi]) (rC rfl (A2 rfl rfl)) (by repeat (first | exact A1.nil | refine A1.cons Pk.here ?_ | refine A1.cons (Pk.there Pk.here) ?_ | refine A1.cons (Pk.there (Pk.there Pk.here)) ?_ | apply A1.drop)) ?_
 (exact ⟨pi, by omega, by omega, rfl, _, _, rfl, hN, by simp only [D1, E1]; omega⟩)
 refine sQ (qA rfl) rfl (sD (nS (cF rfl (tS (tR ?_)))))
 refine sB (qE rfl rfl) rfl rfl (fun h264 => ?_) (fun h264 => ?_)
 refine sQ (qA rfl) rfl (sD (nS (qT rfl (tS (tR (sQ (qM rfl) rfl ?_))))))
 (have hcall := A3h br pb nb cb bs hnb 0 (p1 + 1) _ (by omega) hb (by have : dB (0 + 1) ≤ 6 := (by decide); omega); refine I8 rfl hcall (Pk.perm (by repeat (first | exact Pk.here | apply Pk.there))) rfl rfl (fun v Gn outs hleD hh => ?_); obtain ⟨pD, hpD1, hpD2, rfl, uD, cuD, rfl, hruD, husD, huhD⟩ := hh; have huaD := huhD.ar; obtain ⟨quD, duD, euD, rfl, _⟩ := hruD.open; have hdBD : dB (0 + 1) ≤ 6 := (by decide); replace hx := hx.mono hleD; replace hb := hb.mono hleD; replace hrt := hrt.mono hleD;)
 refine sE (A7 rfl) rfl (fun b273 => ?_)
 refine B1 ?_
 refine sD (nS (tS ?_))
 (obtain ⟨m, rfl⟩ := hfu.pos (.inl (by omega)); have hmB : mB (m + 1) = 3 * mB m + 200 := rfl; have hgm := A07 m; refine D4 D6 rfl ?_)
 refine I6 (i := 0) (l' := [tt,ff,ff,ff,ff,ff,ff,ff,ff,ff,ff,ff,ff,ff,ff,ff,ff,ff]) rfl C9 (qM rfl) rfl (by kernel_rfl) rfl rfl ?_
 refine aP 1 rfl (qM rfl) rfl ?_
 refine aL 2 rfl (A2 rfl rfl) rfl ?_
 refine aL 3 rfl (A2 rfl rfl) rfl ?_
 refine aP 4 rfl (qM rfl) rfl ?_
 refine aP 5 rfl (O7 rfl rfl (by omega) (by omega)) rfl ?_
 refine aP 7 rfl (qM rfl) rfl ?_
 refine aP 8 rfl (qM rfl) rfl ?_
 refine aP 9 rfl (qM rfl) rfl ?_
 refine aL 10 rfl (A2 rfl rfl) rfl ?_
 refine aP 12 rfl (qM rfl) rfl ?_
 refine aP 13 rfl (O7 rfl rfl (by omega) (by omega)) rfl ?_
 refine A4 6 ?_
 (have hcall := A7V br pb nb cb bs hnb m (ih m (by omega)) (depth - 1) uD (.mk k ks) (pD) _ pc nc cc _ _ (hfu.sub (by omega) hfu.1) (by omega) (by omega) (by omega) hx hruD ⟨huaD, by omega⟩ hrt hb (by omega); refine V7 (l' := [tt,tt,tt,tt,tt,tt,tt,tt,tt,tt,tt,ff,tt,tt,ff,ff,ff,ff]) rfl rfl hcall (Pk.perm (by repeat (first | exact Pk.here | apply Pk.there))) rfl rfl rfl (by repeat (first | exact A8.nil | apply A8.dep (by decide +kernel) | apply A8.im (by decide +kernel) hg0 (by repeat first | exact mH | apply mT) | apply A8.im (by decide +kernel) hg1 (by repeat first | exact mH | apply mT) | apply A8.blk (by decide +kernel) (by repeat (first | exact Pk.here | apply Pk.there)) (by repeat first | exact mH | apply mT))) (fun v Gn outs hlel hh => ?_); obtain ⟨pl, hpl1, hpl2, rfl, el, cl, rfl, hrl, hcl⟩ := hh; obtain ⟨l1, l2, l3, l4, l5, l6, l7, l8, l9, rfl⟩ := hrl.nine; replace hruD := hruD.mono hlel; replace hx := hx.mono hlel; replace hb := hb.mono hlel; replace hrt := hrt.mono hlel;)
 refine A4 11 ?_
 (have hcall := A4d br pb nb cb bs hnb uD (pl) _ _ huaD hruD hb (by omega); refine V7 (l' := [tt,tt,tt,tt,tt,tt,tt,tt,tt,tt,tt,tt,tt,tt,ff,ff,ff,ff]) rfl rfl hcall (Pk.perm (by repeat (first | exact Pk.here | apply Pk.there))) rfl rfl rfl (by repeat (first | exact A8.nil | apply A8.dep (by decide +kernel) | apply A8.im (by decide +kernel) hg0 (by repeat first | exact mH | apply mT) | apply A8.im (by decide +kernel) hg1 (by repeat first | exact mH | apply mT) | apply A8.blk (by decide +kernel) (by repeat (first | exact Pk.here | apply Pk.there)) (by repeat first | exact mH | apply mT))) (fun v Gn outs hleE hh => ?_); obtain ⟨pE, hpE1, hpE2, rfl, uE, cuE, rfl, hruE, huaE, husE, huhE⟩ := hh; obtain ⟨quE, duE, euE, rfl, _⟩ := hruE.open; replace hrl := hrl.mono hleE; replace hx := hx.mono hleE; replace hb := hb.mono hleE; replace hrt := hrt.mono hleE;)
 refine A4 14 ?_
 (have hcall := ih m (by omega) (depth - 1) uE pE _ pc nc cc _ (hfu.sub (by omega) (huhE 4 (huhD.le (by omega)))) (by omega) (by omega) (by omega) hx hruE hb (by omega); refine V7 (l' := [tt,tt,tt,tt,tt,tt,tt,tt,tt,tt,tt,tt,tt,tt,tt,ff,ff,ff]) rfl rfl hcall (Pk.perm (by repeat (first | exact Pk.here | apply Pk.there))) rfl rfl rfl (by repeat (first | exact A8.nil | apply A8.dep (by decide +kernel) | apply A8.im (by decide +kernel) hg0 (by repeat first | exact mH | apply mT) | apply A8.im (by decide +kernel) hg1 (by repeat first | exact mH | apply mT) | apply A8.blk (by decide +kernel) (by repeat (first | exact Pk.here | apply Pk.there)) (by repeat first | exact mH | apply mT))) (fun v Gn outs hled hh => ?_); obtain ⟨pd, hpd1, hpd2, rfl, ed, cd, rfl, hrd, hcd⟩ := hh; obtain ⟨d1, d2, d3, d4, d5, d6, d7, d8, d9, rfl⟩ := hrd.nine; replace hrl := hrl.mono hled; replace hx := hx.mono hled; replace hb := hb.mono hled; replace hrt := hrt.mono hled;)
 refine A4 15 ?_
 (refine E0 rfl (C7 rfl rfl rfl (by omega) (by unfold maxLen; omega) rfl) rfl rfl ?_; rintro _ ⟨b298, rfl⟩)
 refine A4 16 ?_
 refine M7 rfl rfl ((A0f _ _ _ _ _)) rfl rfl rfl ?_
 refine A4 17 ?_
 refine Q6 rfl rfl rfl rfl rfl rfl rfl rfl (by kernel_rfl) (by repeat first | exact Sw.here | apply Sw.there) (by rfl) ?_
 refine B5 (nS ?_)
 (refine E9 (cs := [l1, l2, l3, l4, l5, l6, l7, l8, l9] ++ [d1, d2, d3, d4, d5, d6, d7, d8, d9]) (by repeat (first | exact Pk.here | apply Pk.there)) (fun G9 hle9 hsl9 hno9 => ?_); have hN := A3o (k := 6) (nm := ⟨⟨[]⟩⟩) ⟨by omega, by omega⟩ (hrl.mono hle9) (hrd.mono hle9) hsl9)
 refine tT (rB ?_)
 refine A0B ?_
 refine F9 (outs := [rd br pb nb cb pd]) (rC rfl (A2 rfl rfl)) (by repeat (first | exact A1.nil | refine A1.cons Pk.here ?_ | refine A1.cons (Pk.there Pk.here) ?_ | refine A1.cons (Pk.there (Pk.there Pk.here)) ?_ | apply A1.drop)) ?_
 (exact ⟨pd, by omega, by omega, rfl, _, _, rfl, hN, by simp only [D1, E1]; omega⟩)
 refine sQ (qA rfl) rfl (sD (nS (cF rfl (tS (tR ?_)))))
 refine sB (qE rfl rfl) rfl rfl (fun h317 => ?_) (fun h317 => ?_)
 refine sQ (qA rfl) rfl (sD (nS (qT rfl (tS (tR (sQ (qM rfl) rfl (sQ (qM rfl) rfl (sL (A2 rfl rfl) rfl rfl (sQ (qM rfl) rfl ?_)))))))))
 refine sP (O7 rfl rfl (by omega) (by omega)) rfl rfl ?_
 (have hpkq := hpk9; obtain ⟨m, rfl⟩ := hfu.pos (.inl (by omega)); have hmB : mB (m + 1) = 3 * mB m + 200 := rfl; have hgm := A07 m; have hcall := ih m (by omega) (depth - 1) (.mk k ks) (p1 + 1) _ pc nc cc _ (hfu.sub (by omega) hfu.1) (by omega) (by omega) (by omega) hx hrt hb (by omega); refine I8 rfl hcall (Pk.perm (by repeat (first | exact Pk.here | apply Pk.there))) rfl rfl (fun v Gn outs hleh hh => ?_); obtain ⟨ph, hph1, hph2, rfl, eh, ch, rfl, hrh, hch⟩ := hh; obtain ⟨h1, h2, h3, h4, h5, h6, h7, h8, h9, rfl⟩ := hrh.nine; replace hx := hx.mono hleh; replace hb := hb.mono hleh; replace hrt := hrt.mono hleh;)
 refine H0 rfl ((A15 _ _)) rfl rfl ?_
 (refine I5 (C7 rfl rfl rfl (by omega) (by unfold maxLen; omega) rfl) rfl ?_; rintro _ ⟨b331, rfl⟩)
 refine H0 rfl ((A0f _ _ _ _ _)) rfl rfl ?_
 (refine I5 (C7 rfl rfl rfl (by omega) (by unfold maxLen; omega) rfl) rfl ?_; rintro _ ⟨b333, rfl⟩)
 refine H0 rfl ((A0f _ _ _ _ _)) rfl rfl ?_
 refine B1 ?_
 refine sD (nS ?_)
 (refine E9 (cs := [h1, h2, h3, h4, h5, h6, h7, h8, h9] ++ [.int .i64 2, .string ⟨⟨[]⟩⟩, .int .i64 1, .int .i64 0, .slice none 0 0, .int .i64 0, .slice none 0 0, .int .i64 0, .slice none 0 0]) (by repeat (first | exact Pk.here | apply Pk.there)) (fun G8 hle8 hsl8 hno8 => ?_); have hNi := A3o (k := 10) (nm := ⟨⟨[]⟩⟩) ⟨by omega, by omega⟩ (hrh.mono hle8) (A1L G8 ⟨⟨[]⟩⟩ 1 (k := 2) ⟨by omega, by omega⟩ ⟨by omega, by omega⟩) hsl8; refine E9 (by repeat (first | exact Pk.here | apply Pk.there)) (fun G9 hle9 hsl9 hno9 => ?_); have hN := A3n (k := 11) (nm := ⟨⟨[]⟩⟩) ⟨by omega, by omega⟩ (M1 G9 (k := 0) ⟨by omega, by omega⟩) (hNi.mono hle9) hsl9)
 refine tT (rB ?_)
 refine A0B ?_
 refine F9 (outs := [rd br pb nb cb ph]) (rC rfl (A2 rfl rfl)) (by repeat (first | exact A1.nil | refine A1.cons Pk.here ?_ | refine A1.cons (Pk.there Pk.here) ?_ | refine A1.cons (Pk.there (Pk.there Pk.here)) ?_ | apply A1.drop)) ?_
 (exact ⟨ph, by omega, by omega, rfl, _, _, rfl, hN, by simp only [D1, E1]; omega⟩)
 refine sQ (qA rfl) rfl (sD (nS (cF rfl (tK (E3 ?_)))))
 refine A3q (p1 + 1, Gp) (K6 (by repeat (first | exact D8.nil | refine D8.cons rfl ?_)) (by repeat (first | exact A1.refl | exact A1.nil | refine A1.cons (by repeat (first | exact Pk.here | apply Pk.there)) ?_ | apply A1.drop))) ⟨B8.refl _, by dsimp only; omega, by dsimp only; omega⟩
 refine tK ?_
 refine A3q (p1, G1) (K6 (by repeat (first | exact D8.nil | refine D8.cons rfl ?_)) (by repeat (first | exact A1.refl | exact A1.nil | refine A1.cons (by repeat (first | exact Pk.here | apply Pk.there)) ?_ | apply A1.drop))) ⟨B8.refl _, by dsimp only; omega, by dsimp only; omega⟩
 (rintro ⟨(p2 : Nat), G2⟩ ⟨hle2c, hp2a, hp2b⟩; simp only [] at hle2c hp2a hp2b ⊢; have hcut1 := hp2a; replace hx := hx.mono hle2c; replace hb := hb.mono hle2c; replace hrt := hrt.mono hle2c;)
 refine tS (tS (tR (sQ (A0 rfl) rfl (sL (A3 rfl rfl) rfl rfl (sD (nS ?_))))))
 (show H9 _ _ (.block 3 ..) _ _; refine A7W (fun (x : Nat × IM) => ⟨[(0, .pointer (some ⟨br, 0, none⟩)), (1, .slice pc nc cc), (3, .int .i64 depth), (6, .pointer (some ⟨b3, 0, none⟩)), (8, .pointer (some ⟨b4, 0, none⟩))], [rd br pb nb cb x.1, .blk b4 [.int .i64 0, .string ⟨⟨[]⟩⟩, .int .i64 0, .int .i64 0, .slice none 0 0, .int .i64 0, .slice none 0 0, .int .i64 0, .slice none 0 0], .blk b3 [.int .i64 k, .slice q ks.length c]], x.2⟩) (fun x => B8 G2 x.2 ∧ p2 ≤ x.1 ∧ x.1 ≤ p2 + 2) ?_ ?_)
 refine B9 (tS (tR (sB (qE rfl rfl) rfl rfl (fun h365 => ?_) (fun h365 => ?_))))
 refine sQ (qA rfl) rfl (sD (nS (qT rfl (tS (tS (tR (sQ (qM rfl) rfl ?_)))))))
 refine sB (X4 rfl rfl) rfl rfl (fun h374 => ?_) (fun h374 => ?_)
 refine sQ (qM rfl) rfl (sQ (qM rfl) rfl ?_)
 (have hkk3 : k = 3 := (by omega); refine I8 rfl (W5 _ br pb nb cb (p2) bs 2 hb hnb (by omega)) (Pk.perm (by repeat (first | exact Pk.here | apply Pk.there))) rfl rfl (fun v Gp outs hle377 hh => ?_); obtain ⟨rfl, rfl, j377, rfl, hj377, hk377⟩ := hh; have hpk22 := hj377)
 replace hb := hb.mono hle377
 replace hrt := hrt.mono hle377
 refine sB (qE rfl rfl) rfl rfl (fun h378 => ?_) (fun h378 => ?_)
 refine sQ (C2 rfl rfl) rfl (sD (nS (qT rfl (tS (tR (sQ (qM rfl) rfl (sQ (qM rfl) rfl ?_)))))))
 refine H0 rfl ((A0e _)) rfl rfl ?_
 refine sQ (qM rfl) rfl ?_
 refine sP (O7 rfl rfl (by omega) (by omega)) rfl rfl ?_
 (have hkk3q := hkk3; obtain ⟨m, rfl⟩ := hfu.pos (.inl (by omega)); have hmB : mB (m + 1) = 3 * mB m + 200 := rfl; have hgm := A07 m; have hcall := ih m (by omega) (depth - 1) (.mk 2 []) (p2 + 1) _ pc nc cc _ (hfu.sub (by omega) (A2w 4 (by decide) (by decide))) (by omega) (by omega) (by omega) hx (M1 _ ⟨by omega, by omega⟩) hb (by omega); refine I8 rfl hcall (Pk.perm (by repeat (first | exact Pk.here | apply Pk.there))) rfl rfl (fun v Gn outs hlen hh => ?_); obtain ⟨pn, hpn1, hpn2, rfl, en, cn, rfl, hrn, hcn⟩ := hh; obtain ⟨n1, n2, n3, n4, n5, n6, n7, n8, n9, rfl⟩ := hrn.nine; replace hx := hx.mono hlen; replace hb := hb.mono hlen; replace hrt := hrt.mono hlen;)
 refine sQ (qM rfl) rfl (sQ (qM rfl) rfl ?_)
 refine H0 rfl ((A0e _)) rfl rfl ?_
 refine sQ (qM rfl) rfl ?_
 refine sP (O7 rfl rfl (by omega) (by omega)) rfl rfl ?_
 (have hcall := ih m (by omega) (depth - 1) (.mk 2 []) pn _ pc nc cc _ (hfu.sub (by omega) (A2w 4 (by decide) (by decide))) (by omega) (by omega) (by omega) hx (M1 _ ⟨by omega, by omega⟩) hb (by omega); refine I8 rfl hcall (Pk.perm (by repeat (first | exact Pk.here | apply Pk.there))) rfl rfl (fun v Gn outs hleo hh => ?_); obtain ⟨po, hpo1, hpo2, rfl, eo, co, rfl, hro, hco⟩ := hh; obtain ⟨o1, o2, o3, o4, o5, o6, o7, o8, o9, rfl⟩ := hro.nine; replace hrn := hrn.mono hleo; replace hx := hx.mono hleo; replace hb := hb.mono hleo; replace hrt := hrt.mono hleo;)
 (refine I5 (C7 rfl rfl rfl (by omega) (by unfold maxLen; omega) rfl) rfl ?_; rintro _ ⟨b397, rfl⟩)
 refine H0 rfl ((A0f _ _ _ _ _)) rfl rfl ?_
 refine B1 ?_
 refine sD (nS ?_)
 (refine E9 (cs := [n1, n2, n3, n4, n5, n6, n7, n8, n9] ++ [o1, o2, o3, o4, o5, o6, o7, o8, o9]) (by repeat (first | exact Pk.here | apply Pk.there)) (fun G9 hle9 hsl9 hno9 => ?_); have hN := A3o (k := 8) (nm := ⟨⟨[]⟩⟩) ⟨by omega, by omega⟩ (hrn.mono hle9) (hro.mono hle9) hsl9)
 refine tT (rS (rB ?_))
 refine A0B ?_
 refine F9 (outs := [rd br pb nb cb po]) (rC rfl (A2 rfl rfl)) (by repeat (first | exact A1.nil | refine A1.cons Pk.here ?_ | refine A1.cons (Pk.there Pk.here) ?_ | refine A1.cons (Pk.there (Pk.there Pk.here)) ?_ | apply A1.drop)) ?_
 (exact ⟨po, by omega, by omega, rfl, _, _, rfl, hN, by simp only [D1, E1]; omega⟩)
 refine sQ (C2 rfl rfl) rfl (sD (nS (cF rfl (tK (nS (tS (tR (sQ (H6 rfl rfl) rfl (B1 ?_)))))))))
 refine sD (nS (tT (rB ?_)))
 refine A0B ?_
 refine F9 (outs := [rd br pb nb cb (p2 + 1)]) (rC rfl (A2 rfl rfl)) (by repeat (first | exact A1.nil | refine A1.cons Pk.here ?_ | refine A1.cons (Pk.there Pk.here) ?_ | refine A1.cons (Pk.there (Pk.there Pk.here)) ?_ | apply A1.drop)) ?_
 (exact ⟨(p2 + 1), by omega, by omega, rfl, _, _, rfl, A1L _ _ _ ⟨by omega, by omega⟩ (by first | exact ⟨by omega, by omega⟩ | exact hkn), by simp only [D1, E1]; omega⟩)
 refine U5 ?_
 refine A0B ?_
 refine F9 (outs := [rd br pb nb cb p2]) (rC rfl (A2 rfl rfl)) (by repeat (first | exact A1.nil | refine A1.cons Pk.here ?_ | refine A1.cons (Pk.there Pk.here) ?_ | refine A1.cons (Pk.there (Pk.there Pk.here)) ?_ | apply A1.drop)) ?_
 (exact ⟨p2, by omega, by omega, rfl, _, _, rfl, A1L _ _ _ ⟨by omega, by omega⟩ (by first | exact ⟨by omega, by omega⟩ | exact hkn), by simp only [D1, E1]; omega⟩)
 refine sQ (qA rfl) rfl (sD (nS (cF rfl (tS (tR ?_)))))
 refine sB (qE rfl rfl) rfl rfl (fun h453 => ?_) (fun h453 => ?_)
 refine sQ (qA rfl) rfl (sD (nS (qT rfl (tS ?_))))
 (have hk45 : k = 4 ∨ k = 5 := (by omega); have hl2 := hops hk45; obtain ⟨m, rfl⟩ := hfu.pos (.inr hk45); have hmB : mB (m + 1) = 3 * mB m + 200 := rfl; have hgm := A07 m; obtain ⟨es9, hsl, hkl⟩ := hrt.kidsM; obtain ⟨b0, o0, q0, d0, hp0, hat0, hre0, hg0⟩ := hsl.kidTy hkl (i := 0) (by omega) (by omega); obtain ⟨b1, o1, q1, d1, hp1, hat1, hre1, hg1⟩ := hsl.kidTy hkl (i := 1) (by omega) (by omega); cases hp0; cases hp1; have hmem0 := List.getElem_mem (l := ks) (n := 0) (by omega); have hmem1 := List.getElem_mem (l := ks) (n := 1) (by omega); refine D4 D6 rfl ?_)
 refine I6 (i := 0) (l' := [tt,ff,ff,ff,ff,ff,ff,ff,ff,ff,ff,ff,ff,ff]) rfl C9 (qM rfl) rfl (by kernel_rfl) rfl rfl ?_
 refine aP 1 rfl (qM rfl) rfl ?_
 refine aP 2 rfl (A0 rfl) rfl ?_
 refine aL 3 rfl (A3 rfl rfl) rfl ?_
 refine aP 4 rfl (B3 (j := 0) rfl rfl rfl (by omega)) rfl ?_
 refine aL 5 rfl (A5 rfl rfl (hat0 _) rfl) rfl ?_
 refine aP 6 rfl (A0 rfl) rfl ?_
 refine aL 7 rfl (A3 rfl rfl) rfl ?_
 refine aP 8 rfl (B3 (j := 1) rfl rfl rfl (by omega)) rfl ?_
 refine aL 9 rfl (A5 rfl rfl (hat1 _) rfl) rfl ?_
 refine aP 10 rfl (qM rfl) rfl ?_
 refine aP 11 rfl (O7 rfl rfl (by omega) (by omega)) rfl ?_
 refine A4 12 ?_
 (have hcall := A7V br pb nb cb bs hnb m (ih m (by omega)) (depth - 1) ks[0] ks[1] (p2) _ pc nc cc _ _ (hfu.kid hmem1) (by omega) (by omega) (by omega) hx hre0 ⟨har.kid _ hmem0, by have := B1t (k := k) hmem0; omega⟩ hre1 hb (by omega); refine V7 (l' := [tt,tt,tt,tt,tt,tt,tt,tt,tt,tt,tt,tt,tt,ff]) rfl rfl hcall (Pk.perm (by repeat (first | exact Pk.here | apply Pk.there))) rfl rfl rfl (by repeat (first | exact A8.nil | apply A8.dep (by decide +kernel) | apply A8.im (by decide +kernel) hg0 (by repeat first | exact mH | apply mT) | apply A8.im (by decide +kernel) hg1 (by repeat first | exact mH | apply mT) | apply A8.blk (by decide +kernel) (by repeat (first | exact Pk.here | apply Pk.there)) (by repeat first | exact mH | apply mT))) (fun v Gn outs hlek hh => ?_); obtain ⟨pk, hpk1, hpk2, rfl, ek, ck, rfl, hrk, hck⟩ := hh; obtain ⟨k1, k2, k3, k4, k5, k6, k7, k8, k9, rfl⟩ := hrk.nine; replace hx := hx.mono hlek; replace hb := hb.mono hlek; replace hrt := hrt.mono hlek;)
 refine A4 13 ?_
 refine Q6 rfl rfl rfl rfl rfl hrk.one rfl rfl (by kernel_rfl) (by repeat first | exact Sw.here | apply Sw.there) (by rfl) ?_
 refine B5 (nS (tT (rB ?_)))
 refine A0B ?_
 refine F9 (outs := [rd br pb nb cb pk]) (rC rfl (A2 rfl rfl)) (by repeat (first | exact A1.nil | refine A1.cons Pk.here ?_ | refine A1.cons (Pk.there Pk.here) ?_ | refine A1.cons (Pk.there (Pk.there Pk.here)) ?_ | apply A1.drop)) ?_
 (exact ⟨pk, by omega, by omega, rfl, _, _, rfl, hrk, by omega⟩)
 refine sQ (qA rfl) rfl (sD (nS (cF rfl (tS (tR ?_)))))
 refine sB (qE rfl rfl) rfl rfl (fun h489 => ?_) (fun h489 => ?_)
 refine sQ (qA rfl) rfl (sD (nS (qT rfl (tS ?_))))
 (have hk45 : k = 4 ∨ k = 5 := (by omega); have hl2 := hops hk45; obtain ⟨m, rfl⟩ := hfu.pos (.inr hk45); have hmB : mB (m + 1) = 3 * mB m + 200 := rfl; have hgm := A07 m; obtain ⟨es9, hsl, hkl⟩ := hrt.kidsM; obtain ⟨b0, o0, q0, d0, hp0, hat0, hre0, hg0⟩ := hsl.kidTy hkl (i := 0) (by omega) (by omega); obtain ⟨b1, o1, q1, d1, hp1, hat1, hre1, hg1⟩ := hsl.kidTy hkl (i := 1) (by omega) (by omega); cases hp0; cases hp1; have hmem0 := List.getElem_mem (l := ks) (n := 0) (by omega); have hmem1 := List.getElem_mem (l := ks) (n := 1) (by omega); refine D4 D6 rfl ?_)
 refine I6 (i := 0) (l' := [tt,ff,ff,ff,ff,ff,ff,ff,ff,ff,ff,ff,ff,ff,ff,ff,ff,ff,ff,ff,ff]) rfl C9 (qM rfl) rfl (by kernel_rfl) rfl rfl ?_
 refine aP 1 rfl (qM rfl) rfl ?_
 refine aP 2 rfl (A0 rfl) rfl ?_
 refine aL 3 rfl (A3 rfl rfl) rfl ?_
 refine aP 4 rfl (B3 (j := 0) rfl rfl rfl (by omega)) rfl ?_
 refine aL 5 rfl (A5 rfl rfl (hat0 _) rfl) rfl ?_
 refine aP 6 rfl (qM rfl) rfl ?_
 refine aP 7 rfl (O7 rfl rfl (by omega) (by omega)) rfl ?_
 refine aP 9 rfl (qM rfl) rfl ?_
 refine aP 10 rfl (qM rfl) rfl ?_
 refine aP 11 rfl (A0 rfl) rfl ?_
 refine aL 12 rfl (A3 rfl rfl) rfl ?_
 refine aP 13 rfl (B3 (j := 1) rfl rfl rfl (by omega)) rfl ?_
 refine aL 14 rfl (A5 rfl rfl (hat1 _) rfl) rfl ?_
 refine aP 15 rfl (qM rfl) rfl ?_
 refine aP 16 rfl (O7 rfl rfl (by omega) (by omega)) rfl ?_
 refine A4 8 ?_
 (have hcall := ih m (by omega) (depth - 1) ks[0] p2 _ pc nc cc _ (hfu.kid hmem0) (by omega) (by omega) (by omega) hx hre0 hb (by omega); refine V7 (l' := [tt,tt,tt,tt,tt,tt,tt,tt,tt,tt,tt,tt,tt,tt,tt,tt,tt,ff,ff,ff,ff]) rfl rfl hcall (Pk.perm (by repeat (first | exact Pk.here | apply Pk.there))) rfl rfl rfl (by repeat (first | exact A8.nil | apply A8.dep (by decide +kernel) | apply A8.im (by decide +kernel) hg0 (by repeat first | exact mH | apply mT) | apply A8.im (by decide +kernel) hg1 (by repeat first | exact mH | apply mT) | apply A8.blk (by decide +kernel) (by repeat (first | exact Pk.here | apply Pk.there)) (by repeat first | exact mH | apply mT))) (fun v Gn outs hles hh => ?_); obtain ⟨ps, hps1, hps2, rfl, es, cs, rfl, hrs, hcs⟩ := hh; obtain ⟨s1, s2, s3, s4, s5, s6, s7, s8, s9, rfl⟩ := hrs.nine; replace hre1 := hre1.mono hles; replace hx := hx.mono hles; replace hb := hb.mono hles; replace hrt := hrt.mono hles;)
 refine A4 17 ?_
 (have hcall := ih m (by omega) (depth - 1) ks[1] ps _ pc nc cc _ (hfu.kid hmem1) (by omega) (by omega) (by omega) hx hre1 hb (by omega); refine V7 (l' := [tt,tt,tt,tt,tt,tt,tt,tt,tt,tt,tt,tt,tt,tt,tt,tt,tt,tt,ff,ff,ff]) rfl rfl hcall (Pk.perm (by repeat (first | exact Pk.here | apply Pk.there))) rfl rfl rfl (by repeat (first | exact A8.nil | apply A8.dep (by decide +kernel) | apply A8.im (by decide +kernel) hg0 (by repeat first | exact mH | apply mT) | apply A8.im (by decide +kernel) hg1 (by repeat first | exact mH | apply mT) | apply A8.blk (by decide +kernel) (by repeat (first | exact Pk.here | apply Pk.there)) (by repeat first | exact mH | apply mT))) (fun v Gn outs hlew hh => ?_); obtain ⟨pw, hpw1, hpw2, rfl, ew, cw, rfl, hrw, hcw⟩ := hh; obtain ⟨w1, w2, w3, w4, w5, w6, w7, w8, w9, rfl⟩ := hrw.nine; replace hrs := hrs.mono hlew; replace hx := hx.mono hlew; replace hb := hb.mono hlew; replace hrt := hrt.mono hlew;)
 refine A4 18 ?_
 (refine E0 rfl (C7 rfl rfl rfl (by omega) (by unfold maxLen; omega) rfl) rfl rfl ?_; rintro _ ⟨b517, rfl⟩)
 refine A4 19 ?_
 refine M7 rfl rfl ((A0f _ _ _ _ _)) rfl rfl rfl ?_
 refine A4 20 ?_
 refine Q6 rfl rfl rfl rfl rfl rfl rfl rfl (by kernel_rfl) (by repeat first | exact Sw.here | apply Sw.there) (by rfl) ?_
 refine B5 (nS ?_)
 (refine E9 (cs := [s1, s2, s3, s4, s5, s6, s7, s8, s9] ++ [w1, w2, w3, w4, w5, w6, w7, w8, w9]) (by repeat (first | exact Pk.here | apply Pk.there)) (fun G9 hle9 hsl9 hno9 => ?_); have hN := A3o (k := 10) (nm := ⟨⟨[]⟩⟩) ⟨by omega, by omega⟩ (hrs.mono hle9) (hrw.mono hle9) hsl9)
 refine tT (rB ?_)
 refine A0B ?_
 refine F9 (outs := [rd br pb nb cb pw]) (rC rfl (A2 rfl rfl)) (by repeat (first | exact A1.nil | refine A1.cons Pk.here ?_ | refine A1.cons (Pk.there Pk.here) ?_ | refine A1.cons (Pk.there (Pk.there Pk.here)) ?_ | apply A1.drop)) ?_
 (exact ⟨pw, by omega, by omega, rfl, _, _, rfl, hN, by simp only [D1, E1]; omega⟩)
 refine sQ (qA rfl) rfl (sD (nS (cF rfl (tS (tR ?_)))))
 refine sB (qE rfl rfl) rfl rfl (fun h536 => ?_) (fun h536 => ?_)
 refine sQ (qA rfl) rfl (sD (nS (qT rfl (tS (tS (tR (sQ (qM rfl) rfl ?_)))))))
 refine sB (X4 rfl rfl) rfl rfl (fun h545 => ?_) (fun h545 => ?_)
 refine sQ (qM rfl) rfl (sQ (qM rfl) rfl ?_)
 (have hkk1 : k = 1 := (by omega); refine I8 rfl (W5 _ br pb nb cb (p2) bs 3 hb hnb (by omega)) (Pk.perm (by repeat (first | exact Pk.here | apply Pk.there))) rfl rfl (fun v Gp outs hle548 hh => ?_); obtain ⟨rfl, rfl, j548, rfl, hj548, hk548⟩ := hh; have hpk23 := hj548)
 replace hb := hb.mono hle548
 replace hrt := hrt.mono hle548
 refine sB (qE rfl rfl) rfl rfl (fun h549 => ?_) (fun h549 => ?_)
 refine sQ (C2 rfl rfl) rfl (sD (nS (qT rfl (tS (tR (sQ (qM rfl) rfl (sQ (qM rfl) rfl (sQ (qM rfl) rfl ?_))))))))
 (have hcall := A3h br pb nb cb bs hnb 1 (p2 + 1) _ (by omega) hb (by have : dB (1 + 1) ≤ 6 := (by decide); omega); refine I8 rfl hcall (Pk.perm (by repeat (first | exact Pk.here | apply Pk.there))) rfl rfl (fun v Gn outs hleF hh => ?_); obtain ⟨pF, hpF1, hpF2, rfl, uF, cuF, rfl, hruF, husF, huhF⟩ := hh; have huaF := huhF.ar; obtain ⟨quF, duF, euF, rfl, _⟩ := hruF.open; have hdBF : dB (1 + 1) ≤ 6 := (by decide); replace hx := hx.mono hleF; replace hb := hb.mono hleF; replace hrt := hrt.mono hleF;)
 refine sQ (qM rfl) rfl ?_
 refine sP (O7 rfl rfl (by omega) (by omega)) rfl rfl ?_
 (obtain ⟨m, rfl⟩ := hfu.pos (.inl (by omega)); have hmB : mB (m + 1) = 3 * mB m + 200 := rfl; have hgm := A07 m; have hcall := ih m (by omega) (depth - 1) uF pF _ pc nc cc _ (hfu.sub (by omega) (huhF.le (by omega))) (by omega) (by omega) (by omega) hx hruF hb (by omega); refine I8 rfl hcall (Pk.perm (by repeat (first | exact Pk.here | apply Pk.there))) rfl rfl (fun v Gn outs hlex hh => ?_); obtain ⟨px, hpx1, hpx2, rfl, ex, cx, rfl, hrx, hcx⟩ := hh; obtain ⟨x1, x2, x3, x4, x5, x6, x7, x8, x9, rfl⟩ := hrx.nine; replace hx := hx.mono hlex; replace hb := hb.mono hlex; replace hrt := hrt.mono hlex;)
 refine sS rfl rfl rfl rfl hrx.one rfl ?_
 refine sD (nS (tT (rS (rB ?_))))
 refine A0B ?_
 refine F9 (outs := [rd br pb nb cb px]) (rC rfl (A2 rfl rfl)) (by repeat (first | exact A1.nil | refine A1.cons Pk.here ?_ | refine A1.cons (Pk.there Pk.here) ?_ | refine A1.cons (Pk.there (Pk.there Pk.here)) ?_ | apply A1.drop)) ?_
 (exact ⟨px, by omega, by omega, rfl, _, _, rfl, hrx, by omega⟩)
 refine sQ (C2 rfl rfl) rfl (sD (nS (cF rfl (tK (nS (tS (tR (sQ (qM rfl) rfl ?_))))))))
 (refine I8 rfl (W5 _ br pb nb cb (p2 + 1) bs 3 hb hnb (by omega)) (Pk.perm (by repeat (first | exact Pk.here | apply Pk.there))) rfl rfl (fun v Gp outs hle581 hh => ?_); obtain ⟨rfl, rfl, j581, rfl, hj581, hk581⟩ := hh; have hpk21 := hj581)
 replace hb := hb.mono hle581
 replace hrt := hrt.mono hle581
 refine sB (qE rfl rfl) rfl rfl (fun h582 => ?_) (fun h582 => ?_)
 refine sD (nS (qT rfl (tS (tR ?_))))
 refine H0 rfl ((A1s _)) rfl rfl ?_
 refine sQ (H6 rfl rfl) rfl ?_
 (refine I5 (C7 rfl rfl rfl (by omega) (by unfold maxLen; omega) rfl) rfl ?_; rintro _ ⟨b590, rfl⟩)
 refine sQ (H6 rfl rfl) rfl (B1 ?_)
 refine sD (nS ?_)
 (refine E9 (cs := [.int .i64 4, .string ⟨⟨[]⟩⟩, .int .i64 0, .int .i64 0, .slice none 0 0, .int .i64 0, .slice none 0 0, .int .i64 0, .slice none 0 0]) (by repeat (first | exact Pk.here | apply Pk.there)) (fun G9 hle9 hsl9 hno9 => ?_); have hN := A3n (k := 13) (nm := ⟨⟨[]⟩⟩) ⟨by omega, by omega⟩ (A0o _) (A1L G9 ⟨⟨[]⟩⟩ 0 (k := 4) ⟨by omega, by omega⟩ ⟨by omega, by omega⟩) hsl9)
 refine tT (rB ?_)
 refine A0B ?_
 refine F9 (outs := [rd br pb nb cb (p2 + 1 + 1)]) (rC rfl (A2 rfl rfl)) (by repeat (first | exact A1.nil | refine A1.cons Pk.here ?_ | refine A1.cons (Pk.there Pk.here) ?_ | refine A1.cons (Pk.there (Pk.there Pk.here)) ?_ | apply A1.drop)) ?_
 (exact ⟨(p2 + 1 + 1), by omega, by omega, rfl, _, _, rfl, hN, by simp only [D1, E1]; omega⟩)
 refine sD (nS (cF rfl (tK (E3 ?_))))
 refine A3q (p2 + 1 + 1, Gp) (K6 (by repeat (first | exact D8.nil | refine D8.cons rfl ?_)) (by repeat (first | exact A1.refl | exact A1.nil | refine A1.cons (by repeat (first | exact Pk.here | apply Pk.there)) ?_ | apply A1.drop))) ⟨B8.refl _, by dsimp only; omega, by dsimp only; omega⟩
 refine T6 ?_
 (have hkk1 : k = 1 := (by omega); refine I8 rfl (W5 _ br pb nb cb (p2) bs 3 hb hnb (by omega)) (Pk.perm (by repeat (first | exact Pk.here | apply Pk.there))) rfl rfl (fun v Gp outs hle620 hh => ?_); obtain ⟨rfl, rfl, j620, rfl, hj620, hk620⟩ := hh; have hpk23 := hj620)
 replace hb := hb.mono hle620
 replace hrt := hrt.mono hle620
 refine sB (qE rfl rfl) rfl rfl (fun h621 => ?_) (fun h621 => ?_)
 refine sD (nS (qT rfl (tS (tR ?_))))
 refine H0 rfl ((A1s _)) rfl rfl ?_
 refine sQ (H6 rfl rfl) rfl ?_
 (refine I5 (C7 rfl rfl rfl (by omega) (by unfold maxLen; omega) rfl) rfl ?_; rintro _ ⟨b629, rfl⟩)
 refine sQ (H6 rfl rfl) rfl (B1 ?_)
 refine sD (nS ?_)
 (refine E9 (cs := [.int .i64 4, .string ⟨⟨[]⟩⟩, .int .i64 0, .int .i64 0, .slice none 0 0, .int .i64 0, .slice none 0 0, .int .i64 0, .slice none 0 0]) (by repeat (first | exact Pk.here | apply Pk.there)) (fun G9 hle9 hsl9 hno9 => ?_); have hN := A3n (k := 13) (nm := ⟨⟨[]⟩⟩) ⟨by omega, by omega⟩ (A0o _) (A1L G9 ⟨⟨[]⟩⟩ 0 (k := 4) ⟨by omega, by omega⟩ ⟨by omega, by omega⟩) hsl9)
 refine tT (rB ?_)
 refine A0B ?_
 refine F9 (outs := [rd br pb nb cb (p2 + 1)]) (rC rfl (A2 rfl rfl)) (by repeat (first | exact A1.nil | refine A1.cons Pk.here ?_ | refine A1.cons (Pk.there Pk.here) ?_ | refine A1.cons (Pk.there (Pk.there Pk.here)) ?_ | apply A1.drop)) ?_
 (exact ⟨(p2 + 1), by omega, by omega, rfl, _, _, rfl, hN, by simp only [D1, E1]; omega⟩)
 refine sD (nS (cF rfl (tK (E3 ?_))))
 refine A3q (p2 + 1, Gp) (K6 (by repeat (first | exact D8.nil | refine D8.cons rfl ?_)) (by repeat (first | exact A1.refl | exact A1.nil | refine A1.cons (by repeat (first | exact Pk.here | apply Pk.there)) ?_ | apply A1.drop))) ⟨B8.refl _, by dsimp only; omega, by dsimp only; omega⟩
 refine sQ (qA rfl) rfl (sD (nS (cF rfl (tK (E3 ?_)))))
 refine A3q (p2, G2) (K6 (by repeat (first | exact D8.nil | refine D8.cons rfl ?_)) (by repeat (first | exact A1.refl | exact A1.nil | refine A1.cons (by repeat (first | exact Pk.here | apply Pk.there)) ?_ | apply A1.drop))) ⟨B8.refl _, by dsimp only; omega, by dsimp only; omega⟩
 (have hq := hcut1; rintro ⟨(p5 : Nat), G5⟩ ⟨hle5c, hp5a, hp5b⟩; simp only [] at hle5c hp5a hp5b ⊢; have hcut2 := hp5a; replace hx := hx.mono hle5c; replace hb := hb.mono hle5c; replace hrt := hrt.mono hle5c;)
 refine tS (tS (tR (sQ (qM rfl) rfl ?_)))
 refine sB (X4 rfl rfl) rfl rfl (fun h658 => ?_) (fun h658 => ?_)
 refine sQ (qM rfl) rfl (sQ (qM rfl) rfl ?_)
 (refine I8 rfl (W5 _ br pb nb cb (p5) bs 2 hb hnb (by omega)) (Pk.perm (by repeat (first | exact Pk.here | apply Pk.there))) rfl rfl (fun v Gp outs hle661 hh => ?_); obtain ⟨rfl, rfl, j661, rfl, hj661, hk661⟩ := hh; have hpk5 := hj661)
 replace hb := hb.mono hle661
 replace hrt := hrt.mono hle661
 refine sB (qE rfl rfl) rfl rfl (fun h662 => ?_) (fun h662 => ?_)
 refine sQ (C2 rfl rfl) rfl (sD (nS (qT rfl (tS (tR (sQ (qM rfl) rfl (sQ (qM rfl) rfl (sQ (qM rfl) rfl ?_))))))))
 refine H0 rfl ((A0e _)) rfl rfl ?_
 (have hz2 : J0 (.mk 2 []) = 0 := rfl; have hcall := A4d br pb nb cb bs hnb (.mk 2 []) (p5 + 1) _ _ (S2 (by decide) (by decide)) (M1 _ ⟨by omega, by omega⟩) hb (by omega); refine I8 rfl hcall (Pk.perm (by repeat (first | exact Pk.here | apply Pk.there))) rfl rfl (fun v Gn outs hleG hh => ?_); obtain ⟨pG, hpG1, hpG2, rfl, uG, cuG, rfl, hruG, huaG, husG, huhG⟩ := hh; obtain ⟨quG, duG, euG, rfl, _⟩ := hruG.open; replace hx := hx.mono hleG; replace hb := hb.mono hleG; replace hrt := hrt.mono hleG;)
 refine sQ (qM rfl) rfl ?_
 refine sP (O7 rfl rfl (by omega) (by omega)) rfl rfl ?_
 (obtain ⟨m, rfl⟩ := hfu.pos (.inl (by omega)); have hmB : mB (m + 1) = 3 * mB m + 200 := rfl; have hgm := A07 m; have hcall := ih m (by omega) (depth - 1) uG pG _ pc nc cc _ (hfu.sub (by omega) (huhG 4 (A2w 4 (by decide) (by decide)))) (by omega) (by omega) (by omega) hx hruG hb (by omega); refine I8 rfl hcall (Pk.perm (by repeat (first | exact Pk.here | apply Pk.there))) rfl rfl (fun v Gn outs hley hh => ?_); obtain ⟨py, hpy1, hpy2, rfl, ey, cy, rfl, hry, hcy⟩ := hh; obtain ⟨y1, y2, y3, y4, y5, y6, y7, y8, y9, rfl⟩ := hry.nine; replace hx := hx.mono hley; replace hb := hb.mono hley; replace hrt := hrt.mono hley;)
 refine sQ (qM rfl) rfl (sQ (qM rfl) rfl ?_)
 refine H0 rfl ((A0e _)) rfl rfl ?_
 refine sQ (qM rfl) rfl ?_
 refine sP (O7 rfl rfl (by omega) (by omega)) rfl rfl ?_
 (have hcall := ih m (by omega) (depth - 1) (.mk 2 []) py _ pc nc cc _ (hfu.sub (by omega) (A2w 4 (by decide) (by decide))) (by omega) (by omega) (by omega) hx (M1 _ ⟨by omega, by omega⟩) hb (by omega); refine I8 rfl hcall (Pk.perm (by repeat (first | exact Pk.here | apply Pk.there))) rfl rfl (fun v Gn outs hlec hh => ?_); obtain ⟨pc, hpc1, hpc2, rfl, ec, cc, rfl, hrc, hcc⟩ := hh; obtain ⟨c1, c2, c3, c4, c5, c6, c7, c8, c9, rfl⟩ := hrc.nine; replace hry := hry.mono hlec; replace hx := hx.mono hlec; replace hb := hb.mono hlec; replace hrt := hrt.mono hlec;)
 (refine I5 (C7 rfl rfl rfl (by omega) (by unfold maxLen; omega) rfl) rfl ?_; rintro _ ⟨b683, rfl⟩)
 refine H0 rfl ((A0f _ _ _ _ _)) rfl rfl ?_
 refine B1 ?_
 refine sD (nS ?_)
 (refine E9 (cs := [y1, y2, y3, y4, y5, y6, y7, y8, y9] ++ [c1, c2, c3, c4, c5, c6, c7, c8, c9]) (by repeat (first | exact Pk.here | apply Pk.there)) (fun G9 hle9 hsl9 hno9 => ?_); have hN := A3o (k := 7) (nm := ⟨⟨[]⟩⟩) ⟨by omega, by omega⟩ (hry.mono hle9) (hrc.mono hle9) hsl9)
 refine tT (rS ?_)
 refine F9 (outs := [rd br pb nb cb pc]) (rC rfl (A2 rfl rfl)) (by repeat (first | exact A1.nil | refine A1.cons Pk.here ?_ | refine A1.cons (Pk.there Pk.here) ?_ | refine A1.cons (Pk.there (Pk.there Pk.here)) ?_ | apply A1.drop)) ?_
 (exact ⟨pc, by omega, by omega, rfl, _, _, rfl, hN, by simp only [D1, E1]; omega⟩)
 refine sQ (C2 rfl rfl) rfl (sD (nS (cF rfl (tK (nS (tS (tR (sQ (qM rfl) rfl ?_))))))))
 (refine I5 (C7 rfl rfl rfl (by omega) (by unfold maxLen; omega) rfl) rfl ?_; rintro _ ⟨b702, rfl⟩)
 (refine R8 (by repeat (first | exact Pk.here | apply Pk.there)) (fun G4 hle4 hsl4 _ => ?_); refine I8 rfl (Y5 G4 br pb nb cb (p5 + 1) bs _ _ _ _ (hb.mono hle4) hnb (by omega) hsl4 (by decide)) (Pk.perm (by repeat (first | exact Pk.here | apply Pk.there))) rfl rfl (fun v G7 outs hle7 hh => ?_); obtain ⟨rfl, rfl, hv⟩ := hh; obtain ⟨kn, rfl, hkn⟩ : ∃ k, v = .int .i64 k ∧ E6 k := (by simp only [List.mem_cons, List.not_mem_nil, or_false] at hv; rcases hv with rfl | rfl | rfl | rfl | rfl <;> exact ⟨_, rfl, by unfold E6; omega⟩))
 refine H0 rfl ((A15 _ _)) rfl rfl ?_
 refine B1 ?_
 refine sD (nS (tT ?_))
 refine F9 (outs := [rd br pb nb cb (p5 + 1 + 1)]) (rC rfl (A2 rfl rfl)) (by repeat (first | exact A1.nil | refine A1.cons Pk.here ?_ | refine A1.cons (Pk.there Pk.here) ?_ | refine A1.cons (Pk.there (Pk.there Pk.here)) ?_ | apply A1.drop)) ?_
 (exact ⟨(p5 + 1 + 1), by omega, by omega, rfl, _, _, rfl, A1L _ _ _ ⟨by omega, by omega⟩ (by first | exact ⟨by omega, by omega⟩ | exact hkn), by simp only [D1, E1]; omega⟩)
 refine T6 ?_
 (refine I5 (C7 rfl rfl rfl (by omega) (by unfold maxLen; omega) rfl) rfl ?_; rintro _ ⟨b724, rfl⟩)
 (refine R8 (by repeat (first | exact Pk.here | apply Pk.there)) (fun G4 hle4 hsl4 _ => ?_); refine I8 rfl (Y5 G4 br pb nb cb p5 bs _ _ _ _ (hb.mono hle4) hnb (by omega) hsl4 (by decide)) (Pk.perm (by repeat (first | exact Pk.here | apply Pk.there))) rfl rfl (fun v G7 outs hle7 hh => ?_); obtain ⟨rfl, rfl, hv⟩ := hh; obtain ⟨kn, rfl, hkn⟩ : ∃ k, v = .int .i64 k ∧ E6 k := (by simp only [List.mem_cons, List.not_mem_nil, or_false] at hv; rcases hv with rfl | rfl | rfl | rfl | rfl <;> exact ⟨_, rfl, by unfold E6; omega⟩))
 refine H0 rfl ((A15 _ _)) rfl rfl ?_
 refine B1 ?_
 refine sD (nS (tT ?_))
 refine F9 (outs := [rd br pb nb cb (p5 + 1)]) (rC rfl (A2 rfl rfl)) (by repeat (first | exact A1.nil | refine A1.cons Pk.here ?_ | refine A1.cons (Pk.there Pk.here) ?_ | refine A1.cons (Pk.there (Pk.there Pk.here)) ?_ | apply A1.drop)) ?_
 (exact ⟨(p5 + 1), by omega, by omega, rfl, _, _, rfl, A1L _ _ _ ⟨by omega, by omega⟩ (by first | exact ⟨by omega, by omega⟩ | exact hkn), by simp only [D1, E1]; omega⟩)
def F4 : List Tm → List Ty → List Ty → Int → List Tm × Int
 | u :: us, a :: h, b :: w, l => if N1 a b = true then (u :: (F4 us h w l).1, (F4 us h w l).2) else (J9 u a b (l + 1) :: (F4 us h w (l + 1)).1, (F4 us h w (l + 1)).2)
 | us, _, _, l => (us, l)
def A0V (cx : Cx) (k : Int) (nm : ByteArray) (num : Int) (ty fr : Ty) (lb : Int) (us : List Tm) (h : List Ty) (l : Int) : Option (Tm × Ty × Int) :=
 match S1 cx k nm ty h with
 | none => none
 | some (w, t) => some (if k = 13 then (F4 us h w l).1.getD 0 J6 else .mk k nm num ty fr lb (F4 us h w l).1, t, (F4 us h w l).2)
mutual
def M8 (cx : Cx) : Tm → Int → Option (Tm × Ty × Int)
 | .mk k nm num ty fr lb ks, l => match M2 (J2 cx k nm ty) ks l with
  | none => none
  | some (us, h, l') => A0V cx k nm num ty fr lb us h l'
def M2 (cx : Cx) : List Tm → Int → Option (List Tm × List Ty × Int)
 | [], l => some ([], [], l)
 | t :: ts, l => match M8 cx t l with
  | none => none
  | some (u, a, l') => match M2 cx ts l' with
   | none => none
   | some (us, h, l'') => some (u :: us, a :: h, l'')
end
def U3 (e : Tm) : Option (Tm × Ty) := if P9 e = true then (match M8 [] e 0 with | some (u, t, _) => some (u, t) | none => none) else none
def V3 (cx : Cx) (k : Int) (nm : ByteArray) (ty : Ty) (h : List Ty) : Option Ty := match K0 cx k nm ty h with
 | some (_, t) => if (k = 5 ∨ k = 10) ∧ E4 t = false then none else some t
 | none => none
mutual
def P6 (cx : Cx) : Tm → Option Ty
 | .mk k nm num ty fr lb ks => match U6 (J2 cx k nm ty) ks with
  | none => none
  | some h => V3 cx k nm ty h
def U6 (cx : Cx) : List Tm → Option (List Ty)
 | [] => some []
 | t :: ts => match P6 cx t with
  | none => none
  | some a => match U6 cx ts with
   | none => none
   | some h => some (a :: h)
end
theorem A3r (k : Int) (ks : List Ty) (d : Int) : K1 (.mk k ks) d = (decide (d ≤ 4) && decide (T1 k = ks.length) && T7 ks (d + 1)) := by rw [K1]
mutual
theorem A3s : ∀ (t : Ty) (d e : Int), e ≤ d → K1 t d = true → K1 t e = true
 | .mk k ks, d, e, h, hs => by
  rw [A3r, Bool.and_eq_true, Bool.and_eq_true, decide_eq_true_eq, decide_eq_true_eq] at hs ⊢
  exact ⟨⟨by omega, hs.1.2⟩, A7X ks (d + 1) (e + 1) (by omega) hs.2⟩
theorem A7X : ∀ (ts : List Ty) (d e : Int), e ≤ d → T7 ts d = true → T7 ts e = true
 | [], d, e, h, hs => by rw [T7]
 | t :: ts, d, e, h, hs => by
  rw [T7, Bool.and_eq_true] at hs ⊢
  exact ⟨A3s t d e h hs.1, A7X ts d e h hs.2⟩
end
mutual
theorem A5C : ∀ (a b : Ty) (d : Int), J5 a b = true → K1 a d = true → K1 b d = true → K1 (U2 a b) d = true
 | .mk k ks, .mk k' ks', d, hc, ha, hb => by
  rw [A2x]
  split
  ·exact hb
  ·split
   ·exact ha
   ·rw [U9] at hc
    rw [A3r, Bool.and_eq_true, Bool.and_eq_true, decide_eq_true_eq, decide_eq_true_eq] at ha hb ⊢
    simp only [Bool.or_eq_true, Bool.and_eq_true, decide_eq_true_eq] at hc
    obtain ⟨hk, hl⟩ : k = k' ∧ O3 ks ks' = true := by
     rcases hc with (h | h) | h
     ·contradiction
     ·contradiction
     ·exact h
    subst hk
    obtain ⟨m1, m2⟩ := A7Y ks ks' (d + 1) hl ha.2 hb.2
    exact ⟨⟨ha.1.1, by rw [m2]; exact ha.1.2⟩, m1⟩
theorem A7Y : ∀ (xs ys : List Ty) (d : Int), O3 xs ys = true → T7 xs d = true → T7 ys d = true → T7 (T2 xs ys) d = true ∧ (T2 xs ys).length = xs.length
 | [], [], d, _, _, _ => by simp [T2, T7]
 | [], b :: ys, d, hc, _, _ => by simp [O3] at hc
 | a :: xs, [], d, hc, _, _ => by simp [O3] at hc
 | a :: xs, b :: ys, d, hc, ha, hb => by
  rw [O3, Bool.and_eq_true] at hc
  rw [T7, Bool.and_eq_true] at ha hb
  obtain ⟨m1, m2⟩ := A7Y xs ys d hc.2 ha.2 hb.2
  rw [T2, T7, Bool.and_eq_true]
  exact ⟨⟨A5C a b d hc.1 ha.1 hb.1, m1⟩, by simp [m2]⟩
end
theorem A5D {cx : Cx} (h : ∀ b ∈ cx, E4 b.2 = true) {nm : ByteArray} {t : Ty} : ∀ {n : Nat}, U1 cx nm n = some t → E4 t = true
 | 0, hl => by simp [U1] at hl
 | n + 1, hl => by
  rw [U1] at hl
  split at hl
  ·rename_i b hb
   split at hl
   ·cases hl; exact h b (List.mem_of_getElem? hb)
   ·exact A5D h hl
  ·exact A5D h hl
theorem A7Z {k : Int} {t a b : Ty} (hk : k = 4 ∨ k = 5) (ht : E4 t = true) (h : Q3 k t = some (a, b)) : E4 a = true ∧ E4 b = true := by
 obtain ⟨tk, ks⟩ := t
 rw [show Q3 k (.mk tk ks) = (if tk = k then some (ks.getD 0 B4, ks.getD 1 B4) else if tk = 1 then some (P3, P3) else none) from rfl] at h
 by_cases he : tk = k
 ·rw [if_pos he] at h
  cases h
  unfold E4 at ht ⊢
  rw [A3r, Bool.and_eq_true, Bool.and_eq_true, decide_eq_true_eq, decide_eq_true_eq] at ht
  have h2 : ks.length = 2 := by
   have : T1 tk = 2 := by rw [he]; rcases hk with rfl | rfl <;> rfl
   omega
  match ks, h2, ht.2 with
  | [x, y], _, hL =>
   simp only [T7, Bool.and_eq_true] at hL
   exact ⟨A3s _ 2 1 (by omega) hL.1, A3s _ 2 1 (by omega) hL.2.1⟩
 ·rw [if_neg he] at h
  by_cases h1 : tk = 1
  ·rw [if_pos h1] at h
   cases h
   exact ⟨by decide, by decide⟩
  ·rw [if_neg h1] at h; cases h
theorem B1J {l : List Ty} {i : Nat} (h : i < l.length) : l.getD i B4 ∈ l := by
 rw [List.getD_eq_getElem?_getD, List.getElem?_eq_getElem h, Option.getD_some]; exact List.getElem_mem h
theorem B1K {cx : Cx} {k : Int} {nm : ByteArray} {ty : Ty} {h w : List Ty} {t : Ty} (hcx : ∀ b ∈ cx, E4 b.2 = true) (hh : ∀ a ∈ h, E4 a = true) (hd : E4 (h.getD 0 B4) = true ∨ h = []) (hty : k = 13 → E4 ty = true) (hn : D0 k = (h.length : Int)) (hw : K0 cx k nm ty h = some (w, t)) (h510 : k ≠ 5 ∧ k ≠ 10) : E4 t = true := by
 have hg : ∀ i, i < h.length → E4 (h.getD i B4) = true := fun i hi => hh _ (B1J hi)
 unfold K0 at hw
 split at hw
 ·split at hw
  ·rename_i u hu; cases hw; exact A5D hcx hu
  ·cases hw
 split at hw
 ·cases hw; decide
 split at hw
 ·cases hw; decide
 split at hw
 ·exact absurd (by assumption) h510.1
 split at hw
 ·rename_i hk6
  have hl : h.length = 2 := by have : D0 k = 2 := (by rw [hk6]; rfl); omega
  split at hw
  ·rename_i a b hm
   split at hw
   ·cases hw; exact (A7Z (.inl rfl) (hg 0 (by omega)) hm).2
   ·cases hw
  ·cases hw
 split at hw
 ·split at hw
  ·cases hw; split <;> decide
  ·cases hw
 split at hw
 ·rename_i hk9
  have hl : h.length = 3 := by have : D0 k = 3 := (by rw [hk9]; rfl); omega
  split at hw
  ·rename_i hc
   cases hw
   exact A5C _ _ 1 hc.2 (hg 1 (by omega)) (hg 2 (by omega))
  ·cases hw
 split at hw
 ·exact absurd (by assumption) h510.2
 split at hw
 ·split at hw
  ·cases hw; exact hty (by assumption)
  ·cases hw
 ·split at hw
  ·rename_i a b hm
   have hl : h.length ≠ 0 := by
    intro h0
    rw [List.length_eq_zero_iff] at h0
    subst h0
    rw [show Q3 5 (([] : List Ty).getD 0 B4) = none from rfl] at hm
    cases hm
   cases hw
   have := A7Z (.inr rfl) (hg 0 (by omega)) hm
   split
   ·exact this.2
   ·exact this.1
  ·cases hw
def V0 (cx : Cx) : Prop := ∀ b ∈ cx, E4 b.2 = true
theorem A2F : V0 [] := by intro b hb; simp at hb
theorem A2G {cx : Cx} {k : Int} {nm : ByteArray} {ty : Ty} (h : V0 cx) (ht : k = 5 → E4 ty = true) : V0 (J2 cx k nm ty) := by
 unfold J2
 split
 ·intro b hb
  rcases List.mem_append.1 hb with hb | hb
  ·exact h b hb
  ·obtain rfl := List.mem_singleton.1 hb; exact ht (by assumption)
 ·exact h
theorem B1L {cx : Cx} {k : Int} {nm : ByteArray} {ty : Ty} {h : List Ty} (hcx : V0 cx) (hh : ∀ a ∈ h, E4 a = true) (hty : k = 13 → E4 ty = true) (hn : D0 k = (h.length : Int)) :
  (∀ w t, S1 cx k nm ty h = some (w, t) → V3 cx k nm ty h = some t ∧ E4 t = true) ∧ (S1 cx k nm ty h = none → V3 cx k nm ty h = none) := by
 unfold S1 V3
 have hv := fun w t (e : K0 cx k nm ty h = some (w, t)) (h5 : k ≠ 5 ∧ k ≠ 10) => B1K hcx hh (by cases h with | nil => exact .inr rfl | cons x xs => exact .inl (hh _ (by simp))) hty hn e h5
 cases hw : K0 cx k nm ty h with
 | none => simp
 | some p =>
  obtain ⟨w, t⟩ := p
  have hv := hv w t hw
  simp only
  by_cases h5 : k = 5 ∨ k = 10
  ·cases ht : E4 t with
   | true => simp [ht]
   | false => simp [h5]
  ·have := hv (by omega)
   simp [this]
theorem A5E (ks : List Tm) (ih : ∀ t ∈ ks, ∀ d cx l, N5 12 14 t d = true → V0 cx → (∀ u a l', M8 cx t l = some (u, a, l') → P6 cx t = some a ∧ E4 a = true) ∧ (M8 cx t l = none → P6 cx t = none)) :
  ∀ d cx l, N6 12 14 ks d = true → V0 cx → (∀ us h l', M2 cx ks l = some (us, h, l') → U6 cx ks = some h ∧ (∀ a ∈ h, E4 a = true) ∧ h.length = ks.length ∧ us.length = ks.length) ∧ (M2 cx ks l = none → U6 cx ks = none) := by
 induction ks with
 | nil =>
  intro d cx l _ _
  refine ⟨fun us h l' he => ?_, fun he => by simp [M2] at he⟩
  simp only [M2, Option.some.injEq, Prod.mk.injEq] at he
  obtain ⟨rfl, rfl, _⟩ := he
  exact ⟨by rw [U6], by simp, rfl, rfl⟩
 | cons t ts ihl =>
  intro d cx l hs hcx
  rw [N6, Bool.and_eq_true] at hs
  obtain ⟨a1, a2⟩ := ih t List.mem_cons_self d cx l hs.1 hcx
  rw [M2, U6]
  cases he : M8 cx t l with
  | none => rw [a2 he]; exact ⟨fun _ _ _ h => by simp at h, fun _ => rfl⟩
  | some p =>
   obtain ⟨u, a, l1⟩ := p
   obtain ⟨b1, b2⟩ := a1 u a l1 he
   rw [b1]
   obtain ⟨c1, c2⟩ := ihl (fun x hx => ih x (List.mem_cons_of_mem _ hx)) d cx l1 hs.2 hcx
   simp only
   cases hL : M2 cx ts l1 with
   | none => rw [c2 hL]; exact ⟨fun _ _ _ h => by simp at h, fun _ => rfl⟩
   | some q =>
    obtain ⟨us, h, l2⟩ := q
    obtain ⟨d1, d2, d3, d4⟩ := c1 us h l2 hL
    rw [d1]
    refine ⟨fun us' h' l' e => ?_, fun e => by simp at e⟩
    simp only [Option.some.injEq, Prod.mk.injEq] at e
    obtain ⟨rfl, rfl, _⟩ := e
    refine ⟨rfl, fun x hx => ?_, by simp [d3], by simp [d4]⟩
    rcases List.mem_cons.1 hx with rfl | hx
    ·exact b2
    ·exact d2 x hx
theorem A2b : ∀ (t : Tm) (d : Int) (cx : Cx) (l : Int), N5 12 14 t d = true → V0 cx → (∀ u a l', M8 cx t l = some (u, a, l') → P6 cx t = some a ∧ E4 a = true) ∧ (M8 cx t l = none → P6 cx t = none) := by
 refine Tm.ind fun k nm num ty fr lb ks ih d cx l hs hcx => ?_
 obtain ⟨_, _, h3, h4⟩ := A0z hs
 obtain ⟨n1, _, _, _, _, n6, _⟩ := U0.1 h3
 obtain ⟨L1, L2⟩ := A5E ks ih (d + 1) (J2 cx k nm ty) l h4 (A2G hcx fun hk => n6 (by omega))
 rw [M8, P6]
 cases hL : M2 (J2 cx k nm ty) ks l with
 | none => rw [L2 hL]; exact ⟨fun _ _ _ h => by simp at h, fun _ => rfl⟩
 | some q =>
  obtain ⟨us, h, l2⟩ := q
  obtain ⟨d1, d2, d3, d4⟩ := L1 us h l2 hL
  rw [d1]
  obtain ⟨e1, e2⟩ := B1L (k := k) (nm := nm) (ty := ty) hcx d2 (fun hk => n6 (.inr (.inl hk))) (by rw [d3]; exact n1)
  simp only [A0V]
  cases hN : S1 cx k nm ty h with
  | none => rw [e2 hN]; exact ⟨fun _ _ _ h => by simp at h, fun _ => rfl⟩
  | some p =>
   obtain ⟨w, t⟩ := p
   obtain ⟨f1, f2⟩ := e1 w t hN
   rw [f1]
   refine ⟨fun u a l' e => ?_, fun e => by simp at e⟩
   simp only [Option.some.injEq, Prod.mk.injEq] at e
   obtain ⟨_, rfl, _⟩ := e
   exact ⟨rfl, f2⟩
def A5F (u : Ty) (G : IM) : IM → Value → List A6 → Prop := L8 fun G' v => ∃ cells, v = .agg ⟨cells⟩ ∧ B7 G' u cells
def A1v (r : Option Ty) (G : IM) : IM → Value → List A6 → Prop := L8 fun G' v => ∃ cells u, v = .tuple ⟨[.agg ⟨cells⟩, .bool r.isSome]⟩ ∧ B7 G' u cells ∧ ∀ t, r = some t → u = t
theorem B1M {G : IM} {k : Int} {a b : Ty} {ca cb : List Value} {p : Option Addr} {c : Nat} (hk : E6 k) (ha : B7 G a ca) (hb : B7 G b cb) (hs : Sl G p 2 c 2 (ca ++ cb)) : B7 G (.mk k [a, b]) [.int .i64 k, .slice p 2 c] := by
 have hL : C6 G [a, b] [ca, cb] := by simp only [C6]; exact ⟨ca, [cb], rfl, ha, cb, [], rfl, hb, rfl⟩
 exact C6.ty (ts := [a, b]) (es := [ca, cb]) hL rfl (by simpa using hs) hk
theorem A5G : ∀ (t t' : Ty) (G : IM) (cells cells' : List Value), B7 G t cells → B7 G t' cells' → Fn Tryz.prog 13 [.agg ⟨cells⟩, .agg ⟨cells'⟩] [] G (H4 (.bool (N1 t t')) G) := by
 refine Ty.ind fun k ks ih t' G cells cells' hr hr' => ?_
 obtain ⟨k', ks'⟩ := t'
 obtain ⟨p, c, es, rfl, hk, hsl, hkl⟩ := hr.open
 obtain ⟨p', c', es', rfl, hk', hsl', hkl'⟩ := hr'.open
 simp only [Ty.k, Ty.ks] at hk hsl hkl hk' hsl' hkl' ⊢
 obtain ⟨A, hA⟩ : ∃ A, Y3 ks ks' = A := ⟨_, rfl⟩
 have hA' : A = true ↔ ks.length = ks'.length ∧ ∀ i, i < ks.length → N1 (ks.getD i B4) (ks'.getD i B4) = true := by
  rw [← hA, A3d]
  constructor
  ·rintro ⟨h1, h2⟩
   refine ⟨h1, fun i hi => ?_⟩
   have := h2 i hi (by omega)
   simpa [List.getD_eq_getElem?_getD, List.getElem?_eq_getElem hi, List.getElem?_eq_getElem (show i < ks'.length by omega)] using this
  ·rintro ⟨h1, h2⟩
   refine ⟨h1, fun i hi hi' => ?_⟩
   have := h2 i hi
   simpa [List.getD_eq_getElem?_getD, List.getElem?_eq_getElem hi, List.getElem?_eq_getElem hi'] using this
 refine C0 Tryz.func13 rfl Tryz.ntmps13 Tryz.results13 rfl ?_
 intro w0
 refine tS (tR ?_)
 refine sE (C5 rfl rfl) rfl (fun b3 => ?_)
 refine sE (C5 rfl rfl) rfl (fun b4 => ?_)
 refine sQ (qA rfl) rfl (sD (nS (tS (tR (sQ (A0 rfl) rfl (sL (A3 rfl rfl) rfl rfl (sQ (A0 rfl) rfl (sL (A3 rfl rfl) rfl rfl ?_))))))))
 refine sB (qE rfl rfl) rfl rfl (fun h14 => ?_) (fun h14 => ?_)
 refine sQ (qM rfl) rfl (sQ (A0 rfl) rfl (sL (A3 rfl rfl) rfl rfl (sQ (A0 rfl) rfl (sL (A3 rfl rfl) rfl rfl ?_))))
 refine H0 rfl (A68 _ _ _ _ _ _ _ _ _ hsl hsl' _ [] [] [] (fun i => N1 (ks.getD i B4) (ks'.getD i B4)) A hA' (fun i e e' he he' => ih _ (hkl.inv he B4).1 _ _ _ _ (hkl.inv he B4).2 (hkl'.inv he' B4).2)) rfl rfl ?_
 refine sQ (C2 rfl rfl) rfl (sQ (qA rfl) rfl (sD (nS (tT (A9 (rT rfl) ?_)))))
 exact ⟨rfl, by rw [A11, hA]; first | (rw [decide_eq_true (p := k = k') (by omega)]; rfl) | (rw [decide_eq_false (p := k = k') (by omega)]; rfl), rfl⟩
 refine U4 ?_
 exact ⟨rfl, by rw [A11, hA]; first | (rw [decide_eq_true (p := k = k') (by omega)]; rfl) | (rw [decide_eq_false (p := k = k') (by omega)]; rfl), rfl⟩
theorem A1M (k : Int) (a b : Ty) (G : IM) (ca cb : List Value) (hk : E6 k) (hra : B7 G a ca) (hrb : B7 G b cb) :
  Fn Tryz.prog 106 [.int .i64 k, .agg ⟨ca⟩, .agg ⟨cb⟩] [] G (A5F (.mk k [a, b]) G) := by
 obtain ⟨pa, cca, ea, rfl, _⟩ := hra.open
 obtain ⟨pb, ccb, eb, rfl, _⟩ := hrb.open
 refine C0 Tryz.func106 rfl Tryz.ntmps106 Tryz.results106 rfl ?_
 intro w0
 refine tS (tR ?_)
 refine sE (C5 rfl rfl) rfl (fun b3 => ?_)
 refine sE (C5 rfl rfl) rfl (fun b4 => ?_)
 refine sE (A7 rfl) rfl (fun b5 => ?_)
 refine sD (nS (tS (tR (sQ (qM rfl) rfl (sL (A2 rfl rfl) rfl rfl (sL (A2 rfl rfl) rfl rfl ?_))))))
 (refine I5 (C7 rfl rfl rfl (by omega) (by unfold maxLen; omega) rfl) rfl ?_; rintro _ ⟨b13, rfl⟩)
 refine sQ (H6 rfl rfl) rfl (B1 ?_)
 refine sD (nS ?_)
 (refine E9 (by repeat (first | exact Pk.here | apply Pk.there)) (fun G5 hle5 hsl5 hno5 => ?_))
 refine tT ?_
 refine A9 (rC rfl (A2 rfl rfl)) ?_
 exact ⟨rfl, _, rfl, B1M hk (hra.mono hle5) (hrb.mono hle5) hsl5⟩
theorem A0W (k tk : Int) (ks : List Ty) : Q3 k (.mk tk ks) = if tk = k then some (ks.getD 0 B4, ks.getD 1 B4) else if tk = 1 then some (P3, P3) else none := rfl
def A70 (k : Int) (t : Ty) (G : IM) : IM → Value → List A6 → Prop := L8 fun G' v => ∃ a ca b cb, v = .tuple ⟨[.agg ⟨ca⟩, .agg ⟨cb⟩, .bool (Q3 k t).isSome]⟩ ∧ B7 G' a ca ∧ B7 G' b cb ∧ E2 a ∧ E2 b ∧ ∀ p, Q3 k t = some p → p = (a, b)
theorem A71 (k : Int) (t : Ty) (G : IM) (cells : List Value) (hk : k = 4 ∨ k = 5) (ha : E2 t) (hr : B7 G t cells) :
  Fn Tryz.prog 107 [.agg ⟨cells⟩, .int .i64 k] [] G (A70 k t G) := by
 obtain ⟨tk, ks⟩ := t
 have ha2 := ha
 rw [E2] at ha2
 have hkid := ha.kid
 obtain ⟨p, c, es, rfl, htk, hsl, hkl⟩ := hr.open
 simp only [Ty.k, Ty.ks] at htk hsl hkl ⊢
 refine C0 Tryz.func107 rfl Tryz.ntmps107 Tryz.results107 rfl ?_
 intro w0
 refine tS (tR ?_)
 refine sE (C5 rfl rfl) rfl (fun b3 => ?_)
 refine sE (A7 rfl) rfl (fun b4 => ?_)
 refine sE (A7 rfl) rfl (fun b5 => ?_)
 refine sQ (qA rfl) rfl (sD (nS (tS (tS (tR (sQ (A0 rfl) rfl (sL (A3 rfl rfl) rfl rfl (sD (nS ?_)))))))))
 refine B9 (tS (tR (sQ (qM rfl) rfl (sB (qE rfl rfl) rfl rfl (fun h20 => ?_) (fun h20 => ?_)))))
 refine sQ (qA rfl) rfl (sD (nS (qT rfl (tS ?_))))
 (have hlen : ks.length = 2 := ha2.1 (by omega); obtain ⟨b, o, q0, d0, hp0, hat0, hre0, hg0⟩ := hsl.kidTy hkl (i := 0) (by omega) (by omega); obtain ⟨b', o', q1, d1, hp1, hat1, hre1, hg1⟩ := hsl.kidTy hkl (i := 1) (by omega) (by omega); subst hp0; cases hp1; refine D4 D6 rfl ?_)
 refine I6 (i := 0) (l' := [tt,ff,ff,ff,ff,ff,ff,ff,ff,ff,ff]) rfl C9 (A0 rfl) rfl (by kernel_rfl) rfl rfl ?_
 refine aL 1 rfl (A3 rfl rfl) rfl ?_
 refine aP 2 rfl (B3 (j := 0) rfl rfl rfl (by omega)) rfl ?_
 refine aL 3 rfl (A5 rfl rfl (hat0 _) rfl) rfl ?_
 refine aP 4 rfl (A0 rfl) rfl ?_
 refine aL 5 rfl (A3 rfl rfl) rfl ?_
 refine aP 6 rfl (B3 (j := 1) rfl rfl rfl (by omega)) rfl ?_
 refine aL 7 rfl (A5 rfl rfl (hat1 _) rfl) rfl ?_
 refine A4 8 ?_
 refine F8 rfl ?_
 refine A4 9 ?_
 refine F8 rfl ?_
 refine aP 10 rfl (qA rfl) rfl ?_
 refine B5 (nS (tT (rB (rS ?_))))
 refine C8 (rC rfl (A2 rfl rfl)) (rC rfl (A2 rfl rfl)) (rT rfl) ?_
 (refine ⟨rfl, _, _, _, _, ?_, hre0, hre1, hkid _ (List.getElem_mem (by omega)), hkid _ (List.getElem_mem (by omega)), ?_⟩ <;> rw [A0W, if_pos (by omega)] <;> first | rfl | (intro p hp; cases hp; simp [hlen]))
 refine sQ (qA rfl) rfl (sD (nS (cF rfl (tS (tR ?_)))))
 refine sB (qE rfl rfl) rfl rfl (fun h53 => ?_) (fun h53 => ?_)
 refine sQ (qA rfl) rfl (sD (nS (qT rfl (tS (tR ?_)))))
 refine H0 rfl ((A1p _ _)) rfl rfl ?_
 refine H0 rfl ((A1p _ _)) rfl rfl ?_
 refine B1 ?_
 refine B1 ?_
 refine sQ (qA rfl) rfl (sD (nS (tT (rB (rS ?_)))))
 refine C8 (rC rfl (A2 rfl rfl)) (rC rfl (A2 rfl rfl)) (rT rfl) ?_
 (refine ⟨rfl, _, _, _, _, ?_, A0o _, A0o _, A3a, A3a, ?_⟩ <;> rw [A0W, if_neg (by omega), if_pos (by omega)] <;> first | rfl | (intro p hp; cases hp; rfl))
 refine S9 ?_
 refine C8 (rC rfl (A2 rfl rfl)) (rC rfl (A2 rfl rfl)) (rT rfl) ?_
 (refine ⟨rfl, B4, _, B4, _, ?_, M1 _ ⟨by omega, by omega⟩, M1 _ ⟨by omega, by omega⟩, S2 (by omega) (by omega), S2 (by omega) (by omega), ?_⟩ <;> rw [A0W, if_neg (by omega), if_neg (by omega)] <;> first | rfl | (intro p hp; cases hp))
def A2H (G : IM) (b : ByteArray × Ty) (e : List Value) : Prop := ∃ q d, e = [.string b.1, .int .i64 b.2.k, .slice q b.2.ks.length d] ∧ B7 G b.2 [.int .i64 b.2.k, .slice q b.2.ks.length d]
theorem A2H.mono {G G' : IM} {b : ByteArray × Ty} {e : List Value} (h : A2H G b e) (hg : B8 G G') : A2H G' b e := by
 obtain ⟨q, d, h1, h2⟩ := h
 exact ⟨q, d, h1, h2.mono hg⟩
def R3 (G : IM) (cx : Cx) (p : Option Addr) (n c : Nat) : Prop := n = cx.length ∧ ∃ es : List (List Value), D2 G p n c 3 es ∧ ∀ (i : Nat) (b : ByteArray × Ty), cx[i]? = some b → ∃ e, es[i]? = some e ∧ A2H G b e
theorem R3.mono {G G' : IM} {cx : Cx} {p : Option Addr} {n c : Nat} (h : R3 G cx p n c) (hg : B8 G G') : R3 G' cx p n c := by
 obtain ⟨h1, es, h2, h3⟩ := h
 refine ⟨h1, es, h2.mono hg, fun i b hb => ?_⟩
 obtain ⟨e, he, hr⟩ := h3 i b hb
 exact ⟨e, he, hr.mono hg⟩
theorem R3.nil (G : IM) : R3 G [] none 0 0 := ⟨rfl, [], D2.nil _ _, by simp⟩
theorem R3.le {G : IM} {cx : Cx} {p : Option Addr} {n c : Nat} (h : R3 G cx p n c) : n ≤ 9223372036854775807 := by
 obtain ⟨h1, es, h2, h3⟩ := h
 exact h2.le
theorem R3.get {G : IM} {cx : Cx} {p : Option Addr} {n c : Nat} (h : R3 G cx p n c) {i : Nat} (hi : i < n) :
  ∃ b o nm t q d, cx[i]? = some (nm, t) ∧ p = some ⟨b, o, none⟩ ∧ (∀ hp, At hp G b (o + i * 3) [.string nm, .int .i64 t.k, .slice q t.ks.length d]) ∧ B7 G t [.int .i64 t.k, .slice q t.ks.length d] ∧ G b ≠ none := by
 obtain ⟨h1, es, h2, h3⟩ := h
 obtain ⟨e, b, o, he, rfl, hl, _, hat, hgb⟩ := h2.get (i := i) (by omega)
 have hx : cx[i]? = some cx[i] := List.getElem?_eq_getElem (by omega)
 obtain ⟨e', he', q, d, h4, h5⟩ := h3 i _ hx
 rw [he] at he'
 obtain rfl := Option.some.inj he'
 rw [h4] at hat
 exact ⟨b, o, cx[i].1, cx[i].2, q, d, hx, rfl, hat, h5, hgb⟩
theorem B1N (G : IM) (cx : Cx) (p : Option Addr) (n c : Nat) (nm : ByteArray) (hx : R3 G cx p n c) :
  Fn Tryz.prog 105 [.slice p n c, .string nm] [] G (A1v (N2 cx nm) G) := by
 have hn := hx.le
 have hn1 := hx.1
 refine C0 Tryz.func105 rfl Tryz.ntmps105 Tryz.results105 rfl ?_
 intro w0
 refine tS (tR ?_)
 refine sE (A7 rfl) rfl (fun b3 => ?_)
 refine sQ (qA rfl) rfl (sD (nS (tS (tS (tR (sQ (qM rfl) rfl (sQ (H8 rfl rfl) rfl ?_)))))))
 refine sP (O7 rfl rfl (by omega) (by omega)) rfl rfl ?_
 refine sQ (qA rfl) rfl (sD (nS ?_))
 refine B9 ?_
 (refine J4 (fun (i : Nat) => ⟨[(6, .int .i64 ((i : Int) - 1)), (0, .slice p n c), (1, .string nm), (4, .pointer (some ⟨b3, 0, none⟩))], [.blk b3 [.int .i64 0, .slice none 0 0]], G⟩) (fun i => i ≤ n ∧ U1 cx nm i = N2 cx nm) (fun i => i) n ?_ ?_ ?_)
 exact D9
 exact ⟨Nat.le_refl _, by rw [hn1]; rfl⟩
 (rintro i ⟨hi, hlk⟩)
 refine tS (tS (tR (sQ (qM rfl) rfl ?_)))
 refine sB (A0I rfl rfl) rfl rfl (fun h25 => ?_) (fun h25 => ?_)
 refine sD (nS (qT rfl (tK (nS (tS ?_)))))
 (show H9 _ _ (.block 1 _) _ _; obtain ⟨j, rfl⟩ : ∃ j, i = j + 1 := ⟨i - 1, by omega⟩; rw [show ((j + 1 : Nat) : Int) - 1 = (j : Int) from by omega]; obtain ⟨b, o, nm1, t1, q1, d1, hcx, rfl, hat, hr1, hgb⟩ := hx.get (i := j) (by omega); refine B9 ?_)
 refine tS (tR (sQ (qM rfl) rfl (sQ (qM rfl) rfl ?_)))
 refine sP (B3 rfl rfl rfl (by omega)) rfl rfl ?_
 refine sQ (qF rfl) rfl ?_
 refine sL (A0j rfl rfl ((hat _).sub (j := 0) rfl)) rfl rfl ?_
 refine sQ (qM rfl) rfl ?_
 refine sB (A0J rfl rfl) rfl rfl (fun h41 => ?_) (fun h41 => ?_)
 refine sD (nS (qT rfl (tS (tR (sQ (qM rfl) rfl (sQ (qM rfl) rfl ?_))))))
 refine sP (B3 rfl rfl rfl (by omega)) rfl rfl ?_
 refine sQ (qF rfl) rfl ?_
 refine sL (A5 rfl rfl (hat _).drop rfl) rfl rfl ?_
 refine B1 ?_
 refine sQ (qA rfl) rfl (sD (nS (tT (rB (rS (T4 (rB (rS ?_))))))))
 refine H7 (rC rfl (A2 rfl rfl)) (rT rfl) ?_
 (rw [A3e hcx (by assumption)] at hlk; rw [← hlk]; exact ⟨rfl, _, _, rfl, hr1, fun t ht => by cases ht; rfl⟩)
 refine sD (nS (cF rfl (tK (E3 (nS (tR (sQ (qM rfl) rfl ?_)))))))
 refine sP (O7 rfl rfl (by omega) (by omega)) rfl rfl ?_
 refine sQ (qA rfl) rfl (sD ?_)
 refine J3 j ?_ ?_ ?_
 exact D9
 (rw [A3f hcx (by assumption)] at hlk; exact ⟨by omega, hlk⟩)
 (show _ < _ + 1; omega)
 refine O9 ?_
 refine H7 (rC rfl (A2 rfl rfl)) (rT rfl) ?_
 (obtain rfl : i = 0 := (by omega); rw [U1] at hlk; rw [← hlk]; exact ⟨rfl, _, B4, rfl, M1 _ ⟨by omega, by omega⟩, fun t ht => by cases ht⟩)
theorem B1O {xs ys : List Ty} (h : xs.length = 2) (h' : ys.length = 2) : T2 xs ys = [U2 (xs[0]'(by omega)) (ys[0]'(by omega)), U2 (xs[1]'(by omega)) (ys[1]'(by omega))] := by
 match xs, ys, h, h' with
 | [a, b], [c, d], _, _ => rfl
theorem B1P {k k' : Int} {ks bs : List Ty} (h : J5 (.mk k ks) (.mk k' bs) = true) (hk : k ≠ 1) (hk' : k' ≠ 1) : k = k' ∧ O3 ks bs = true := by
 rw [U9] at h
 simpa [hk, hk'] using h
theorem A72 : ∀ (a b : Ty) (G : IM) (ca cb : List Value), J5 a b = true → E2 a → E2 b → B7 G a ca → B7 G b cb →
  Fn Tryz.prog 109 [.agg ⟨ca⟩, .agg ⟨cb⟩] [] G (A5F (U2 a b) G) := by
 refine Ty.ind fun k ks ih b G ca cb hc haa hab hra hrb => ?_
 have hsa := haa.small
 have hsb := hab.small
 obtain ⟨bk, bks⟩ := b
 have hra0 := hra
 have hrb0 := hrb
 have ha2 := haa
 have hb2 := hab
 rw [E2] at ha2 hb2
 have hkida := haa.kid
 have hkidb := hab.kid
 obtain ⟨p, c, es, rfl, hk, hsl, hkl⟩ := hra.open
 obtain ⟨p', c', es', rfl, hk', hsl', hkl'⟩ := hrb.open
 simp only [Ty.k, Ty.ks] at hk hsl hkl hk' hsl' hkl' ⊢
 have hn := hsl.le
 rw [A2x]
 refine C0 Tryz.func109 rfl Tryz.ntmps109 Tryz.results109 rfl ?_
 intro w0
 refine tS (tR ?_)
 refine sE (C5 rfl rfl) rfl (fun b3 => ?_)
 refine sE (C5 rfl rfl) rfl (fun b4 => ?_)
 refine sE (A7 rfl) rfl (fun b5 => ?_)
 refine sD (nS (tS ?_))
 refine B9 ?_
 refine tS (tR (sQ (A0 rfl) rfl (sL (A3 rfl rfl) rfl rfl ?_)))
 refine sB (qE rfl rfl) rfl rfl (fun h14 => ?_) (fun h14 => ?_)
 refine sQ (qA rfl) rfl (sD (nS (qT rfl (tS (tR (sL (A2 rfl rfl) rfl rfl ?_))))))
 (refine E5 rfl (A12 _ _ _ hsb hrb0) rfl rfl (fun v G1 hle1 hh => ?_); obtain ⟨cs1, F1, rfl, hs1, hn1⟩ := hh; obtain ⟨p1, c1, rfl, _⟩ := hs1.open; have hr1 := hs1.R.mono (C4.le G1 _))
 refine B1 ?_
 refine sD (nS (tT (rB (rS ?_))))
 refine A9 (rC rfl (A2 rfl rfl)) ?_
 (rw [if_pos (by omega)]; exact ⟨rfl, _, rfl, hr1⟩)
 refine sQ (qA rfl) rfl (sD (nS (cF rfl (tS (tR (sQ (A0 rfl) rfl (sL (A3 rfl rfl) rfl rfl ?_)))))))
 refine sB (qE rfl rfl) rfl rfl (fun h39 => ?_) (fun h39 => ?_)
 refine T6 ?_
 (refine E5 rfl (A12 _ _ _ hsa hra0) rfl rfl (fun v G1 hle1 hh => ?_); obtain ⟨cs1, F1, rfl, hs1, hn1⟩ := hh; obtain ⟨p1, c1, rfl, _⟩ := hs1.open; have hr1 := hs1.R.mono (C4.le G1 _))
 refine B1 ?_
 refine sD (nS (tT (rB (rS ?_))))
 refine A9 (rC rfl (A2 rfl rfl)) ?_
 (rw [if_neg (by omega)]; split <;> first | exact ⟨rfl, _, rfl, hr1⟩ | (obtain rfl : ks = [] := List.length_eq_zero_iff.1 (by omega); rw [T2]; exact ⟨rfl, _, rfl, hr1⟩; simp))
 refine sQ (qM rfl) rfl (sQ (A0 rfl) rfl (sL (A3 rfl rfl) rfl rfl (sQ (H8 rfl rfl) rfl ?_)))
 refine sB (qE rfl rfl) rfl rfl (fun h66 => ?_) (fun h66 => ?_)
 refine sQ (D7 rfl rfl) rfl (sQ (qA rfl) rfl (sD (nS (qT rfl (tS (tR (sL (A2 rfl rfl) rfl rfl ?_)))))))
 (refine E5 rfl (A12 _ _ _ hsa hra0) rfl rfl (fun v G1 hle1 hh => ?_); obtain ⟨cs1, F1, rfl, hs1, hn1⟩ := hh; obtain ⟨p1, c1, rfl, _⟩ := hs1.open; have hr1 := hs1.R.mono (C4.le G1 _))
 refine B1 ?_
 refine sD (nS (tT (rB (rS ?_))))
 refine A9 (rC rfl (A2 rfl rfl)) ?_
 (rw [if_neg (by omega)]; split <;> first | exact ⟨rfl, _, rfl, hr1⟩ | (obtain rfl : ks = [] := List.length_eq_zero_iff.1 (by omega); rw [T2]; exact ⟨rfl, _, rfl, hr1⟩; simp))
 refine sQ (D7 rfl rfl) rfl (sQ (qA rfl) rfl (sD (nS (cF rfl (tK (E3 (nS (tS ?_))))))))
 (obtain ⟨hkk, hcl0⟩ := B1P hc (by omega) (by omega); subst hkk; have hcl := (A1E _ _).1 hcl0; have hlen : ks.length = 2 := (by have := ha2.2.1; have := ha2.1; omega); have hlen' : bks.length = 2 := (by omega); obtain ⟨b0, o0, q0, d0, hp0, hat0, hre0, hg0⟩ := hsl.kidTy hkl (i := 0) (by omega) (by omega); obtain ⟨b1, o1, q1, d1, hp1, hat1, hre1, hg1⟩ := hsl.kidTy hkl (i := 1) (by omega) (by omega); subst hp0; cases hp1; obtain ⟨b2, o2, q2, d2, hp2, hat2, hre2, hg2⟩ := hsl'.kidTy hkl' (i := 0) (by omega) (by omega); obtain ⟨b3, o3, q3, d3, hp3, hat3, hre3, hg3⟩ := hsl'.kidTy hkl' (i := 1) (by omega) (by omega); subst hp2; cases hp3; have hM1 := ih ks[0] (List.getElem_mem (by omega)) bks[0] G _ _ (hcl.2 0 (by omega) (by omega)) (hkida _ (List.getElem_mem (by omega))) (hkidb _ (List.getElem_mem (by omega))) hre0 hre2; refine D4 D6 rfl ?_)
 refine I6 (i := 0) (l' := [tt,ff,ff,ff,ff,ff,ff,ff,ff,ff,ff,ff,ff,ff,ff,ff,ff,ff,ff,ff,ff,ff]) rfl C9 (A0 rfl) rfl (by kernel_rfl) rfl rfl ?_
 refine aL 1 rfl (A3 rfl rfl) rfl ?_
 refine aP 2 rfl (A0 rfl) rfl ?_
 refine aL 3 rfl (A3 rfl rfl) rfl ?_
 refine aP 4 rfl (B3 (j := 0) rfl rfl rfl (by omega)) rfl ?_
 refine aL 5 rfl (A5 rfl rfl (hat0 _) rfl) rfl ?_
 refine aP 6 rfl (A0 rfl) rfl ?_
 refine aL 7 rfl (A3 rfl rfl) rfl ?_
 refine aP 8 rfl (B3 (j := 0) rfl rfl rfl (by omega)) rfl ?_
 refine aL 9 rfl (A5 rfl rfl (hat2 _) rfl) rfl ?_
 refine aP 11 rfl (A0 rfl) rfl ?_
 refine aL 12 rfl (A3 rfl rfl) rfl ?_
 refine aP 13 rfl (B3 (j := 1) rfl rfl rfl (by omega)) rfl ?_
 refine aL 14 rfl (A5 rfl rfl (hat1 _) rfl) rfl ?_
 refine aP 15 rfl (A0 rfl) rfl ?_
 refine aL 16 rfl (A3 rfl rfl) rfl ?_
 refine aP 17 rfl (B3 (j := 1) rfl rfl rfl (by omega)) rfl ?_
 refine aL 18 rfl (A5 rfl rfl (hat3 _) rfl) rfl ?_
 refine A4 10 ?_
 (refine F0 rfl rfl hM1 rfl rfl rfl (fun v G1 hle1 hh => ?_); obtain ⟨cm1, rfl, hm1⟩ := hh; have hM2 := ih ks[1] (List.getElem_mem (by omega)) bks[1] G1 _ _ (hcl.2 1 (by omega) (by omega)) (hkida _ (List.getElem_mem (by omega))) (hkidb _ (List.getElem_mem (by omega))) (hre1.mono hle1) (hre3.mono hle1))
 refine A4 19 ?_
 (refine F0 rfl rfl hM2 rfl rfl rfl (fun v G2 hle2 hh => ?_); obtain ⟨cm2, rfl, hm2⟩ := hh; have hB := A1M k _ _ G2 _ _ hk (hm1.mono hle2) hm2)
 refine A4 20 ?_
 (refine F0 rfl rfl hB rfl rfl rfl (fun v G3 hle3 hh => ?_); obtain ⟨cm3, rfl, hm3⟩ := hh; obtain ⟨p5, c5, e5, rfl, _⟩ := hm3.open)
 refine A4 21 ?_
 refine F8 rfl ?_
 refine B5 (nS (tT ?_))
 refine A9 (rC rfl (A2 rfl rfl)) ?_
 (rw [if_neg (by omega), if_neg (by omega)]; rw [B1O hlen hlen']; exact ⟨rfl, _, rfl, hm3⟩)
def O8 (o : Option Ty) (G : IM) : IM → Value → List A6 → Prop := L8 fun G' v => ∃ t cells, v = .tuple ⟨[.agg ⟨cells⟩, .bool o.isSome]⟩ ∧ B7 G' t cells ∧ E2 t ∧ ∀ u, o = some u → u = t
theorem O8.yes {G G' : IM} {o : Option Ty} {t : Ty} {cells : List Value} (h : o = some t) (hr : B7 G' t cells) (ha : E2 t) : O8 o G G' (.tuple ⟨[.agg ⟨cells⟩, .bool true]⟩) [] := by
 subst h; exact ⟨rfl, t, cells, rfl, hr, ha, fun u h => (by cases h; rfl)⟩
theorem O8.no {G G' : IM} {o : Option Ty} {t : Ty} {cells : List Value} (h : o = none) (hr : B7 G' t cells) (ha : E2 t) : O8 o G G' (.tuple ⟨[.agg ⟨cells⟩, .bool false]⟩) [] := by
 subst h; exact ⟨rfl, t, cells, rfl, hr, ha, fun u h => (by cases h)⟩
theorem O8.mk {G G' : IM} {o : Option Ty} {b : Bool} {t : Ty} {cells : List Value} (h : o = if b = true then some t else none) (hr : B7 G' t cells) (ha : E2 t) : O8 o G G' (.tuple ⟨[.agg ⟨cells⟩, .bool b]⟩) [] := by
 cases b
 ·exact O8.no h hr ha
 ·exact O8.yes h hr ha
theorem A5H {t : Ty} (h : E4 t = true) : E2 t := (A2D h).1
theorem A2c (k : Int) (a b : Ty) (G : IM) (ca cb : List Value) (hk : k = 4 ∨ k = 5) (ha : E2 a) (hb : E2 b) (hra : B7 G a ca) (hrb : B7 G b cb) :
  Fn Tryz.prog 160 [.int .i64 k, .agg ⟨ca⟩, .agg ⟨cb⟩] [] G (L8 fun G' v => ∃ cells, v = .tuple ⟨[.agg ⟨cells⟩, .bool (E4 (.mk k [a, b]))]⟩ ∧ B7 G' (.mk k [a, b]) cells) := by
 obtain ⟨ak, aks⟩ := a
 obtain ⟨bk, bks⟩ := b
 obtain ⟨pa, cca, ea, rfl, _⟩ := hra.open
 obtain ⟨pb, ccb, eb, rfl, _⟩ := hrb.open
 have hki : E6 k := ⟨by omega, by omega⟩
 refine C0 Tryz.func160 rfl Tryz.ntmps160 Tryz.results160 rfl ?_
 intro w0
 refine tS (tR ?_)
 refine sE (C5 rfl rfl) rfl (fun b3 => ?_)
 refine sE (C5 rfl rfl) rfl (fun b4 => ?_)
 refine sE (A7 rfl) rfl (fun b5 => ?_)
 refine sQ (qA rfl) rfl (sD (nS (tS ?_)))
 refine D4 D6 rfl ?_
 refine I6 (i := 0) (l' := [tt,ff,ff,ff,ff,ff,ff,ff,ff]) rfl C9 (qM rfl) rfl (by kernel_rfl) rfl rfl ?_
 refine aL 1 rfl (A2 rfl rfl) rfl ?_
 refine aL 3 rfl (A2 rfl rfl) rfl ?_
 refine Q1 (j := 2) (j' := 7) (by kernel_rfl) ?_ ?_
 (refine F0 rfl rfl (P0 _ G _ ha.small hra) rfl rfl rfl (fun v G1 hle1 hh => ?_); obtain ⟨cs1, F1, rfl, hs1, hn1⟩ := hh; obtain ⟨p1, c1, rfl, _⟩ := hs1.open; have hC2 := P0 _ G1 _ hb.small (hrb.mono hle1))
 refine Q1 (j := 4) (j' := 7) (by kernel_rfl) ?_ ?_
 (refine F0 rfl rfl hC2 rfl rfl rfl (fun v G2 hle2 hh => ?_); obtain ⟨cs2, F2, rfl, hs2, hn2⟩ := hh; obtain ⟨p2, c2, rfl, _⟩ := hs2.open; have hr1 := hs1.R.mono ((C4.le G1 G).trans hle2); have hr2 := hs2.R.mono (C4.le G2 G1))
 refine Q1 (j := 5) (j' := 7) (by kernel_rfl) ?_ ?_
 (refine E0 rfl (C7 rfl rfl rfl (by omega) (by unfold maxLen; omega) rfl) rfl rfl ?_; rintro _ ⟨b19, rfl⟩)
 refine aP 6 rfl (H6 rfl rfl) rfl ?_
 refine A4 7 ?_
 (refine E0 rfl (A7 rfl) rfl rfl ?_; rintro _ ⟨b22, rfl⟩)
 refine A4 8 ?_
 refine F8 rfl ?_
 refine B5 (nS (tS ?_))
 (have hr1' := hr1; refine A1D (by repeat (first | exact Pk.here | apply Pk.there)) (fun G5 hle5 hsl5 hno5 => ?_); have hRT : B7 G5 (.mk k [.mk ak aks, .mk bk bks]) _ := C6.ty (ts := [.mk ak aks, .mk bk bks]) (es := [[.int .i64 ak, .slice p1 aks.length c1], [.int .i64 bk, .slice p2 bks.length c2]]) ⟨_, _, rfl, hr1.mono hle5, _, _, rfl, hr2.mono hle5, rfl⟩ rfl hsl5 hki; have hV := A1r _ G5 _ hRT; refine D4 D6 rfl ?_)
 refine K2 (i := 0) (l' := [tt,ff,ff,ff,ff]) rfl C9 (A2 rfl rfl) rfl (by kernel_rfl) rfl rfl ?_
 refine aL 1 rfl (A2 rfl rfl) rfl ?_
 refine A4 2 ?_
 refine M7 rfl rfl (hV) rfl rfl rfl ?_
 refine A4 3 ?_
 refine F8 rfl ?_
 refine aP 4 rfl (qA rfl) rfl ?_
 refine B5 (nS (tT ?_))
 refine H7 (rC rfl (A2 rfl rfl)) (rT rfl) ?_
 (exact ⟨rfl, _, rfl, hRT⟩)
 (refine E0 rfl (A7 rfl) rfl rfl ?_; rintro _ ⟨b41, rfl⟩)
 refine A4 5 ?_
 (refine E0 rfl (C7 rfl rfl rfl (by omega) (by unfold maxLen; omega) rfl) rfl rfl ?_; rintro _ ⟨b43, rfl⟩)
 refine aP 6 rfl (H6 rfl rfl) rfl ?_
 refine A4 8 ?_
 refine F8 rfl ?_
 refine B5 (nS (tS ?_))
 (have hr1' := hr1; refine A1D (by repeat (first | exact Pk.here | apply Pk.there)) (fun G5 hle5 hsl5 hno5 => ?_); have hRT : B7 G5 (.mk k [.mk ak aks, .mk bk bks]) _ := C6.ty (ts := [.mk ak aks, .mk bk bks]) (es := [[.int .i64 ak, .slice p1 aks.length c1], [.int .i64 bk, .slice p2 bks.length c2]]) ⟨_, _, rfl, hr1.mono hle5, _, _, rfl, hr2.mono hle5, rfl⟩ rfl hsl5 hki; have hV := A1r _ G5 _ hRT; refine D4 D6 rfl ?_)
 refine K2 (i := 0) (l' := [tt,ff,ff,ff,ff]) rfl C9 (A2 rfl rfl) rfl (by kernel_rfl) rfl rfl ?_
 refine aL 1 rfl (A2 rfl rfl) rfl ?_
 refine A4 2 ?_
 refine M7 rfl rfl (hV) rfl rfl rfl ?_
 refine A4 3 ?_
 refine F8 rfl ?_
 refine aP 4 rfl (qA rfl) rfl ?_
 refine B5 (nS (tT ?_))
 refine H7 (rC rfl (A2 rfl rfl)) (rT rfl) ?_
 (exact ⟨rfl, _, rfl, hRT⟩)
 (refine E0 rfl (A7 rfl) rfl rfl ?_; rintro _ ⟨b63, rfl⟩)
 refine A4 4 ?_
 (refine F0 rfl rfl hC2 rfl rfl rfl (fun v G2 hle2 hh => ?_); obtain ⟨cs2, F2, rfl, hs2, hn2⟩ := hh; obtain ⟨p2, c2, rfl, _⟩ := hs2.open; have hr1 := hs1.R.mono ((C4.le G1 G).trans hle2); have hr2 := hs2.R.mono (C4.le G2 G1))
 refine A4 5 ?_
 (refine E0 rfl (C7 rfl rfl rfl (by omega) (by unfold maxLen; omega) rfl) rfl rfl ?_; rintro _ ⟨b67, rfl⟩)
 refine aP 6 rfl (H6 rfl rfl) rfl ?_
 refine A4 8 ?_
 refine F8 rfl ?_
 refine B5 (nS (tS ?_))
 (have hr1' := hr1; refine A1D (by repeat (first | exact Pk.here | apply Pk.there)) (fun G5 hle5 hsl5 hno5 => ?_); have hRT : B7 G5 (.mk k [.mk ak aks, .mk bk bks]) _ := C6.ty (ts := [.mk ak aks, .mk bk bks]) (es := [[.int .i64 ak, .slice p1 aks.length c1], [.int .i64 bk, .slice p2 bks.length c2]]) ⟨_, _, rfl, hr1.mono hle5, _, _, rfl, hr2.mono hle5, rfl⟩ rfl hsl5 hki; have hV := A1r _ G5 _ hRT; refine D4 D6 rfl ?_)
 refine K2 (i := 0) (l' := [tt,ff,ff,ff,ff]) rfl C9 (A2 rfl rfl) rfl (by kernel_rfl) rfl rfl ?_
 refine aL 1 rfl (A2 rfl rfl) rfl ?_
 refine A4 2 ?_
 refine M7 rfl rfl (hV) rfl rfl rfl ?_
 refine A4 3 ?_
 refine F8 rfl ?_
 refine aP 4 rfl (qA rfl) rfl ?_
 refine B5 (nS (tT ?_))
 refine H7 (rC rfl (A2 rfl rfl)) (rT rfl) ?_
 (exact ⟨rfl, _, rfl, hRT⟩)
 (refine E0 rfl (A7 rfl) rfl rfl ?_; rintro _ ⟨b87, rfl⟩)
 refine A4 2 ?_
 (refine F0 rfl rfl (P0 _ G _ ha.small hra) rfl rfl rfl (fun v G1 hle1 hh => ?_); obtain ⟨cs1, F1, rfl, hs1, hn1⟩ := hh; obtain ⟨p1, c1, rfl, _⟩ := hs1.open; have hC2 := P0 _ G1 _ hb.small (hrb.mono hle1))
 refine A4 4 ?_
 (refine F0 rfl rfl hC2 rfl rfl rfl (fun v G2 hle2 hh => ?_); obtain ⟨cs2, F2, rfl, hs2, hn2⟩ := hh; obtain ⟨p2, c2, rfl, _⟩ := hs2.open; have hr1 := hs1.R.mono ((C4.le G1 G).trans hle2); have hr2 := hs2.R.mono (C4.le G2 G1))
 refine A4 5 ?_
 (refine E0 rfl (C7 rfl rfl rfl (by omega) (by unfold maxLen; omega) rfl) rfl rfl ?_; rintro _ ⟨b93, rfl⟩)
 refine aP 6 rfl (H6 rfl rfl) rfl ?_
 refine A4 8 ?_
 refine F8 rfl ?_
 refine B5 (nS (tS ?_))
 (have hr1' := hr1; refine A1D (by repeat (first | exact Pk.here | apply Pk.there)) (fun G5 hle5 hsl5 hno5 => ?_); have hRT : B7 G5 (.mk k [.mk ak aks, .mk bk bks]) _ := C6.ty (ts := [.mk ak aks, .mk bk bks]) (es := [[.int .i64 ak, .slice p1 aks.length c1], [.int .i64 bk, .slice p2 bks.length c2]]) ⟨_, _, rfl, hr1.mono hle5, _, _, rfl, hr2.mono hle5, rfl⟩ rfl hsl5 hki; have hV := A1r _ G5 _ hRT; refine D4 D6 rfl ?_)
 refine K2 (i := 0) (l' := [tt,ff,ff,ff,ff]) rfl C9 (A2 rfl rfl) rfl (by kernel_rfl) rfl rfl ?_
 refine aL 1 rfl (A2 rfl rfl) rfl ?_
 refine A4 2 ?_
 refine M7 rfl rfl (hV) rfl rfl rfl ?_
 refine A4 3 ?_
 refine F8 rfl ?_
 refine aP 4 rfl (qA rfl) rfl ?_
 refine B5 (nS (tT ?_))
 refine H7 (rC rfl (A2 rfl rfl)) (rT rfl) ?_
 (exact ⟨rfl, _, rfl, hRT⟩)
theorem A2I (k : Int) (t : Ty) (G : IM) (cells : List Value) (hk : k = 4 ∨ k = 5) (ha : E2 t) (hr : B7 G t cells) :
  Fn Tryz.prog 162 [.int .i64 k, .agg ⟨cells⟩] [] G (A70 k t G) := by
 obtain ⟨tk, ks⟩ := t
 have ha2 := ha
 rw [E2] at ha2
 have hkid := ha.kid
 obtain ⟨p, c, es, rfl, htk, hsl, hkl⟩ := hr.open
 simp only [Ty.k, Ty.ks] at htk hsl hkl ⊢
 refine C0 Tryz.func162 rfl Tryz.ntmps162 Tryz.results162 rfl ?_
 intro w0
 refine tS (tR ?_)
 refine sE (C5 rfl rfl) rfl (fun b3 => ?_)
 refine sE (A7 rfl) rfl (fun b4 => ?_)
 refine sE (A7 rfl) rfl (fun b5 => ?_)
 refine sQ (qA rfl) rfl (sD (nS (tS (tS (tR (sQ (A0 rfl) rfl (sL (A3 rfl rfl) rfl rfl ?_)))))))
 refine sB (qE rfl rfl) rfl rfl (fun h14 => ?_) (fun h14 => ?_)
 refine sD (nS (qT rfl (tS (tR ?_))))
 refine H0 rfl ((A1s _)) rfl rfl ?_
 refine H0 rfl ((A1s _)) rfl rfl ?_
 refine B1 ?_
 refine B1 ?_
 refine sQ (qA rfl) rfl (sD (nS (tT (rS ?_))))
 refine C8 (rC rfl (A2 rfl rfl)) (rC rfl (A2 rfl rfl)) (rT rfl) ?_
 (refine ⟨rfl, _, _, _, _, ?_, A0o _, A0o _, A3a, A3a, ?_⟩ <;> rw [A0W, if_neg (by omega), if_pos (by omega)] <;> first | rfl | (intro p hp; cases hp; rfl))
 refine sD (nS (cF rfl (tK (nS (tS (tS (tR (sQ (A0 rfl) rfl (sL (A3 rfl rfl) rfl rfl (sQ (qM rfl) rfl ?_))))))))))
 refine sB (N9 rfl rfl) rfl rfl (fun h42 => ?_) (fun h42 => ?_)
 refine sD (nS (qT rfl (tS (tR (sQ (H6 rfl rfl) rfl (sQ (H6 rfl rfl) rfl (B1 ?_)))))))
 refine B1 ?_
 refine sQ (qA rfl) rfl (sD (nS (tT (rS ?_))))
 refine C8 (rC rfl (A2 rfl rfl)) (rC rfl (A2 rfl rfl)) (rT rfl) ?_
 (refine ⟨rfl, B4, _, B4, _, ?_, M1 _ ⟨by omega, by omega⟩, M1 _ ⟨by omega, by omega⟩, S2 (by omega) (by omega), S2 (by omega) (by omega), ?_⟩ <;> rw [A0W, if_neg (by omega), if_neg (by omega)] <;> first | rfl | (intro p hp; cases hp))
 refine sD (nS (cF rfl (tK (nS (tS ?_)))))
 (have hlen : ks.length = 2 := ha2.1 (by omega); obtain ⟨b, o, q0, d0, hp0, hat0, hre0, hg0⟩ := hsl.kidTy hkl (i := 0) (by omega) (by omega); obtain ⟨b', o', q1, d1, hp1, hat1, hre1, hg1⟩ := hsl.kidTy hkl (i := 1) (by omega) (by omega); subst hp0; cases hp1; have hC1 := P0 _ G _ (hkid _ (List.getElem_mem (by omega))).small hre0; refine D4 D6 rfl ?_)
 refine I6 (i := 0) (l' := [tt,ff,ff,ff,ff,ff,ff,ff,ff,ff,ff,ff,ff]) rfl C9 (A0 rfl) rfl (by kernel_rfl) rfl rfl ?_
 refine aL 1 rfl (A3 rfl rfl) rfl ?_
 refine aP 2 rfl (B3 (j := 0) rfl rfl rfl (by omega)) rfl ?_
 refine aL 3 rfl (A5 rfl rfl (hat0 _) rfl) rfl ?_
 refine aP 5 rfl (A0 rfl) rfl ?_
 refine aL 6 rfl (A3 rfl rfl) rfl ?_
 refine aP 7 rfl (B3 (j := 1) rfl rfl rfl (by omega)) rfl ?_
 refine aL 8 rfl (A5 rfl rfl (hat1 _) rfl) rfl ?_
 refine A4 4 ?_
 (refine F0 rfl rfl hC1 rfl rfl rfl (fun v G1 hle1 hh => ?_); obtain ⟨cs1, F1, rfl, hs1, hn1⟩ := hh; obtain ⟨p1, c1, rfl, _⟩ := hs1.open; have hC2 := P0 _ G1 _ (hkid _ (List.getElem_mem (by omega))).small (hre1.mono hle1))
 refine A4 9 ?_
 (refine F0 rfl rfl hC2 rfl rfl rfl (fun v G2 hle2 hh => ?_); obtain ⟨cs2, F2, rfl, hs2, hn2⟩ := hh; obtain ⟨p2, c2, rfl, _⟩ := hs2.open; have hr1 := hs1.R.mono ((C4.le G1 G).trans hle2); have hr2 := hs2.R.mono (C4.le G2 G1))
 refine A4 10 ?_
 refine F8 rfl ?_
 refine A4 11 ?_
 refine Q6 rfl rfl rfl rfl rfl rfl rfl rfl (by decide +kernel) (by repeat first | exact Sw.here | apply Sw.there) (by rfl) ?_
 refine aP 12 rfl (qA rfl) rfl ?_
 refine B5 (nS (tT ?_))
 refine C8 (rC rfl (A2 rfl rfl)) (rC rfl (A2 rfl rfl)) (rT rfl) ?_
 (refine ⟨rfl, _, _, _, _, ?_, hr1, hr2, hkid _ (List.getElem_mem (by omega)), hkid _ (List.getElem_mem (by omega)), ?_⟩ <;> rw [A0W, if_pos (by omega)] <;> first | rfl | (intro p hp; cases hp; simp [hlen]))
theorem B1Q (G : IM) (cx : Cx) (hv : V0 cx) (p : Option Addr) (n c : Nat) (nm : ByteArray) (hx : R3 G cx p n c) :
  Fn Tryz.prog 116 [.slice p n c, .string nm] [] G (O8 (N2 cx nm) G) := by
 have hn := hx.le
 refine C0 Tryz.func116 rfl Tryz.ntmps116 Tryz.results116 rfl ?_
 intro w0
 refine tS (tR ?_)
 refine sE (A7 rfl) rfl (fun b3 => ?_)
 refine sQ (qA rfl) rfl (sD (nS (tS (tS (tR (sQ (qM rfl) rfl (sQ (H8 rfl rfl) rfl ?_)))))))
 refine sP (O7 rfl rfl (by omega) (by omega)) rfl rfl ?_
 refine sQ (qA rfl) rfl (sD (nS ?_))
 refine B9 ?_
 (refine J4 (fun (i : Nat) => ⟨[(6, .int .i64 ((i : Int) - 1)), (0, .slice p n c), (1, .string nm), (4, .pointer (some ⟨b3, 0, none⟩))], [.blk b3 [.int .i64 0, .slice none 0 0]], G⟩) (fun i => i ≤ n ∧ N2 cx nm = U1 cx nm i) (fun i => i) n ?_ ?_ ?_)
 exact D9
 (exact ⟨Nat.le_refl _, by unfold N2; rw [hx.1]⟩)
 (rintro i ⟨hi, hlk⟩)
 refine tS (tS (tR (sQ (qM rfl) rfl ?_)))
 refine sB (A0I rfl rfl) rfl rfl (fun h25 => ?_) (fun h25 => ?_)
 refine sD (nS (qT rfl (tK (nS (tS ?_)))))
 (show H9 _ _ (.block 1 _) _ _; obtain ⟨j, rfl⟩ : ∃ j, i = j + 1 := ⟨i - 1, by omega⟩; rw [show ((j + 1 : Nat) : Int) - 1 = (j : Int) from by omega]; obtain ⟨b, o, nm1, t1, q1, d1, hcx, rfl, hat, hr1, hgb⟩ := hx.get (i := j) (by omega); have ha1 := A5H (hv _ (List.mem_of_getElem? hcx)); refine B9 ?_)
 refine tS (tR (sQ (qM rfl) rfl (sQ (qM rfl) rfl ?_)))
 refine sP (B3 rfl rfl rfl (by omega)) rfl rfl ?_
 refine sQ (qF rfl) rfl ?_
 refine sL (A0j rfl rfl ((hat _).sub (j := 0) rfl)) rfl rfl ?_
 refine sQ (qM rfl) rfl ?_
 refine sB (A0J rfl rfl) rfl rfl (fun h41 => ?_) (fun h41 => ?_)
 refine sD (nS (qT rfl (tS (tR (sQ (qM rfl) rfl (sQ (qM rfl) rfl ?_))))))
 refine sP (B3 rfl rfl rfl (by omega)) rfl rfl ?_
 refine sQ (qF rfl) rfl ?_
 refine sL (A5 rfl rfl (hat _).drop rfl) rfl rfl ?_
 (refine E5 rfl (P0 _ G _ ha1.small hr1) rfl rfl (fun v G1 hle1 hh => ?_); obtain ⟨cs1, F1, rfl, hs1', hn1⟩ := hh; obtain ⟨p1, c1, rfl, _⟩ := hs1'.open; have hrr := hs1'.R.mono (C4.le G1 G))
 refine B1 ?_
 refine sQ (qA rfl) rfl (sD (nS (tT (rB (rS (T4 (rB (rS ?_))))))))
 refine H7 (rC rfl (A2 rfl rfl)) (rT rfl) ?_
 (exact O8.yes (by rw [hlk]; exact A3e hcx (by assumption)) hrr ha1)
 refine sD (nS (cF rfl (tK (E3 (nS (tR (sQ (qM rfl) rfl ?_)))))))
 refine sP (O7 rfl rfl (by omega) (by omega)) rfl rfl ?_
 refine sQ (qA rfl) rfl (sD ?_)
 refine J3 j ?_ ?_ ?_
 exact D9
 (exact ⟨by omega, by rw [hlk]; exact A3f hcx (by assumption)⟩)
 (show _ < _ + 1; omega)
 refine O9 ?_
 refine H7 (rC rfl (A2 rfl rfl)) (rT rfl) ?_
 (obtain rfl : i = 0 := (by omega); exact O8.no (by rw [hlk]; rfl) (M1 _ ⟨by omega, by omega⟩) (S2 (by omega) (by omega)))
theorem A4k : ∀ (xs ys : List Ty), xs.length = ys.length → (T2 xs ys).length = xs.length
 | [], [], _ => rfl
 | a :: xs, b :: ys, h => by simp only [T2, List.length_cons]; rw [A4k xs ys (by simpa using h)]
 | [], b :: ys, h => by simp at h
 | a :: xs, [], h => by simp at h
theorem A5I : ∀ (xs ys : List Ty) (i : Nat) (h : i < xs.length) (h' : i < ys.length) (hl : i < (T2 xs ys).length), (T2 xs ys)[i] = U2 xs[i] ys[i]
 | [], _, i, h, _, _ => by simp at h
 | a :: xs, [], i, _, h', _ => by simp at h'
 | a :: xs, b :: ys, 0, _, _, _ => by simp [T2]
 | a :: xs, b :: ys, i + 1, h, h', hl => by
  simp only [T2, List.getElem_cons_succ]
  exact A5I xs ys i (by simpa using h) (by simpa using h') _
theorem B1R {xs ys : List Ty} {i : Nat} (hl : xs.length = ys.length) (h : i < xs.length) : (T2 xs ys).take (i + 1) = (T2 xs ys).take i ++ [U2 xs[i] (ys[i]'(by omega))] := by
 rw [List.take_succ_eq_append_getElem (by rw [A4k _ _ hl]; exact h), A5I _ _ i h (by omega)]
theorem B1S : ∀ (a b : Ty) (G : IM) (ca cb : List Value), J5 a b = true → E2 a → E2 b → B7 G a ca → B7 G b cb → Fn Tryz.prog 178 [.agg ⟨ca⟩, .agg ⟨cb⟩] [] G (L8 fun G' v => ∃ cells, v = .agg ⟨cells⟩ ∧ B7 G' (U2 a b) cells) := by
 refine Ty.ind fun ak aks ih b G ca cb hc ha hb hra hrb => ?_
 obtain ⟨bk, bks⟩ := b
 have hka := ha.kid
 have hkb := hb.kid
 have hca := P0 _ G _ ha.small hra
 have hcb := P0 _ G _ hb.small hrb
 have hcc : ak ≠ 1 → bk ≠ 1 → aks.length = bks.length ∧ ∀ i, (h : i < aks.length) → (h' : i < bks.length) → J5 aks[i] bks[i] = true := by
  intro h1 h2
  rw [U9, decide_eq_false h1, decide_eq_false h2] at hc
  simp only [Bool.false_or, Bool.and_eq_true, decide_eq_true_eq] at hc
  exact (A1E _ _).1 hc.2
 rw [A2x]
 obtain ⟨pa, cca, ea, rfl, hak, hsla, hkla⟩ := hra.open
 obtain ⟨pb, ccb, eb, rfl, hbk, hslb, hklb⟩ := hrb.open
 simp only [Ty.k, Ty.ks] at hak hsla hkla hbk hslb hklb ⊢
 have hna := hsla.le
 have hnb := hslb.le
 have hl2 := ha.two
 refine C0 Tryz.func178 rfl Tryz.ntmps178 Tryz.results178 rfl ?_
 intro w0
 refine tS (tR ?_)
 refine sE (C5 rfl rfl) rfl (fun b3 => ?_)
 refine sE (C5 rfl rfl) rfl (fun b4 => ?_)
 refine sE (A7 rfl) rfl (fun b5 => ?_)
 refine sD (nS (tS (tS (tR (sQ (A0 rfl) rfl (sL (A3 rfl rfl) rfl rfl ?_))))))
 refine sB (qE rfl rfl) rfl rfl (fun h13 => ?_) (fun h13 => ?_)
 refine sD (nS (qT rfl (tS (tR (sL (A2 rfl rfl) rfl rfl ?_)))))
 (refine E5 rfl (by first | exact hcb | exact hca) rfl rfl (fun v G1 hle1 hh => ?_); obtain ⟨cs1, F1, rfl, hs1, hn1⟩ := hh; obtain ⟨p1, c1, rfl, _⟩ := hs1.open; have hr1 := hs1.R.mono (C4.le G1 G))
 refine B1 ?_
 refine sD (nS (tT (rS ?_)))
 refine A9 (rC rfl (A2 rfl rfl)) ?_
 (rw [if_pos (by omega)]; exact ⟨rfl, _, rfl, hr1⟩)
 refine sD (nS (cF rfl (tK (nS (tS (tS (tR (sQ (A0 rfl) rfl (sL (A3 rfl rfl) rfl rfl ?_)))))))))
 refine sB (qE rfl rfl) rfl rfl (fun h38 => ?_) (fun h38 => ?_)
 refine sD (nS (qT rfl (tS (tR (sL (A2 rfl rfl) rfl rfl ?_)))))
 (refine E5 rfl (by first | exact hcb | exact hca) rfl rfl (fun v G1 hle1 hh => ?_); obtain ⟨cs1, F1, rfl, hs1, hn1⟩ := hh; obtain ⟨p1, c1, rfl, _⟩ := hs1.open; have hr1 := hs1.R.mono (C4.le G1 G))
 refine B1 ?_
 refine sD (nS (tT (rS ?_)))
 refine A9 (rC rfl (A2 rfl rfl)) ?_
 (rw [if_neg (by omega), if_pos (by omega)]; exact ⟨rfl, _, rfl, hr1⟩)
 refine sD (nS (cF rfl (tK (nS (tS (tR (sQ (A0 rfl) rfl (sL (A3 rfl rfl) rfl rfl (sQ (H6 rfl rfl) rfl ?_)))))))))
 refine sE (A7 rfl) rfl (fun b63 => ?_)
 refine B1 ?_
 refine sD (nS (tS (tS (tR (sQ (qA rfl) rfl (sD (nS ?_)))))))
 refine B9 ?_
 (obtain ⟨hlab, hcab⟩ := hcc (by omega) (by omega); refine S0 25 2 ?_; refine J4 (fun (x : Nat × Option Addr × Nat × List Ty × List (List Value) × IM) => ⟨[(6, .int .i64 x.1), (5, .pointer (some ⟨b63, 0, none⟩)), (4, .pointer (some ⟨b5, 0, none⟩)), (2, .pointer (some ⟨b3, 0, none⟩)), (3, .pointer (some ⟨b4, 0, none⟩))], [.blk b63 [.int .i64 ak, .slice x.2.1 x.1 x.2.2.1], .slc x.2.1 x.2.2.1 25 2 x.1 x.2.2.2.2.1.flatten, .blk b5 [.int .i64 0, .slice none 0 0], .blk b4 [.int .i64 bk, .slice pb bks.length ccb], .blk b3 [.int .i64 ak, .slice pa aks.length cca]], x.2.2.2.2.2⟩) (fun x => x.1 ≤ aks.length ∧ B8 G x.2.2.2.2.2 ∧ x.2.2.2.1.length = x.1 ∧ C6 x.2.2.2.2.2 x.2.2.2.1 x.2.2.2.2.1 ∧ x.2.2.2.1 = (T2 aks bks).take x.1) (fun x => aks.length - x.1) (0, none, 0, [], [], G) ?_ ?_ ?_)
 (simp only [I3]; exact D9)
 (exact ⟨by simp, B8.refl _, rfl, by simp [C6], rfl⟩)
 (rintro ⟨i, pn, cn, us, es', Gi⟩ ⟨hi, hle, hlu, hst, hus⟩; simp only [] at hi hle hlu hst hus ⊢; replace hsla := hsla.mono hle; replace hkla := hkla.mono hle; replace hslb := hslb.mono hle; replace hklb := hklb.mono hle)
 refine tS (tS (tR (sQ (qM rfl) rfl (sQ (A0 rfl) rfl (sL (A3 rfl rfl) rfl rfl (sQ (H8 rfl rfl) rfl ?_))))))
 refine sB (J1 rfl rfl) rfl rfl (fun h85 => ?_) (fun h85 => ?_)
 refine sD (nS (qT rfl (tK (nS (tS ?_)))))
 refine B9 ?_
 (obtain ⟨b, o, q0, d0, hp0, hat0, hre0, hg0⟩ := hsla.kidTy hkla (i := i) (by omega) (by omega); obtain ⟨b', o', q1, d1, hp1, hat1, hre1, hg1⟩ := hslb.kidTy hklb (i := i) (by omega) (by omega); subst hp0; subst hp1; have hih := ih aks[i] (List.getElem_mem (by omega)) bks[i] Gi _ _ (hcab i (by omega) (by omega)) (hka _ (List.getElem_mem (by omega))) (hkb _ (List.getElem_mem (by omega))) hre0 hre1; refine D4 D6 rfl ?_)
 refine I6 (i := 0) (l' := [tt,ff,ff,ff,ff,ff,ff,ff,ff,ff,ff,ff,ff,ff,ff,ff,ff]) rfl C9 (A0 rfl) rfl (by kernel_rfl) rfl rfl ?_
 refine aL 1 rfl (A3 rfl rfl) rfl ?_
 refine aP 2 rfl (A0 rfl) rfl ?_
 refine aL 3 rfl (A3 rfl rfl) rfl ?_
 refine aP 4 rfl (qM rfl) rfl ?_
 refine aP 5 rfl (B3 rfl rfl rfl (by omega)) rfl ?_
 refine aL 6 rfl (A5 rfl rfl (hat0 _) rfl) rfl ?_
 refine aP 7 rfl (A0 rfl) rfl ?_
 refine aL 8 rfl (A3 rfl rfl) rfl ?_
 refine aP 9 rfl (qM rfl) rfl ?_
 refine aP 10 rfl (B3 rfl rfl rfl (by omega)) rfl ?_
 refine aL 11 rfl (A5 rfl rfl (hat1 _) rfl) rfl ?_
 refine A4 12 ?_
 (refine F0 rfl rfl hih rfl rfl rfl (fun v G1 hle1 hh => ?_); obtain ⟨cells', rfl, hru⟩ := hh; generalize hu : U2 aks[i] bks[i] = u at hru; obtain ⟨p3, c3, es3, rfl, _⟩ := hru.open)
 refine A4 13 ?_
 (refine E0 rfl (C7 rfl rfl rfl (by omega) (by unfold maxLen; omega) rfl) rfl rfl ?_; rintro _ ⟨b109, rfl⟩)
 refine A4 14 ?_
 refine Q2 rfl rfl rfl rfl rfl rfl (fun _ _ => by repeat (first | exact Sw.here | apply Sw.there)) (M9 (by repeat first | exact mH | apply mT)) rfl (by simp [Value.oneCell']) (by unfold maxLen; omega) (by omega) rfl rfl (by repeat (first | exact A8.nil | apply A8.dep (by decide +kernel) | apply A8.blk (by decide +kernel) (by repeat (first | exact Pk.here | apply Pk.there)) (by repeat first | exact mH | apply mT))) (fun pn' cn' => ?_)
 refine aP 15 rfl (A0 rfl) rfl ?_
 refine A4 16 ?_
 refine Q6 rfl rfl rfl rfl rfl rfl rfl rfl (by decide +kernel) (by repeat first | exact Sw.here | apply Sw.there) (by rfl) ?_
 refine B5 (E3 (nS (tR (sQ (qM rfl) rfl ?_))))
 refine sP (I7 rfl rfl (by omega) (by omega)) rfl rfl ?_
 refine sQ (qA rfl) rfl (sD ?_)
 refine J3 (i + 1, pn', cn', us ++ [u], es' ++ [[.int .i64 u.k, .slice p3 u.ks.length c3]], G1) ?_ ?_ ?_
 (simp only [I3]; exact D9)
 (dsimp only; exact ⟨by omega, hle.trans hle1, by simp [hlu], C6.snoc (hst.mono hle1) hru, by rw [B1R hlab (by omega), ← hus, hu]⟩)
 (show aks.length - (i + 1) < aks.length - i; omega)
 refine sD (nS (cF rfl (M3 (M5 (N7 (M6 (nS (tS (tR (sL (A2 rfl rfl) rfl rfl (B1 ?_)))))))))))
 refine sD (nS ?_)
 (refine E9 (by repeat (first | exact Pk.here | apply Pk.there)) (fun G2 hle2 hsl2 hno2 => ?_); obtain rfl : i = aks.length := (by omega))
 refine tT ?_
 refine A9 (rC rfl (A2 rfl rfl)) ?_
 (rw [List.take_of_length_le (by rw [A4k _ _ hlab]; omega)] at hus; rw [if_neg (by omega), if_neg (by omega), ← hus]; exact ⟨rfl, _, rfl, (hst.mono hle2).ty hlu hsl2 hak⟩)
theorem gD {ts : List Ty} {i : Nat} (h : i < ts.length) : ts.getD i B4 = ts[i] := by rw [List.getD_eq_getElem?_getD, List.getElem?_eq_getElem h, Option.getD_some]
section
variable {cx : Cx} {k : Int} {nm : ByteArray} {ty : Ty} {ts : List Ty}
theorem A73 (h : 1 < ts.length) : V3 cx 6 nm ty ts = match Q3 4 ts[0] with | some (a, b) => if J5 ts[1] a = true then some b else none | none => none := by
 unfold V3 K0
 rw [gD (i := 0) (by omega), gD (i := 1) h]
 simp only [show ¬((6 : Int) = 1) by decide, show ¬((6 : Int) = 2) by decide, show ¬((6 : Int) = 3 ∨ (6 : Int) = 4) by decide, show ¬((6 : Int) = 5) by decide, if_false, if_true]
 cases Q3 4 ts[0] with
 | none => rfl
 | some p =>
  obtain ⟨a, b⟩ := p
  by_cases hc : J5 ts[1] a = true
  ·simp [hc]
  ·simp [hc]
theorem A4l (hk : k = 7 ∨ k = 8) (h : 1 < ts.length) : V3 cx k nm ty ts = if J5 ts[0] P4 = true ∧ J5 ts[1] P4 = true then some (if k = 8 then S6 else P4) else none := by
 unfold V3 K0
 rw [gD (i := 0) (by omega), gD (i := 1) h, if_neg (by omega), if_neg (by omega), if_neg (by omega), if_neg (by omega), if_neg (by omega), if_pos hk]
 by_cases hc : J5 ts[0] P4 = true ∧ J5 ts[1] P4 = true
 ·rw [if_pos hc, if_pos hc]; simp only; rw [if_neg (by omega)]
 ·rw [if_neg hc, if_neg hc]
theorem A74 (h : 2 < ts.length) : V3 cx 9 nm ty ts = if J5 ts[0] S6 = true ∧ J5 ts[1] ts[2] = true then some (U2 ts[1] ts[2]) else none := by
 unfold V3 K0
 rw [gD (i := 0) (by omega), gD (i := 1) (by omega), gD (i := 2) h, if_neg (by omega), if_neg (by omega), if_neg (by omega), if_neg (by omega), if_neg (by omega), if_neg (by omega), if_pos rfl]
 by_cases hc : J5 ts[0] S6 = true ∧ J5 ts[1] ts[2] = true
 ·rw [if_pos hc, if_pos hc]; simp
 ·rw [if_neg hc, if_neg hc]
theorem B1T (h : 1 < ts.length) : V3 cx 10 nm ty ts = if E4 (.mk 5 [ts[0], ts[1]]) = true then some (.mk 5 [ts[0], ts[1]]) else none := by
 unfold V3 K0
 rw [gD (i := 0) (by omega), gD (i := 1) h, if_neg (by omega), if_neg (by omega), if_neg (by omega), if_neg (by omega), if_neg (by omega), if_neg (by omega), if_neg (by omega), if_pos rfl]
 cases hv : E4 (.mk 5 [ts[0], ts[1]]) <;> simp [hv]
theorem B1U (h : 0 < ts.length) : V3 cx 13 nm ty ts = if J5 ts[0] ty = true then some ty else none := by
 unfold V3 K0
 rw [gD (i := 0) h, if_neg (by omega), if_neg (by omega), if_neg (by omega), if_neg (by omega), if_neg (by omega), if_neg (by omega), if_neg (by omega), if_neg (by omega), if_pos rfl]
 by_cases hc : J5 ts[0] ty = true
 ·rw [if_pos hc, if_pos hc]; simp
 ·rw [if_neg hc, if_neg hc]
theorem A4m (hk : k = 11 ∨ k = 12) (h : 0 < ts.length) : V3 cx k nm ty ts = match Q3 5 ts[0] with | some (a, b) => some (if k = 12 then b else a) | none => none := by
 unfold V3 K0
 rw [gD (i := 0) h, if_neg (by omega), if_neg (by omega), if_neg (by omega), if_neg (by omega), if_neg (by omega), if_neg (by omega), if_neg (by omega), if_neg (by omega), if_neg (by omega)]
 cases Q3 5 ts[0] with
 | none => rfl
 | some p =>
  obtain ⟨a, b⟩ := p
  simp only
  rw [if_neg (by omega)]
end
theorem B1V : ∀ (a b : Ty), J5 a b = true → E2 a → E2 b → E2 (U2 a b) := by
 refine Ty.ind fun k ks ih b hc ha hb => ?_
 obtain ⟨k', ks'⟩ := b
 rw [A2x]
 split
 ·exact hb
 ·split
  ·exact ha
  ·rw [U9] at hc
   simp only [Bool.or_eq_true, Bool.and_eq_true, decide_eq_true_eq] at hc
   obtain ⟨hk, hl⟩ : k = k' ∧ O3 ks ks' = true := by
    rcases hc with (h | h) | h
    ·contradiction
    ·contradiction
    ·exact h
   obtain ⟨hll, hcc⟩ := (A1E _ _).1 hl
   have hlen := A4k ks ks' hll
   refine A7I ha hlen fun u hu => ?_
   obtain ⟨i, hi, rfl⟩ := List.mem_iff_getElem.1 hu
   rw [A5I ks ks' i (by omega) (by omega)]
   exact ih _ (List.getElem_mem _) _ (hcc i (by omega) (by omega)) (ha.kid _ (List.getElem_mem _)) (hb.kid _ (List.getElem_mem _))
theorem B1W (cx : Cx) (k : Int) (nm : ByteArray) (num : Int) (ty fr : Ty) (lb : Int) (ks : List Tm) (ts : List Ty) (G : IM) (cells : List Value) (p : Option Addr) (c : Nat) (es : List (List Value))
  (hops : D0 k = ts.length) (hk6 : 6 ≤ k ∧ k ≤ 13) (hty : E2 ty) (hr : B0 G (.mk k nm num ty fr lb ks) cells) (hsl : D2 G p ts.length c 2 es) (hkl : C6 G ts es) (har : ∀ t ∈ ts, E2 t) :
  Fn Tryz.prog 161 [.agg ⟨cells⟩, .slice p ts.length c] [] G (O8 (V3 cx k nm ty ts) G) := by
 have hone := hr.one
 have hop := A2C hops
 have ha0 := fun h : 0 < ts.length => har _ (List.getElem_mem h)
 have ha1 := fun h : 1 < ts.length => har _ (List.getElem_mem h)
 have ha2 := fun h : 2 < ts.length => har _ (List.getElem_mem h)
 obtain ⟨tk, tks⟩ := ty
 obtain ⟨fk, fks⟩ := fr
 obtain ⟨pt, ct, pf, cf, pk, ck, ek, rfl, hk, hnum, hlb, hrty, hrfr, _, _⟩ := hr.open9
 refine C0 Tryz.func161 rfl Tryz.ntmps161 Tryz.results161 rfl ?_
 intro w0
 refine tS (tR ?_)
 refine sE (C5 rfl rfl) rfl (fun b3 => ?_)
 refine sE (A7 rfl) rfl (fun b4 => ?_)
 refine sQ (qA rfl) rfl (sD (nS (tS (tS (tR (sQ (A0 rfl) rfl (sL (A3 rfl rfl) rfl rfl (sD (nS ?_)))))))))
 refine B9 (tS (tR (sB (qE rfl rfl) rfl rfl (fun h18 => ?_) (fun h18 => ?_))))
 refine sQ (qA rfl) rfl (sD (nS (qT rfl (tS (tR (sQ (qM rfl) rfl ?_))))))
 (have hl2 : ts.length = 2 := hop.1 (by omega); obtain ⟨b0, o0, q0, d0, hp0, hat0, hre0, hg0⟩ := hsl.kidTy hkl (i := 0) (by omega) (by omega); obtain ⟨b1, o1, q1, d1, hp1, hat1, hre1, hg1⟩ := hsl.kidTy hkl (i := 1) (by omega) (by omega); cases hp0; cases hp1; refine sP (B3 (j := 0) rfl rfl rfl (by omega)) rfl rfl ?_)
 refine sL (A5 rfl rfl (hat0 _) rfl) rfl rfl ?_
 focus (refine E5 rfl (A2I 4 ts[0] G _ (.inl rfl) (ha0 (by omega)) hre0) rfl rfl (fun v G1 hle1 hh => ?_); obtain ⟨ma, mca, mb, mcb, rfl, hma, hmb, hma2, hmb2, hpp⟩ := hh; obtain ⟨p1, c1, e1, rfl, _⟩ := hma.open; obtain ⟨p2, c2, e2, rfl, _⟩ := hmb.open; replace hsl := hsl.mono hle1; replace hkl := hkl.mono hle1; rcases hm : Q3 4 ts[0] with _ | pr; rotate_left; obtain rfl := hpp _ hm; rotate_left; all_goals simp only [Option.isSome])
 refine sQ (qM rfl) rfl (sQ (pX rfl rfl) rfl (sQ (pX rfl rfl) rfl (sQ (pX rfl rfl) rfl ?_)))
 refine sE (A7 rfl) rfl (fun b33 => ?_)
 refine sE (A7 rfl) rfl (fun b34 => ?_)
 refine B1 ?_
 refine B1 ?_
 refine sQ (qA rfl) rfl (sD (nS (tS ?_)))
 (have hl2 : ts.length = 2 := hop.1 (by omega); obtain ⟨b0, o0, q0, d0, hp0, hat0, hre0, hg0⟩ := hsl.kidTy hkl (i := 0) (by omega) (by omega); obtain ⟨b1, o1, q1, d1, hp1, hat1, hre1, hg1⟩ := hsl.kidTy hkl (i := 1) (by omega) (by omega); cases hp0; cases hp1; refine D4 D6 rfl ?_)
 refine K2 (i := 0) (l' := [tt,ff,ff,ff,ff,ff,ff,ff,ff,ff,ff]) rfl C9 (A2 rfl rfl) rfl (by kernel_rfl) rfl rfl ?_
 refine aP 1 rfl (qM rfl) rfl ?_
 refine aP 2 rfl (qM rfl) rfl ?_
 refine C1 3 rfl rfl rfl ?_
 refine C1 4 rfl rfl rfl ?_
 refine C1 5 rfl rfl rfl ?_
 refine C1 6 rfl rfl rfl ?_
 refine C1 7 rfl rfl rfl ?_
 refine aP 8 rfl (D7 rfl rfl) rfl ?_
 refine A4 9 ?_
 refine F8 rfl ?_
 refine aP 10 rfl (qA rfl) rfl ?_
 refine B5 (nS (tT (rB (rS ?_))))
 refine H7 (rC rfl (A2 rfl rfl)) (rT rfl) ?_
 (obtain rfl : k = 6 := (by omega); exact O8.no (by rw [A73 (by omega), hm]) hmb hmb2)
 refine sQ (qM rfl) rfl (sQ (pX rfl rfl) rfl (sQ (pX rfl rfl) rfl (sQ (pX rfl rfl) rfl ?_)))
 refine sE (A7 rfl) rfl (fun b65 => ?_)
 refine sE (A7 rfl) rfl (fun b66 => ?_)
 refine B1 ?_
 refine B1 ?_
 refine sQ (qA rfl) rfl (sD (nS (tS ?_)))
 (have hl2 : ts.length = 2 := hop.1 (by omega); obtain ⟨b0, o0, q0, d0, hp0, hat0, hre0, hg0⟩ := hsl.kidTy hkl (i := 0) (by omega) (by omega); obtain ⟨b1, o1, q1, d1, hp1, hat1, hre1, hg1⟩ := hsl.kidTy hkl (i := 1) (by omega) (by omega); cases hp0; cases hp1; refine D4 D6 rfl ?_)
 refine K2 (i := 0) (l' := [tt,ff,ff,ff,ff,ff,ff,ff,ff,ff,ff]) rfl C9 (A2 rfl rfl) rfl (by kernel_rfl) rfl rfl ?_
 refine aP 1 rfl (qM rfl) rfl ?_
 refine aP 2 rfl (qM rfl) rfl ?_
 refine aP 3 rfl (qM rfl) rfl ?_
 refine aP 4 rfl (B3 (j := 1) rfl rfl rfl (by omega)) rfl ?_
 refine aL 5 rfl (A5 rfl rfl (hat1 _) rfl) rfl ?_
 refine aL 6 rfl (A2 rfl rfl) rfl ?_
 refine A4 7 ?_
 refine M7 rfl rfl ((A1u ts[1] ma _ _ _ (ha1 (by omega)) hma2 hre1 hma)) rfl rfl rfl ?_
 refine aP 8 rfl (C2 rfl rfl) rfl ?_
 refine A4 9 ?_
 refine F8 rfl ?_
 refine aP 10 rfl (qA rfl) rfl ?_
 refine B5 (nS (tT (rB (rS ?_))))
 refine H7 (rC rfl (A2 rfl rfl)) (rT rfl) ?_
 (obtain rfl : k = 6 := (by omega); exact O8.mk (by rw [A73 (by omega), hm]) hmb hmb2)
 refine sQ (qA rfl) rfl (sD (nS (cF rfl (tS (tR ?_)))))
 refine sB (qE rfl rfl) rfl rfl (fun h100 => ?_) (fun h100 => ?_)
 refine sQ (qA rfl) rfl (sD (nS (qT rfl (tS ?_))))
 (have hl2 : ts.length = 2 := hop.1 (by omega); obtain ⟨b0, o0, q0, d0, hp0, hat0, hre0, hg0⟩ := hsl.kidTy hkl (i := 0) (by omega) (by omega); obtain ⟨b1, o1, q1, d1, hp1, hat1, hre1, hg1⟩ := hsl.kidTy hkl (i := 1) (by omega) (by omega); cases hp0; cases hp1; refine D4 D6 rfl ?_)
 refine I6 (i := 1) (l' := [ff,tt,ff,ff,ff,ff,ff,ff,ff,ff,ff,ff,ff,ff,ff]) rfl C9 (qM rfl) rfl (by kernel_rfl) rfl rfl ?_
 refine aP 2 rfl (B3 (j := 0) rfl rfl rfl (by omega)) rfl ?_
 refine aL 3 rfl (A5 rfl rfl (hat0 _) rfl) rfl ?_
 refine A4 0 ?_
 refine M7 rfl rfl ((A0e _)) rfl rfl rfl ?_
 refine A4 4 ?_
 refine M7 rfl rfl ((A0e _)) rfl rfl rfl ?_
 refine A4 5 ?_
 refine S4 rfl rfl ((A1u ts[0] (.mk 2 []) _ _ _ (ha0 (by omega)) (S2 (by decide) (by decide)) hre0 (M1 _ ⟨by omega, by omega⟩))) rfl rfl rfl (fun h115 => ?_) (fun h115 => ?_)
 refine aP 6 rfl (qM rfl) rfl ?_
 refine aP 7 rfl (qM rfl) rfl ?_
 refine aP 8 rfl (B3 (j := 1) rfl rfl rfl (by omega)) rfl ?_
 refine aL 9 rfl (A5 rfl rfl (hat1 _) rfl) rfl ?_
 refine A4 10 ?_
 refine M7 rfl rfl ((A0e _)) rfl rfl rfl ?_
 refine A4 11 ?_
 refine M7 rfl rfl ((A1u ts[1] (.mk 2 []) _ _ _ (ha1 (by omega)) (S2 (by decide) (by decide)) hre1 (M1 _ ⟨by omega, by omega⟩))) rfl rfl rfl ?_
 refine aP 12 rfl (C2 rfl rfl) rfl ?_
 refine A4 13 ?_
 refine F8 rfl ?_
 refine aP 14 rfl (qA rfl) rfl ?_
 refine B5 (nS (tT (rB (rS ?_))))
 refine H7 (rC rfl (A2 rfl rfl)) (rT rfl) ?_
 (have hk7 : k = 7 := (by omega); exact O8.mk (by rw [A4l (.inl hk7) (by omega)]; simp_all [P4]) (M1 _ ⟨by omega, by omega⟩) (S2 (by omega) (by omega)))
 refine aP 6 rfl (qM rfl) rfl ?_
 refine C1 7 rfl rfl rfl ?_
 refine C1 8 rfl rfl rfl ?_
 refine C1 9 rfl rfl rfl ?_
 refine C1 10 rfl rfl rfl ?_
 refine C1 11 rfl rfl rfl ?_
 refine aP 12 rfl (D7 rfl rfl) rfl ?_
 refine A4 13 ?_
 refine F8 rfl ?_
 refine aP 14 rfl (qA rfl) rfl ?_
 refine B5 (nS (tT (rB (rS ?_))))
 refine H7 (rC rfl (A2 rfl rfl)) (rT rfl) ?_
 (have hk7 : k = 7 := (by omega); exact O8.mk (by rw [A4l (.inl hk7) (by omega)]; simp_all [P4]) (M1 _ ⟨by omega, by omega⟩) (S2 (by omega) (by omega)))
 refine sQ (qA rfl) rfl (sD (nS (cF rfl (tS (tR ?_)))))
 refine sB (qE rfl rfl) rfl rfl (fun h158 => ?_) (fun h158 => ?_)
 refine sQ (qA rfl) rfl (sD (nS (qT rfl (tS ?_))))
 (have hl2 : ts.length = 2 := hop.1 (by omega); obtain ⟨b0, o0, q0, d0, hp0, hat0, hre0, hg0⟩ := hsl.kidTy hkl (i := 0) (by omega) (by omega); obtain ⟨b1, o1, q1, d1, hp1, hat1, hre1, hg1⟩ := hsl.kidTy hkl (i := 1) (by omega) (by omega); cases hp0; cases hp1; refine D4 D6 rfl ?_)
 refine I6 (i := 1) (l' := [ff,tt,ff,ff,ff,ff,ff,ff,ff,ff,ff,ff,ff,ff,ff]) rfl C9 (qM rfl) rfl (by kernel_rfl) rfl rfl ?_
 refine aP 2 rfl (B3 (j := 0) rfl rfl rfl (by omega)) rfl ?_
 refine aL 3 rfl (A5 rfl rfl (hat0 _) rfl) rfl ?_
 refine A4 0 ?_
 refine M7 rfl rfl ((A2A _)) rfl rfl rfl ?_
 refine A4 4 ?_
 refine M7 rfl rfl ((A0e _)) rfl rfl rfl ?_
 refine A4 5 ?_
 refine S4 rfl rfl ((A1u ts[0] (.mk 2 []) _ _ _ (ha0 (by omega)) (S2 (by decide) (by decide)) hre0 (M1 _ ⟨by omega, by omega⟩))) rfl rfl rfl (fun h173 => ?_) (fun h173 => ?_)
 refine aP 6 rfl (qM rfl) rfl ?_
 refine aP 7 rfl (qM rfl) rfl ?_
 refine aP 8 rfl (B3 (j := 1) rfl rfl rfl (by omega)) rfl ?_
 refine aL 9 rfl (A5 rfl rfl (hat1 _) rfl) rfl ?_
 refine A4 10 ?_
 refine M7 rfl rfl ((A0e _)) rfl rfl rfl ?_
 refine A4 11 ?_
 refine M7 rfl rfl ((A1u ts[1] (.mk 2 []) _ _ _ (ha1 (by omega)) (S2 (by decide) (by decide)) hre1 (M1 _ ⟨by omega, by omega⟩))) rfl rfl rfl ?_
 refine aP 12 rfl (C2 rfl rfl) rfl ?_
 refine A4 13 ?_
 refine F8 rfl ?_
 refine aP 14 rfl (qA rfl) rfl ?_
 refine B5 (nS (tT (rB (rS ?_))))
 refine H7 (rC rfl (A2 rfl rfl)) (rT rfl) ?_
 (have hk8 : k = 8 := (by omega); exact O8.mk (by rw [A4l (.inr hk8) (by omega)]; simp_all [P4, S6]) (M1 _ ⟨by omega, by omega⟩) (S2 (by omega) (by omega)))
 refine aP 6 rfl (qM rfl) rfl ?_
 refine C1 7 rfl rfl rfl ?_
 refine C1 8 rfl rfl rfl ?_
 refine C1 9 rfl rfl rfl ?_
 refine C1 10 rfl rfl rfl ?_
 refine C1 11 rfl rfl rfl ?_
 refine aP 12 rfl (D7 rfl rfl) rfl ?_
 refine A4 13 ?_
 refine F8 rfl ?_
 refine aP 14 rfl (qA rfl) rfl ?_
 refine B5 (nS (tT (rB (rS ?_))))
 refine H7 (rC rfl (A2 rfl rfl)) (rT rfl) ?_
 (have hk8 : k = 8 := (by omega); exact O8.mk (by rw [A4l (.inr hk8) (by omega)]; simp_all [P4, S6]) (M1 _ ⟨by omega, by omega⟩) (S2 (by omega) (by omega)))
 refine sQ (qA rfl) rfl (sD (nS (cF rfl (tS (tR ?_)))))
 refine sB (qE rfl rfl) rfl rfl (fun h216 => ?_) (fun h216 => ?_)
 refine sQ (qA rfl) rfl (sD (nS (qT rfl (tS (tS ?_)))))
 (have hl3 : ts.length = 3 := hop.2.1 (by omega); obtain ⟨b0, o0, q0, d0, hp0, hat0, hre0, hg0⟩ := hsl.kidTy hkl (i := 0) (by omega) (by omega); obtain ⟨b1, o1, q1, d1, hp1, hat1, hre1, hg1⟩ := hsl.kidTy hkl (i := 1) (by omega) (by omega); obtain ⟨b2, o2, q2, d2, hp2, hat2, hre2, hg2⟩ := hsl.kidTy hkl (i := 2) (by omega) (by omega); cases hp0; cases hp1; cases hp2; refine D4 D6 rfl ?_)
 refine I6 (i := 0) (l' := [tt,ff,ff,ff,ff,ff,ff,ff]) rfl C9 (qM rfl) rfl (by kernel_rfl) rfl rfl ?_
 refine aP 1 rfl (B3 (j := 1) rfl rfl rfl (by omega)) rfl ?_
 refine aL 2 rfl (A5 rfl rfl (hat1 _) rfl) rfl ?_
 refine aP 3 rfl (qM rfl) rfl ?_
 refine aP 4 rfl (B3 (j := 2) rfl rfl rfl (by omega)) rfl ?_
 refine aL 5 rfl (A5 rfl rfl (hat2 _) rfl) rfl ?_
 refine A4 6 ?_
 refine S4 rfl rfl ((A1u ts[1] ts[2] _ _ _ (ha1 (by omega)) (ha2 (by omega)) hre1 hre2)) rfl rfl rfl (fun h231 => ?_) (fun h231 => ?_)
 refine aP 7 rfl (K4 rfl) rfl ?_
 refine B5 (nS (cF rfl (tK (nS (tS ?_)))))
 (have hl3 : ts.length = 3 := hop.2.1 (by omega); obtain ⟨b0, o0, q0, d0, hp0, hat0, hre0, hg0⟩ := hsl.kidTy hkl (i := 0) (by omega) (by omega); obtain ⟨b1, o1, q1, d1, hp1, hat1, hre1, hg1⟩ := hsl.kidTy hkl (i := 1) (by omega) (by omega); obtain ⟨b2, o2, q2, d2, hp2, hat2, hre2, hg2⟩ := hsl.kidTy hkl (i := 2) (by omega) (by omega); cases hp0; cases hp1; cases hp2; refine D4 D6 rfl ?_)
 refine I6 (i := 0) (l' := [tt,ff,ff,ff,ff,ff,ff,ff,ff,ff,ff,ff,ff,ff]) rfl C9 (qM rfl) rfl (by kernel_rfl) rfl rfl ?_
 refine aP 1 rfl (B3 (j := 1) rfl rfl rfl (by omega)) rfl ?_
 refine aL 2 rfl (A5 rfl rfl (hat1 _) rfl) rfl ?_
 refine aP 3 rfl (qM rfl) rfl ?_
 refine aP 4 rfl (B3 (j := 2) rfl rfl rfl (by omega)) rfl ?_
 refine aL 5 rfl (A5 rfl rfl (hat2 _) rfl) rfl ?_
 refine aP 7 rfl (qM rfl) rfl ?_
 refine aP 8 rfl (B3 (j := 0) rfl rfl rfl (by omega)) rfl ?_
 refine aL 9 rfl (A5 rfl rfl (hat0 _) rfl) rfl ?_
 refine A4 6 ?_
 (refine F0 rfl rfl (B1S ts[1] ts[2] G _ _ (by assumption) (ha1 (by omega)) (ha2 (by omega)) hre1 hre2) rfl rfl rfl (fun v G1 hle1 hh => ?_); obtain ⟨mc, rfl, hmr⟩ := hh; obtain ⟨mt, hmt⟩ : ∃ mt, U2 ts[1] ts[2] = mt := ⟨_, rfl⟩; rw [hmt] at hmr; have hma : E2 mt := (hmt ▸ B1V ts[1] ts[2] (by assumption) (ha1 (by omega)) (ha2 (by omega))); obtain ⟨p1, c1, e1, rfl, _⟩ := hmr.open; have hre0q := hre0.mono hle1)
 refine A4 10 ?_
 refine M7 rfl rfl ((A2A _)) rfl rfl rfl ?_
 refine A4 11 ?_
 refine M7 rfl rfl ((A1u ts[0] (.mk 3 []) _ _ _ (ha0 (by omega)) (S2 (by decide) (by decide)) hre0q (M1 _ ⟨by omega, by omega⟩))) rfl rfl rfl ?_
 refine A4 12 ?_
 refine F8 rfl ?_
 refine aP 13 rfl (qA rfl) rfl ?_
 refine B5 (nS (tT (rB (rS ?_))))
 refine H7 (rC rfl (A2 rfl rfl)) (rT rfl) ?_
 (obtain rfl : k = 9 := (by omega); exact O8.mk (by rw [A74 (by omega), hmt]; simp_all [S6]) hmr hma)
 refine aP 7 rfl (N8 rfl) rfl ?_
 refine B5 (nS (qT rfl (tS (tR (sQ (H6 rfl rfl) rfl (B1 ?_))))))
 refine sQ (qA rfl) rfl (sD (nS (tT (rS (rB (rS ?_))))))
 refine H7 (rC rfl (A2 rfl rfl)) (rT rfl) ?_
 (obtain rfl : k = 9 := (by omega); exact O8.no (by rw [A74 (by omega)]; simp_all) (M1 _ ⟨by omega, by omega⟩) (S2 (by omega) (by omega)))
 refine sQ (qA rfl) rfl (sD (nS (cF rfl (tS (tR ?_)))))
 refine sB (qE rfl rfl) rfl rfl (fun h288 => ?_) (fun h288 => ?_)
 refine sQ (qA rfl) rfl (sD (nS (qT rfl (tS ?_))))
 (have hl2 : ts.length = 2 := hop.1 (by omega); obtain ⟨b0, o0, q0, d0, hp0, hat0, hre0, hg0⟩ := hsl.kidTy hkl (i := 0) (by omega) (by omega); obtain ⟨b1, o1, q1, d1, hp1, hat1, hre1, hg1⟩ := hsl.kidTy hkl (i := 1) (by omega) (by omega); cases hp0; cases hp1; refine D4 D6 rfl ?_)
 refine I6 (i := 0) (l' := [tt,ff,ff,ff,ff,ff,ff,ff,ff,ff,ff]) rfl C9 (qM rfl) rfl (by kernel_rfl) rfl rfl ?_
 refine aP 1 rfl (B3 (j := 0) rfl rfl rfl (by omega)) rfl ?_
 refine aL 2 rfl (A5 rfl rfl (hat0 _) rfl) rfl ?_
 refine aP 3 rfl (qM rfl) rfl ?_
 refine aP 4 rfl (B3 (j := 1) rfl rfl rfl (by omega)) rfl ?_
 refine aL 5 rfl (A5 rfl rfl (hat1 _) rfl) rfl ?_
 refine A4 6 ?_
 (refine F0 rfl rfl (A2c 5 ts[0] ts[1] G _ _ (.inr rfl) (ha0 (by omega)) (ha1 (by omega)) hre0 hre1) rfl rfl rfl (fun v G1 hle1 hh => ?_); obtain ⟨mc, rfl, hmr⟩ := hh; have hma := A4c (.inr rfl) (ha0 (by omega)) (ha1 (by omega)); obtain ⟨p1, c1, e1, rfl, _⟩ := hmr.open)
 refine aP 7 rfl (pX rfl rfl) rfl ?_
 refine aP 8 rfl (pX rfl rfl) rfl ?_
 refine A4 9 ?_
 refine F8 rfl ?_
 refine aP 10 rfl (qA rfl) rfl ?_
 refine B5 (nS (tT (rB (rS ?_))))
 refine H7 (rC rfl (A2 rfl rfl)) (rT rfl) ?_
 (obtain rfl : k = 10 := (by omega); exact O8.mk (by rw [B1T (by omega)]) hmr hma)
 refine sQ (qA rfl) rfl (sD (nS (cF rfl (tS (tR ?_)))))
 refine sB (qE rfl rfl) rfl rfl (fun h321 => ?_) (fun h321 => ?_)
 refine sQ (qA rfl) rfl (sD (nS (qT rfl (tS (tR (sQ (qM rfl) rfl ?_))))))
 (have hl1 : ts.length = 1 := hop.2.2 (by omega); obtain ⟨b0, o0, q0, d0, hp0, hat0, hre0, hg0⟩ := hsl.kidTy hkl (i := 0) (by omega) (by omega); cases hp0; refine sP (B3 (j := 0) rfl rfl rfl (by omega)) rfl rfl ?_)
 refine sL (A5 rfl rfl (hat0 _) rfl) rfl rfl ?_
 focus (refine E5 rfl (A2I 5 ts[0] G _ (.inr rfl) (ha0 (by omega)) hre0) rfl rfl (fun v G1 hle1 hh => ?_); obtain ⟨ma, mca, mb, mcb, rfl, hma, hmb, hma2, hmb2, hpp⟩ := hh; obtain ⟨p1, c1, e1, rfl, _⟩ := hma.open; obtain ⟨p2, c2, e2, rfl, _⟩ := hmb.open; rcases hm : Q3 5 ts[0] with _ | pr; rotate_left; obtain rfl := hpp _ hm; rotate_left; all_goals simp only [Option.isSome])
 refine sQ (qM rfl) rfl (sQ (pX rfl rfl) rfl (sQ (pX rfl rfl) rfl (sQ (pX rfl rfl) rfl ?_)))
 refine sE (A7 rfl) rfl (fun b336 => ?_)
 refine sE (A7 rfl) rfl (fun b337 => ?_)
 refine O9 ?_
 refine H7 (rC rfl (A2 rfl rfl)) (rT rfl) ?_
 (have hk11 : k = 11 := (by omega); exact O8.no (by rw [A4m (.inl hk11) (by omega), hm]) hma hma2)
 refine sQ (qM rfl) rfl (sQ (pX rfl rfl) rfl (sQ (pX rfl rfl) rfl (sQ (pX rfl rfl) rfl ?_)))
 refine sE (A7 rfl) rfl (fun b360 => ?_)
 refine sE (A7 rfl) rfl (fun b361 => ?_)
 refine O9 ?_
 refine H7 (rC rfl (A2 rfl rfl)) (rT rfl) ?_
 (have hk11 : k = 11 := (by omega); exact O8.yes (by rw [A4m (.inl hk11) (by omega), hm]; simp only; rw [if_neg (by omega)]) hma hma2)
 refine sQ (qA rfl) rfl (sD (nS (cF rfl (tS (tR ?_)))))
 refine sB (qE rfl rfl) rfl rfl (fun h386 => ?_) (fun h386 => ?_)
 refine sQ (qA rfl) rfl (sD (nS (qT rfl (tS (tR (sQ (qM rfl) rfl ?_))))))
 (have hl1 : ts.length = 1 := hop.2.2 (by omega); obtain ⟨b0, o0, q0, d0, hp0, hat0, hre0, hg0⟩ := hsl.kidTy hkl (i := 0) (by omega) (by omega); cases hp0; refine sP (B3 (j := 0) rfl rfl rfl (by omega)) rfl rfl ?_)
 refine sL (A5 rfl rfl (hat0 _) rfl) rfl rfl ?_
 focus (refine E5 rfl (A2I 5 ts[0] G _ (.inr rfl) (ha0 (by omega)) hre0) rfl rfl (fun v G1 hle1 hh => ?_); obtain ⟨ma, mca, mb, mcb, rfl, hma, hmb, hma2, hmb2, hpp⟩ := hh; obtain ⟨p1, c1, e1, rfl, _⟩ := hma.open; obtain ⟨p2, c2, e2, rfl, _⟩ := hmb.open; rcases hm : Q3 5 ts[0] with _ | pr; rotate_left; obtain rfl := hpp _ hm; rotate_left; all_goals simp only [Option.isSome])
 refine sQ (qM rfl) rfl (sQ (pX rfl rfl) rfl (sQ (pX rfl rfl) rfl (sQ (pX rfl rfl) rfl ?_)))
 refine sE (A7 rfl) rfl (fun b401 => ?_)
 refine sE (A7 rfl) rfl (fun b402 => ?_)
 refine O9 ?_
 refine H7 (rC rfl (A2 rfl rfl)) (rT rfl) ?_
 (have hk12 : k = 12 := (by omega); exact O8.no (by rw [A4m (.inr hk12) (by omega), hm]) hmb hmb2)
 refine sQ (qM rfl) rfl (sQ (pX rfl rfl) rfl (sQ (pX rfl rfl) rfl (sQ (pX rfl rfl) rfl ?_)))
 refine sE (A7 rfl) rfl (fun b425 => ?_)
 refine sE (A7 rfl) rfl (fun b426 => ?_)
 refine O9 ?_
 refine H7 (rC rfl (A2 rfl rfl)) (rT rfl) ?_
 (have hk12 : k = 12 := (by omega); exact O8.yes (by rw [A4m (.inr hk12) (by omega), hm]; simp only; rw [if_pos (by omega)]) hmb hmb2)
 refine sQ (qA rfl) rfl (sD (nS (cF rfl (tS (tR ?_)))))
 refine sP (V5 rfl rfl (by omega)) rfl rfl ?_
 refine sQ (qA rfl) rfl (sD (nS (qT rfl (tS ?_))))
 (have hl1 : ts.length = 1 := hop.2.2 (by omega); obtain ⟨b0, o0, q0, d0, hp0, hat0, hre0, hg0⟩ := hsl.kidTy hkl (i := 0) (by omega) (by omega); cases hp0; refine D4 D6 rfl ?_)
 refine I6 (i := 0) (l' := [tt,ff,ff,ff,ff,ff,ff,ff,ff,ff,ff]) rfl C9 (A0 rfl) rfl (by kernel_rfl) rfl rfl ?_
 refine aL 1 rfl (A2 rfl rfl) rfl ?_
 refine aP 3 rfl (qM rfl) rfl ?_
 refine aP 4 rfl (B3 (j := 0) rfl rfl rfl (by omega)) rfl ?_
 refine aL 5 rfl (A5 rfl rfl (hat0 _) rfl) rfl ?_
 refine aP 6 rfl (A0 rfl) rfl ?_
 refine aL 7 rfl (A2 rfl rfl) rfl ?_
 refine A4 2 ?_
 (refine F0 rfl rfl (P0 (.mk tk tks) G _ hty.small hrty) rfl rfl rfl (fun v G1 hle1 hh => ?_); obtain ⟨cs1, F1, rfl, hs1, hn1⟩ := hh; obtain ⟨p1, c1, rfl, _⟩ := hs1.open; have hmr := hs1.R.mono (C4.le G1 G); have hre0q := hre0.mono hle1; have hrtyq := hrty.mono hle1)
 refine A4 8 ?_
 refine M7 rfl rfl ((A1u ts[0] (.mk tk tks) _ _ _ (ha0 (by omega)) hty hre0q hrtyq)) rfl rfl rfl ?_
 refine A4 9 ?_
 refine F8 rfl ?_
 refine aP 10 rfl (qA rfl) rfl ?_
 refine B5 (nS (tT (rB (rS ?_))))
 refine H7 (rC rfl (A2 rfl rfl)) (rT rfl) ?_
 (obtain rfl : k = 13 := (by omega); exact O8.mk (by rw [B1U (by omega)]) hmr hty)
theorem A3t {cx : Cx} : ∀ {ks : List Tm} {i : Nat} (hi : i < ks.length) {l l' l2 : Int} {us : List Tm} {h : List Ty} {u : Tm} {a : Ty}, M2 cx (ks.take i) l = some (us, h, l') → M8 cx ks[i] l' = some (u, a, l2) → M2 cx (ks.take (i + 1)) l = some (us ++ [u], h ++ [a], l2)
 | [], i, hi, _, _, _, _, _, _, _, _, _ => by simp at hi
 | t :: ts, 0, _, l, l', l2, us, h, u, a, h1, h2 => by
  simp only [List.take_zero, M2, Option.some.injEq, Prod.mk.injEq] at h1
  obtain ⟨rfl, rfl, rfl⟩ := h1
  simp only [List.getElem_cons_zero] at h2
  simp [M2, h2]
 | t :: ts, i + 1, hi, l, l', l2, us, h, u, a, h1, h2 => by
  simp only [List.take_succ_cons, M2] at h1 ⊢
  split at h1
  ·cases h1
  ·rename_i u1 a1 l1 he
   split at h1
   ·cases h1
   ·rename_i us1 h1' l1' hL
    simp only [Option.some.injEq, Prod.mk.injEq] at h1
    obtain ⟨rfl, rfl, rfl⟩ := h1
    simp only [List.getElem_cons_succ] at h2
    have := A3t (ks := ts) (i := i) (by simpa using hi) hL h2
    simp only [this, List.cons_append]
theorem A5J {cx : Cx} : ∀ {ks : List Tm} {i : Nat} (hi : i < ks.length) {l l' : Int} {us : List Tm} {h : List Ty}, M2 cx (ks.take i) l = some (us, h, l') → M8 cx ks[i] l' = none → M2 cx ks l = none
 | [], i, hi, _, _, _, _, _, _ => by simp at hi
 | t :: ts, 0, _, l, l', us, h, h1, h2 => by
  simp only [List.take_zero, M2, Option.some.injEq, Prod.mk.injEq] at h1
  obtain ⟨rfl, rfl, rfl⟩ := h1
  simp only [List.getElem_cons_zero] at h2
  simp [M2, h2]
 | t :: ts, i + 1, hi, l, l', us, h, h1, h2 => by
  simp only [List.take_succ_cons, M2] at h1 ⊢
  split at h1
  ·cases h1
  ·rename_i u1 a1 l1 he
   split at h1
   ·cases h1
   ·rename_i us1 h1' l1' hL
    simp only [Option.some.injEq, Prod.mk.injEq] at h1
    obtain ⟨rfl, rfl, rfl⟩ := h1
    simp only [List.getElem_cons_succ] at h2
    have := A5J (ks := ts) (i := i) (by simpa using hi) hL h2
    simp only [this]
theorem A0q (us : List Tm) (h : List Ty) (l : Int) : F4 us h [] l = (us, l) := by
 cases us with
 | nil => rfl
 | cons u us => cases h <;> rfl
theorem A3u : ∀ (us : List Tm) (h w : List Ty) (l : Int) (j : Nat) (hj : j < w.length) (hu : w.length ≤ us.length) (hh : w.length ≤ h.length),
  (F4 us h (w.take j) l).1.length = us.length ∧ (∀ (hq : j < (F4 us h (w.take j) l).1.length), (F4 us h (w.take j) l).1[j] = us[j]'(by omega)) ∧
  F4 us h (w.take (j + 1)) l = if N1 (h[j]'(by omega)) w[j] = true then F4 us h (w.take j) l else ((F4 us h (w.take j) l).1.set j (J9 (us[j]'(by omega)) (h[j]'(by omega)) w[j] ((F4 us h (w.take j) l).2 + 1)), (F4 us h (w.take j) l).2 + 1)
 | us, h, [], l, j, hj, _, _ => by simp at hj
 | [], h, b :: w, l, j, _, hu, _ => by simp at hu
 | u :: us, [], b :: w, l, j, _, _, hh => by simp at hh
 | u :: us, a :: h, b :: w, l, 0, _, _, _ => by
  refine ⟨by simp [F4], by simp [F4], ?_⟩
  simp only [List.take_succ_cons, List.take_zero, F4, A0q, List.getElem_cons_zero, List.set_cons_zero]
 | u :: us, a :: h, b :: w, l, j + 1, hj, hu, hh => by
  simp only [List.take_succ_cons, List.getElem_cons_succ]
  by_cases hs : N1 a b = true
  ·have ih := A3u us h w l j (by simpa using hj) (by simpa using hu) (by simpa using hh)
   simp only [F4, if_pos hs]
   obtain ⟨i1, i2, i3⟩ := ih
   refine ⟨by simp [i1], fun hq => by simp [i2], ?_⟩
   rw [i3]
   split <;> simp
  ·have ih := A3u us h w (l + 1) j (by simpa using hj) (by simpa using hu) (by simpa using hh)
   simp only [F4, if_neg hs]
   obtain ⟨i1, i2, i3⟩ := ih
   refine ⟨by simp [i1], fun hq => by simp [i2], ?_⟩
   rw [i3]
   split <;> simp
theorem A1w : ∀ (us : List Tm) (h w : List Ty) (l : Int), (F4 us h w l).1.length = us.length
 | [], h, w, l => by simp [F4]
 | u :: us, [], w, l => by simp [F4]
 | u :: us, a :: h, [], l => by simp [F4]
 | u :: us, a :: h, b :: w, l => by
  simp only [F4]
  split
  ·simp [A1w us h w l]
  ·simp [A1w us h w (l + 1)]
theorem A75 {us : List Tm} {h w : List Ty} {l : Int} {j : Nat} (hj : j < w.length) (hu : w.length ≤ us.length) (hh : w.length ≤ h.length) :
  (F4 us h (w.take (j + 1)) l).1 = (F4 us h (w.take j) l).1.set j (if N1 (h[j]'(by omega)) w[j] = true then us[j]'(by omega) else J9 (us[j]'(by omega)) (h[j]'(by omega)) w[j] ((F4 us h (w.take j) l).2 + 1)) ∧
  (F4 us h (w.take (j + 1)) l).2 = (if N1 (h[j]'(by omega)) w[j] = true then (F4 us h (w.take j) l).2 else (F4 us h (w.take j) l).2 + 1) := by
 obtain ⟨h1, h2, h3⟩ := A3u us h w l j hj hu hh
 by_cases hs : N1 (h[j]'(by omega)) w[j] = true
 ·rw [h3, if_pos hs, if_pos hs, if_pos hs]
  refine ⟨?_, rfl⟩
  rw [← h2 (by omega), List.set_getElem_self]
 ·rw [h3, if_neg hs, if_neg hs, if_neg hs]
  exact ⟨rfl, rfl⟩
theorem A09 : ∀ (us : List Tm) (h w : List Ty) (l : Int), l ≤ (F4 us h w l).2 ∧ (F4 us h w l).2 ≤ l + us.length
 | [], h, w, l => by simp [F4]
 | u :: us, [], w, l => by simp [F4]; omega
 | u :: us, a :: h, [], l => by simp [F4]; omega
 | u :: us, a :: h, b :: w, l => by
  simp only [F4]
  split
  ·have := A09 us h w l; simp only [List.length_cons]; omega
  ·have := A09 us h w (l + 1); simp only [List.length_cons]; omega
theorem B1X (G : IM) (p : Option Addr) (n c : Nat) (es : List (List Value)) (h : D2 G p n c 9 es) (h0 : 0 < n) (hn : n ≤ 4294967296) :
  Fn Tryz.prog 142 [.slice p n c] [] G (fun G' v outs => G' = G ∧ ∃ p' c', v = .slice p' n c' ∧ outs = [.slc p' c' 28 9 n es.flatten]) := by
 obtain ⟨hl, hc, hm, hat⟩ := h.sl
 obtain ⟨b, o, full, rfl, hg, hv⟩ := hat.resolve_left (by omega)
 have ho : ∀ u ∈ es.flatten, u.oneCell' = true := by
  intro u hu
  obtain ⟨e, he, hue⟩ := List.mem_flatten.1 hu
  exact List.all_eq_true.1 (h.one e he) u hue
 refine C0 Tryz.func142 rfl Tryz.ntmps142 Tryz.results142 rfl ?_
 intro w0
 refine tS (tR (sQ (qA rfl) rfl (sD (nS (tS (tS (tR (sQ (qM rfl) rfl ?_))))))))
 refine sQ (A6q rfl rfl rfl) rfl ?_
 refine sD (nS (cF rfl (tK (nS (tS (tR ?_))))))
 (refine I5 (C7 rfl rfl rfl (by omega) (by unfold maxLen; omega) rfl) rfl ?_; rintro _ ⟨b18, rfl⟩)
 refine sQ (qM rfl) rfl ?_
 refine A0M rfl rfl rfl rfl rfl (fun _ _ => by repeat (first | exact Sw.here | apply Sw.there)) (A3N hg hv) hl ho (by unfold maxLen; omega) (by omega) rfl (fun pn cn => ?_)
 refine sQ (qA rfl) rfl (sD (nS (tT ?_)))
 refine F9 (rT rfl) A1.refl ?_
 exact ⟨rfl, _, _, by rw [Nat.zero_add], by rw [Nat.zero_add]; rfl⟩
theorem At.mono' {hp : List A6} {G G' : IM} {b o : Nat} {vs : List Value} (hg : B8 G G') (h : At [] G b o vs) : At hp G' b o vs := by
 rcases h with ⟨cs, hm, hv⟩ | ⟨n, c, el, sz, cs, hm, hv⟩ | ⟨full, hx, hv⟩
 ·cases hm
 ·cases hm
 ·exact .inr (.inr ⟨full, hg _ _ hx, hv⟩)
theorem D2.kidD {G : IM} {p : Option Addr} {n c : Nat} {es : List (List Value)} {ks : List Ty} (h : D2 G p n c 2 es) (hk : C6 G ks es) {i : Nat} (hi : i < n) (hn : i < ks.length) :
  ∃ b o q d, p = some ⟨b, o, none⟩ ∧ (∀ hp, At hp G b (o + i * 2) [.int .i64 (ks.getD i B4).k, .slice q (ks.getD i B4).ks.length d]) ∧ B7 G (ks.getD i B4) [.int .i64 (ks.getD i B4).k, .slice q (ks.getD i B4).ks.length d] ∧ G b ≠ none := by
 obtain ⟨b, o, q, d, h1, h2, h3, h4⟩ := h.kidTy hk hi hn
 rw [List.getD_eq_getElem?_getD, List.getElem?_eq_getElem hn, Option.getD_some]
 exact ⟨b, o, q, d, h1, h2, h3, h4⟩
theorem A2J {hs : List Ty} (h : ∀ t ∈ hs, E2 t) {i : Nat} (hi : i < hs.length) : E2 (hs.getD i B4) := by
 rw [List.getD_eq_getElem?_getD, List.getElem?_eq_getElem hi, Option.getD_some]
 exact h _ (List.getElem_mem hi)
def K5 (r : Option (List Ty × Ty)) (G : IM) : IM → Value → List A6 → Prop := L8 fun G' v => ∃ p n c es w cu u, v = .tuple ⟨[.slice p n c, .agg ⟨cu⟩, .bool r.isSome]⟩ ∧ n = w.length ∧ D2 G' p n c 2 es ∧ C6 G' w es ∧ B7 G' u cu ∧ ∀ q, r = some q → q = (w, u)
theorem K5.mk {r : Option (List Ty × Ty)} {G G' : IM} {p : Option Addr} {n c : Nat} {es : List (List Value)} {w : List Ty} {cu : List Value} {u : Ty} {b : Bool} (hl : n = w.length) (hs : Sl G' p n c 2 es.flatten) (hw : C6 G' w es) (hu : B7 G' u cu) (h : r = if b = true then some (w, u) else none) :
  K5 r G G' (.tuple ⟨[.slice p n c, .agg ⟨cu⟩, .bool b]⟩) [] := by
 refine ⟨rfl, p, n, c, es, w, cu, u, ?_, hl, D2.of hs (by rw [hw.len, hl]) hw.all (fun e he => (hw.each e he).2), hw, hu, ?_⟩
 ·subst h; cases b <;> rfl
 ·subst h; cases b
  ·simp
  ·intro q hq; simpa using hq.symm
theorem K5.nil {r : Option (List Ty × Ty)} {G G' : IM} {cu : List Value} {u : Ty} {b : Bool} (hu : B7 G' u cu) (h : r = if b = true then some ([], u) else none) :
  K5 r G G' (.tuple ⟨[.slice none 0 0, .agg ⟨cu⟩, .bool b]⟩) [] := K5.mk (es := []) rfl (Sl.nil _ _) (by simp [C6]) hu h
theorem K5.one {r : Option (List Ty × Ty)} {G G' : IM} {p : Option Addr} {c : Nat} {a : Ty} {ca : List Value} {cu : List Value} {u : Ty} {b : Bool} (hs : Sl G' p 1 c 2 ca) (ha : B7 G' a ca) (hu : B7 G' u cu) (h : r = if b = true then some ([a], u) else none) :
  K5 r G G' (.tuple ⟨[.slice p 1 c, .agg ⟨cu⟩, .bool b]⟩) [] := K5.mk (es := [ca]) (w := [a]) rfl (by simpa using hs) ⟨_, _, rfl, ha, rfl⟩ hu h
theorem K5.two {r : Option (List Ty × Ty)} {G G' : IM} {p : Option Addr} {c : Nat} {a a2 : Ty} {ca ca2 : List Value} {cu : List Value} {u : Ty} {b : Bool} (hs : Sl G' p 2 c 2 (ca ++ ca2)) (ha : B7 G' a ca) (ha2 : B7 G' a2 ca2) (hu : B7 G' u cu) (h : r = if b = true then some ([a, a2], u) else none) :
  K5 r G G' (.tuple ⟨[.slice p 2 c, .agg ⟨cu⟩, .bool b]⟩) [] := K5.mk (es := [ca, ca2]) (w := [a, a2]) rfl (by simpa using hs) ⟨_, _, rfl, ha, _, _, rfl, ha2, rfl⟩ hu h
theorem K5.three {r : Option (List Ty × Ty)} {G G' : IM} {p : Option Addr} {c : Nat} {a a2 a3 : Ty} {ca ca2 ca3 : List Value} {cu : List Value} {u : Ty} {b : Bool} (hs : Sl G' p 3 c 2 (ca ++ (ca2 ++ ca3))) (ha : B7 G' a ca) (ha2 : B7 G' a2 ca2) (ha3 : B7 G' a3 ca3) (hu : B7 G' u cu) (h : r = if b = true then some ([a, a2, a3], u) else none) :
  K5 r G G' (.tuple ⟨[.slice p 3 c, .agg ⟨cu⟩, .bool b]⟩) [] := K5.mk (es := [ca, ca2, ca3]) (w := [a, a2, a3]) rfl (by simpa using hs) ⟨_, _, rfl, ha, _, _, rfl, ha2, _, _, rfl, ha3, rfl⟩ hu h
section
variable {cx : Cx} {nm : ByteArray} {ty : Ty} {h : List Ty}
theorem mW1 : K0 cx 1 nm ty h = match N2 cx nm with | some t => some ([], t) | none => none := rfl
theorem mW2 : K0 cx 2 nm ty h = some ([], P4) := rfl
theorem A3v {k : Int} (hk : k = 3 ∨ k = 4) : K0 cx k nm ty h = some ([], S6) := by rcases hk with rfl | rfl <;> rfl
theorem mW5 : K0 cx 5 nm ty h = some ([], .mk 4 [ty, h.getD 0 B4]) := rfl
theorem mW6 : K0 cx 6 nm ty h = match Q3 4 (h.getD 0 B4) with | some (a, b) => if J5 (h.getD 1 B4) a = true then some ([.mk 4 [a, b], a], b) else none | none => none := rfl
theorem U7 {k : Int} (hk : k = 7 ∨ k = 8) : K0 cx k nm ty h = if J5 (h.getD 0 B4) P4 = true ∧ J5 (h.getD 1 B4) P4 = true then some ([P4, P4], if k = 8 then S6 else P4) else none := by rcases hk with rfl | rfl <;> rfl
theorem mW9 : K0 cx 9 nm ty h = if J5 (h.getD 0 B4) S6 = true ∧ J5 (h.getD 1 B4) (h.getD 2 B4) = true then some ([S6, U2 (h.getD 1 B4) (h.getD 2 B4), U2 (h.getD 1 B4) (h.getD 2 B4)], U2 (h.getD 1 B4) (h.getD 2 B4)) else none := rfl
theorem A4n : K0 cx 10 nm ty h = some ([], .mk 5 [h.getD 0 B4, h.getD 1 B4]) := rfl
theorem A2d : K0 cx 13 nm ty h = if J5 (h.getD 0 B4) ty = true then some ([ty], ty) else none := rfl
theorem A2K {k : Int} (hk : k = 11 ∨ k = 12) : K0 cx k nm ty h = match Q3 5 (h.getD 0 B4) with | some (a, b) => some ([.mk 5 [a, b]], if k = 12 then b else a) | none => none := by rcases hk with rfl | rfl <;> rfl
end
theorem J7 (G : IM) : B7 G P4 [.int .i64 2, .slice none 0 0] := M1 G ⟨by omega, by omega⟩
theorem X8 (G : IM) : B7 G S6 [.int .i64 3, .slice none 0 0] := M1 G ⟨by omega, by omega⟩
theorem B1Y (cx : Cx) (k : Int) (nm : ByteArray) (num : Int) (ty fr : Ty) (lb : Int) (ks : List Tm) (h : List Ty) (G : IM) (pc : Option Addr) (nc cc : Nat) (cells : List Value) (p : Option Addr) (n c : Nat) (es : List (List Value))
  (hx : R3 G cx pc nc cc) (hops : D0 k = n) (hnl : n = h.length) (hk14 : k ≠ 14) (hta : E2 ty) (hr : B0 G (.mk k nm num ty fr lb ks) cells) (hsl : D2 G p n c 2 es) (hkl : C6 G h es) (har : ∀ t ∈ h, E2 t) :
  Fn Tryz.prog 67 [.slice pc nc cc, .agg ⟨cells⟩, .slice p n c] [] G (K5 (K0 cx k nm ty h) G) := by
 have hone := hr.one
 have hop := A2C hops
 have hkr : 1 ≤ k ∧ k ≤ 14 := by
  apply Classical.byContradiction
  intro hc
  rw [A4Z hc] at hops; omega
 obtain ⟨tyk, tyks⟩ := ty
 obtain ⟨fk, fks⟩ := fr
 obtain ⟨pt, ct, pf, cf, pk, ck, ek, rfl, hk, hnum, hlb, hrty, hrfr, _, _⟩ := hr.open9
 refine C0 Tryz.func67 rfl Tryz.ntmps67 Tryz.results67 rfl ?_
 intro w0
 refine tS (tR ?_)
 refine sE (C5 rfl rfl) rfl (fun b3 => ?_)
 refine sQ (qA rfl) rfl ?_
 refine sE (A7 rfl) rfl (fun b5 => ?_)
 refine sQ (qA rfl) rfl (sD (nS (tS (tR ?_))))
 refine H0 rfl ((A1p _ _)) rfl rfl ?_
 refine H0 rfl ((A1p _ _)) rfl rfl ?_
 refine sE (A7 rfl) rfl (fun b13 => ?_)
 refine sE (A7 rfl) rfl (fun b14 => ?_)
 refine B1 ?_
 refine B1 ?_
 refine sD (nS (tS (tS (tR (sQ (A0 rfl) rfl (sL (A3 rfl rfl) rfl rfl (sD (nS ?_))))))))
 refine B9 (tS (tR (sB (qE rfl rfl) rfl rfl (fun h29 => ?_) (fun h29 => ?_))))
 refine sQ (qA rfl) rfl (sD (nS (qT rfl (tS (tR (sQ (qM rfl) rfl (sQ (A0 rfl) rfl (sL (A3 rfl rfl) rfl rfl ?_))))))))
 (refine E5 rfl (B1N G cx pc nc cc nm hx) rfl rfl (fun v G1 hle1 hh => ?_); obtain ⟨cu, u, rfl, hru, hu⟩ := hh; obtain ⟨p1, c1, e1, rfl, _⟩ := hru.open)
 refine sQ (qM rfl) rfl (sQ (pX rfl rfl) rfl (sQ (pX rfl rfl) rfl ?_))
 refine sE (A7 rfl) rfl (fun b43 => ?_)
 refine B1 ?_
 refine sQ (qA rfl) rfl (sD (nS (tS ?_)))
 refine D4 D6 rfl ?_
 refine K2 (i := 0) (l' := [tt,ff,ff,ff,ff]) rfl C9 (A2 rfl rfl) rfl (by kernel_rfl) rfl rfl ?_
 refine aP 1 rfl (qM rfl) rfl ?_
 refine aP 2 rfl (qA rfl) rfl ?_
 refine A4 3 ?_
 refine F8 rfl ?_
 refine aP 4 rfl (qA rfl) rfl ?_
 refine B5 (nS (tT (rB (rS ?_))))
 refine C8 (rT rfl) (rC rfl (A2 rfl rfl)) (rT rfl) ?_
 (have hk1 : k = 1 := (by omega); subst hk1; rw [mW1]; refine K5.nil hru ?_; generalize N2 cx nm = r at hu ⊢; cases r with | none => rfl | some t => (rw [hu t rfl]; rfl))
 refine sQ (qA rfl) rfl (sD (nS (cF rfl (tS (tR ?_)))))
 refine sB (qE rfl rfl) rfl rfl (fun h69 => ?_) (fun h69 => ?_)
 refine sQ (qA rfl) rfl (sD (nS (qT rfl (tS ?_))))
 refine D4 D6 rfl ?_
 refine K2 (i := 0) (l' := [tt,ff,ff,ff]) rfl C9 (A2 rfl rfl) rfl (by kernel_rfl) rfl rfl ?_
 refine aP 1 rfl (qA rfl) rfl ?_
 refine A4 2 ?_
 refine F8 rfl ?_
 refine aP 3 rfl (qA rfl) rfl ?_
 refine B5 (nS (tT (rB (rS ?_))))
 refine C8 (rT rfl) (rC rfl (A2 rfl rfl)) (rT rfl) ?_
 (have hk1 : k = 2 := (by omega); subst hk1; exact K5.nil (J7 _) mW2)
 refine sQ (qA rfl) rfl (sD (nS (cF rfl (tS (tS (tR ?_))))))
 refine sB (qE rfl rfl) rfl rfl (fun h95 => ?_) (fun h95 => ?_)
 refine sQ (qA rfl) rfl (sD (nS (qT rfl (tK (nS (qT rfl (tS ?_)))))))
 refine D4 D6 rfl ?_
 refine K2 (i := 0) (l' := [tt,ff,ff,ff]) rfl C9 (A2 rfl rfl) rfl (by kernel_rfl) rfl rfl ?_
 refine aP 1 rfl (qA rfl) rfl ?_
 refine A4 2 ?_
 refine F8 rfl ?_
 refine aP 3 rfl (qA rfl) rfl ?_
 refine B5 (nS (tT (rB (rS ?_))))
 refine C8 (rT rfl) (rC rfl (A2 rfl rfl)) (rT rfl) ?_
 (exact K5.nil (X8 _) (by rw [A3v (by omega)]; rfl))
 refine sQ (qA rfl) rfl (sD (nS (cF rfl (tR ?_))))
 refine sB (qE rfl rfl) rfl rfl (fun h122 => ?_) (fun h122 => ?_)
 refine sQ (qA rfl) rfl (sD (nS (qT rfl (tS ?_))))
 refine D4 D6 rfl ?_
 refine K2 (i := 0) (l' := [tt,ff,ff,ff]) rfl C9 (A2 rfl rfl) rfl (by kernel_rfl) rfl rfl ?_
 refine aP 1 rfl (qA rfl) rfl ?_
 refine A4 2 ?_
 refine F8 rfl ?_
 refine aP 3 rfl (qA rfl) rfl ?_
 refine B5 (nS (tT (rB (rS ?_))))
 refine C8 (rT rfl) (rC rfl (A2 rfl rfl)) (rT rfl) ?_
 (exact K5.nil (X8 _) (by rw [A3v (by omega)]; rfl))
 refine sQ (qA rfl) rfl (sD (nS (cF rfl (tS (tR ?_)))))
 refine sB (qE rfl rfl) rfl rfl (fun h147 => ?_) (fun h147 => ?_)
 refine sQ (qA rfl) rfl (sD (nS (qT rfl (tS ?_))))
 (have hl1 : n = 1 := hop.2.2 (by omega); obtain ⟨b0, o0, q0, d0, hp0, hat0, hre0, hg0⟩ := hsl.kidD hkl (i := 0) (by omega) (by omega); cases hp0; refine D4 D6 rfl ?_)
 refine I6 (i := 0) (l' := [tt,ff,ff,ff,ff,ff,ff,ff,ff]) rfl C9 (A0 rfl) rfl (by kernel_rfl) rfl rfl ?_
 refine aL 1 rfl (A2 rfl rfl) rfl ?_
 refine aP 2 rfl (qM rfl) rfl ?_
 refine aP 3 rfl (B3 (j := 0) rfl rfl rfl (by omega)) rfl ?_
 refine aL 4 rfl (A5 rfl rfl (hat0 _) rfl) rfl ?_
 refine A4 5 ?_
 (refine F0 rfl rfl (A1M 4 _ _ _ _ _ ⟨by omega, by omega⟩ hrty hre0) rfl rfl rfl (fun v GB hleB hh => ?_); obtain ⟨cB, rfl, hrB⟩ := hh; obtain ⟨p7, c7, e7, rfl, _⟩ := hrB.open)
 refine aP 6 rfl (qA rfl) rfl ?_
 refine A4 7 ?_
 refine F8 rfl ?_
 refine aP 8 rfl (qA rfl) rfl ?_
 refine B5 (nS (tT (rB (rS ?_))))
 refine C8 (rT rfl) (rC rfl (A2 rfl rfl)) (rT rfl) ?_
 (have hk1 : k = 5 := (by omega); subst hk1; exact K5.nil hrB mW5)
 refine sQ (qA rfl) rfl (sD (nS (cF rfl (tS (tR ?_)))))
 refine sB (qE rfl rfl) rfl rfl (fun h178 => ?_) (fun h178 => ?_)
 refine sQ (qA rfl) rfl (sD (nS (qT rfl (tS (tR (sQ (qM rfl) rfl ?_))))))
 (have hl2 : n = 2 := hop.1 (by omega); obtain ⟨b0, o0, q0, d0, hp0, hat0, hre0, hg0⟩ := hsl.kidD hkl (i := 0) (by omega) (by omega); cases hp0; refine sP (B3 (j := 0) rfl rfl rfl (by omega)) rfl rfl ?_)
 refine sL (A5 rfl rfl (hat0 _) rfl) rfl rfl ?_
 (refine E5 rfl (A71 4 (h.getD 0 B4) G _ (.inl rfl) (A2J har (by omega)) hre0) rfl rfl (fun v G1 hle1 hh => ?_); obtain ⟨ma, mca, mb, mcb, rfl, hma, hmb, hma2, hmb2, hmm⟩ := hh; obtain ⟨p1, c1, e1, rfl, _⟩ := hma.open; obtain ⟨p2, c2, e2, rfl, _⟩ := hmb.open; replace hsl := hsl.mono hle1; replace hkl := hkl.mono hle1; generalize hmi : (Q3 4 (h.getD 0 B4)).isSome = mi; cases mi)
 refine sQ (qM rfl) rfl (sQ (pX rfl rfl) rfl (sQ (pX rfl rfl) rfl (sQ (pX rfl rfl) rfl ?_)))
 refine sE (A7 rfl) rfl (fun b193 => ?_)
 refine sE (A7 rfl) rfl (fun b194 => ?_)
 refine B1 ?_
 refine B1 ?_
 refine sQ (qA rfl) rfl (sD (nS (tS ?_)))
 (have hl2 : n = 2 := hop.1 (by omega); obtain ⟨b0, o0, q0, d0, hp0, hat0, hre0, hg0⟩ := hsl.kidD hkl (i := 0) (by omega) (by omega); obtain ⟨b1, o1, q1, d1, hp1, hat1, hre1, hg1⟩ := hsl.kidD hkl (i := 1) (by omega) (by omega); cases hp0; cases hp1; refine D4 D6 rfl ?_)
 refine K2 (i := 0) (l' := [tt,ff,ff,ff,ff,ff,ff,ff,ff,ff,ff,ff,ff,ff,ff,ff,ff]) rfl C9 (A2 rfl rfl) rfl (by kernel_rfl) rfl rfl ?_
 refine aL 1 rfl (A2 rfl rfl) rfl ?_
 refine aL 3 rfl (A2 rfl rfl) rfl ?_
 refine aL 5 rfl (A2 rfl rfl) rfl ?_
 refine aP 6 rfl (qM rfl) rfl ?_
 refine A4 2 ?_
 (refine F0 rfl rfl (A1M _ ma mb _ _ _ ⟨by omega, by omega⟩ hma hmb) rfl rfl rfl (fun v GB hleB hh => ?_); obtain ⟨cB, rfl, hrB⟩ := hh; obtain ⟨p7, c7, e7, rfl, _⟩ := hrB.open; have hma' := hma.mono hleB; have hmb' := hmb.mono hleB)
 refine aP 7 rfl (qM rfl) rfl ?_
 refine C1 8 rfl rfl rfl ?_
 refine C1 9 rfl rfl rfl ?_
 refine C1 10 rfl rfl rfl ?_
 refine C1 11 rfl rfl rfl ?_
 refine Q1 (j := 4) (j' := 12) (by kernel_rfl) ?_ ?_
 (refine E0 rfl (C7 rfl rfl rfl (by omega) (by unfold maxLen; omega) rfl) rfl rfl ?_; rintro _ ⟨b215, rfl⟩)
 refine C1 12 rfl rfl rfl ?_
 refine aP 13 rfl (D7 rfl rfl) rfl ?_
 refine aP 14 rfl (qA rfl) rfl ?_
 refine A4 15 ?_
 refine F8 rfl ?_
 refine aP 16 rfl (qA rfl) rfl ?_
 refine B5 (nS ?_)
 (refine E9 Pk.here (fun G5 hle5 hsl5 hno5 => ?_))
 refine tT (rB (rS ?_))
 refine C8 (rT rfl) (rC rfl (A2 rfl rfl)) (rT rfl) ?_
 (have hk1 : k = 6 := (by omega); subst hk1; refine K5.two hsl5 (hrB.mono hle5) (hma'.mono hle5) (hmb'.mono hle5) ?_; rw [mW6]; cases hq : Q3 4 (h.getD 0 B4) with | none => rfl | some q => (rw [hq] at hmi; cases hmi))
 refine A4X (l' := [tt,tt,tt,tt,ff,tt,tt,tt,tt,tt,tt,tt,tt,ff,ff,ff,ff]) rfl rfl rfl rfl ?_
 refine aP 13 rfl (D7 rfl rfl) rfl ?_
 refine A4 4 ?_
 (refine E0 rfl (C7 rfl rfl rfl (by omega) (by unfold maxLen; omega) rfl) rfl rfl ?_; rintro _ ⟨b233, rfl⟩)
 refine aP 14 rfl (qA rfl) rfl ?_
 refine A4 15 ?_
 refine F8 rfl ?_
 refine aP 16 rfl (qA rfl) rfl ?_
 refine B5 (nS ?_)
 (refine E9 Pk.here (fun G5 hle5 hsl5 hno5 => ?_))
 refine tT (rB (rS ?_))
 refine C8 (rT rfl) (rC rfl (A2 rfl rfl)) (rT rfl) ?_
 (have hk1 : k = 6 := (by omega); subst hk1; refine K5.two hsl5 (hrB.mono hle5) (hma'.mono hle5) (hmb'.mono hle5) ?_; rw [mW6]; cases hq : Q3 4 (h.getD 0 B4) with | none => rfl | some q => (rw [hq] at hmi; cases hmi))
 refine sQ (qM rfl) rfl (sQ (pX rfl rfl) rfl (sQ (pX rfl rfl) rfl (sQ (pX rfl rfl) rfl ?_)))
 refine sE (A7 rfl) rfl (fun b250 => ?_)
 refine sE (A7 rfl) rfl (fun b251 => ?_)
 refine B1 ?_
 refine B1 ?_
 refine sQ (qA rfl) rfl (sD (nS (tS ?_)))
 (have hl2 : n = 2 := hop.1 (by omega); obtain ⟨b0, o0, q0, d0, hp0, hat0, hre0, hg0⟩ := hsl.kidD hkl (i := 0) (by omega) (by omega); obtain ⟨b1, o1, q1, d1, hp1, hat1, hre1, hg1⟩ := hsl.kidD hkl (i := 1) (by omega) (by omega); cases hp0; cases hp1; refine D4 D6 rfl ?_)
 refine K2 (i := 0) (l' := [tt,ff,ff,ff,ff,ff,ff,ff,ff,ff,ff,ff,ff,ff,ff,ff,ff]) rfl C9 (A2 rfl rfl) rfl (by kernel_rfl) rfl rfl ?_
 refine aL 1 rfl (A2 rfl rfl) rfl ?_
 refine aL 3 rfl (A2 rfl rfl) rfl ?_
 refine aL 5 rfl (A2 rfl rfl) rfl ?_
 refine aP 6 rfl (qM rfl) rfl ?_
 refine A4 2 ?_
 (refine F0 rfl rfl (A1M _ ma mb _ _ _ ⟨by omega, by omega⟩ hma hmb) rfl rfl rfl (fun v GB hleB hh => ?_); obtain ⟨cB, rfl, hrB⟩ := hh; obtain ⟨p7, c7, e7, rfl, _⟩ := hrB.open; have hma' := hma.mono hleB; have hmb' := hmb.mono hleB)
 refine aP 7 rfl (qM rfl) rfl ?_
 refine aP 8 rfl (qM rfl) rfl ?_
 refine aP 9 rfl (B3 (j := 1) rfl rfl rfl (by omega)) rfl ?_
 refine aL 10 rfl (A5 rfl rfl (At.mono' hleB (hat1 _)) rfl) rfl ?_
 refine aL 11 rfl (A2 rfl rfl) rfl ?_
 refine Q1 (j := 4) (j' := 12) (by kernel_rfl) ?_ ?_
 (refine E0 rfl (C7 rfl rfl rfl (by omega) (by unfold maxLen; omega) rfl) rfl rfl ?_; rintro _ ⟨b272, rfl⟩)
 refine A4 12 ?_
 refine S4 rfl rfl ((X6 _ _ _ _ _ (hre1.mono hleB) hma')) rfl rfl rfl (fun h274 => ?_) (fun h274 => ?_)
 refine aP 13 rfl (C2 rfl rfl) rfl ?_
 refine aP 14 rfl (qA rfl) rfl ?_
 refine A4 15 ?_
 refine F8 rfl ?_
 refine aP 16 rfl (qA rfl) rfl ?_
 refine B5 (nS ?_)
 (refine E9 Pk.here (fun G5 hle5 hsl5 hno5 => ?_))
 refine tT (rB (rS ?_))
 refine C8 (rT rfl) (rC rfl (A2 rfl rfl)) (rT rfl) ?_
 (have hk1 : k = 6 := (by omega); subst hk1; refine K5.two hsl5 (hrB.mono hle5) (hma'.mono hle5) (hmb'.mono hle5) ?_; rw [mW6]; cases hq : Q3 4 (h.getD 0 B4) with | none => (rw [hq] at hmi; cases hmi) | some q => (have hq2 := hmm q hq; subst hq2; dsimp only; split <;> first | rfl | (exfalso; simp_all; done)))
 refine aP 13 rfl (C2 rfl rfl) rfl ?_
 refine aP 14 rfl (qA rfl) rfl ?_
 refine A4 15 ?_
 refine F8 rfl ?_
 refine aP 16 rfl (qA rfl) rfl ?_
 refine B5 (nS ?_)
 (refine E9 Pk.here (fun G5 hle5 hsl5 hno5 => ?_))
 refine tT (rB (rS ?_))
 refine C8 (rT rfl) (rC rfl (A2 rfl rfl)) (rT rfl) ?_
 (have hk1 : k = 6 := (by omega); subst hk1; refine K5.two hsl5 (hrB.mono hle5) (hma'.mono hle5) (hmb'.mono hle5) ?_; rw [mW6]; cases hq : Q3 4 (h.getD 0 B4) with | none => (rw [hq] at hmi; cases hmi) | some q => (have hq2 := hmm q hq; subst hq2; dsimp only; split <;> first | rfl | (exfalso; simp_all; done)))
 refine S4 rfl rfl ((X6 _ _ _ _ _ (hre1.mono hleB) hma')) rfl rfl rfl (fun h301 => ?_) (fun h301 => ?_)
 refine aP 13 rfl (C2 rfl rfl) rfl ?_
 refine A4 4 ?_
 (refine E0 rfl (C7 rfl rfl rfl (by omega) (by unfold maxLen; omega) rfl) rfl rfl ?_; rintro _ ⟨b304, rfl⟩)
 refine aP 14 rfl (qA rfl) rfl ?_
 refine A4 15 ?_
 refine F8 rfl ?_
 refine aP 16 rfl (qA rfl) rfl ?_
 refine B5 (nS ?_)
 (refine E9 Pk.here (fun G5 hle5 hsl5 hno5 => ?_))
 refine tT (rB (rS ?_))
 refine C8 (rT rfl) (rC rfl (A2 rfl rfl)) (rT rfl) ?_
 (have hk1 : k = 6 := (by omega); subst hk1; refine K5.two hsl5 (hrB.mono hle5) (hma'.mono hle5) (hmb'.mono hle5) ?_; rw [mW6]; cases hq : Q3 4 (h.getD 0 B4) with | none => (rw [hq] at hmi; cases hmi) | some q => (have hq2 := hmm q hq; subst hq2; dsimp only; split <;> first | rfl | (exfalso; simp_all; done)))
 refine aP 13 rfl (C2 rfl rfl) rfl ?_
 refine A4 4 ?_
 (refine E0 rfl (C7 rfl rfl rfl (by omega) (by unfold maxLen; omega) rfl) rfl rfl ?_; rintro _ ⟨b319, rfl⟩)
 refine aP 14 rfl (qA rfl) rfl ?_
 refine A4 15 ?_
 refine F8 rfl ?_
 refine aP 16 rfl (qA rfl) rfl ?_
 refine B5 (nS ?_)
 (refine E9 Pk.here (fun G5 hle5 hsl5 hno5 => ?_))
 refine tT (rB (rS ?_))
 refine C8 (rT rfl) (rC rfl (A2 rfl rfl)) (rT rfl) ?_
 (have hk1 : k = 6 := (by omega); subst hk1; refine K5.two hsl5 (hrB.mono hle5) (hma'.mono hle5) (hmb'.mono hle5) ?_; rw [mW6]; cases hq : Q3 4 (h.getD 0 B4) with | none => (rw [hq] at hmi; cases hmi) | some q => (have hq2 := hmm q hq; subst hq2; dsimp only; split <;> first | rfl | (exfalso; simp_all; done)))
 refine sQ (qA rfl) rfl (sD (nS (cF rfl (tS (tS (tR ?_))))))
 refine sB (qE rfl rfl) rfl rfl (fun h339 => ?_) (fun h339 => ?_)
 refine sQ (qA rfl) rfl (sD (nS (qT rfl (tK (nS (qT rfl (tS (tR (sL (A2 rfl rfl) rfl rfl ?_)))))))))
 refine sE (A7 rfl) rfl (fun b350 => ?_)
 refine B1 ?_
 refine sD (nS (tS (tS (tR (sQ (A0 rfl) rfl (sL (A3 rfl rfl) rfl rfl ?_))))))
 refine sP (I2 rfl rfl (by omega)) rfl rfl ?_
 refine sD (nS (cF rfl (tK (nS (tS ?_)))))
 (have hl2 : n = 2 := hop.1 (by omega); obtain ⟨b0, o0, q0, d0, hp0, hat0, hre0, hg0⟩ := hsl.kidD hkl (i := 0) (by omega) (by omega); obtain ⟨b1, o1, q1, d1, hp1, hat1, hre1, hg1⟩ := hsl.kidD hkl (i := 1) (by omega) (by omega); cases hp0; cases hp1; refine D4 D6 rfl ?_)
 refine K2 (i := 0) (l' := [tt,ff,ff,ff,ff,ff,ff,ff,ff,ff,ff,ff,ff,ff,ff,ff,ff,ff,ff]) rfl C9 (A2 rfl rfl) rfl (by kernel_rfl) rfl rfl ?_
 refine aL 1 rfl (A2 rfl rfl) rfl ?_
 refine aL 3 rfl (A2 rfl rfl) rfl ?_
 refine aP 4 rfl (qM rfl) rfl ?_
 refine aP 5 rfl (B3 (j := 0) rfl rfl rfl (by omega)) rfl ?_
 refine aL 6 rfl (A5 rfl rfl (hat0 _) rfl) rfl ?_
 refine aL 7 rfl (A2 rfl rfl) rfl ?_
 refine Q1 (j := 2) (j' := 8) (by kernel_rfl) ?_ ?_
 (refine E0 rfl (C7 rfl rfl rfl (by omega) (by unfold maxLen; omega) rfl) rfl rfl ?_; rintro _ ⟨b375, rfl⟩)
 refine A4 8 ?_
 refine S4 rfl rfl ((X6 _ _ _ _ _ hre0 (J7 _))) rfl rfl rfl (fun h377 => ?_) (fun h377 => ?_)
 refine aP 9 rfl (qM rfl) rfl ?_
 refine aP 10 rfl (qM rfl) rfl ?_
 refine aP 11 rfl (B3 (j := 1) rfl rfl rfl (by omega)) rfl ?_
 refine aL 12 rfl (A5 rfl rfl (hat1 _) rfl) rfl ?_
 refine aL 13 rfl (A2 rfl rfl) rfl ?_
 refine A4 14 ?_
 refine S4 rfl rfl ((X6 _ _ _ _ _ hre1 (J7 _))) rfl rfl rfl (fun h384 => ?_) (fun h384 => ?_)
 refine aP 15 rfl (C2 rfl rfl) rfl ?_
 refine aP 16 rfl (qA rfl) rfl ?_
 refine A4 17 ?_
 refine F8 rfl ?_
 refine aP 18 rfl (qA rfl) rfl ?_
 refine B5 (nS ?_)
 (refine E9 Pk.here (fun G5 hle5 hsl5 hno5 => ?_))
 refine tT (rB (rS ?_))
 refine C8 (rT rfl) (rC rfl (A2 rfl rfl)) (rT rfl) ?_
 (refine K5.two hsl5 (J7 _) (J7 _) (J7 _) ?_; rw [U7 (by omega)]; first | (rw [if_pos ⟨by assumption, by assumption⟩, if_neg (by omega)]; rfl) | (rw [if_neg (fun hc => by first | exact Bool.noConfusion (hc.1.symm.trans (by assumption)) | exact Bool.noConfusion (hc.2.symm.trans (by assumption)) | exact Bool.noConfusion (hc.symm.trans (by assumption)))]; rfl))
 refine aP 15 rfl (C2 rfl rfl) rfl ?_
 refine aP 16 rfl (qA rfl) rfl ?_
 refine A4 17 ?_
 refine F8 rfl ?_
 refine aP 18 rfl (qA rfl) rfl ?_
 refine B5 (nS ?_)
 (refine E9 Pk.here (fun G5 hle5 hsl5 hno5 => ?_))
 refine tT (rB (rS ?_))
 refine C8 (rT rfl) (rC rfl (A2 rfl rfl)) (rT rfl) ?_
 (refine K5.two hsl5 (J7 _) (J7 _) (J7 _) ?_; rw [U7 (by omega)]; first | (rw [if_pos ⟨by assumption, by assumption⟩, if_neg (by omega)]; rfl) | (rw [if_neg (fun hc => by first | exact Bool.noConfusion (hc.1.symm.trans (by assumption)) | exact Bool.noConfusion (hc.2.symm.trans (by assumption)) | exact Bool.noConfusion (hc.symm.trans (by assumption)))]; rfl))
 refine aP 9 rfl (qM rfl) rfl ?_
 refine C1 10 rfl rfl rfl ?_
 refine C1 11 rfl rfl rfl ?_
 refine C1 12 rfl rfl rfl ?_
 refine C1 13 rfl rfl rfl ?_
 refine C1 14 rfl rfl rfl ?_
 refine aP 15 rfl (D7 rfl rfl) rfl ?_
 refine aP 16 rfl (qA rfl) rfl ?_
 refine A4 17 ?_
 refine F8 rfl ?_
 refine aP 18 rfl (qA rfl) rfl ?_
 refine B5 (nS ?_)
 (refine E9 Pk.here (fun G5 hle5 hsl5 hno5 => ?_))
 refine tT (rB (rS ?_))
 refine C8 (rT rfl) (rC rfl (A2 rfl rfl)) (rT rfl) ?_
 (refine K5.two hsl5 (J7 _) (J7 _) (J7 _) ?_; rw [U7 (by omega)]; first | (rw [if_pos ⟨by assumption, by assumption⟩, if_neg (by omega)]; rfl) | (rw [if_neg (fun hc => by first | exact Bool.noConfusion (hc.1.symm.trans (by assumption)) | exact Bool.noConfusion (hc.2.symm.trans (by assumption)) | exact Bool.noConfusion (hc.symm.trans (by assumption)))]; rfl))
 refine S4 rfl rfl ((X6 _ _ _ _ _ hre0 (J7 _))) rfl rfl rfl (fun h430 => ?_) (fun h430 => ?_)
 refine aP 9 rfl (qM rfl) rfl ?_
 refine aP 10 rfl (qM rfl) rfl ?_
 refine aP 11 rfl (B3 (j := 1) rfl rfl rfl (by omega)) rfl ?_
 refine aL 12 rfl (A5 rfl rfl (hat1 _) rfl) rfl ?_
 refine aL 13 rfl (A2 rfl rfl) rfl ?_
 refine Q1 (j := 2) (j' := 14) (by kernel_rfl) ?_ ?_
 (refine E0 rfl (C7 rfl rfl rfl (by omega) (by unfold maxLen; omega) rfl) rfl rfl ?_; rintro _ ⟨b437, rfl⟩)
 refine A4 14 ?_
 refine S4 rfl rfl ((X6 _ _ _ _ _ hre1 (J7 _))) rfl rfl rfl (fun h439 => ?_) (fun h439 => ?_)
 refine aP 15 rfl (C2 rfl rfl) rfl ?_
 refine aP 16 rfl (qA rfl) rfl ?_
 refine A4 17 ?_
 refine F8 rfl ?_
 refine aP 18 rfl (qA rfl) rfl ?_
 refine B5 (nS ?_)
 (refine E9 Pk.here (fun G5 hle5 hsl5 hno5 => ?_))
 refine tT (rB (rS ?_))
 refine C8 (rT rfl) (rC rfl (A2 rfl rfl)) (rT rfl) ?_
 (refine K5.two hsl5 (J7 _) (J7 _) (J7 _) ?_; rw [U7 (by omega)]; first | (rw [if_pos ⟨by assumption, by assumption⟩, if_neg (by omega)]; rfl) | (rw [if_neg (fun hc => by first | exact Bool.noConfusion (hc.1.symm.trans (by assumption)) | exact Bool.noConfusion (hc.2.symm.trans (by assumption)) | exact Bool.noConfusion (hc.symm.trans (by assumption)))]; rfl))
 refine aP 15 rfl (C2 rfl rfl) rfl ?_
 refine aP 16 rfl (qA rfl) rfl ?_
 refine A4 17 ?_
 refine F8 rfl ?_
 refine aP 18 rfl (qA rfl) rfl ?_
 refine B5 (nS ?_)
 (refine E9 Pk.here (fun G5 hle5 hsl5 hno5 => ?_))
 refine tT (rB (rS ?_))
 refine C8 (rT rfl) (rC rfl (A2 rfl rfl)) (rT rfl) ?_
 (refine K5.two hsl5 (J7 _) (J7 _) (J7 _) ?_; rw [U7 (by omega)]; first | (rw [if_pos ⟨by assumption, by assumption⟩, if_neg (by omega)]; rfl) | (rw [if_neg (fun hc => by first | exact Bool.noConfusion (hc.1.symm.trans (by assumption)) | exact Bool.noConfusion (hc.2.symm.trans (by assumption)) | exact Bool.noConfusion (hc.symm.trans (by assumption)))]; rfl))
 refine S4 rfl rfl ((X6 _ _ _ _ _ hre1 (J7 _))) rfl rfl rfl (fun h466 => ?_) (fun h466 => ?_)
 refine aP 15 rfl (C2 rfl rfl) rfl ?_
 refine A4 2 ?_
 (refine E0 rfl (C7 rfl rfl rfl (by omega) (by unfold maxLen; omega) rfl) rfl rfl ?_; rintro _ ⟨b469, rfl⟩)
 refine aP 16 rfl (qA rfl) rfl ?_
 refine A4 17 ?_
 refine F8 rfl ?_
 refine aP 18 rfl (qA rfl) rfl ?_
 refine B5 (nS ?_)
 (refine E9 Pk.here (fun G5 hle5 hsl5 hno5 => ?_))
 refine tT (rB (rS ?_))
 refine C8 (rT rfl) (rC rfl (A2 rfl rfl)) (rT rfl) ?_
 (refine K5.two hsl5 (J7 _) (J7 _) (J7 _) ?_; rw [U7 (by omega)]; first | (rw [if_pos ⟨by assumption, by assumption⟩, if_neg (by omega)]; rfl) | (rw [if_neg (fun hc => by first | exact Bool.noConfusion (hc.1.symm.trans (by assumption)) | exact Bool.noConfusion (hc.2.symm.trans (by assumption)) | exact Bool.noConfusion (hc.symm.trans (by assumption)))]; rfl))
 refine aP 15 rfl (C2 rfl rfl) rfl ?_
 refine A4 2 ?_
 (refine E0 rfl (C7 rfl rfl rfl (by omega) (by unfold maxLen; omega) rfl) rfl rfl ?_; rintro _ ⟨b484, rfl⟩)
 refine aP 16 rfl (qA rfl) rfl ?_
 refine A4 17 ?_
 refine F8 rfl ?_
 refine aP 18 rfl (qA rfl) rfl ?_
 refine B5 (nS ?_)
 (refine E9 Pk.here (fun G5 hle5 hsl5 hno5 => ?_))
 refine tT (rB (rS ?_))
 refine C8 (rT rfl) (rC rfl (A2 rfl rfl)) (rT rfl) ?_
 (refine K5.two hsl5 (J7 _) (J7 _) (J7 _) ?_; rw [U7 (by omega)]; first | (rw [if_pos ⟨by assumption, by assumption⟩, if_neg (by omega)]; rfl) | (rw [if_neg (fun hc => by first | exact Bool.noConfusion (hc.1.symm.trans (by assumption)) | exact Bool.noConfusion (hc.2.symm.trans (by assumption)) | exact Bool.noConfusion (hc.symm.trans (by assumption)))]; rfl))
 refine aP 9 rfl (qM rfl) rfl ?_
 refine C1 10 rfl rfl rfl ?_
 refine C1 11 rfl rfl rfl ?_
 refine C1 12 rfl rfl rfl ?_
 refine C1 13 rfl rfl rfl ?_
 refine Q1 (j := 2) (j' := 14) (by kernel_rfl) ?_ ?_
 (refine E0 rfl (C7 rfl rfl rfl (by omega) (by unfold maxLen; omega) rfl) rfl rfl ?_; rintro _ ⟨b503, rfl⟩)
 refine C1 14 rfl rfl rfl ?_
 refine aP 15 rfl (D7 rfl rfl) rfl ?_
 refine aP 16 rfl (qA rfl) rfl ?_
 refine A4 17 ?_
 refine F8 rfl ?_
 refine aP 18 rfl (qA rfl) rfl ?_
 refine B5 (nS ?_)
 (refine E9 Pk.here (fun G5 hle5 hsl5 hno5 => ?_))
 refine tT (rB (rS ?_))
 refine C8 (rT rfl) (rC rfl (A2 rfl rfl)) (rT rfl) ?_
 (refine K5.two hsl5 (J7 _) (J7 _) (J7 _) ?_; rw [U7 (by omega)]; first | (rw [if_pos ⟨by assumption, by assumption⟩, if_neg (by omega)]; rfl) | (rw [if_neg (fun hc => by first | exact Bool.noConfusion (hc.1.symm.trans (by assumption)) | exact Bool.noConfusion (hc.2.symm.trans (by assumption)) | exact Bool.noConfusion (hc.symm.trans (by assumption)))]; rfl))
 refine A4X (l' := [tt,tt,ff,tt,tt,tt,tt,tt,tt,tt,tt,tt,tt,tt,tt,ff,ff,ff,ff]) rfl rfl rfl rfl ?_
 refine aP 15 rfl (D7 rfl rfl) rfl ?_
 refine A4 2 ?_
 (refine E0 rfl (C7 rfl rfl rfl (by omega) (by unfold maxLen; omega) rfl) rfl rfl ?_; rintro _ ⟨b521, rfl⟩)
 refine aP 16 rfl (qA rfl) rfl ?_
 refine A4 17 ?_
 refine F8 rfl ?_
 refine aP 18 rfl (qA rfl) rfl ?_
 refine B5 (nS ?_)
 (refine E9 Pk.here (fun G5 hle5 hsl5 hno5 => ?_))
 refine tT (rB (rS ?_))
 refine C8 (rT rfl) (rC rfl (A2 rfl rfl)) (rT rfl) ?_
 (refine K5.two hsl5 (J7 _) (J7 _) (J7 _) ?_; rw [U7 (by omega)]; first | (rw [if_pos ⟨by assumption, by assumption⟩, if_neg (by omega)]; rfl) | (rw [if_neg (fun hc => by first | exact Bool.noConfusion (hc.1.symm.trans (by assumption)) | exact Bool.noConfusion (hc.2.symm.trans (by assumption)) | exact Bool.noConfusion (hc.symm.trans (by assumption)))]; rfl))
 refine sQ (qA rfl) rfl (sD (nS (cF rfl (tR ?_))))
 refine sB (qE rfl rfl) rfl rfl (fun h539 => ?_) (fun h539 => ?_)
 refine sQ (qA rfl) rfl (sD (nS (qT rfl (tS (tR (sL (A2 rfl rfl) rfl rfl ?_))))))
 refine sE (A7 rfl) rfl (fun b547 => ?_)
 refine B1 ?_
 refine sD (nS (tS (tS (tR (sQ (A0 rfl) rfl (sL (A3 rfl rfl) rfl rfl ?_))))))
 refine sP (V5 rfl rfl (by omega)) rfl rfl ?_
 refine sD (nS (qT rfl (tR (sL (A2 rfl rfl) rfl rfl (B1 ?_)))))
 refine sD (nS (tS ?_))
 (have hl2 : n = 2 := hop.1 (by omega); obtain ⟨b0, o0, q0, d0, hp0, hat0, hre0, hg0⟩ := hsl.kidD hkl (i := 0) (by omega) (by omega); obtain ⟨b1, o1, q1, d1, hp1, hat1, hre1, hg1⟩ := hsl.kidD hkl (i := 1) (by omega) (by omega); cases hp0; cases hp1; refine D4 D6 rfl ?_)
 refine K2 (i := 0) (l' := [tt,ff,ff,ff,ff,ff,ff,ff,ff,ff,ff,ff,ff,ff,ff,ff,ff,ff,ff]) rfl C9 (A2 rfl rfl) rfl (by kernel_rfl) rfl rfl ?_
 refine aL 1 rfl (A2 rfl rfl) rfl ?_
 refine aL 3 rfl (A2 rfl rfl) rfl ?_
 refine aP 4 rfl (qM rfl) rfl ?_
 refine aP 5 rfl (B3 (j := 0) rfl rfl rfl (by omega)) rfl ?_
 refine aL 6 rfl (A5 rfl rfl (hat0 _) rfl) rfl ?_
 refine aL 7 rfl (A2 rfl rfl) rfl ?_
 refine Q1 (j := 2) (j' := 8) (by kernel_rfl) ?_ ?_
 (refine E0 rfl (C7 rfl rfl rfl (by omega) (by unfold maxLen; omega) rfl) rfl rfl ?_; rintro _ ⟨b575, rfl⟩)
 refine A4 8 ?_
 refine S4 rfl rfl ((X6 _ _ _ _ _ hre0 (J7 _))) rfl rfl rfl (fun h577 => ?_) (fun h577 => ?_)
 refine aP 9 rfl (qM rfl) rfl ?_
 refine aP 10 rfl (qM rfl) rfl ?_
 refine aP 11 rfl (B3 (j := 1) rfl rfl rfl (by omega)) rfl ?_
 refine aL 12 rfl (A5 rfl rfl (hat1 _) rfl) rfl ?_
 refine aL 13 rfl (A2 rfl rfl) rfl ?_
 refine A4 14 ?_
 refine S4 rfl rfl ((X6 _ _ _ _ _ hre1 (J7 _))) rfl rfl rfl (fun h584 => ?_) (fun h584 => ?_)
 refine aP 15 rfl (C2 rfl rfl) rfl ?_
 refine aP 16 rfl (qA rfl) rfl ?_
 refine A4 17 ?_
 refine F8 rfl ?_
 refine aP 18 rfl (qA rfl) rfl ?_
 refine B5 (nS ?_)
 (refine E9 Pk.here (fun G5 hle5 hsl5 hno5 => ?_))
 refine tT (rB (rS ?_))
 refine C8 (rT rfl) (rC rfl (A2 rfl rfl)) (rT rfl) ?_
 (refine K5.two hsl5 (J7 _) (J7 _) (X8 _) ?_; rw [U7 (by omega)]; first | (rw [if_pos ⟨by assumption, by assumption⟩, if_pos (by omega)]; rfl) | (rw [if_neg (fun hc => by first | exact Bool.noConfusion (hc.1.symm.trans (by assumption)) | exact Bool.noConfusion (hc.2.symm.trans (by assumption)) | exact Bool.noConfusion (hc.symm.trans (by assumption)))]; rfl))
 refine aP 15 rfl (C2 rfl rfl) rfl ?_
 refine aP 16 rfl (qA rfl) rfl ?_
 refine A4 17 ?_
 refine F8 rfl ?_
 refine aP 18 rfl (qA rfl) rfl ?_
 refine B5 (nS ?_)
 (refine E9 Pk.here (fun G5 hle5 hsl5 hno5 => ?_))
 refine tT (rB (rS ?_))
 refine C8 (rT rfl) (rC rfl (A2 rfl rfl)) (rT rfl) ?_
 (refine K5.two hsl5 (J7 _) (J7 _) (X8 _) ?_; rw [U7 (by omega)]; first | (rw [if_pos ⟨by assumption, by assumption⟩, if_pos (by omega)]; rfl) | (rw [if_neg (fun hc => by first | exact Bool.noConfusion (hc.1.symm.trans (by assumption)) | exact Bool.noConfusion (hc.2.symm.trans (by assumption)) | exact Bool.noConfusion (hc.symm.trans (by assumption)))]; rfl))
 refine aP 9 rfl (qM rfl) rfl ?_
 refine C1 10 rfl rfl rfl ?_
 refine C1 11 rfl rfl rfl ?_
 refine C1 12 rfl rfl rfl ?_
 refine C1 13 rfl rfl rfl ?_
 refine C1 14 rfl rfl rfl ?_
 refine aP 15 rfl (D7 rfl rfl) rfl ?_
 refine aP 16 rfl (qA rfl) rfl ?_
 refine A4 17 ?_
 refine F8 rfl ?_
 refine aP 18 rfl (qA rfl) rfl ?_
 refine B5 (nS ?_)
 (refine E9 Pk.here (fun G5 hle5 hsl5 hno5 => ?_))
 refine tT (rB (rS ?_))
 refine C8 (rT rfl) (rC rfl (A2 rfl rfl)) (rT rfl) ?_
 (refine K5.two hsl5 (J7 _) (J7 _) (X8 _) ?_; rw [U7 (by omega)]; first | (rw [if_pos ⟨by assumption, by assumption⟩, if_pos (by omega)]; rfl) | (rw [if_neg (fun hc => by first | exact Bool.noConfusion (hc.1.symm.trans (by assumption)) | exact Bool.noConfusion (hc.2.symm.trans (by assumption)) | exact Bool.noConfusion (hc.symm.trans (by assumption)))]; rfl))
 refine S4 rfl rfl ((X6 _ _ _ _ _ hre0 (J7 _))) rfl rfl rfl (fun h630 => ?_) (fun h630 => ?_)
 refine aP 9 rfl (qM rfl) rfl ?_
 refine aP 10 rfl (qM rfl) rfl ?_
 refine aP 11 rfl (B3 (j := 1) rfl rfl rfl (by omega)) rfl ?_
 refine aL 12 rfl (A5 rfl rfl (hat1 _) rfl) rfl ?_
 refine aL 13 rfl (A2 rfl rfl) rfl ?_
 refine Q1 (j := 2) (j' := 14) (by kernel_rfl) ?_ ?_
 (refine E0 rfl (C7 rfl rfl rfl (by omega) (by unfold maxLen; omega) rfl) rfl rfl ?_; rintro _ ⟨b637, rfl⟩)
 refine A4 14 ?_
 refine S4 rfl rfl ((X6 _ _ _ _ _ hre1 (J7 _))) rfl rfl rfl (fun h639 => ?_) (fun h639 => ?_)
 refine aP 15 rfl (C2 rfl rfl) rfl ?_
 refine aP 16 rfl (qA rfl) rfl ?_
 refine A4 17 ?_
 refine F8 rfl ?_
 refine aP 18 rfl (qA rfl) rfl ?_
 refine B5 (nS ?_)
 (refine E9 Pk.here (fun G5 hle5 hsl5 hno5 => ?_))
 refine tT (rB (rS ?_))
 refine C8 (rT rfl) (rC rfl (A2 rfl rfl)) (rT rfl) ?_
 (refine K5.two hsl5 (J7 _) (J7 _) (X8 _) ?_; rw [U7 (by omega)]; first | (rw [if_pos ⟨by assumption, by assumption⟩, if_pos (by omega)]; rfl) | (rw [if_neg (fun hc => by first | exact Bool.noConfusion (hc.1.symm.trans (by assumption)) | exact Bool.noConfusion (hc.2.symm.trans (by assumption)) | exact Bool.noConfusion (hc.symm.trans (by assumption)))]; rfl))
 refine aP 15 rfl (C2 rfl rfl) rfl ?_
 refine aP 16 rfl (qA rfl) rfl ?_
 refine A4 17 ?_
 refine F8 rfl ?_
 refine aP 18 rfl (qA rfl) rfl ?_
 refine B5 (nS ?_)
 (refine E9 Pk.here (fun G5 hle5 hsl5 hno5 => ?_))
 refine tT (rB (rS ?_))
 refine C8 (rT rfl) (rC rfl (A2 rfl rfl)) (rT rfl) ?_
 (refine K5.two hsl5 (J7 _) (J7 _) (X8 _) ?_; rw [U7 (by omega)]; first | (rw [if_pos ⟨by assumption, by assumption⟩, if_pos (by omega)]; rfl) | (rw [if_neg (fun hc => by first | exact Bool.noConfusion (hc.1.symm.trans (by assumption)) | exact Bool.noConfusion (hc.2.symm.trans (by assumption)) | exact Bool.noConfusion (hc.symm.trans (by assumption)))]; rfl))
 refine S4 rfl rfl ((X6 _ _ _ _ _ hre1 (J7 _))) rfl rfl rfl (fun h666 => ?_) (fun h666 => ?_)
 refine aP 15 rfl (C2 rfl rfl) rfl ?_
 refine A4 2 ?_
 (refine E0 rfl (C7 rfl rfl rfl (by omega) (by unfold maxLen; omega) rfl) rfl rfl ?_; rintro _ ⟨b669, rfl⟩)
 refine aP 16 rfl (qA rfl) rfl ?_
 refine A4 17 ?_
 refine F8 rfl ?_
 refine aP 18 rfl (qA rfl) rfl ?_
 refine B5 (nS ?_)
 (refine E9 Pk.here (fun G5 hle5 hsl5 hno5 => ?_))
 refine tT (rB (rS ?_))
 refine C8 (rT rfl) (rC rfl (A2 rfl rfl)) (rT rfl) ?_
 (refine K5.two hsl5 (J7 _) (J7 _) (X8 _) ?_; rw [U7 (by omega)]; first | (rw [if_pos ⟨by assumption, by assumption⟩, if_pos (by omega)]; rfl) | (rw [if_neg (fun hc => by first | exact Bool.noConfusion (hc.1.symm.trans (by assumption)) | exact Bool.noConfusion (hc.2.symm.trans (by assumption)) | exact Bool.noConfusion (hc.symm.trans (by assumption)))]; rfl))
 refine aP 15 rfl (C2 rfl rfl) rfl ?_
 refine A4 2 ?_
 (refine E0 rfl (C7 rfl rfl rfl (by omega) (by unfold maxLen; omega) rfl) rfl rfl ?_; rintro _ ⟨b684, rfl⟩)
 refine aP 16 rfl (qA rfl) rfl ?_
 refine A4 17 ?_
 refine F8 rfl ?_
 refine aP 18 rfl (qA rfl) rfl ?_
 refine B5 (nS ?_)
 (refine E9 Pk.here (fun G5 hle5 hsl5 hno5 => ?_))
 refine tT (rB (rS ?_))
 refine C8 (rT rfl) (rC rfl (A2 rfl rfl)) (rT rfl) ?_
 (refine K5.two hsl5 (J7 _) (J7 _) (X8 _) ?_; rw [U7 (by omega)]; first | (rw [if_pos ⟨by assumption, by assumption⟩, if_pos (by omega)]; rfl) | (rw [if_neg (fun hc => by first | exact Bool.noConfusion (hc.1.symm.trans (by assumption)) | exact Bool.noConfusion (hc.2.symm.trans (by assumption)) | exact Bool.noConfusion (hc.symm.trans (by assumption)))]; rfl))
 refine aP 9 rfl (qM rfl) rfl ?_
 refine C1 10 rfl rfl rfl ?_
 refine C1 11 rfl rfl rfl ?_
 refine C1 12 rfl rfl rfl ?_
 refine C1 13 rfl rfl rfl ?_
 refine Q1 (j := 2) (j' := 14) (by kernel_rfl) ?_ ?_
 (refine E0 rfl (C7 rfl rfl rfl (by omega) (by unfold maxLen; omega) rfl) rfl rfl ?_; rintro _ ⟨b703, rfl⟩)
 refine C1 14 rfl rfl rfl ?_
 refine aP 15 rfl (D7 rfl rfl) rfl ?_
 refine aP 16 rfl (qA rfl) rfl ?_
 refine A4 17 ?_
 refine F8 rfl ?_
 refine aP 18 rfl (qA rfl) rfl ?_
 refine B5 (nS ?_)
 (refine E9 Pk.here (fun G5 hle5 hsl5 hno5 => ?_))
 refine tT (rB (rS ?_))
 refine C8 (rT rfl) (rC rfl (A2 rfl rfl)) (rT rfl) ?_
 (refine K5.two hsl5 (J7 _) (J7 _) (X8 _) ?_; rw [U7 (by omega)]; first | (rw [if_pos ⟨by assumption, by assumption⟩, if_pos (by omega)]; rfl) | (rw [if_neg (fun hc => by first | exact Bool.noConfusion (hc.1.symm.trans (by assumption)) | exact Bool.noConfusion (hc.2.symm.trans (by assumption)) | exact Bool.noConfusion (hc.symm.trans (by assumption)))]; rfl))
 refine A4X (l' := [tt,tt,ff,tt,tt,tt,tt,tt,tt,tt,tt,tt,tt,tt,tt,ff,ff,ff,ff]) rfl rfl rfl rfl ?_
 refine aP 15 rfl (D7 rfl rfl) rfl ?_
 refine A4 2 ?_
 (refine E0 rfl (C7 rfl rfl rfl (by omega) (by unfold maxLen; omega) rfl) rfl rfl ?_; rintro _ ⟨b721, rfl⟩)
 refine aP 16 rfl (qA rfl) rfl ?_
 refine A4 17 ?_
 refine F8 rfl ?_
 refine aP 18 rfl (qA rfl) rfl ?_
 refine B5 (nS ?_)
 (refine E9 Pk.here (fun G5 hle5 hsl5 hno5 => ?_))
 refine tT (rB (rS ?_))
 refine C8 (rT rfl) (rC rfl (A2 rfl rfl)) (rT rfl) ?_
 (refine K5.two hsl5 (J7 _) (J7 _) (X8 _) ?_; rw [U7 (by omega)]; first | (rw [if_pos ⟨by assumption, by assumption⟩, if_pos (by omega)]; rfl) | (rw [if_neg (fun hc => by first | exact Bool.noConfusion (hc.1.symm.trans (by assumption)) | exact Bool.noConfusion (hc.2.symm.trans (by assumption)) | exact Bool.noConfusion (hc.symm.trans (by assumption)))]; rfl))
 refine sQ (qA rfl) rfl (sD (nS (cF rfl (tS (tR ?_)))))
 refine sB (qE rfl rfl) rfl rfl (fun h740 => ?_) (fun h740 => ?_)
 refine sQ (qA rfl) rfl (sD (nS (qT rfl (tS (tS ?_)))))
 (have hl3 : n = 3 := hop.2.1 (by omega); obtain ⟨b0, o0, q0, d0, hp0, hat0, hre0, hg0⟩ := hsl.kidD hkl (i := 0) (by omega) (by omega); obtain ⟨b1, o1, q1, d1, hp1, hat1, hre1, hg1⟩ := hsl.kidD hkl (i := 1) (by omega) (by omega); cases hp0; cases hp1; obtain ⟨b2, o2, q2, d2, hp2, hat2, hre2, hg2⟩ := hsl.kidD hkl (i := 2) (by omega) (by omega); cases hp2; refine D4 D6 rfl ?_)
 refine I6 (i := 0) (l' := [tt,ff,ff,ff,ff,ff,ff,ff,ff,ff,ff,ff,ff,ff,ff,ff]) rfl C9 (qM rfl) rfl (by kernel_rfl) rfl rfl ?_
 refine aP 1 rfl (B3 (j := 0) rfl rfl rfl (by omega)) rfl ?_
 refine aL 2 rfl (A5 rfl rfl (hat0 _) rfl) rfl ?_
 refine aL 3 rfl (A2 rfl rfl) rfl ?_
 refine A4 4 ?_
 refine S4 rfl rfl ((X6 _ _ _ _ _ hre0 (X8 _))) rfl rfl rfl (fun h753 => ?_) (fun h753 => ?_)
 refine aP 5 rfl (K4 rfl) rfl ?_
 refine aP 6 rfl (qM rfl) rfl ?_
 refine aP 7 rfl (qM rfl) rfl ?_
 refine aP 8 rfl (B3 (j := 1) rfl rfl rfl (by omega)) rfl ?_
 refine aL 9 rfl (A5 rfl rfl (hat1 _) rfl) rfl ?_
 refine aP 10 rfl (qM rfl) rfl ?_
 refine aP 11 rfl (B3 (j := 2) rfl rfl rfl (by omega)) rfl ?_
 refine aL 12 rfl (A5 rfl rfl (hat2 _) rfl) rfl ?_
 refine A4 13 ?_
 refine S4 rfl rfl ((X6 _ _ _ _ _ hre1 hre2)) rfl rfl rfl (fun h763 => ?_) (fun h763 => ?_)
 refine aP 14 rfl (K4 rfl) rfl ?_
 refine aP 15 rfl (D7 rfl rfl) rfl ?_
 refine B5 (nS (cF rfl (tK (nS (tS ?_)))))
 (have hl3 : n = 3 := hop.2.1 (by omega); obtain ⟨b0, o0, q0, d0, hp0, hat0, hre0, hg0⟩ := hsl.kidD hkl (i := 0) (by omega) (by omega); obtain ⟨b1, o1, q1, d1, hp1, hat1, hre1, hg1⟩ := hsl.kidD hkl (i := 1) (by omega) (by omega); cases hp0; cases hp1; obtain ⟨b2, o2, q2, d2, hp2, hat2, hre2, hg2⟩ := hsl.kidD hkl (i := 2) (by omega) (by omega); cases hp2; refine D4 D6 rfl ?_)
 refine I6 (i := 0) (l' := [tt,ff,ff,ff,ff,ff,ff,ff,ff]) rfl C9 (qM rfl) rfl (by kernel_rfl) rfl rfl ?_
 refine aP 1 rfl (B3 (j := 1) rfl rfl rfl (by omega)) rfl ?_
 refine aL 2 rfl (A5 rfl rfl (hat1 _) rfl) rfl ?_
 refine aP 3 rfl (qM rfl) rfl ?_
 refine aP 4 rfl (B3 (j := 2) rfl rfl rfl (by omega)) rfl ?_
 refine aL 5 rfl (A5 rfl rfl (hat2 _) rfl) rfl ?_
 refine Q1 (j := 6) (j' := 7) (by kernel_rfl) ?_ ?_
 (refine F0 rfl rfl (A72 _ _ _ _ _ (by assumption) (A2J har (by omega)) (A2J har (by omega)) hre1 hre2) rfl rfl rfl (fun v GM hleM hh => ?_); obtain ⟨cM, rfl, hrM⟩ := hh; obtain ⟨p7, c7, e7, rfl, _⟩ := hrM.open)
 refine A4 7 ?_
 (refine E0 rfl (A7 rfl) rfl rfl ?_; rintro _ ⟨b782, rfl⟩)
 refine A4 8 ?_
 refine F8 rfl ?_
 refine B5 (nS (tS ?_))
 (have hl3 : n = 3 := hop.2.1 (by omega); obtain ⟨b0, o0, q0, d0, hp0, hat0, hre0, hg0⟩ := hsl.kidD hkl (i := 0) (by omega) (by omega); obtain ⟨b1, o1, q1, d1, hp1, hat1, hre1, hg1⟩ := hsl.kidD hkl (i := 1) (by omega) (by omega); cases hp0; cases hp1; obtain ⟨b2, o2, q2, d2, hp2, hat2, hre2, hg2⟩ := hsl.kidD hkl (i := 2) (by omega) (by omega); cases hp2; refine D4 D6 rfl ?_)
 refine K2 (i := 0) (l' := [tt,ff,ff,ff,ff,ff,ff,ff]) rfl C9 (A2 rfl rfl) rfl (by kernel_rfl) rfl rfl ?_
 refine aL 1 rfl (A2 rfl rfl) rfl ?_
 refine aL 2 rfl (A2 rfl rfl) rfl ?_
 refine aL 4 rfl (A2 rfl rfl) rfl ?_
 refine A4 3 ?_
 (refine E0 rfl (C7 rfl rfl rfl (by omega) (by unfold maxLen; omega) rfl) rfl rfl ?_; rintro _ ⟨b794, rfl⟩)
 refine aP 5 rfl (qA rfl) rfl ?_
 refine A4 6 ?_
 refine F8 rfl ?_
 refine aP 7 rfl (qA rfl) rfl ?_
 refine B5 (nS ?_)
 (refine E9 Pk.here (fun G5 hle5 hsl5 hno5 => ?_))
 refine tT (rB (rS ?_))
 refine C8 (rT rfl) (rC rfl (A2 rfl rfl)) (rT rfl) ?_
 (have hk1 : k = 9 := (by omega); subst hk1; exact K5.three hsl5 (X8 _) (hrM.mono hle5) (hrM.mono hle5) (hrM.mono hle5) (by rw [mW9, if_pos ⟨by assumption, by assumption⟩]; rfl))
 (refine E0 rfl (A7 rfl) rfl rfl ?_; rintro _ ⟨b807, rfl⟩)
 refine A4 6 ?_
 (refine F0 rfl rfl (A72 _ _ _ _ _ (by assumption) (A2J har (by omega)) (A2J har (by omega)) hre1 hre2) rfl rfl rfl (fun v GM hleM hh => ?_); obtain ⟨cM, rfl, hrM⟩ := hh; obtain ⟨p7, c7, e7, rfl, _⟩ := hrM.open)
 refine A4 8 ?_
 refine F8 rfl ?_
 refine B5 (nS (tS ?_))
 (have hl3 : n = 3 := hop.2.1 (by omega); obtain ⟨b0, o0, q0, d0, hp0, hat0, hre0, hg0⟩ := hsl.kidD hkl (i := 0) (by omega) (by omega); obtain ⟨b1, o1, q1, d1, hp1, hat1, hre1, hg1⟩ := hsl.kidD hkl (i := 1) (by omega) (by omega); cases hp0; cases hp1; obtain ⟨b2, o2, q2, d2, hp2, hat2, hre2, hg2⟩ := hsl.kidD hkl (i := 2) (by omega) (by omega); cases hp2; refine D4 D6 rfl ?_)
 refine K2 (i := 0) (l' := [tt,ff,ff,ff,ff,ff,ff,ff]) rfl C9 (A2 rfl rfl) rfl (by kernel_rfl) rfl rfl ?_
 refine aL 1 rfl (A2 rfl rfl) rfl ?_
 refine aL 2 rfl (A2 rfl rfl) rfl ?_
 refine aL 4 rfl (A2 rfl rfl) rfl ?_
 refine A4 3 ?_
 (refine E0 rfl (C7 rfl rfl rfl (by omega) (by unfold maxLen; omega) rfl) rfl rfl ?_; rintro _ ⟨b821, rfl⟩)
 refine aP 5 rfl (qA rfl) rfl ?_
 refine A4 6 ?_
 refine F8 rfl ?_
 refine aP 7 rfl (qA rfl) rfl ?_
 refine B5 (nS ?_)
 (refine E9 Pk.here (fun G5 hle5 hsl5 hno5 => ?_))
 refine tT (rB (rS ?_))
 refine C8 (rT rfl) (rC rfl (A2 rfl rfl)) (rT rfl) ?_
 (have hk1 : k = 9 := (by omega); subst hk1; exact K5.three hsl5 (X8 _) (hrM.mono hle5) (hrM.mono hle5) (hrM.mono hle5) (by rw [mW9, if_pos ⟨by assumption, by assumption⟩]; rfl))
 refine aP 14 rfl (N8 rfl) rfl ?_
 refine aP 15 rfl (D7 rfl rfl) rfl ?_
 refine B5 (nS (qT rfl (tS (tR (sQ (H6 rfl rfl) rfl (sQ (qA rfl) rfl (B1 ?_)))))))
 refine sQ (qA rfl) rfl (sD (nS (tT (rS (rB (rS ?_))))))
 refine C8 (rT rfl) (rC rfl (A2 rfl rfl)) (rT rfl) ?_
 (have hk1 : k = 9 := (by omega); subst hk1; exact K5.nil (u := B4) (M1 _ ⟨by omega, by omega⟩) (by rw [mW9, if_neg (fun hc => by first | exact Bool.noConfusion (hc.1.symm.trans (by assumption)) | exact Bool.noConfusion (hc.2.symm.trans (by assumption)) | exact Bool.noConfusion (hc.symm.trans (by assumption)))]; rfl))
 refine aP 5 rfl (N8 rfl) rfl ?_
 refine aP 6 rfl (qM rfl) rfl ?_
 refine C1 7 rfl rfl rfl ?_
 refine C1 8 rfl rfl rfl ?_
 refine C1 9 rfl rfl rfl ?_
 refine C1 10 rfl rfl rfl ?_
 refine C1 11 rfl rfl rfl ?_
 refine C1 12 rfl rfl rfl ?_
 refine C1 13 rfl rfl rfl ?_
 refine C1 14 rfl rfl rfl ?_
 refine aP 15 rfl (C2 rfl rfl) rfl ?_
 refine B5 (nS (qT rfl (tS (tR (sQ (H6 rfl rfl) rfl (sQ (qA rfl) rfl (B1 ?_)))))))
 refine sQ (qA rfl) rfl (sD (nS (tT (rS (rB (rS ?_))))))
 refine C8 (rT rfl) (rC rfl (A2 rfl rfl)) (rT rfl) ?_
 (have hk1 : k = 9 := (by omega); subst hk1; exact K5.nil (u := B4) (M1 _ ⟨by omega, by omega⟩) (by rw [mW9, if_neg (fun hc => by first | exact Bool.noConfusion (hc.1.symm.trans (by assumption)) | exact Bool.noConfusion (hc.2.symm.trans (by assumption)) | exact Bool.noConfusion (hc.symm.trans (by assumption)))]; rfl))
 refine sQ (qA rfl) rfl (sD (nS (cF rfl (tS (tR ?_)))))
 refine sB (qE rfl rfl) rfl rfl (fun h887 => ?_) (fun h887 => ?_)
 refine sQ (qA rfl) rfl (sD (nS (qT rfl (tS ?_))))
 (have hl2 : n = 2 := hop.1 (by omega); obtain ⟨b0, o0, q0, d0, hp0, hat0, hre0, hg0⟩ := hsl.kidD hkl (i := 0) (by omega) (by omega); obtain ⟨b1, o1, q1, d1, hp1, hat1, hre1, hg1⟩ := hsl.kidD hkl (i := 1) (by omega) (by omega); cases hp0; cases hp1; refine D4 D6 rfl ?_)
 refine I6 (i := 0) (l' := [tt,ff,ff,ff,ff,ff,ff,ff,ff,ff]) rfl C9 (qM rfl) rfl (by kernel_rfl) rfl rfl ?_
 refine aP 1 rfl (B3 (j := 0) rfl rfl rfl (by omega)) rfl ?_
 refine aL 2 rfl (A5 rfl rfl (hat0 _) rfl) rfl ?_
 refine aP 3 rfl (qM rfl) rfl ?_
 refine aP 4 rfl (B3 (j := 1) rfl rfl rfl (by omega)) rfl ?_
 refine aL 5 rfl (A5 rfl rfl (hat1 _) rfl) rfl ?_
 refine A4 6 ?_
 (refine F0 rfl rfl (A1M 5 _ _ _ _ _ ⟨by omega, by omega⟩ hre0 hre1) rfl rfl rfl (fun v GB hleB hh => ?_); obtain ⟨cB, rfl, hrB⟩ := hh; obtain ⟨p7, c7, e7, rfl, _⟩ := hrB.open)
 refine aP 7 rfl (qA rfl) rfl ?_
 refine A4 8 ?_
 refine F8 rfl ?_
 refine aP 9 rfl (qA rfl) rfl ?_
 refine B5 (nS (tT (rB (rS ?_))))
 refine C8 (rT rfl) (rC rfl (A2 rfl rfl)) (rT rfl) ?_
 (have hk1 : k = 10 := (by omega); subst hk1; exact K5.nil hrB A4n)
 refine sQ (qA rfl) rfl (sD (nS (cF rfl (tS (tR ?_)))))
 refine sB (qE rfl rfl) rfl rfl (fun h919 => ?_) (fun h919 => ?_)
 refine sQ (qA rfl) rfl (sD (nS (qT rfl (tS ?_))))
 (have hl1 : n = 1 := hop.2.2 (by omega); obtain ⟨b0, o0, q0, d0, hp0, hat0, hre0, hg0⟩ := hsl.kidD hkl (i := 0) (by omega) (by omega); cases hp0; refine D4 D6 rfl ?_)
 refine I6 (i := 0) (l' := [tt,ff,ff,ff,ff,ff,ff,ff,ff,ff,ff,ff,ff,ff]) rfl C9 (A0 rfl) rfl (by kernel_rfl) rfl rfl ?_
 refine aL 1 rfl (A2 rfl rfl) rfl ?_
 refine aP 3 rfl (A0 rfl) rfl ?_
 refine aL 4 rfl (A2 rfl rfl) rfl ?_
 refine aP 5 rfl (qM rfl) rfl ?_
 refine aP 6 rfl (B3 (j := 0) rfl rfl rfl (by omega)) rfl ?_
 refine aL 7 rfl (A5 rfl rfl (hat0 _) rfl) rfl ?_
 refine aP 8 rfl (A0 rfl) rfl ?_
 refine aL 9 rfl (A2 rfl rfl) rfl ?_
 refine Q1 (j := 2) (j' := 10) (by kernel_rfl) ?_ ?_
 (refine E0 rfl (C7 rfl rfl rfl (by omega) (by unfold maxLen; omega) rfl) rfl rfl ?_; rintro _ ⟨b936, rfl⟩)
 refine A4 10 ?_
 refine S4 rfl rfl ((X6 _ _ _ _ _ hre0 hrty)) rfl rfl rfl (fun h938 => ?_) (fun h938 => ?_)
 refine aP 11 rfl (qA rfl) rfl ?_
 refine A4 12 ?_
 refine F8 rfl ?_
 refine aP 13 rfl (qA rfl) rfl ?_
 refine B5 (nS ?_)
 (refine E9 Pk.here (fun G5 hle5 hsl5 hno5 => ?_))
 refine tT (rB (rS ?_))
 refine C8 (rT rfl) (rC rfl (A2 rfl rfl)) (rT rfl) ?_
 (have hk1 : k = 13 := (by omega); subst hk1; refine K5.one hsl5 (hrty.mono hle5) (hrty.mono hle5) ?_; rw [A2d]; split <;> first | rfl | (exfalso; simp_all; done))
 refine aP 11 rfl (qA rfl) rfl ?_
 refine A4 12 ?_
 refine F8 rfl ?_
 refine aP 13 rfl (qA rfl) rfl ?_
 refine B5 (nS ?_)
 (refine E9 Pk.here (fun G5 hle5 hsl5 hno5 => ?_))
 refine tT (rB (rS ?_))
 refine C8 (rT rfl) (rC rfl (A2 rfl rfl)) (rT rfl) ?_
 (have hk1 : k = 13 := (by omega); subst hk1; refine K5.one hsl5 (hrty.mono hle5) (hrty.mono hle5) ?_; rw [A2d]; split <;> first | rfl | (exfalso; simp_all; done))
 refine S4 rfl rfl ((X6 _ _ _ _ _ hre0 hrty)) rfl rfl rfl (fun h963 => ?_) (fun h963 => ?_)
 refine A4 2 ?_
 (refine E0 rfl (C7 rfl rfl rfl (by omega) (by unfold maxLen; omega) rfl) rfl rfl ?_; rintro _ ⟨b965, rfl⟩)
 refine aP 11 rfl (qA rfl) rfl ?_
 refine A4 12 ?_
 refine F8 rfl ?_
 refine aP 13 rfl (qA rfl) rfl ?_
 refine B5 (nS ?_)
 (refine E9 Pk.here (fun G5 hle5 hsl5 hno5 => ?_))
 refine tT (rB (rS ?_))
 refine C8 (rT rfl) (rC rfl (A2 rfl rfl)) (rT rfl) ?_
 (have hk1 : k = 13 := (by omega); subst hk1; refine K5.one hsl5 (hrty.mono hle5) (hrty.mono hle5) ?_; rw [A2d]; split <;> first | rfl | (exfalso; simp_all; done))
 refine A4 2 ?_
 (refine E0 rfl (C7 rfl rfl rfl (by omega) (by unfold maxLen; omega) rfl) rfl rfl ?_; rintro _ ⟨b979, rfl⟩)
 refine aP 11 rfl (qA rfl) rfl ?_
 refine A4 12 ?_
 refine F8 rfl ?_
 refine aP 13 rfl (qA rfl) rfl ?_
 refine B5 (nS ?_)
 (refine E9 Pk.here (fun G5 hle5 hsl5 hno5 => ?_))
 refine tT (rB (rS ?_))
 refine C8 (rT rfl) (rC rfl (A2 rfl rfl)) (rT rfl) ?_
 (have hk1 : k = 13 := (by omega); subst hk1; refine K5.one hsl5 (hrty.mono hle5) (hrty.mono hle5) ?_; rw [A2d]; split <;> first | rfl | (exfalso; simp_all; done))
 refine sQ (qA rfl) rfl (sD (nS (cF rfl (tK (E3 (nS (tS (tR (sQ (qM rfl) rfl ?_)))))))))
 (have hk11 : k = 11 ∨ k = 12 := (by omega); have hl1 : n = 1 := hop.2.2 (by omega); obtain ⟨b0, o0, q0, d0, hp0, hat0, hre0, hg0⟩ := hsl.kidD hkl (i := 0) (by omega) (by omega); cases hp0; refine sP (B3 (j := 0) rfl rfl rfl (by omega)) rfl rfl ?_)
 refine sL (A5 rfl rfl (hat0 _) rfl) rfl rfl ?_
 (refine E5 rfl (A71 5 (h.getD 0 B4) G _ (.inr rfl) (A2J har (by omega)) hre0) rfl rfl (fun v G1 hle1 hh => ?_); obtain ⟨ma, mca, mb, mcb, rfl, hma, hmb, hma2, hmb2, hmm⟩ := hh; obtain ⟨p1, c1, e1, rfl, _⟩ := hma.open; obtain ⟨p2, c2, e2, rfl, _⟩ := hmb.open)
 refine sQ (qM rfl) rfl (sQ (pX rfl rfl) rfl (sQ (pX rfl rfl) rfl (sQ (pX rfl rfl) rfl ?_)))
 refine sE (A7 rfl) rfl (fun b1009 => ?_)
 refine sE (A7 rfl) rfl (fun b1010 => ?_)
 refine B1 ?_
 refine B1 ?_
 refine sQ (qA rfl) rfl (sD (nS (tS (tR (sL (A2 rfl rfl) rfl rfl ?_)))))
 refine sE (A7 rfl) rfl (fun b1019 => ?_)
 refine B1 ?_
 refine sD (nS (tS (tS (tR (sQ (A0 rfl) rfl (sL (A3 rfl rfl) rfl rfl ?_))))))
 refine sB (qE rfl rfl) rfl rfl (fun h1028 => ?_) (fun h1028 => ?_)
 refine sD (nS (qT rfl (tR (sL (A2 rfl rfl) rfl rfl (B1 ?_)))))
 refine sD (nS (tS ?_))
 (have hl1 : n = 1 := hop.2.2 (by omega); obtain ⟨b0, o0, q0, d0, hp0, hat0, hre0, hg0⟩ := hsl.kidD hkl (i := 0) (by omega) (by omega); cases hp0; refine D4 D6 rfl ?_)
 refine K2 (i := 0) (l' := [tt,ff,ff,ff,ff,ff,ff,ff,ff]) rfl C9 (A2 rfl rfl) rfl (by kernel_rfl) rfl rfl ?_
 refine aL 1 rfl (A2 rfl rfl) rfl ?_
 refine aL 4 rfl (A2 rfl rfl) rfl ?_
 refine aP 5 rfl (qM rfl) rfl ?_
 refine A4 2 ?_
 (refine F0 rfl rfl (A1M _ ma mb _ _ _ ⟨by omega, by omega⟩ hma hmb) rfl rfl rfl (fun v GB hleB hh => ?_); obtain ⟨cB, rfl, hrB⟩ := hh; obtain ⟨p7, c7, e7, rfl, _⟩ := hrB.open; have hma' := hma.mono hleB; have hmb' := hmb.mono hleB)
 refine A4 3 ?_
 (refine E0 rfl (C7 rfl rfl rfl (by omega) (by unfold maxLen; omega) rfl) rfl rfl ?_; rintro _ ⟨b1046, rfl⟩)
 refine aP 6 rfl (qA rfl) rfl ?_
 refine A4 7 ?_
 refine F8 rfl ?_
 refine aP 8 rfl (qA rfl) rfl ?_
 refine B5 (nS ?_)
 (refine E9 Pk.here (fun G5 hle5 hsl5 hno5 => ?_))
 refine tT ?_
 refine C8 (rT rfl) (rC rfl (A2 rfl rfl)) (rT rfl) ?_
 (refine K5.one hsl5 (hrB.mono hle5) (hmb'.mono hle5) ?_; rw [A2K (by omega)]; cases hq : Q3 5 (h.getD 0 B4) with | none => rfl | some q => (have hq2 := hmm q hq; subst hq2; dsimp only; rw [if_pos (by omega)]; rfl))
 refine sD (nS (cF rfl (tK (nS (tS ?_)))))
 (have hl1 : n = 1 := hop.2.2 (by omega); obtain ⟨b0, o0, q0, d0, hp0, hat0, hre0, hg0⟩ := hsl.kidD hkl (i := 0) (by omega) (by omega); cases hp0; refine D4 D6 rfl ?_)
 refine K2 (i := 0) (l' := [tt,ff,ff,ff,ff,ff,ff,ff,ff]) rfl C9 (A2 rfl rfl) rfl (by kernel_rfl) rfl rfl ?_
 refine aL 1 rfl (A2 rfl rfl) rfl ?_
 refine aL 4 rfl (A2 rfl rfl) rfl ?_
 refine aP 5 rfl (qM rfl) rfl ?_
 refine A4 2 ?_
 (refine F0 rfl rfl (A1M _ ma mb _ _ _ ⟨by omega, by omega⟩ hma hmb) rfl rfl rfl (fun v GB hleB hh => ?_); obtain ⟨cB, rfl, hrB⟩ := hh; obtain ⟨p7, c7, e7, rfl, _⟩ := hrB.open; have hma' := hma.mono hleB; have hmb' := hmb.mono hleB)
 refine A4 3 ?_
 (refine E0 rfl (C7 rfl rfl rfl (by omega) (by unfold maxLen; omega) rfl) rfl rfl ?_; rintro _ ⟨b1071, rfl⟩)
 refine aP 6 rfl (qA rfl) rfl ?_
 refine A4 7 ?_
 refine F8 rfl ?_
 refine aP 8 rfl (qA rfl) rfl ?_
 refine B5 (nS ?_)
 (refine E9 Pk.here (fun G5 hle5 hsl5 hno5 => ?_))
 refine tT ?_
 refine C8 (rT rfl) (rC rfl (A2 rfl rfl)) (rT rfl) ?_
 (refine K5.one hsl5 (hrB.mono hle5) (hma'.mono hle5) ?_; rw [A2K (by omega)]; cases hq : Q3 5 (h.getD 0 B4) with | none => rfl | some q => (have hq2 := hmm q hq; subst hq2; dsimp only; rw [if_neg (by omega)]; rfl))
end Gw
end Go.Proofs.YthpdjmbpbdbodaaGreatDoor
