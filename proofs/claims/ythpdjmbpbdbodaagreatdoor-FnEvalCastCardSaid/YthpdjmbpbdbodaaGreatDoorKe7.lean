/-
  Drawn terms that often have a type. Drawn terms with casts, paths, arguments. The types that a term's text holds, and terms with other types: the plain words. Terms that hold a type. Own slices and their capacity; data of terms one after the other. The types that a term's text holds: the program's list. Terms with other types: the program's. Shifts and masks of small numbers; writing into an own slice. Terms some of whose types become the unknown type: the program's. The types that a term's text holds: the reference's list. TermTypes and CountSlots of the reference. Terms with other types: the reference's. WithTypes of the reference. Drawn terms that are small, terms with blurred types, fuel. Drawn arguments of runs. The law FnEvalCast.
-/
import Derived.Test.YthpdjmbpbdbodaaGreatDoorKe6
import Derived.Test.YthpdjmbpbdbodaaGreatDoorKe4
import Derived.Test.YthpdjmbpbdbodaaGreatDoorKe2
import Derived.Test.YthpdjmbpbdbodaaGreatDoorKe1
import Derived.Test.YthpdjmbpbdbodaaGreatDoorKe3
import Derived.Test.YthpdjmbpbdbodaaGreatDoorKe0
import Derived.Test.YthpdjmbpbdbodaaGreatDoorKe5
set_option linter.unusedVariables false
set_option linter.unusedSimpArgs false
set_option maxHeartbeats 0
set_option maxRecDepth 100000
set_option synthInstance.maxSize 4000
set_option synthInstance.maxHeartbeats 0
namespace Go.Proofs.YthpdjmbpbdbodaaGreatDoor
open Go Go.RowKit
namespace Gw
/-- Where ways meet again, some of which return. -/
structure cutRK {ι : Type} (S : ι → Sy) (φ : ι → Prop) (K : Po) (e : Exit) (σ : Sy) : Prop where
 run : match e with
  | .normal => ∃ i, φ i ∧ Sub σ (S i)
  | e => K e σ
section cut
variable {P : Program} {Γ : Ctx} {K : Po} {σ : Sy} {ι : Type}
theorem tri_cutr {c y : Code} (S : ι → Sy) (φ : ι → Prop) (h : Tri P Γ c (cutRK S φ K) σ) (k : ∀ i, φ i → Tri P Γ y K (S i)) : Tri P Γ c (seqK P Γ y K) σ := by
 refine tri_mono h ?_
 rintro e σ ⟨hk⟩
 cases e with
 | normal => obtain ⟨i, hi, hs⟩ := hk; exact ⟨tri_sub hs (k i hi)⟩
 | _ => exact ⟨hk⟩
theorem nrm_cutr {S : ι → Sy} {φ : ι → Prop} {σ : Sy} (i : ι) (hs : Sub σ (S i)) (h : φ i) : cutRK S φ K .normal σ := ⟨⟨i, h, hs⟩⟩
theorem ret_cutr {S : ι → Sy} {φ : ι → Prop} {σ : Sy} (h : K .ret σ) : cutRK S φ K .ret σ := ⟨h⟩
theorem np_cutr {S : ι → Sy} {φ : ι → Prop} (h : noPanic K) : noPanic (cutRK S φ K) := fun c σ hk => h c σ hk.run
instance npC6 {S : ι → Sy} {φ : ι → Prop} [h : NpC K] : NpC (cutRK S φ K) := ⟨np_cutr h.h⟩
end cut
theorem leafTm (G : IM) (nm : ByteArray) (num : Int) {k : Int} (hk : I64 k) (hn : I64 num) : RTm G (.mk k nm num ty0 ty0 0 []) [.int .i64 k, .string nm, .int .i64 num, .int .i64 0, .slice none 0 0, .int .i64 0, .slice none 0 0, .int .i64 0, .slice none 0 0] := tz_r hk hn
theorem RTy.kidsM {G : IM} {k : Int} {ks : List Ty} {q : Option Addr} {c : Nat} (h : RTy G (.mk k ks) [.int .i64 k, .slice q ks.length c]) : ∃ es, SlE G q ks.length c 2 es ∧ RTyL G ks es := by
 obtain ⟨q', c', es, he, _, h1, h2⟩ := h.open
 cases he
 exact ⟨es, h1, h2⟩
theorem l3Make_ok (br : Nat) (pb : Option Addr) (nb cb : Nat) (bs : List UInt8) (hnb : nb ≤ 2000) : ∀ n, MakeOk br pb nb cb bs n := by
 refine fun n => Nat.strongRecOn n fun n ih depth t p G pc nc cc cells hfu hd0 hd1 hnc hx hrt hb hp => ?_
 have hge := mB_ge n
 have har := hfu.1.ar
 have hszt := tAh_sz hfu.1
 have hnn := szTy_nn t
 have hncl := hx.le
 obtain ⟨k, ks⟩ := t
 obtain ⟨q, c, es, rfl, hk, _, _⟩ := hrt.open
 simp only [Ty.k, Ty.ks] at hk hrt ⊢
 have hsz30 : szTy (.mk k ks) ≤ 30 := hszt
 have hops : k = 4 ∨ k = 5 → ks.length = 2 := by have h2 := har; rw [tAr] at h2; exact h2.1
 refine fn_enter Tryz.func78 rfl Tryz.ntmps78 Tryz.results78 rfl ?_
 intro w0
 refine tS (tR ?_)
 refine sE (step_box_a rfl rfl) rfl (fun b3 => ?_)
 refine sE (step_alloc rfl) rfl (fun b4 => ?_)
 refine sD (nS (tS (tS (tR (sQ (qM rfl) rfl (sQ (pLn rfl rfl) rfl ?_))))))
 refine sP (pure_sub rfl rfl (by omega) (by omega)) rfl rfl ?_
 refine sQ (qA rfl) rfl (sD (nS (tri_block ?_)))
 (refine tri_loopN (fun (x : Nat × Nat × IM) => ⟨(9, .int .i64 ((x.1 : Int) - 1)) :: [(0, .pointer (some ⟨br, 0, none⟩)), (1, .slice pc nc cc), (3, .int .i64 depth), (6, .pointer (some ⟨b3, 0, none⟩)), (8, .pointer (some ⟨b4, 0, none⟩))], [rd br pb nb cb x.2.1, .blk b4 [.int .i64 0, .string ⟨⟨[]⟩⟩, .int .i64 0, .int .i64 0, .slice none 0 0, .int .i64 0, .slice none 0 0, .int .i64 0, .slice none 0 0], .blk b3 [.int .i64 k, .slice q ks.length c]], x.2.2⟩) (fun x => x.1 ≤ nc ∧ IMle G x.2.2 ∧ p ≤ x.2.1 ∧ x.2.1 + x.1 ≤ p + nc) (fun x => x.1) (nc, p, G) ?_ ?_ ?_)
 (simp only [flat_snoc]; exact sMk)
 (exact ⟨Nat.le_refl _, IMle.refl _, Nat.le_refl _, Nat.le_refl _⟩)
 (rintro ⟨(i : Nat), (p1 : Nat), G1⟩ ⟨hi, hleL, hpL, hpL2⟩; simp only [] at hi hleL hpL hpL2 ⊢; replace hx := hx.mono hleL; replace hb := hb.mono hleL; replace hrt := hrt.mono hleL;)
 refine tS (tS (tR (sQ (qM rfl) rfl (sB (pure_geq rfl rfl) rfl rfl (fun h25 => ?_) (fun h25 => ?_)))))
 refine sD (nS (qT rfl ?_))
 refine tK (nS (tS ?_))
 (show Tri _ _ (.block 1 ..) _ _; obtain ⟨j, rfl⟩ : ∃ j, i = j + 1 := ⟨i - 1, by omega⟩; rw [show ((j + 1 : Nat) : Int) - 1 = (j : Int) from by omega]; obtain ⟨b, o, nm1, t1, qq1, dd1, rfl, hat, hr1, ha1, hs1, hgb⟩ := hx.get (i := j) (by omega); refine tri_block ?_)
 refine tS (tR (sQ (qM rfl) rfl (sQ (qM rfl) rfl (sQ (qM rfl) rfl (sP (pIN (j := j) rfl rfl rfl (by omega)) rfl rfl ?_)))))
 refine sQ (qF rfl) rfl (sL (load_s rfl rfl ((hat _).sub (j := 0) rfl)) rfl rfl ?_)
 (refine seq_imm rfl (l3Look_fn _ _ nc cc nm1 hx) rfl rfl (fun v G2 hle2 hh => ?_); obtain ⟨ts, tcs, xs, rfl, hrs, has, hss⟩ := hh; obtain ⟨ps, cs, ess, rfl, _⟩ := hrs.open; obtain ⟨b, o, nm1, t1, qq1, dd1, hpp, hat, hr1, ha1, hs1, hgb⟩ := (hx.mono hle2).get (i := j) (by omega); cases hpp; replace hx := hx.mono hle2; replace hb := hb.mono hle2; replace hrt := hrt.mono hle2;)
 refine sQ (qM rfl) rfl (sQ (pX rfl rfl) rfl (sQ (pX rfl rfl) rfl ?_))
 refine sE (step_alloc rfl) rfl (fun b45 => ?_)
 refine sS' ?_
 refine sQ (qA rfl) rfl (sD (nS (tS (tR (sQ (qM rfl) rfl ?_)))))
 (have hinloop := hrs; refine seq_take rfl (pick_fn _ br pb nb cb (p1) bs 3 hb hnb (by omega)) (Pk.perm (by repeat (first | exact Pk.here | apply Pk.there))) rfl rfl (fun v Gp outs hle53 hh => ?_); obtain ⟨rfl, rfl, j53, rfl, hj53, hk53⟩ := hh; have hinl := hj53)
 replace hrs := hrs.mono hle53
 replace hr1 := hr1.mono hle53
 replace hb := hb.mono hle53
 replace hrt := hrt.mono hle53
 replace hinloop := hinloop.mono hle53
 refine sB (qE rfl rfl) rfl rfl (fun h54 => ?_) (fun h54 => ?_)
 refine sQ (qM rfl) rfl (sL (lBa rfl rfl) rfl rfl ?_)
 refine seq_valb rfl ((sTypeValid_fn ts _ _ hrs)) rfl rfl (fun h57 => ?_) (fun h57 => ?_)
 refine sQ (pPt rfl rfl) rfl (sQ (qM rfl) rfl (sL (lBa rfl rfl) rfl rfl ?_))
 refine sL (lBa rfl rfl) rfl rfl ?_
 refine seq_valb rfl ((l1ConsistentA_fn ts (.mk k ks) _ _ _ has har hrs hrt)) rfl rfl (fun h62 => ?_) (fun h62 => ?_)
 refine sQ (pPt rfl rfl) rfl (sD (nS (qT rfl ?_)))
 refine tS (tR (sQ (qM rfl) rfl (sQ (qM rfl) rfl (sP (pIN (j := j) rfl rfl rfl (by omega)) rfl rfl ?_))))
 refine sQ (qF rfl) rfl (sL (load_s rfl rfl ((hat _).sub (j := 0) rfl)) rfl rfl ?_)
 refine sQ (pBd rfl rfl) rfl (sS' ?_)
 refine sD (nS (tT (rB (rS (ret_loopN (rB ?_))))))
 refine rS (ret_own1 (outs := [rd br pb nb cb (p1 + 1)]) (rC rfl (lBa rfl rfl)) (by repeat (first | exact SubH.nil | refine SubH.cons Pk.here ?_ | refine SubH.cons (Pk.there Pk.here) ?_ | refine SubH.cons (Pk.there (Pk.there Pk.here)) ?_ | apply SubH.drop)) ?_)
 (exact ⟨(p1 + 1), by omega, by omega, rfl, _, _, rfl, leafTm _ _ _ ⟨by omega, by omega⟩ (by first | exact ⟨by omega, by omega⟩ | exact hkn), by simp only [tmCount, tmCountL]; omega⟩)
 refine sQ (pPt rfl rfl) rfl (sD (nS (cF rfl ?_)))
 refine tK (nrm_block (nS (tR (sQ (qM rfl) rfl (sP (pure_sub rfl rfl (by omega) (by omega)) rfl rfl ?_)))))
 refine sQ (qA rfl) rfl (sD ?_)
 (have hinloop := hrs; refine nrm_loopN (j, p1 + 1, Gp) ?_ ?_ ?_)
 (simp only [flat_snoc]; exact sMk)
 (dsimp only; exact ⟨by omega, hleL.trans hle2, by omega, by omega⟩)
 (show _ < _ + 1; omega)
 refine sQ (pPt rfl rfl) rfl (sQ (qM rfl) rfl (sK rfl rfl (sK rfl rfl (sK rfl rfl (sQ (pPf rfl rfl) rfl (sD ?_))))))
 refine nS (cF rfl ?_)
 refine tK (nrm_block (nS (tR (sQ (qM rfl) rfl (sP (pure_sub rfl rfl (by omega) (by omega)) rfl rfl ?_)))))
 refine sQ (qA rfl) rfl (sD ?_)
 (have hinloop := hrs; refine nrm_loopN (j, p1 + 1, Gp) ?_ ?_ ?_)
 (simp only [flat_snoc]; exact sMk)
 (dsimp only; exact ⟨by omega, hleL.trans hle2, by omega, by omega⟩)
 (show _ < _ + 1; omega)
 refine sQ (qM rfl) rfl (sK rfl rfl (sK rfl rfl (sQ (pPf rfl rfl) rfl (sQ (qM rfl) rfl (sK rfl rfl (sK rfl rfl ?_))))))
 refine sK rfl rfl (sQ (pPf rfl rfl) rfl (sD (nS (cF rfl ?_))))
 refine tK (nrm_block (nS (tR (sQ (qM rfl) rfl (sP (pure_sub rfl rfl (by omega) (by omega)) rfl rfl ?_)))))
 refine sQ (qA rfl) rfl (sD ?_)
 (have hinloop := hrs; refine nrm_loopN (j, p1 + 1, Gp) ?_ ?_ ?_)
 (simp only [flat_snoc]; exact sMk)
 (dsimp only; exact ⟨by omega, hleL.trans hle2, by omega, by omega⟩)
 (show _ < _ + 1; omega)
 refine sD (nS (cF rfl ?_))
 refine tri_exit ?_
 refine ext_seq ?_
 refine ext_loopN ?_
 refine ext_block_eq ?_
 refine nS (tS (tS ?_))
 (show Tri _ _ (.region 7 ..) _ _; refine tri_cut (fun (x : Bool) => ⟨(49, .bool x) :: [(0, .pointer (some ⟨br, 0, none⟩)), (1, .slice pc nc cc), (3, .int .i64 depth), (6, .pointer (some ⟨b3, 0, none⟩)), (8, .pointer (some ⟨b4, 0, none⟩))], [rd br pb nb cb p1, .blk b4 [.int .i64 0, .string ⟨⟨[]⟩⟩, .int .i64 0, .int .i64 0, .slice none 0 0, .int .i64 0, .slice none 0 0, .int .i64 0, .slice none 0 0], .blk b3 [.int .i64 k, .slice q ks.length c]], G1⟩) (fun x => x = true → 1 < depth) ?_ ?_)
 refine tR (sQ (qM rfl) rfl (sB (pure_gtr rfl rfl) rfl rfl (fun h160 => ?_) (fun h160 => ?_)))
 refine sD (nrm_cut true (sub_mk (by repeat (first | exact SubE.nil | refine SubE.cons rfl ?_)) (by repeat (first | exact SubH.refl | exact SubH.nil | refine SubH.cons (by repeat (first | exact Pk.here | apply Pk.there)) ?_ | apply SubH.drop))) (fun _ => by omega))
 refine sD (nrm_cut false (sub_mk (by repeat (first | exact SubE.nil | refine SubE.cons rfl ?_)) (by repeat (first | exact SubH.refl | exact SubH.nil | refine SubH.cons (by repeat (first | exact Pk.here | apply Pk.there)) ?_ | apply SubH.drop))) (fun h => absurd h (by decide)))
 (rintro (x49 : Bool) hx49)
 (show Tri _ _ (.cond (.tmp 49) _ _) _ _; refine tri_cutr (fun (x : Nat × IM) => ⟨[(0, .pointer (some ⟨br, 0, none⟩)), (1, .slice pc nc cc), (3, .int .i64 depth), (6, .pointer (some ⟨b3, 0, none⟩)), (8, .pointer (some ⟨b4, 0, none⟩))], [rd br pb nb cb x.1, .blk b4 [.int .i64 0, .string ⟨⟨[]⟩⟩, .int .i64 0, .int .i64 0, .slice none 0 0, .int .i64 0, .slice none 0 0, .int .i64 0, .slice none 0 0], .blk b3 [.int .i64 k, .slice q ks.length c]], x.2⟩) (fun x => IMle G1 x.2 ∧ p1 ≤ x.1 ∧ x.1 ≤ p1 + 1) (tri_cond rfl (fun hxt => ?_) (fun hxf => ?_)) ?_)
 refine tS (tR (sQ (qM rfl) rfl ?_))
 (have hx49b := hx49 hxt; refine seq_take rfl (pick_fn _ br pb nb cb (p1) bs 9 hb hnb (by omega)) (Pk.perm (by repeat (first | exact Pk.here | apply Pk.there))) rfl rfl (fun v Gp outs hle170 hh => ?_); obtain ⟨rfl, rfl, j170, rfl, hj170, hk170⟩ := hh; have hpk9 := hj170)
 replace hb := hb.mono hle170
 replace hrt := hrt.mono hle170
 refine sD (nS (tri_block (tS (tR (sB (qE rfl rfl) rfl rfl (fun h176 => ?_) (fun h176 => ?_))))))
 refine sQ (qA rfl) rfl (sD (nS (qT rfl ?_)))
 refine tS ?_
 (obtain ⟨m, rfl⟩ := hfu.pos (.inl (by omega)); have hmB : mB (m + 1) = 3 * mB m + 200 := rfl; have hgm := mB_ge m; refine tri_draw mixed rfl ?_)
 refine any_load (i := 0) (l' := [tt,ff,ff,ff,ff,ff,ff,ff,ff,ff,ff,ff,ff]) rfl npI (lBa rfl rfl) rfl (by kernel_rfl) rfl rfl ?_
 refine aP 2 rfl (qM rfl) rfl ?_
 refine aP 3 rfl (qM rfl) rfl ?_
 refine aP 4 rfl (qM rfl) rfl ?_
 refine aL 5 rfl (lBa rfl rfl) rfl ?_
 refine aP 7 rfl (qM rfl) rfl ?_
 refine aP 8 rfl (pure_sub rfl rfl (by omega) (by omega)) rfl ?_
 refine aO' 1 ?_
 (refine one_imm rfl rfl (l1Copy_fn _ _ _ har.small hrt) rfl rfl rfl (fun v G6 hle6 hh => ?_); obtain ⟨cs1, F1, rfl, hs1, hn1⟩ := hh; obtain ⟨pz, cz, rfl, _⟩ := hs1.open; have hrz := hs1.R.mono (Dif.le G6 _); replace hx := hx.mono hle6; replace hb := hb.mono hle6; replace hrt := hrt.mono hle6;)
 refine aO' 6 ?_
 (have hcall := l1Blur_fn br pb nb cb bs hnb (.mk k ks) (p1 + 1) _ _ har hrt hb (by omega); refine one_take (l' := [tt,tt,tt,tt,tt,tt,tt,tt,tt,ff,ff,ff,ff]) rfl rfl hcall (Pk.perm (by repeat (first | exact Pk.here | apply Pk.there))) rfl rfl rfl (by repeat (first | exact HmOk.nil | apply HmOk.dep (by decide +kernel) | apply HmOk.im (by decide +kernel) hg0 (by repeat first | exact mH | apply mT) | apply HmOk.im (by decide +kernel) hg1 (by repeat first | exact mH | apply mT) | apply HmOk.blk (by decide +kernel) (by repeat (first | exact Pk.here | apply Pk.there)) (by repeat first | exact mH | apply mT))) (fun v Gn outs hleA hh => ?_); obtain ⟨pA, hpA1, hpA2, rfl, uA, cuA, rfl, hruA, huaA, husA, huhA⟩ := hh; obtain ⟨quA, duA, euA, rfl, _⟩ := hruA.open; replace hrz := hrz.mono hleA; replace hx := hx.mono hleA; replace hb := hb.mono hleA; replace hrt := hrt.mono hleA;)
 refine aO' 9 ?_
 (have hcall := ih m (by omega) (depth - 1) uA pA _ pc nc cc _ (hfu.sub (by omega) (huhA 4 hfu.1)) (by omega) (by omega) (by omega) hx hruA hb (by omega); refine one_take (l' := [tt,tt,tt,tt,tt,tt,tt,tt,tt,tt,ff,ff,ff]) rfl rfl hcall (Pk.perm (by repeat (first | exact Pk.here | apply Pk.there))) rfl rfl rfl (by repeat (first | exact HmOk.nil | apply HmOk.dep (by decide +kernel) | apply HmOk.im (by decide +kernel) hg0 (by repeat first | exact mH | apply mT) | apply HmOk.im (by decide +kernel) hg1 (by repeat first | exact mH | apply mT) | apply HmOk.blk (by decide +kernel) (by repeat (first | exact Pk.here | apply Pk.there)) (by repeat first | exact mH | apply mT))) (fun v Gn outs hlea hh => ?_); obtain ⟨pa, hpa1, hpa2, rfl, ea, ca, rfl, hra, hca⟩ := hh; obtain ⟨a1, a2, a3, a4, a5, a6, a7, a8, a9, rfl⟩ := hra.nine; replace hrz := hrz.mono hlea; replace hx := hx.mono hlea; replace hb := hb.mono hlea; replace hrt := hrt.mono hlea;)
 refine aO' 10 ?_
 (refine one_step0 rfl (step_buildSlice rfl rfl rfl (by omega) (by unfold maxLen; omega) rfl) rfl rfl ?_; rintro _ ⟨b197, rfl⟩)
 refine aP 11 rfl (pBd rfl rfl) rfl ?_
 refine aO' 12 ?_
 refine one_store rfl rfl rfl rfl rfl rfl rfl rfl (by kernel_rfl) (by repeat first | exact Sw.here | apply Sw.there) (by rfl) ?_
 refine aD' ?_
 refine nS ?_
 (refine ret_freeze (cs := [a1, a2, a3, a4, a5, a6, a7, a8, a9]) (by repeat (first | exact Pk.here | apply Pk.there)) (fun G9 hle9 hsl9 hno9 => ?_); have hN := node1 (k := 13) (nm := ⟨⟨[]⟩⟩) ⟨by omega, by omega⟩ (hrz.mono hle9) (hra.mono hle9) hsl9)
 refine tT (rB (ret_cutr ?_))
 refine ret_own1 (outs := [rd br pb nb cb pa]) (rC rfl (lBa rfl rfl)) (by repeat (first | exact SubH.nil | refine SubH.cons Pk.here ?_ | refine SubH.cons (Pk.there Pk.here) ?_ | refine SubH.cons (Pk.there (Pk.there Pk.here)) ?_ | apply SubH.drop)) ?_
 (exact ⟨pa, by omega, by omega, rfl, _, _, rfl, hN, by simp only [tmCount, tmCountL]; omega⟩)
 refine sQ (qA rfl) rfl (sD (nS (cF rfl ?_)))
 refine tS (tR (sB (qE rfl rfl) rfl rfl (fun h215 => ?_) (fun h215 => ?_)))
 refine sQ (qA rfl) rfl (sD (nS (qT rfl ?_)))
 refine tS ?_
 (obtain ⟨m, rfl⟩ := hfu.pos (.inl (by omega)); have hmB : mB (m + 1) = 3 * mB m + 200 := rfl; have hgm := mB_ge m; refine tri_draw mixed rfl ?_)
 refine any_pure (i := 0) (l' := [tt,ff,ff,ff,ff,ff,ff,ff,ff,ff,ff,ff,ff,ff,ff,ff,ff,ff,ff,ff,ff]) rfl npI (qM rfl) rfl (by kernel_rfl) rfl rfl ?_
 refine aP 1 rfl (qM rfl) rfl ?_
 refine aP 3 rfl (qM rfl) rfl ?_
 refine aP 4 rfl (pure_sub rfl rfl (by omega) (by omega)) rfl ?_
 refine aP 6 rfl (qM rfl) rfl ?_
 refine aP 7 rfl (qM rfl) rfl ?_
 refine aL 8 rfl (lBa rfl rfl) rfl ?_
 refine aP 9 rfl (qM rfl) rfl ?_
 refine aP 10 rfl (pure_sub rfl rfl (by omega) (by omega)) rfl ?_
 refine aP 12 rfl (qM rfl) rfl ?_
 refine aP 13 rfl (qM rfl) rfl ?_
 refine aL 14 rfl (lBa rfl rfl) rfl ?_
 refine aP 15 rfl (qM rfl) rfl ?_
 refine aP 16 rfl (pure_sub rfl rfl (by omega) (by omega)) rfl ?_
 refine aO' 2 ?_
 refine one_val rfl rfl ((l3Bool_fn _)) rfl rfl rfl ?_
 refine aO' 5 ?_
 (have hcall := ih m (by omega) (depth - 1) (.mk 3 []) (p1 + 1) _ pc nc cc _ (hfu.sub (by omega) (tAh_leaf 4 (by decide) (by decide))) (by omega) (by omega) (by omega) hx (tyLeaf_r _ ⟨by omega, by omega⟩) hb (by omega); refine one_take (l' := [tt,tt,tt,tt,tt,tt,tt,tt,tt,tt,tt,ff,tt,tt,tt,tt,tt,ff,ff,ff,ff]) rfl rfl hcall (Pk.perm (by repeat (first | exact Pk.here | apply Pk.there))) rfl rfl rfl (by repeat (first | exact HmOk.nil | apply HmOk.dep (by decide +kernel) | apply HmOk.im (by decide +kernel) hg0 (by repeat first | exact mH | apply mT) | apply HmOk.im (by decide +kernel) hg1 (by repeat first | exact mH | apply mT) | apply HmOk.blk (by decide +kernel) (by repeat (first | exact Pk.here | apply Pk.there)) (by repeat first | exact mH | apply mT))) (fun v Gn outs hlef hh => ?_); obtain ⟨pf, hpf1, hpf2, rfl, ef, cf, rfl, hrf, hcf⟩ := hh; obtain ⟨f1, f2, f3, f4, f5, f6, f7, f8, f9, rfl⟩ := hrf.nine; replace hx := hx.mono hlef; replace hb := hb.mono hlef; replace hrt := hrt.mono hlef;)
 refine aO' 11 ?_
 (have hcall := ih m (by omega) (depth - 1) (.mk k ks) pf _ pc nc cc _ (hfu.sub (by omega) hfu.1) (by omega) (by omega) (by omega) hx hrt hb (by omega); refine one_take (l' := [tt,tt,tt,tt,tt,tt,tt,tt,tt,tt,tt,tt,tt,tt,tt,tt,tt,ff,ff,ff,ff]) rfl rfl hcall (Pk.perm (by repeat (first | exact Pk.here | apply Pk.there))) rfl rfl rfl (by repeat (first | exact HmOk.nil | apply HmOk.dep (by decide +kernel) | apply HmOk.im (by decide +kernel) hg0 (by repeat first | exact mH | apply mT) | apply HmOk.im (by decide +kernel) hg1 (by repeat first | exact mH | apply mT) | apply HmOk.blk (by decide +kernel) (by repeat (first | exact Pk.here | apply Pk.there)) (by repeat first | exact mH | apply mT))) (fun v Gn outs hleg hh => ?_); obtain ⟨pg, hpg1, hpg2, rfl, eg, cg, rfl, hrg, hcg⟩ := hh; obtain ⟨g1, g2, g3, g4, g5, g6, g7, g8, g9, rfl⟩ := hrg.nine; replace hrf := hrf.mono hleg; replace hx := hx.mono hleg; replace hb := hb.mono hleg; replace hrt := hrt.mono hleg;)
 refine aO' 17 ?_
 (have hcall := ih m (by omega) (depth - 1) (.mk k ks) pg _ pc nc cc _ (hfu.sub (by omega) hfu.1) (by omega) (by omega) (by omega) hx hrt hb (by omega); refine one_take (l' := [tt,tt,tt,tt,tt,tt,tt,tt,tt,tt,tt,tt,tt,tt,tt,tt,tt,tt,ff,ff,ff]) rfl rfl hcall (Pk.perm (by repeat (first | exact Pk.here | apply Pk.there))) rfl rfl rfl (by repeat (first | exact HmOk.nil | apply HmOk.dep (by decide +kernel) | apply HmOk.im (by decide +kernel) hg0 (by repeat first | exact mH | apply mT) | apply HmOk.im (by decide +kernel) hg1 (by repeat first | exact mH | apply mT) | apply HmOk.blk (by decide +kernel) (by repeat (first | exact Pk.here | apply Pk.there)) (by repeat first | exact mH | apply mT))) (fun v Gn outs hlei hh => ?_); obtain ⟨pi, hpi1, hpi2, rfl, ei, ci, rfl, hri, hci⟩ := hh; obtain ⟨i1, i2, i3, i4, i5, i6, i7, i8, i9, rfl⟩ := hri.nine; replace hrf := hrf.mono hlei; replace hrg := hrg.mono hlei; replace hx := hx.mono hlei; replace hb := hb.mono hlei; replace hrt := hrt.mono hlei;)
 refine aO' 18 ?_
 (refine one_step0 rfl (step_buildSlice rfl rfl rfl (by omega) (by unfold maxLen; omega) rfl) rfl rfl ?_; rintro _ ⟨b245, rfl⟩)
 refine aO' 19 ?_
 refine one_val rfl rfl ((l2Node_fn _ _ _ _ _)) rfl rfl rfl ?_
 refine aO' 20 ?_
 refine one_store rfl rfl rfl rfl rfl rfl rfl rfl (by kernel_rfl) (by repeat first | exact Sw.here | apply Sw.there) (by rfl) ?_
 refine aD' ?_
 refine nS ?_
 (refine ret_freeze (cs := [f1, f2, f3, f4, f5, f6, f7, f8, f9] ++ ([g1, g2, g3, g4, g5, g6, g7, g8, g9] ++ [i1, i2, i3, i4, i5, i6, i7, i8, i9])) (by repeat (first | exact Pk.here | apply Pk.there)) (fun G9 hle9 hsl9 hno9 => ?_); have hN := node3 (k := 9) (nm := ⟨⟨[]⟩⟩) ⟨by omega, by omega⟩ (hrf.mono hle9) (hrg.mono hle9) (hri.mono hle9) hsl9)
 refine tT (rB (ret_cutr ?_))
 refine ret_own1 (outs := [rd br pb nb cb pi]) (rC rfl (lBa rfl rfl)) (by repeat (first | exact SubH.nil | refine SubH.cons Pk.here ?_ | refine SubH.cons (Pk.there Pk.here) ?_ | refine SubH.cons (Pk.there (Pk.there Pk.here)) ?_ | apply SubH.drop)) ?_
 (exact ⟨pi, by omega, by omega, rfl, _, _, rfl, hN, by simp only [tmCount, tmCountL]; omega⟩)
 refine sQ (qA rfl) rfl (sD (nS (cF rfl ?_)))
 refine tS (tR (sB (qE rfl rfl) rfl rfl (fun h264 => ?_) (fun h264 => ?_)))
 refine sQ (qA rfl) rfl (sD (nS (qT rfl ?_)))
 refine tS (tR (sQ (qM rfl) rfl ?_))
 (have hcall := l1DrawA_fn br pb nb cb bs hnb 0 (p1 + 1) _ (by omega) hb (by have : dB (0 + 1) ≤ 6 := (by decide); omega); refine seq_take rfl hcall (Pk.perm (by repeat (first | exact Pk.here | apply Pk.there))) rfl rfl (fun v Gn outs hleD hh => ?_); obtain ⟨pD, hpD1, hpD2, rfl, uD, cuD, rfl, hruD, husD, huhD⟩ := hh; have huaD := huhD.ar; obtain ⟨quD, duD, euD, rfl, _⟩ := hruD.open; have hdBD : dB (0 + 1) ≤ 6 := (by decide); replace hx := hx.mono hleD; replace hb := hb.mono hleD; replace hrt := hrt.mono hleD;)
 refine sE (step_alloc rfl) rfl (fun b273 => ?_)
 refine sS' ?_
 refine sD (nS (tS ?_))
 (obtain ⟨m, rfl⟩ := hfu.pos (.inl (by omega)); have hmB : mB (m + 1) = 3 * mB m + 200 := rfl; have hgm := mB_ge m; refine tri_draw mixed rfl ?_)
 refine any_pure (i := 0) (l' := [tt,ff,ff,ff,ff,ff,ff,ff,ff,ff,ff,ff,ff,ff,ff,ff,ff,ff]) rfl npI (qM rfl) rfl (by kernel_rfl) rfl rfl ?_
 refine aP 1 rfl (qM rfl) rfl ?_
 refine aL 2 rfl (lBa rfl rfl) rfl ?_
 refine aL 3 rfl (lBa rfl rfl) rfl ?_
 refine aP 4 rfl (qM rfl) rfl ?_
 refine aP 5 rfl (pure_sub rfl rfl (by omega) (by omega)) rfl ?_
 refine aP 7 rfl (qM rfl) rfl ?_
 refine aP 8 rfl (qM rfl) rfl ?_
 refine aP 9 rfl (qM rfl) rfl ?_
 refine aL 10 rfl (lBa rfl rfl) rfl ?_
 refine aP 12 rfl (qM rfl) rfl ?_
 refine aP 13 rfl (pure_sub rfl rfl (by omega) (by omega)) rfl ?_
 refine aO' 6 ?_
 (have hcall := l3Lam_fn br pb nb cb bs hnb m (ih m (by omega)) (depth - 1) uD (.mk k ks) (pD) _ pc nc cc _ _ (hfu.sub (by omega) hfu.1) (by omega) (by omega) (by omega) hx hruD ⟨huaD, by omega⟩ hrt hb (by omega); refine one_take (l' := [tt,tt,tt,tt,tt,tt,tt,tt,tt,tt,tt,ff,tt,tt,ff,ff,ff,ff]) rfl rfl hcall (Pk.perm (by repeat (first | exact Pk.here | apply Pk.there))) rfl rfl rfl (by repeat (first | exact HmOk.nil | apply HmOk.dep (by decide +kernel) | apply HmOk.im (by decide +kernel) hg0 (by repeat first | exact mH | apply mT) | apply HmOk.im (by decide +kernel) hg1 (by repeat first | exact mH | apply mT) | apply HmOk.blk (by decide +kernel) (by repeat (first | exact Pk.here | apply Pk.there)) (by repeat first | exact mH | apply mT))) (fun v Gn outs hlel hh => ?_); obtain ⟨pl, hpl1, hpl2, rfl, el, cl, rfl, hrl, hcl⟩ := hh; obtain ⟨l1, l2, l3, l4, l5, l6, l7, l8, l9, rfl⟩ := hrl.nine; replace hruD := hruD.mono hlel; replace hx := hx.mono hlel; replace hb := hb.mono hlel; replace hrt := hrt.mono hlel;)
 refine aO' 11 ?_
 (have hcall := l1Blur_fn br pb nb cb bs hnb uD (pl) _ _ huaD hruD hb (by omega); refine one_take (l' := [tt,tt,tt,tt,tt,tt,tt,tt,tt,tt,tt,tt,tt,tt,ff,ff,ff,ff]) rfl rfl hcall (Pk.perm (by repeat (first | exact Pk.here | apply Pk.there))) rfl rfl rfl (by repeat (first | exact HmOk.nil | apply HmOk.dep (by decide +kernel) | apply HmOk.im (by decide +kernel) hg0 (by repeat first | exact mH | apply mT) | apply HmOk.im (by decide +kernel) hg1 (by repeat first | exact mH | apply mT) | apply HmOk.blk (by decide +kernel) (by repeat (first | exact Pk.here | apply Pk.there)) (by repeat first | exact mH | apply mT))) (fun v Gn outs hleE hh => ?_); obtain ⟨pE, hpE1, hpE2, rfl, uE, cuE, rfl, hruE, huaE, husE, huhE⟩ := hh; obtain ⟨quE, duE, euE, rfl, _⟩ := hruE.open; replace hrl := hrl.mono hleE; replace hx := hx.mono hleE; replace hb := hb.mono hleE; replace hrt := hrt.mono hleE;)
 refine aO' 14 ?_
 (have hcall := ih m (by omega) (depth - 1) uE pE _ pc nc cc _ (hfu.sub (by omega) (huhE 4 (huhD.le (by omega)))) (by omega) (by omega) (by omega) hx hruE hb (by omega); refine one_take (l' := [tt,tt,tt,tt,tt,tt,tt,tt,tt,tt,tt,tt,tt,tt,tt,ff,ff,ff]) rfl rfl hcall (Pk.perm (by repeat (first | exact Pk.here | apply Pk.there))) rfl rfl rfl (by repeat (first | exact HmOk.nil | apply HmOk.dep (by decide +kernel) | apply HmOk.im (by decide +kernel) hg0 (by repeat first | exact mH | apply mT) | apply HmOk.im (by decide +kernel) hg1 (by repeat first | exact mH | apply mT) | apply HmOk.blk (by decide +kernel) (by repeat (first | exact Pk.here | apply Pk.there)) (by repeat first | exact mH | apply mT))) (fun v Gn outs hled hh => ?_); obtain ⟨pd, hpd1, hpd2, rfl, ed, cd, rfl, hrd, hcd⟩ := hh; obtain ⟨d1, d2, d3, d4, d5, d6, d7, d8, d9, rfl⟩ := hrd.nine; replace hrl := hrl.mono hled; replace hx := hx.mono hled; replace hb := hb.mono hled; replace hrt := hrt.mono hled;)
 refine aO' 15 ?_
 (refine one_step0 rfl (step_buildSlice rfl rfl rfl (by omega) (by unfold maxLen; omega) rfl) rfl rfl ?_; rintro _ ⟨b298, rfl⟩)
 refine aO' 16 ?_
 refine one_val rfl rfl ((l2Node_fn _ _ _ _ _)) rfl rfl rfl ?_
 refine aO' 17 ?_
 refine one_store rfl rfl rfl rfl rfl rfl rfl rfl (by kernel_rfl) (by repeat first | exact Sw.here | apply Sw.there) (by rfl) ?_
 refine aD' ?_
 refine nS ?_
 (refine ret_freeze (cs := [l1, l2, l3, l4, l5, l6, l7, l8, l9] ++ [d1, d2, d3, d4, d5, d6, d7, d8, d9]) (by repeat (first | exact Pk.here | apply Pk.there)) (fun G9 hle9 hsl9 hno9 => ?_); have hN := node2 (k := 6) (nm := ⟨⟨[]⟩⟩) ⟨by omega, by omega⟩ (hrl.mono hle9) (hrd.mono hle9) hsl9)
 refine tT (rB (ret_cutr ?_))
 refine ret_own1 (outs := [rd br pb nb cb pd]) (rC rfl (lBa rfl rfl)) (by repeat (first | exact SubH.nil | refine SubH.cons Pk.here ?_ | refine SubH.cons (Pk.there Pk.here) ?_ | refine SubH.cons (Pk.there (Pk.there Pk.here)) ?_ | apply SubH.drop)) ?_
 (exact ⟨pd, by omega, by omega, rfl, _, _, rfl, hN, by simp only [tmCount, tmCountL]; omega⟩)
 refine sQ (qA rfl) rfl (sD (nS (cF rfl ?_)))
 refine tS (tR (sB (qE rfl rfl) rfl rfl (fun h317 => ?_) (fun h317 => ?_)))
 refine sQ (qA rfl) rfl (sD (nS (qT rfl ?_)))
 refine tS (tR (sQ (qM rfl) rfl (sQ (qM rfl) rfl (sL (lBa rfl rfl) rfl rfl ?_))))
 refine sQ (qM rfl) rfl (sP (pure_sub rfl rfl (by omega) (by omega)) rfl rfl ?_)
 (have hpkq := hpk9; obtain ⟨m, rfl⟩ := hfu.pos (.inl (by omega)); have hmB : mB (m + 1) = 3 * mB m + 200 := rfl; have hgm := mB_ge m; have hcall := ih m (by omega) (depth - 1) (.mk k ks) (p1 + 1) _ pc nc cc _ (hfu.sub (by omega) hfu.1) (by omega) (by omega) (by omega) hx hrt hb (by omega); refine seq_take rfl hcall (Pk.perm (by repeat (first | exact Pk.here | apply Pk.there))) rfl rfl (fun v Gn outs hleh hh => ?_); obtain ⟨ph, hph1, hph2, rfl, eh, ch, rfl, hrh, hch⟩ := hh; obtain ⟨h1, h2, h3, h4, h5, h6, h7, h8, h9, rfl⟩ := hrh.nine; replace hx := hx.mono hleh; replace hb := hb.mono hleh; replace hrt := hrt.mono hleh;)
 refine seq_val rfl ((l2Num_fn _ _)) rfl rfl ?_
 (refine seq_step (step_buildSlice rfl rfl rfl (by omega) (by unfold maxLen; omega) rfl) rfl ?_; rintro _ ⟨b331, rfl⟩)
 refine seq_val rfl ((l2Node_fn _ _ _ _ _)) rfl rfl ?_
 (refine seq_step (step_buildSlice rfl rfl rfl (by omega) (by unfold maxLen; omega) rfl) rfl ?_; rintro _ ⟨b333, rfl⟩)
 refine seq_val rfl ((l2Node_fn _ _ _ _ _)) rfl rfl ?_
 refine sS' ?_
 refine sD (nS ?_)
 (refine ret_freeze (cs := [h1, h2, h3, h4, h5, h6, h7, h8, h9] ++ [.int .i64 2, .string ⟨⟨[]⟩⟩, .int .i64 1, .int .i64 0, .slice none 0 0, .int .i64 0, .slice none 0 0, .int .i64 0, .slice none 0 0]) (by repeat (first | exact Pk.here | apply Pk.there)) (fun G8 hle8 hsl8 hno8 => ?_); have hNi := node2 (k := 10) (nm := ⟨⟨[]⟩⟩) ⟨by omega, by omega⟩ (hrh.mono hle8) (leafTm G8 ⟨⟨[]⟩⟩ 1 (k := 2) ⟨by omega, by omega⟩ ⟨by omega, by omega⟩) hsl8; refine ret_freeze (by repeat (first | exact Pk.here | apply Pk.there)) (fun G9 hle9 hsl9 hno9 => ?_); have hN := node1 (k := 11) (nm := ⟨⟨[]⟩⟩) ⟨by omega, by omega⟩ (tyLeaf_r G9 (k := 0) ⟨by omega, by omega⟩) (hNi.mono hle9) hsl9)
 refine tT (rB (ret_cutr ?_))
 refine ret_own1 (outs := [rd br pb nb cb ph]) (rC rfl (lBa rfl rfl)) (by repeat (first | exact SubH.nil | refine SubH.cons Pk.here ?_ | refine SubH.cons (Pk.there Pk.here) ?_ | refine SubH.cons (Pk.there (Pk.there Pk.here)) ?_ | apply SubH.drop)) ?_
 (exact ⟨ph, by omega, by omega, rfl, _, _, rfl, hN, by simp only [tmCount, tmCountL]; omega⟩)
 refine sQ (qA rfl) rfl (sD (nS (cF rfl ?_)))
 refine tK (nrm_block (nrm_cutr (p1 + 1, Gp) (sub_mk (by repeat (first | exact SubE.nil | refine SubE.cons rfl ?_)) (by repeat (first | exact SubH.refl | exact SubH.nil | refine SubH.cons (by repeat (first | exact Pk.here | apply Pk.there)) ?_ | apply SubH.drop))) ⟨IMle.refl _, by dsimp only; omega, by dsimp only; omega⟩))
 refine tK (nrm_cutr (p1, G1) (sub_mk (by repeat (first | exact SubE.nil | refine SubE.cons rfl ?_)) (by repeat (first | exact SubH.refl | exact SubH.nil | refine SubH.cons (by repeat (first | exact Pk.here | apply Pk.there)) ?_ | apply SubH.drop))) ⟨IMle.refl _, by dsimp only; omega, by dsimp only; omega⟩)
 (rintro ⟨(p2 : Nat), G2⟩ ⟨hle2c, hp2a, hp2b⟩; simp only [] at hle2c hp2a hp2b ⊢; have hcut1 := hp2a; replace hx := hx.mono hle2c; replace hb := hb.mono hle2c; replace hrt := hrt.mono hle2c;)
 refine tS (tS (tR (sQ (qF0 rfl) rfl (sL (lBs rfl rfl) rfl rfl ?_))))
 refine sD (nS ?_)
 (show Tri _ _ (.block 3 ..) _ _; refine tri_cutr (fun (x : Nat × IM) => ⟨[(0, .pointer (some ⟨br, 0, none⟩)), (1, .slice pc nc cc), (3, .int .i64 depth), (6, .pointer (some ⟨b3, 0, none⟩)), (8, .pointer (some ⟨b4, 0, none⟩))], [rd br pb nb cb x.1, .blk b4 [.int .i64 0, .string ⟨⟨[]⟩⟩, .int .i64 0, .int .i64 0, .slice none 0 0, .int .i64 0, .slice none 0 0, .int .i64 0, .slice none 0 0], .blk b3 [.int .i64 k, .slice q ks.length c]], x.2⟩) (fun x => IMle G2 x.2 ∧ p2 ≤ x.1 ∧ x.1 ≤ p2 + 2) ?_ ?_)
 refine tri_block (tS (tR (sB (qE rfl rfl) rfl rfl (fun h365 => ?_) (fun h365 => ?_))))
 refine sQ (qA rfl) rfl (sD (nS (qT rfl ?_)))
 refine tS (tS (tR (sQ (qM rfl) rfl (sB (pure_gtr rfl rfl) rfl rfl (fun h374 => ?_) (fun h374 => ?_)))))
 refine sQ (qM rfl) rfl (sQ (qM rfl) rfl ?_)
 (have hkk3 : k = 3 := (by omega); refine seq_take rfl (pick_fn _ br pb nb cb (p2) bs 2 hb hnb (by omega)) (Pk.perm (by repeat (first | exact Pk.here | apply Pk.there))) rfl rfl (fun v Gp outs hle377 hh => ?_); obtain ⟨rfl, rfl, j377, rfl, hj377, hk377⟩ := hh; have hpk22 := hj377)
 replace hb := hb.mono hle377
 replace hrt := hrt.mono hle377
 refine sB (qE rfl rfl) rfl rfl (fun h378 => ?_) (fun h378 => ?_)
 refine sQ (pPt rfl rfl) rfl (sD (nS (qT rfl ?_)))
 refine tS (tR (sQ (qM rfl) rfl (sQ (qM rfl) rfl (seq_val rfl ((l3Int_fn _)) rfl rfl ?_))))
 refine sQ (qM rfl) rfl (sP (pure_sub rfl rfl (by omega) (by omega)) rfl rfl ?_)
 (have hkk3q := hkk3; obtain ⟨m, rfl⟩ := hfu.pos (.inl (by omega)); have hmB : mB (m + 1) = 3 * mB m + 200 := rfl; have hgm := mB_ge m; have hcall := ih m (by omega) (depth - 1) (.mk 2 []) (p2 + 1) _ pc nc cc _ (hfu.sub (by omega) (tAh_leaf 4 (by decide) (by decide))) (by omega) (by omega) (by omega) hx (tyLeaf_r _ ⟨by omega, by omega⟩) hb (by omega); refine seq_take rfl hcall (Pk.perm (by repeat (first | exact Pk.here | apply Pk.there))) rfl rfl (fun v Gn outs hlen hh => ?_); obtain ⟨pn, hpn1, hpn2, rfl, en, cn, rfl, hrn, hcn⟩ := hh; obtain ⟨n1, n2, n3, n4, n5, n6, n7, n8, n9, rfl⟩ := hrn.nine; replace hx := hx.mono hlen; replace hb := hb.mono hlen; replace hrt := hrt.mono hlen;)
 refine sQ (qM rfl) rfl (sQ (qM rfl) rfl (seq_val rfl ((l3Int_fn _)) rfl rfl ?_))
 refine sQ (qM rfl) rfl (sP (pure_sub rfl rfl (by omega) (by omega)) rfl rfl ?_)
 (have hcall := ih m (by omega) (depth - 1) (.mk 2 []) pn _ pc nc cc _ (hfu.sub (by omega) (tAh_leaf 4 (by decide) (by decide))) (by omega) (by omega) (by omega) hx (tyLeaf_r _ ⟨by omega, by omega⟩) hb (by omega); refine seq_take rfl hcall (Pk.perm (by repeat (first | exact Pk.here | apply Pk.there))) rfl rfl (fun v Gn outs hleo hh => ?_); obtain ⟨po, hpo1, hpo2, rfl, eo, co, rfl, hro, hco⟩ := hh; obtain ⟨o1, o2, o3, o4, o5, o6, o7, o8, o9, rfl⟩ := hro.nine; replace hrn := hrn.mono hleo; replace hx := hx.mono hleo; replace hb := hb.mono hleo; replace hrt := hrt.mono hleo;)
 (refine seq_step (step_buildSlice rfl rfl rfl (by omega) (by unfold maxLen; omega) rfl) rfl ?_; rintro _ ⟨b397, rfl⟩)
 refine seq_val rfl ((l2Node_fn _ _ _ _ _)) rfl rfl ?_
 refine sS' ?_
 refine sD (nS ?_)
 (refine ret_freeze (cs := [n1, n2, n3, n4, n5, n6, n7, n8, n9] ++ [o1, o2, o3, o4, o5, o6, o7, o8, o9]) (by repeat (first | exact Pk.here | apply Pk.there)) (fun G9 hle9 hsl9 hno9 => ?_); have hN := node2 (k := 8) (nm := ⟨⟨[]⟩⟩) ⟨by omega, by omega⟩ (hrn.mono hle9) (hro.mono hle9) hsl9)
 refine tT (rS (rB (ret_cutr ?_)))
 refine ret_own1 (outs := [rd br pb nb cb po]) (rC rfl (lBa rfl rfl)) (by repeat (first | exact SubH.nil | refine SubH.cons Pk.here ?_ | refine SubH.cons (Pk.there Pk.here) ?_ | refine SubH.cons (Pk.there (Pk.there Pk.here)) ?_ | apply SubH.drop)) ?_
 (exact ⟨po, by omega, by omega, rfl, _, _, rfl, hN, by simp only [tmCount, tmCountL]; omega⟩)
 refine sQ (pPt rfl rfl) rfl (sD (nS (cF rfl ?_)))
 refine tK (nS (tS (tR (sQ (pBd rfl rfl) rfl (sS' ?_)))))
 refine sD (nS (tT (rB (ret_cutr ?_))))
 refine ret_own1 (outs := [rd br pb nb cb (p2 + 1)]) (rC rfl (lBa rfl rfl)) (by repeat (first | exact SubH.nil | refine SubH.cons Pk.here ?_ | refine SubH.cons (Pk.there Pk.here) ?_ | refine SubH.cons (Pk.there (Pk.there Pk.here)) ?_ | apply SubH.drop)) ?_
 (exact ⟨(p2 + 1), by omega, by omega, rfl, _, _, rfl, leafTm _ _ _ ⟨by omega, by omega⟩ (by first | exact ⟨by omega, by omega⟩ | exact hkn), by simp only [tmCount, tmCountL]; omega⟩)
 refine sQ (qM rfl) rfl (sK rfl rfl (sK rfl rfl (sK rfl rfl (sQ (pPf rfl rfl) rfl (sD (nS ?_))))))
 refine cF rfl ?_
 refine tK (nS (tS (tR (sQ (pBd rfl rfl) rfl (sS' ?_)))))
 refine sD (nS (tT (rB (ret_cutr ?_))))
 refine ret_own1 (outs := [rd br pb nb cb p2]) (rC rfl (lBa rfl rfl)) (by repeat (first | exact SubH.nil | refine SubH.cons Pk.here ?_ | refine SubH.cons (Pk.there Pk.here) ?_ | refine SubH.cons (Pk.there (Pk.there Pk.here)) ?_ | apply SubH.drop)) ?_
 (exact ⟨p2, by omega, by omega, rfl, _, _, rfl, leafTm _ _ _ ⟨by omega, by omega⟩ (by first | exact ⟨by omega, by omega⟩ | exact hkn), by simp only [tmCount, tmCountL]; omega⟩)
 refine sQ (qA rfl) rfl (sD (nS (cF rfl ?_)))
 refine tS (tR (sB (qE rfl rfl) rfl rfl (fun h453 => ?_) (fun h453 => ?_)))
 refine sQ (qA rfl) rfl (sD (nS (qT rfl ?_)))
 refine tS ?_
 (have hk45 : k = 4 ∨ k = 5 := (by omega); have hl2 := hops hk45; obtain ⟨m, rfl⟩ := hfu.pos (.inr hk45); have hmB : mB (m + 1) = 3 * mB m + 200 := rfl; have hgm := mB_ge m; obtain ⟨es9, hsl, hkl⟩ := hrt.kidsM; obtain ⟨b0, o0, q0, d0, hp0, hat0, hre0, hg0⟩ := hsl.kidTy hkl (i := 0) (by omega) (by omega); obtain ⟨b1, o1, q1, d1, hp1, hat1, hre1, hg1⟩ := hsl.kidTy hkl (i := 1) (by omega) (by omega); cases hp0; cases hp1; have hmem0 := List.getElem_mem (l := ks) (n := 0) (by omega); have hmem1 := List.getElem_mem (l := ks) (n := 1) (by omega); refine tri_draw mixed rfl ?_)
 refine any_pure (i := 0) (l' := [tt,ff,ff,ff,ff,ff,ff,ff,ff,ff,ff,ff,ff,ff]) rfl npI (qM rfl) rfl (by kernel_rfl) rfl rfl ?_
 refine aP 1 rfl (qM rfl) rfl ?_
 refine aP 2 rfl (qF0 rfl) rfl ?_
 refine aL 3 rfl (lBs rfl rfl) rfl ?_
 refine aP 4 rfl (pIN (j := 0) rfl rfl rfl (by omega)) rfl ?_
 refine aL 5 rfl (load_a rfl rfl (hat0 _) rfl) rfl ?_
 refine aP 6 rfl (qF0 rfl) rfl ?_
 refine aL 7 rfl (lBs rfl rfl) rfl ?_
 refine aP 8 rfl (pIN (j := 1) rfl rfl rfl (by omega)) rfl ?_
 refine aL 9 rfl (load_a rfl rfl (hat1 _) rfl) rfl ?_
 refine aP 10 rfl (qM rfl) rfl ?_
 refine aP 11 rfl (pure_sub rfl rfl (by omega) (by omega)) rfl ?_
 refine aO' 12 ?_
 (have hcall := l3Lam_fn br pb nb cb bs hnb m (ih m (by omega)) (depth - 1) ks[0] ks[1] (p2) _ pc nc cc _ _ (hfu.kid hmem1) (by omega) (by omega) (by omega) hx hre0 ⟨har.kid _ hmem0, by have := sz_kid (k := k) hmem0; omega⟩ hre1 hb (by omega); refine one_take (l' := [tt,tt,tt,tt,tt,tt,tt,tt,tt,tt,tt,tt,tt,ff]) rfl rfl hcall (Pk.perm (by repeat (first | exact Pk.here | apply Pk.there))) rfl rfl rfl (by repeat (first | exact HmOk.nil | apply HmOk.dep (by decide +kernel) | apply HmOk.im (by decide +kernel) hg0 (by repeat first | exact mH | apply mT) | apply HmOk.im (by decide +kernel) hg1 (by repeat first | exact mH | apply mT) | apply HmOk.blk (by decide +kernel) (by repeat (first | exact Pk.here | apply Pk.there)) (by repeat first | exact mH | apply mT))) (fun v Gn outs hlek hh => ?_); obtain ⟨pk, hpk1, hpk2, rfl, ek, ck, rfl, hrk, hck⟩ := hh; obtain ⟨k1, k2, k3, k4, k5, k6, k7, k8, k9, rfl⟩ := hrk.nine; replace hx := hx.mono hlek; replace hb := hb.mono hlek; replace hrt := hrt.mono hlek;)
 refine aO' 13 ?_
 refine one_store rfl rfl rfl rfl rfl hrk.one rfl rfl (by kernel_rfl) (by repeat first | exact Sw.here | apply Sw.there) (by rfl) ?_
 refine aD' ?_
 refine nS (tT (rB (ret_cutr ?_)))
 refine ret_own1 (outs := [rd br pb nb cb pk]) (rC rfl (lBa rfl rfl)) (by repeat (first | exact SubH.nil | refine SubH.cons Pk.here ?_ | refine SubH.cons (Pk.there Pk.here) ?_ | refine SubH.cons (Pk.there (Pk.there Pk.here)) ?_ | apply SubH.drop)) ?_
 (exact ⟨pk, by omega, by omega, rfl, _, _, rfl, hrk, by omega⟩)
 refine sQ (qA rfl) rfl (sD (nS (cF rfl ?_)))
 refine tS (tR (sB (qE rfl rfl) rfl rfl (fun h489 => ?_) (fun h489 => ?_)))
 refine sQ (qA rfl) rfl (sD (nS (qT rfl ?_)))
 refine tS ?_
 (have hk45 : k = 4 ∨ k = 5 := (by omega); have hl2 := hops hk45; obtain ⟨m, rfl⟩ := hfu.pos (.inr hk45); have hmB : mB (m + 1) = 3 * mB m + 200 := rfl; have hgm := mB_ge m; obtain ⟨es9, hsl, hkl⟩ := hrt.kidsM; obtain ⟨b0, o0, q0, d0, hp0, hat0, hre0, hg0⟩ := hsl.kidTy hkl (i := 0) (by omega) (by omega); obtain ⟨b1, o1, q1, d1, hp1, hat1, hre1, hg1⟩ := hsl.kidTy hkl (i := 1) (by omega) (by omega); cases hp0; cases hp1; have hmem0 := List.getElem_mem (l := ks) (n := 0) (by omega); have hmem1 := List.getElem_mem (l := ks) (n := 1) (by omega); refine tri_draw mixed rfl ?_)
 refine any_pure (i := 0) (l' := [tt,ff,ff,ff,ff,ff,ff,ff,ff,ff,ff,ff,ff,ff,ff,ff,ff,ff,ff,ff,ff]) rfl npI (qM rfl) rfl (by kernel_rfl) rfl rfl ?_
 refine aP 1 rfl (qM rfl) rfl ?_
 refine aP 2 rfl (qF0 rfl) rfl ?_
 refine aL 3 rfl (lBs rfl rfl) rfl ?_
 refine aP 4 rfl (pIN (j := 0) rfl rfl rfl (by omega)) rfl ?_
 refine aL 5 rfl (load_a rfl rfl (hat0 _) rfl) rfl ?_
 refine aP 6 rfl (qM rfl) rfl ?_
 refine aP 7 rfl (pure_sub rfl rfl (by omega) (by omega)) rfl ?_
 refine aP 9 rfl (qM rfl) rfl ?_
 refine aP 10 rfl (qM rfl) rfl ?_
 refine aP 11 rfl (qF0 rfl) rfl ?_
 refine aL 12 rfl (lBs rfl rfl) rfl ?_
 refine aP 13 rfl (pIN (j := 1) rfl rfl rfl (by omega)) rfl ?_
 refine aL 14 rfl (load_a rfl rfl (hat1 _) rfl) rfl ?_
 refine aP 15 rfl (qM rfl) rfl ?_
 refine aP 16 rfl (pure_sub rfl rfl (by omega) (by omega)) rfl ?_
 refine aO' 8 ?_
 (have hcall := ih m (by omega) (depth - 1) ks[0] p2 _ pc nc cc _ (hfu.kid hmem0) (by omega) (by omega) (by omega) hx hre0 hb (by omega); refine one_take (l' := [tt,tt,tt,tt,tt,tt,tt,tt,tt,tt,tt,tt,tt,tt,tt,tt,tt,ff,ff,ff,ff]) rfl rfl hcall (Pk.perm (by repeat (first | exact Pk.here | apply Pk.there))) rfl rfl rfl (by repeat (first | exact HmOk.nil | apply HmOk.dep (by decide +kernel) | apply HmOk.im (by decide +kernel) hg0 (by repeat first | exact mH | apply mT) | apply HmOk.im (by decide +kernel) hg1 (by repeat first | exact mH | apply mT) | apply HmOk.blk (by decide +kernel) (by repeat (first | exact Pk.here | apply Pk.there)) (by repeat first | exact mH | apply mT))) (fun v Gn outs hles hh => ?_); obtain ⟨ps, hps1, hps2, rfl, es, cs, rfl, hrs, hcs⟩ := hh; obtain ⟨s1, s2, s3, s4, s5, s6, s7, s8, s9, rfl⟩ := hrs.nine; replace hre1 := hre1.mono hles; replace hx := hx.mono hles; replace hb := hb.mono hles; replace hrt := hrt.mono hles;)
 refine aO' 17 ?_
 (have hcall := ih m (by omega) (depth - 1) ks[1] ps _ pc nc cc _ (hfu.kid hmem1) (by omega) (by omega) (by omega) hx hre1 hb (by omega); refine one_take (l' := [tt,tt,tt,tt,tt,tt,tt,tt,tt,tt,tt,tt,tt,tt,tt,tt,tt,tt,ff,ff,ff]) rfl rfl hcall (Pk.perm (by repeat (first | exact Pk.here | apply Pk.there))) rfl rfl rfl (by repeat (first | exact HmOk.nil | apply HmOk.dep (by decide +kernel) | apply HmOk.im (by decide +kernel) hg0 (by repeat first | exact mH | apply mT) | apply HmOk.im (by decide +kernel) hg1 (by repeat first | exact mH | apply mT) | apply HmOk.blk (by decide +kernel) (by repeat (first | exact Pk.here | apply Pk.there)) (by repeat first | exact mH | apply mT))) (fun v Gn outs hlew hh => ?_); obtain ⟨pw, hpw1, hpw2, rfl, ew, cw, rfl, hrw, hcw⟩ := hh; obtain ⟨w1, w2, w3, w4, w5, w6, w7, w8, w9, rfl⟩ := hrw.nine; replace hrs := hrs.mono hlew; replace hx := hx.mono hlew; replace hb := hb.mono hlew; replace hrt := hrt.mono hlew;)
 refine aO' 18 ?_
 (refine one_step0 rfl (step_buildSlice rfl rfl rfl (by omega) (by unfold maxLen; omega) rfl) rfl rfl ?_; rintro _ ⟨b517, rfl⟩)
 refine aO' 19 ?_
 refine one_val rfl rfl ((l2Node_fn _ _ _ _ _)) rfl rfl rfl ?_
 refine aO' 20 ?_
 refine one_store rfl rfl rfl rfl rfl rfl rfl rfl (by kernel_rfl) (by repeat first | exact Sw.here | apply Sw.there) (by rfl) ?_
 refine aD' ?_
 refine nS ?_
 (refine ret_freeze (cs := [s1, s2, s3, s4, s5, s6, s7, s8, s9] ++ [w1, w2, w3, w4, w5, w6, w7, w8, w9]) (by repeat (first | exact Pk.here | apply Pk.there)) (fun G9 hle9 hsl9 hno9 => ?_); have hN := node2 (k := 10) (nm := ⟨⟨[]⟩⟩) ⟨by omega, by omega⟩ (hrs.mono hle9) (hrw.mono hle9) hsl9)
 refine tT (rB (ret_cutr ?_))
 refine ret_own1 (outs := [rd br pb nb cb pw]) (rC rfl (lBa rfl rfl)) (by repeat (first | exact SubH.nil | refine SubH.cons Pk.here ?_ | refine SubH.cons (Pk.there Pk.here) ?_ | refine SubH.cons (Pk.there (Pk.there Pk.here)) ?_ | apply SubH.drop)) ?_
 (exact ⟨pw, by omega, by omega, rfl, _, _, rfl, hN, by simp only [tmCount, tmCountL]; omega⟩)
 refine sQ (qA rfl) rfl (sD (nS (cF rfl ?_)))
 refine tS (tR (sB (qE rfl rfl) rfl rfl (fun h536 => ?_) (fun h536 => ?_)))
 refine sQ (qA rfl) rfl (sD (nS (qT rfl ?_)))
 refine tS (tS (tR (sQ (qM rfl) rfl (sB (pure_gtr rfl rfl) rfl rfl (fun h545 => ?_) (fun h545 => ?_)))))
 refine sQ (qM rfl) rfl (sQ (qM rfl) rfl ?_)
 (have hkk1 : k = 1 := (by omega); refine seq_take rfl (pick_fn _ br pb nb cb (p2) bs 3 hb hnb (by omega)) (Pk.perm (by repeat (first | exact Pk.here | apply Pk.there))) rfl rfl (fun v Gp outs hle548 hh => ?_); obtain ⟨rfl, rfl, j548, rfl, hj548, hk548⟩ := hh; have hpk23 := hj548)
 replace hb := hb.mono hle548
 replace hrt := hrt.mono hle548
 refine sB (qE rfl rfl) rfl rfl (fun h549 => ?_) (fun h549 => ?_)
 refine sQ (pPt rfl rfl) rfl (sD (nS (qT rfl ?_)))
 refine tS (tR (sQ (qM rfl) rfl (sQ (qM rfl) rfl (sQ (qM rfl) rfl ?_))))
 (have hcall := l1DrawA_fn br pb nb cb bs hnb 1 (p2 + 1) _ (by omega) hb (by have : dB (1 + 1) ≤ 6 := (by decide); omega); refine seq_take rfl hcall (Pk.perm (by repeat (first | exact Pk.here | apply Pk.there))) rfl rfl (fun v Gn outs hleF hh => ?_); obtain ⟨pF, hpF1, hpF2, rfl, uF, cuF, rfl, hruF, husF, huhF⟩ := hh; have huaF := huhF.ar; obtain ⟨quF, duF, euF, rfl, _⟩ := hruF.open; have hdBF : dB (1 + 1) ≤ 6 := (by decide); replace hx := hx.mono hleF; replace hb := hb.mono hleF; replace hrt := hrt.mono hleF;)
 refine sQ (qM rfl) rfl (sP (pure_sub rfl rfl (by omega) (by omega)) rfl rfl ?_)
 (obtain ⟨m, rfl⟩ := hfu.pos (.inl (by omega)); have hmB : mB (m + 1) = 3 * mB m + 200 := rfl; have hgm := mB_ge m; have hcall := ih m (by omega) (depth - 1) uF pF _ pc nc cc _ (hfu.sub (by omega) (huhF.le (by omega))) (by omega) (by omega) (by omega) hx hruF hb (by omega); refine seq_take rfl hcall (Pk.perm (by repeat (first | exact Pk.here | apply Pk.there))) rfl rfl (fun v Gn outs hlex hh => ?_); obtain ⟨px, hpx1, hpx2, rfl, ex, cx, rfl, hrx, hcx⟩ := hh; obtain ⟨x1, x2, x3, x4, x5, x6, x7, x8, x9, rfl⟩ := hrx.nine; replace hx := hx.mono hlex; replace hb := hb.mono hlex; replace hrt := hrt.mono hlex;)
 refine sS rfl rfl rfl rfl hrx.one rfl ?_
 refine sD (nS (tT (rS (rB (ret_cutr ?_)))))
 refine ret_own1 (outs := [rd br pb nb cb px]) (rC rfl (lBa rfl rfl)) (by repeat (first | exact SubH.nil | refine SubH.cons Pk.here ?_ | refine SubH.cons (Pk.there Pk.here) ?_ | refine SubH.cons (Pk.there (Pk.there Pk.here)) ?_ | apply SubH.drop)) ?_
 (exact ⟨px, by omega, by omega, rfl, _, _, rfl, hrx, by omega⟩)
 refine sQ (pPt rfl rfl) rfl (sD (nS (cF rfl ?_)))
 refine tK (nS (tS (tR (sQ (qM rfl) rfl ?_))))
 (refine seq_take rfl (pick_fn _ br pb nb cb (p2 + 1) bs 3 hb hnb (by omega)) (Pk.perm (by repeat (first | exact Pk.here | apply Pk.there))) rfl rfl (fun v Gp outs hle581 hh => ?_); obtain ⟨rfl, rfl, j581, rfl, hj581, hk581⟩ := hh; have hpk21 := hj581)
 replace hb := hb.mono hle581
 replace hrt := hrt.mono hle581
 refine sB (qE rfl rfl) rfl rfl (fun h582 => ?_) (fun h582 => ?_)
 refine sD (nS (qT rfl ?_))
 refine tS (tR (seq_val rfl ((l1Any_fn _)) rfl rfl ?_))
 refine sQ (pBd rfl rfl) rfl ?_
 (refine seq_step (step_buildSlice rfl rfl rfl (by omega) (by unfold maxLen; omega) rfl) rfl ?_; rintro _ ⟨b590, rfl⟩)
 refine sQ (pBd rfl rfl) rfl (sS' ?_)
 refine sD (nS ?_)
 (refine ret_freeze (cs := [.int .i64 4, .string ⟨⟨[]⟩⟩, .int .i64 0, .int .i64 0, .slice none 0 0, .int .i64 0, .slice none 0 0, .int .i64 0, .slice none 0 0]) (by repeat (first | exact Pk.here | apply Pk.there)) (fun G9 hle9 hsl9 hno9 => ?_); have hN := node1 (k := 13) (nm := ⟨⟨[]⟩⟩) ⟨by omega, by omega⟩ (tyAny_r _) (leafTm G9 ⟨⟨[]⟩⟩ 0 (k := 4) ⟨by omega, by omega⟩ ⟨by omega, by omega⟩) hsl9)
 refine tT (rB (ret_cutr ?_))
 refine ret_own1 (outs := [rd br pb nb cb (p2 + 1 + 1)]) (rC rfl (lBa rfl rfl)) (by repeat (first | exact SubH.nil | refine SubH.cons Pk.here ?_ | refine SubH.cons (Pk.there Pk.here) ?_ | refine SubH.cons (Pk.there (Pk.there Pk.here)) ?_ | apply SubH.drop)) ?_
 (exact ⟨(p2 + 1 + 1), by omega, by omega, rfl, _, _, rfl, hN, by simp only [tmCount, tmCountL]; omega⟩)
 refine sD (nS (cF rfl ?_))
 refine tK (nrm_block (nrm_cutr (p2 + 1 + 1, Gp) (sub_mk (by repeat (first | exact SubE.nil | refine SubE.cons rfl ?_)) (by repeat (first | exact SubH.refl | exact SubH.nil | refine SubH.cons (by repeat (first | exact Pk.here | apply Pk.there)) ?_ | apply SubH.drop))) ⟨IMle.refl _, by dsimp only; omega, by dsimp only; omega⟩))
 refine sQ (qM rfl) rfl (sK rfl rfl (sK rfl rfl (sK rfl rfl (sQ (pPf rfl rfl) rfl (sD (nS ?_))))))
 refine cF rfl ?_
 refine tK (nS (tS (tR (sQ (qM rfl) rfl ?_))))
 (have hkk1 : k = 1 := (by omega); refine seq_take rfl (pick_fn _ br pb nb cb (p2) bs 3 hb hnb (by omega)) (Pk.perm (by repeat (first | exact Pk.here | apply Pk.there))) rfl rfl (fun v Gp outs hle620 hh => ?_); obtain ⟨rfl, rfl, j620, rfl, hj620, hk620⟩ := hh; have hpk23 := hj620)
 replace hb := hb.mono hle620
 replace hrt := hrt.mono hle620
 refine sB (qE rfl rfl) rfl rfl (fun h621 => ?_) (fun h621 => ?_)
 refine sD (nS (qT rfl ?_))
 refine tS (tR (seq_val rfl ((l1Any_fn _)) rfl rfl ?_))
 refine sQ (pBd rfl rfl) rfl ?_
 (refine seq_step (step_buildSlice rfl rfl rfl (by omega) (by unfold maxLen; omega) rfl) rfl ?_; rintro _ ⟨b629, rfl⟩)
 refine sQ (pBd rfl rfl) rfl (sS' ?_)
 refine sD (nS ?_)
 (refine ret_freeze (cs := [.int .i64 4, .string ⟨⟨[]⟩⟩, .int .i64 0, .int .i64 0, .slice none 0 0, .int .i64 0, .slice none 0 0, .int .i64 0, .slice none 0 0]) (by repeat (first | exact Pk.here | apply Pk.there)) (fun G9 hle9 hsl9 hno9 => ?_); have hN := node1 (k := 13) (nm := ⟨⟨[]⟩⟩) ⟨by omega, by omega⟩ (tyAny_r _) (leafTm G9 ⟨⟨[]⟩⟩ 0 (k := 4) ⟨by omega, by omega⟩ ⟨by omega, by omega⟩) hsl9)
 refine tT (rB (ret_cutr ?_))
 refine ret_own1 (outs := [rd br pb nb cb (p2 + 1)]) (rC rfl (lBa rfl rfl)) (by repeat (first | exact SubH.nil | refine SubH.cons Pk.here ?_ | refine SubH.cons (Pk.there Pk.here) ?_ | refine SubH.cons (Pk.there (Pk.there Pk.here)) ?_ | apply SubH.drop)) ?_
 (exact ⟨(p2 + 1), by omega, by omega, rfl, _, _, rfl, hN, by simp only [tmCount, tmCountL]; omega⟩)
 refine sD (nS (cF rfl ?_))
 refine tK (nrm_block (nrm_cutr (p2 + 1, Gp) (sub_mk (by repeat (first | exact SubE.nil | refine SubE.cons rfl ?_)) (by repeat (first | exact SubH.refl | exact SubH.nil | refine SubH.cons (by repeat (first | exact Pk.here | apply Pk.there)) ?_ | apply SubH.drop))) ⟨IMle.refl _, by dsimp only; omega, by dsimp only; omega⟩))
 refine sQ (qA rfl) rfl (sD (nS (cF rfl ?_)))
 refine tK (nrm_block (nrm_cutr (p2, G2) (sub_mk (by repeat (first | exact SubE.nil | refine SubE.cons rfl ?_)) (by repeat (first | exact SubH.refl | exact SubH.nil | refine SubH.cons (by repeat (first | exact Pk.here | apply Pk.there)) ?_ | apply SubH.drop))) ⟨IMle.refl _, by dsimp only; omega, by dsimp only; omega⟩))
 (have hq := hcut1; rintro ⟨(p5 : Nat), G5⟩ ⟨hle5c, hp5a, hp5b⟩; simp only [] at hle5c hp5a hp5b ⊢; have hcut2 := hp5a; replace hx := hx.mono hle5c; replace hb := hb.mono hle5c; replace hrt := hrt.mono hle5c;)
 refine tS (tS (tR (sQ (qM rfl) rfl (sB (pure_gtr rfl rfl) rfl rfl (fun h658 => ?_) (fun h658 => ?_)))))
 refine sQ (qM rfl) rfl (sQ (qM rfl) rfl ?_)
 (refine seq_take rfl (pick_fn _ br pb nb cb (p5) bs 2 hb hnb (by omega)) (Pk.perm (by repeat (first | exact Pk.here | apply Pk.there))) rfl rfl (fun v Gp outs hle661 hh => ?_); obtain ⟨rfl, rfl, j661, rfl, hj661, hk661⟩ := hh; have hpk5 := hj661)
 replace hb := hb.mono hle661
 replace hrt := hrt.mono hle661
 refine sB (qE rfl rfl) rfl rfl (fun h662 => ?_) (fun h662 => ?_)
 refine sQ (pPt rfl rfl) rfl (sD (nS (qT rfl ?_)))
 refine tS (tR (sQ (qM rfl) rfl (sQ (qM rfl) rfl (sQ (qM rfl) rfl (seq_val rfl ((l3Int_fn _)) rfl rfl ?_)))))
 (have hz2 : szTy (.mk 2 []) = 0 := rfl; have hcall := l1Blur_fn br pb nb cb bs hnb (.mk 2 []) (p5 + 1) _ _ (tAr_leaf (by decide) (by decide)) (tyLeaf_r _ ⟨by omega, by omega⟩) hb (by omega); refine seq_take rfl hcall (Pk.perm (by repeat (first | exact Pk.here | apply Pk.there))) rfl rfl (fun v Gn outs hleG hh => ?_); obtain ⟨pG, hpG1, hpG2, rfl, uG, cuG, rfl, hruG, huaG, husG, huhG⟩ := hh; obtain ⟨quG, duG, euG, rfl, _⟩ := hruG.open; replace hx := hx.mono hleG; replace hb := hb.mono hleG; replace hrt := hrt.mono hleG;)
 refine sQ (qM rfl) rfl (sP (pure_sub rfl rfl (by omega) (by omega)) rfl rfl ?_)
 (obtain ⟨m, rfl⟩ := hfu.pos (.inl (by omega)); have hmB : mB (m + 1) = 3 * mB m + 200 := rfl; have hgm := mB_ge m; have hcall := ih m (by omega) (depth - 1) uG pG _ pc nc cc _ (hfu.sub (by omega) (huhG 4 (tAh_leaf 4 (by decide) (by decide)))) (by omega) (by omega) (by omega) hx hruG hb (by omega); refine seq_take rfl hcall (Pk.perm (by repeat (first | exact Pk.here | apply Pk.there))) rfl rfl (fun v Gn outs hley hh => ?_); obtain ⟨py, hpy1, hpy2, rfl, ey, cy, rfl, hry, hcy⟩ := hh; obtain ⟨y1, y2, y3, y4, y5, y6, y7, y8, y9, rfl⟩ := hry.nine; replace hx := hx.mono hley; replace hb := hb.mono hley; replace hrt := hrt.mono hley;)
 refine sQ (qM rfl) rfl (sQ (qM rfl) rfl (seq_val rfl ((l3Int_fn _)) rfl rfl ?_))
 refine sQ (qM rfl) rfl (sP (pure_sub rfl rfl (by omega) (by omega)) rfl rfl ?_)
 (have hcall := ih m (by omega) (depth - 1) (.mk 2 []) py _ pc nc cc _ (hfu.sub (by omega) (tAh_leaf 4 (by decide) (by decide))) (by omega) (by omega) (by omega) hx (tyLeaf_r _ ⟨by omega, by omega⟩) hb (by omega); refine seq_take rfl hcall (Pk.perm (by repeat (first | exact Pk.here | apply Pk.there))) rfl rfl (fun v Gn outs hlec hh => ?_); obtain ⟨pc, hpc1, hpc2, rfl, ec, cc, rfl, hrc, hcc⟩ := hh; obtain ⟨c1, c2, c3, c4, c5, c6, c7, c8, c9, rfl⟩ := hrc.nine; replace hry := hry.mono hlec; replace hx := hx.mono hlec; replace hb := hb.mono hlec; replace hrt := hrt.mono hlec;)
 (refine seq_step (step_buildSlice rfl rfl rfl (by omega) (by unfold maxLen; omega) rfl) rfl ?_; rintro _ ⟨b683, rfl⟩)
 refine seq_val rfl ((l2Node_fn _ _ _ _ _)) rfl rfl ?_
 refine sS' ?_
 refine sD (nS ?_)
 (refine ret_freeze (cs := [y1, y2, y3, y4, y5, y6, y7, y8, y9] ++ [c1, c2, c3, c4, c5, c6, c7, c8, c9]) (by repeat (first | exact Pk.here | apply Pk.there)) (fun G9 hle9 hsl9 hno9 => ?_); have hN := node2 (k := 7) (nm := ⟨⟨[]⟩⟩) ⟨by omega, by omega⟩ (hry.mono hle9) (hrc.mono hle9) hsl9)
 refine tT (rS (ret_own1 (outs := [rd br pb nb cb pc]) (rC rfl (lBa rfl rfl)) (by repeat (first | exact SubH.nil | refine SubH.cons Pk.here ?_ | refine SubH.cons (Pk.there Pk.here) ?_ | refine SubH.cons (Pk.there (Pk.there Pk.here)) ?_ | apply SubH.drop)) ?_))
 (exact ⟨pc, by omega, by omega, rfl, _, _, rfl, hN, by simp only [tmCount, tmCountL]; omega⟩)
 refine sQ (pPt rfl rfl) rfl (sD (nS (cF rfl ?_)))
 refine tK (nS (tS (tR (sQ (qM rfl) rfl ?_))))
 (refine seq_step (step_buildSlice rfl rfl rfl (by omega) (by unfold maxLen; omega) rfl) rfl ?_; rintro _ ⟨b702, rfl⟩)
 (refine triL_freeze (by repeat (first | exact Pk.here | apply Pk.there)) (fun G4 hle4 hsl4 _ => ?_); refine seq_take rfl (num_fn G4 br pb nb cb (p5 + 1) bs _ _ _ _ (hb.mono hle4) hnb (by omega) hsl4 (by decide)) (Pk.perm (by repeat (first | exact Pk.here | apply Pk.there))) rfl rfl (fun v G7 outs hle7 hh => ?_); obtain ⟨rfl, rfl, hv⟩ := hh; obtain ⟨kn, rfl, hkn⟩ : ∃ k, v = .int .i64 k ∧ I64 k := (by simp only [List.mem_cons, List.not_mem_nil, or_false] at hv; rcases hv with rfl | rfl | rfl | rfl | rfl <;> exact ⟨_, rfl, by unfold I64; omega⟩))
 refine seq_val rfl ((l2Num_fn _ _)) rfl rfl ?_
 refine sS' ?_
 refine sD (nS (tT (ret_own1 (outs := [rd br pb nb cb (p5 + 1 + 1)]) (rC rfl (lBa rfl rfl)) (by repeat (first | exact SubH.nil | refine SubH.cons Pk.here ?_ | refine SubH.cons (Pk.there Pk.here) ?_ | refine SubH.cons (Pk.there (Pk.there Pk.here)) ?_ | apply SubH.drop)) ?_)))
 (exact ⟨(p5 + 1 + 1), by omega, by omega, rfl, _, _, rfl, leafTm _ _ _ ⟨by omega, by omega⟩ (by first | exact ⟨by omega, by omega⟩ | exact hkn), by simp only [tmCount, tmCountL]; omega⟩)
 refine sQ (qM rfl) rfl (sK rfl rfl (sK rfl rfl (sK rfl rfl (sQ (pPf rfl rfl) rfl (sD (nS ?_))))))
 refine cF rfl ?_
 refine tK (nS (tS (tR (sQ (qM rfl) rfl ?_))))
 (refine seq_step (step_buildSlice rfl rfl rfl (by omega) (by unfold maxLen; omega) rfl) rfl ?_; rintro _ ⟨b724, rfl⟩)
 (refine triL_freeze (by repeat (first | exact Pk.here | apply Pk.there)) (fun G4 hle4 hsl4 _ => ?_); refine seq_take rfl (num_fn G4 br pb nb cb p5 bs _ _ _ _ (hb.mono hle4) hnb (by omega) hsl4 (by decide)) (Pk.perm (by repeat (first | exact Pk.here | apply Pk.there))) rfl rfl (fun v G7 outs hle7 hh => ?_); obtain ⟨rfl, rfl, hv⟩ := hh; obtain ⟨kn, rfl, hkn⟩ : ∃ k, v = .int .i64 k ∧ I64 k := (by simp only [List.mem_cons, List.not_mem_nil, or_false] at hv; rcases hv with rfl | rfl | rfl | rfl | rfl <;> exact ⟨_, rfl, by unfold I64; omega⟩))
 refine seq_val rfl ((l2Num_fn _ _)) rfl rfl ?_
 refine sS' ?_
 refine sD (nS (tT (ret_own1 (outs := [rd br pb nb cb (p5 + 1)]) (rC rfl (lBa rfl rfl)) (by repeat (first | exact SubH.nil | refine SubH.cons Pk.here ?_ | refine SubH.cons (Pk.there Pk.here) ?_ | refine SubH.cons (Pk.there (Pk.there Pk.here)) ?_ | apply SubH.drop)) ?_)))
 (exact ⟨(p5 + 1), by omega, by omega, rfl, _, _, rfl, leafTm _ _ _ ⟨by omega, by omega⟩ (by first | exact ⟨by omega, by omega⟩ | exact hkn), by simp only [tmCount, tmCountL]; omega⟩)
theorem mB8 : mB 8 = 1968200 := by decide
theorem l3Typed_fn (br : Nat) (pb : Option Addr) (nb cb : Nat) (bs : List UInt8) (hnb : nb ≤ 2000) (p : Nat) (G : IM) (hb : Sl G pb nb cb 1 (byts bs)) (hp : p + 9000000 < 1099511627776) :
  Fn Tryz.prog 40 [.pointer (some ⟨br, 0, none⟩)] [rd br pb nb cb p] G
   (Drew br pb nb cb p 9000000 (fun G' v => ∃ e cells, v = .agg ⟨cells⟩ ∧ RTm G' e cells ∧ tmCount e ≤ 2000000)) := by
 have hm8 := mB8
 refine fn_enter Tryz.func40 rfl Tryz.ntmps40 Tryz.results40 rfl ?_
 intro w0
 refine tS (tR ?_)
 refine sE (step_alloc rfl) rfl (fun b3 => ?_)
 refine sD (nS (tS (tS (tR (sQ (qA rfl) rfl (sD ?_))))))
 refine nS (tri_block ?_)
 (refine tri_loopN (fun (x : Nat × Nat × IM) => ⟨[(3, .int .i64 x.1), (0, .pointer (some ⟨br, 0, none⟩)), (2, .pointer (some ⟨b3, 0, none⟩))], [rd br pb nb cb x.2.1, .blk b3 [.int .i64 0, .string ⟨⟨[]⟩⟩, .int .i64 0, .int .i64 0, .slice none 0 0, .int .i64 0, .slice none 0 0, .int .i64 0, .slice none 0 0]], x.2.2⟩) (fun x => x.1 ≤ 4 ∧ IMle G x.2.2 ∧ p ≤ x.2.1 ∧ x.2.1 ≤ p + x.1 * 2000000) (fun x => 4 - x.1) (0, p, G) ?_ ?_ ?_)
 (simp only [flat_snoc]; exact sMk)
 (exact ⟨by omega, IMle.refl _, Nat.le_refl _, by dsimp only; omega⟩)
 (rintro ⟨(i : Nat), (p1 : Nat), G1⟩ ⟨hi, hleL, hpL, hpL2⟩; simp only [] at hi hleL hpL hpL2 ⊢; replace hb := hb.mono hleL)
 refine tS (tS (tR (sQ (qM rfl) rfl (sB (pure_lss rfl rfl) rfl rfl (fun h21 => ?_) (fun h21 => ?_)))))
 refine sD (nS (qT rfl ?_))
 refine tK (nS (tS (tri_block (tS (tR (sQ (qM rfl) rfl ?_))))))
 refine sQ (qM rfl) rfl (sQ (qM rfl) rfl ?_)
 (refine seq_step (step_buildSlice rfl rfl rfl (by omega) (by unfold maxLen; omega) rfl) rfl ?_; rintro _ ⟨b34, rfl⟩)
 (refine triL_freeze (by repeat (first | exact Pk.here | apply Pk.there)) (fun Gf hlef hslf _ => ?_); refine seq_take rfl (num_fn Gf br pb nb cb (p1) bs _ _ _ _ (hb.mono hlef) hnb (by omega) hslf (by decide)) (Pk.perm (by repeat (first | exact Pk.here | apply Pk.there))) rfl rfl (fun v Gm outs hlen hh => ?_); obtain ⟨rfl, rfl, hv⟩ := hh; replace hb := hb.mono hlef; obtain ⟨dd, rfl, hdd⟩ : ∃ d : Nat, v = .int .i64 ((d + 1 : Nat) : Int) ∧ d ≤ 2 := (by simp only [List.mem_cons, List.not_mem_nil, or_false] at hv; rcases hv with rfl | rfl | rfl | rfl <;> first | exact ⟨0, rfl, by decide⟩ | exact ⟨1, rfl, by decide⟩ | exact ⟨2, rfl, by decide⟩); have hdB := dB_le2 hdd; replace hleL := hleL.trans hlef)
 (have hcall := l1DrawA_fn br pb nb cb bs hnb dd (p1 + 1) _ (by omega) hb (by omega); refine seq_take rfl hcall (Pk.perm (by repeat (first | exact Pk.here | apply Pk.there))) rfl rfl (fun v Gn outs hleD hh => ?_); obtain ⟨pD, hpD1, hpD2, rfl, uD, cD, rfl, hrD, hsD, haD⟩ := hh; obtain ⟨qD, dD, eD, rfl, _⟩ := hrD.open; replace hb := hb.mono hleD; replace hleL := hleL.trans hleD)
 refine sQ (qM rfl) rfl ?_
 (refine seq_step (step_buildSlice rfl rfl rfl (by omega) (by unfold maxLen; omega) rfl) rfl ?_; rintro _ ⟨b38, rfl⟩)
 (refine triL_freeze (by repeat (first | exact Pk.here | apply Pk.there)) (fun Gf hlef hslf _ => ?_); refine seq_take rfl (num_fn Gf br pb nb cb (pD) bs _ _ _ _ (hb.mono hlef) hnb (by omega) hslf (by decide)) (Pk.perm (by repeat (first | exact Pk.here | apply Pk.there))) rfl rfl (fun v Gm outs hlen hh => ?_); obtain ⟨rfl, rfl, hv⟩ := hh; replace hb := hb.mono hlef; replace hleL := hleL.trans hlef; replace hrD := hrD.mono hlef; obtain ⟨dp, rfl, hdp1, hdp2⟩ : ∃ d : Int, v = .int .i64 d ∧ 3 ≤ d ∧ d ≤ 5 := (by simp only [List.mem_cons, List.not_mem_nil, or_false] at hv; rcases hv with rfl | rfl | rfl | rfl <;> exact ⟨_, rfl, by decide, by decide⟩))
 (have hcall := l3Make_ok br pb nb cb bs hnb 8 dp uD (pD + 1) _ none 0 0 _ ⟨haD.le (by omega), by omega, by omega, .inr ⟨by omega, by omega⟩⟩ (by omega) (by omega) (by omega) (GCx.nil _) hrD hb (by omega); refine seq_take rfl hcall (Pk.perm (by repeat (first | exact Pk.here | apply Pk.there))) rfl rfl (fun v Gn outs hleM hh => ?_); obtain ⟨pM, hpM1, hpM2, rfl, eM, cM, rfl, hrM, hcM⟩ := hh; have hlM := hrM.len; have hoM := hrM.one; replace hb := hb.mono hleM; replace hleL := hleL.trans hleM)
 refine sE (step_alloc rfl) rfl (fun b41 => ?_)
 refine seq_store rfl rfl rfl hlM hoM rfl (by repeat first | exact Sw.here | apply Sw.there) (by exact upd_all (by first | exact hlM.symm | omega)) ?_
 refine sD (nS (tS (tR (sL (load_a rfl rfl (at_blk_all (by repeat first | exact mH | apply mT)) hlM) rfl rfl ?_))))
 (refine seq_imm rfl (typeOf_fn eM _ _ (by omega) hrM) rfl rfl (fun v G9 hle9 hh => ?_); obtain ⟨mt, mc, mx, rfl, hmr, hma, hms, hmv⟩ := hh; obtain ⟨pt, ct, et, rfl, _⟩ := hmr.open; replace hb := hb.mono hle9; replace hleL := hleL.trans hle9; replace hrM := hrM.mono hle9; cases mx)
 refine sQ (qM rfl) rfl (sQ (pX rfl rfl) rfl (sQ (pX rfl rfl) rfl ?_))
 refine sE (step_alloc rfl) rfl (fun b52 => ?_)
 refine sS' ?_
 refine sQ (qA rfl) rfl (sD (nS (tS (tR (sQ (qM rfl) rfl (sD ?_))))))
 refine nS (cF rfl ?_)
 refine tK (nrm_block (nS (tR (sQ (qM rfl) rfl (sP (pure_add rfl rfl (by omega) (by omega)) rfl rfl ?_)))))
 refine sQ (qA rfl) rfl (sD (nrm_loopN (i + 1, pM, G9) ?_ ?_ ?_))
 (simp only [flat_snoc]; exact sMk)
 (dsimp only; exact ⟨by omega, hleL, by omega, by omega⟩)
 (show 4 - (i + 1) < 4 - i; omega)
 refine sQ (qM rfl) rfl (sQ (pX rfl rfl) rfl (sQ (pX rfl rfl) rfl ?_))
 refine sE (step_alloc rfl) rfl (fun b78 => ?_)
 refine sS' ?_
 refine sQ (qA rfl) rfl (sD (nS (tS (tR (sQ (qM rfl) rfl (sD ?_))))))
 refine nS (qT rfl ?_)
 refine tS (tR (sL (load_a rfl rfl (at_blk_all (by repeat first | exact mH | apply mT)) hlM) rfl rfl ?_))
 refine seq_store rfl rfl rfl hlM hoM rfl (by repeat first | exact Sw.here | apply Sw.there) (by exact upd_all (by first | exact hlM.symm | omega)) ?_
 refine sD (nS (tT (rB (rS (ret_loopN (rB ?_))))))
 refine rS (ret_own1 (outs := [rd br pb nb cb pM]) (rC rfl (load_a rfl rfl (at_blk_all (by repeat first | exact mH | apply mT)) hlM)) (by repeat (first | exact SubH.nil | refine SubH.cons Pk.here ?_ | refine SubH.cons (Pk.there Pk.here) ?_ | refine SubH.cons (Pk.there (Pk.there Pk.here)) ?_ | apply SubH.drop)) ?_)
 (exact ⟨pM, by omega, by omega, rfl, eM, _, rfl, hrM, by omega⟩)
 refine sD (nS (cF rfl ?_))
 refine tri_exit ?_
 refine ext_seq ?_
 refine ext_loopN ?_
 refine ext_block_eq ?_
 refine nS (tS (tR (sQ (qM rfl) rfl ?_)))
 (have hcall := l2Closed_fn br pb nb cb bs hnb p1 _ hb (by omega); refine seq_take rfl hcall (Pk.perm (by repeat (first | exact Pk.here | apply Pk.there))) rfl rfl (fun v Gn outs hleC hh => ?_); obtain ⟨pC, hpC1, hpC2, rfl, eC, cC, rfl, hrC, hcC⟩ := hh; have hlC := hrC.len; have hoC := hrC.one; have hcnt := count_sz eC)
 refine seq_store rfl rfl rfl hlC hoC rfl (by repeat first | exact Sw.here | apply Sw.there) (by exact upd_all (by first | exact hlC.symm | omega)) ?_
 refine sD (nS (tT (ret_own1 (outs := [rd br pb nb cb pC]) (rC rfl (load_a rfl rfl (at_blk_all (by repeat first | exact mH | apply mT)) hlC)) (by repeat (first | exact SubH.nil | refine SubH.cons Pk.here ?_ | refine SubH.cons (Pk.there Pk.here) ?_ | refine SubH.cons (Pk.there (Pk.there Pk.here)) ?_ | apply SubH.drop)) ?_)))
 (exact ⟨pC, by omega, by omega, rfl, eC, _, rfl, hrC, by omega⟩)
/-- A term with casts, its type, whether it has one. -/
def InsR (G : IM) : IM → Value → List Ent → Prop := Imm fun G' v => ∃ u cu t ct b, v = .tuple ⟨[.agg ⟨cu⟩, .agg ⟨ct⟩, .bool b]⟩ ∧ RTm G' u cu ∧ u.small ∧ tmCount u ≤ 60 ∧ RTy G' t ct ∧ tAr t ∧ szTy t ≤ 960
theorem tm0_rM (G : IM) : RTm G tm0 [.int .i64 0, .string ⟨⟨[]⟩⟩, .int .i64 0, .int .i64 0, .slice none 0 0, .int .i64 0, .slice none 0 0, .int .i64 0, .slice none 0 0] := (STm.zero G).R
theorem tm0_small : tm0.small := by simp [tm0, Tm.small, Ty.small, Ty.smallL, Tm.smallL, ByteArray.size]
theorem tm0_count : tmCount tm0 = 1 := by simp [tm0, tmCount, tmCountL]
theorem insertCasts_fn (e : Tm) (G : IM) (cells : List Value) (hcnt : tmCount e ≤ 4294967296) (hr : RTm G e cells) :
  Fn Tryz.prog 44 [.agg ⟨cells⟩] [] G (InsR G) := by
 have hl := hr.len
 have hone := hr.one
 refine fn_enter Tryz.func44 rfl Tryz.ntmps44 Tryz.results44 rfl ?_
 intro w0
 refine tS (tR ?_)
 refine sE (step_box_a rfl rfl) rfl (fun b3 => ?_)
 refine sE (step_alloc rfl) rfl (fun b4 => ?_)
 refine sE (step_alloc rfl) rfl (fun b5 => ?_)
 refine sQ (qA rfl) rfl (sD (nS (tS (tR (sL (load_a rfl rfl (at_blk_all (by repeat first | exact mH | apply mT)) (by assumption)) rfl rfl ?_)))))
 (refine seq_imm rfl (typeOf_fn e _ _ (by omega) hr) rfl rfl (fun v G1 hle1 hh => ?_); obtain ⟨mt, mc, mx, rfl, hmr, hma, hms, hmv⟩ := hh; obtain ⟨pt, ct, et, rfl, _⟩ := hmr.open; cases mx)
 refine sQ (qM rfl) rfl (sQ (pX rfl rfl) rfl (sQ (pX rfl rfl) rfl ?_))
 refine sE (step_alloc rfl) rfl (fun b16 => ?_)
 refine sS' ?_
 refine sQ (qA rfl) rfl (sD (nS (tS (tS (tR (sQ (qM rfl) rfl ?_))))))
 refine sQ (pNf rfl) rfl (sD (nS (qT rfl ?_)))
 refine tS (tR (sQ (pBd rfl rfl) rfl (sQ (pBd rfl rfl) rfl (sS' ?_))))
 refine sS' ?_
 refine sQ (qA rfl) rfl (sD (nS (tT (rS (rF3 (rC rfl (lBa rfl rfl)) (rC rfl (lBa rfl rfl)) (rT rfl) ?_)))))
 (exact ⟨rfl, tm0, _, .mk 0 [], _, _, rfl, tm0_rM _, tm0_small, by rw [tm0_count]; omega, tyLeaf_r _ ⟨by omega, by omega⟩, tAr_leaf (by omega) (by omega), by rw [szLeaf]; omega⟩)
 refine sQ (qM rfl) rfl (sQ (pX rfl rfl) rfl (sQ (pX rfl rfl) rfl ?_))
 refine sE (step_alloc rfl) rfl (fun b45 => ?_)
 refine sS' ?_
 refine sQ (qA rfl) rfl (sD (nS (tS (tS (tR (sQ (qM rfl) rfl ?_))))))
 refine sQ (pNt rfl) rfl (sD (nS (cF rfl ?_)))
 refine tK (nS (tS (tR (sL (load_a rfl rfl (at_blk_all (by repeat first | exact mH | apply mT)) (by assumption)) rfl rfl ?_))))
 (have hv := (termValid_iff e).1 (hmv rfl); have hv2 := hv.2; have hI := l4Insert_fn e 1 G1 none 0 0 1 cells hv.1 (by omega) (GCx.nil _) (hr.mono hle1) (by omega) (by omega); refine seq_imm rfl hI rfl rfl (fun v G2 hle2 hh => ?_); obtain ⟨u, cu, t, tc, l3, rfl, hru, hu1, hu2, hrt, ht1, ht2, _⟩ := hh; obtain ⟨qt, dt, et2, rfl, _⟩ := hrt.open; have hlu := hru.len; have hou := hru.one)
 refine sQ (qM rfl) rfl (sQ (pX rfl rfl) rfl (sQ (pX rfl rfl) rfl (sQ (pX rfl rfl) rfl ?_)))
 refine sE (step_alloc rfl) rfl (fun b68 => ?_)
 refine sE (step_alloc rfl) rfl (fun b69 => ?_)
 refine seq_store rfl rfl rfl hlu hou rfl (by repeat first | exact Sw.here | apply Sw.there) (by exact upd_all (by first | exact hlu.symm | omega)) ?_
 refine sS' ?_
 refine sQ (qA rfl) rfl (sD (nS (tS (tri_draw mixed rfl ?_))))
 refine any_load (i := 0) (l' := [tt,ff,ff,ff,ff]) rfl npI (load_a rfl rfl (at_blk_all (by repeat first | exact mH | apply mT)) hlu) rfl (by kernel_rfl) rfl rfl ?_
 refine aL 1 rfl (lBa rfl rfl) rfl ?_
 refine aO' 2 ?_
 refine one_storeM rfl rfl rfl rfl hlu hou rfl rfl (by repeat first | exact Sw.here | apply Sw.there) (by exact upd_all hlu.symm) (by repeat (first | exact HmOk.nil | apply HmOk.dep (by decide +kernel) | apply HmOk.blk (by decide +kernel) (by repeat (first | exact Pk.here | apply Pk.there)) (by repeat first | exact mH | apply mT))) ?_
 refine aO' 3 ?_
 refine one_storeM rfl rfl rfl rfl rfl rfl rfl rfl (by repeat first | exact Sw.here | apply Sw.there) (by rfl) (by repeat (first | exact HmOk.nil | apply HmOk.dep (by decide +kernel) | apply HmOk.blk (by decide +kernel) (by repeat (first | exact Pk.here | apply Pk.there)) (by repeat first | exact mH | apply mT))) ?_
 refine aP 4 rfl (qA rfl) rfl ?_
 refine aD' ?_
 refine nS (tT (rF3 (rC rfl (load_a rfl rfl (at_blk_all (by repeat first | exact mH | apply mT)) hlu)) (rC rfl (lBa rfl rfl)) (rT rfl) ?_))
 (exact ⟨rfl, u, _, t, _, _, rfl, hru, hu1, by omega, hrt, ht1, by omega⟩)
theorem l4Mutate_fn (br : Nat) (pb : Option Addr) (nb cb : Nat) (bs : List UInt8) (hnb : nb ≤ 2000) (p : Nat) (G : IM) (hb : Sl G pb nb cb 1 (byts bs)) (hp : p + 200 < 1099511627776) (t : Tm) (cells : List Value) (N : Nat) (hfit : t.fit N) (hr : RTm G t cells) :
  Fn Tryz.prog 25 [.pointer (some ⟨br, 0, none⟩), .agg ⟨cells⟩] [rd br pb nb cb p] G
   (Drew br pb nb cb p 100 (fun G' v => ∃ t cells, v = .agg ⟨cells⟩ ∧ RTm G' t cells ∧ t.fit N)) := by
 have hl := hr.len
 have hone := hr.one
 refine fn_enter Tryz.func25 rfl Tryz.ntmps25 Tryz.results25 rfl ?_
 intro w0
 refine tS (tR ?_)
 refine sE (step_box_a rfl rfl) rfl (fun b3 => ?_)
 refine sE (step_alloc rfl) rfl (fun b4 => ?_)
 refine sD (nS (tS (tR (sQ (qM rfl) rfl (sL (load_a rfl rfl (at_blk_all (by repeat first | exact mH | apply mT)) (by assumption)) rfl rfl ?_)))))
 (have hcall := l2Mutate_fn br pb nb cb bs hnb p _ hb (by omega) t cells N hfit hr; refine seq_take rfl hcall (Pk.perm (by repeat (first | exact Pk.here | apply Pk.there))) rfl rfl (fun v Gn outs hle1 hh => ?_); obtain ⟨p1, hp11, hp12, rfl, t1, c1, rfl, hr1, hf1, hc1⟩ := hh; obtain ⟨k, nm, num, ⟨tk, tks⟩, ⟨fk, fks⟩, lb, ks⟩ := t1; obtain ⟨q1, d1, q2, d2, q3, d3, es, rfl, hk, hnum, hlb, hty, hfr, hsl, hkl⟩ := hr1.open9; have hsm := hf1; simp only [Tm.small] at hsm; obtain ⟨hs1, hs2, hs3, _⟩ := hsm; replace hb := hb.mono hle1)
 refine sE (step_alloc rfl) rfl (fun b12 => ?_)
 refine sS' ?_
 refine sD (nS (tS (tS (tR (sQ (qM rfl) rfl ?_)))))
 (refine seq_take rfl (pick_fn _ br pb nb cb (p1) bs 40 hb hnb (by omega)) (Pk.perm (by repeat (first | exact Pk.here | apply Pk.there))) rfl rfl (fun v Gp outs hle20 hh => ?_); obtain ⟨rfl, rfl, j20, rfl, hj20, hk20⟩ := hh; skip)
 replace hr1 := hr1.mono hle20
 replace hty := hty.mono hle20
 replace hfr := hfr.mono hle20
 replace hsl := hsl.mono hle20
 replace hkl := hkl.mono hle20
 replace hb := hb.mono hle20
 refine sD (nS (tri_block (tS (tR (sB (qE rfl rfl) rfl rfl (fun h26 => ?_) (fun h26 => ?_))))))
 refine sQ (qA rfl) rfl (sD (nS (qT rfl ?_)))
 refine tR (sQ (qM rfl) rfl ?_)
 (refine seq_step (step_buildSlice rfl rfl rfl (by omega) (by unfold maxLen; omega) rfl) rfl ?_; rintro _ ⟨b33, rfl⟩)
 (refine triL_freeze (by repeat (first | exact Pk.here | apply Pk.there)) (fun Gf hlef hslf _ => ?_); refine seq_take rfl (num_fn Gf br pb nb cb (p1 + 1) bs _ _ _ _ (hb.mono hlef) hnb (by omega) hslf (by decide)) (Pk.perm (by repeat (first | exact Pk.here | apply Pk.there))) rfl rfl (fun v Gm outs hlen hh => ?_); obtain ⟨rfl, rfl, hv⟩ := hh; replace hb := hb.mono hlef; obtain ⟨kn, rfl, hkn⟩ : ∃ k, v = .int .i64 k ∧ I64 k := (by simp only [List.mem_cons, List.not_mem_nil, or_false] at hv; rcases hv with rfl | rfl | rfl | rfl <;> exact ⟨_, rfl, by unfold I64; omega⟩); have hrN := RTm.of9 (nm := nm) hk hnum hkn (hty.mono hlef) (hfr.mono hlef) (hsl.mono hlef) (hkl.mono hlef))
 refine sQ (qF0 rfl) rfl (sS' ?_)
 refine sD (nrm_block (nS (tS (tR (sL (lBa rfl rfl) rfl rfl ?_)))))
 refine sS' ?_
 refine sD (nS (tT (ret_own1 (outs := [rd br pb nb cb (p1 + 1 + 1)]) (rC rfl (lBa rfl rfl)) (by repeat (first | exact SubH.nil | refine SubH.cons Pk.here ?_ | refine SubH.cons (Pk.there Pk.here) ?_ | refine SubH.cons (Pk.there (Pk.there Pk.here)) ?_ | apply SubH.drop)) ?_)))
 (exact ⟨p1 + 1 + 1, by omega, by omega, rfl, _, _, rfl, hrN, small9 hf1 hs1 hs2 hs3, hc1⟩)
 refine sQ (qA rfl) rfl (sD (nS (cF rfl ?_)))
 refine tS (tR (sB (qE rfl rfl) rfl rfl (fun h55 => ?_) (fun h55 => ?_)))
 refine sQ (qA rfl) rfl (sD (nS (qT rfl ?_)))
 refine tR (sQ (qM rfl) rfl (sQ (qM rfl) rfl ?_))
 (have hcall := l1Type_fn br pb nb cb bs hnb (p1 + 1) _ hb (by omega); refine seq_take rfl hcall (Pk.perm (by repeat (first | exact Pk.here | apply Pk.there))) rfl rfl (fun v Gn outs hle3 hh => ?_); obtain ⟨p3, hp31, hp32, rfl, t3, cells3, rfl, hr3, hs4⟩ := hh; replace hb := hb.mono hle3)
 (have hcall := l1Mutate_fn br pb nb cb bs hnb p3 _ hb (by omega) t3 cells3 hr3 hs4; refine seq_take rfl hcall (Pk.perm (by repeat (first | exact Pk.here | apply Pk.there))) rfl rfl (fun v Gn outs hle4 hh => ?_); obtain ⟨p4, hp41, hp42, rfl, t4, cells4, rfl, hr4, hs5⟩ := hh; have hts4 := small_ty t4 (by omega); obtain ⟨t4k, t4s⟩ := t4; obtain ⟨q4, c4, es4, rfl, _⟩ := hr4.open; have hle24 := hle3.trans hle4; have hrM := RTm.of9 (nm := nm) hk hnum hlb (hty.mono hle24) hr4 (hsl.mono hle24) (hkl.mono hle24))
 refine sQ (qF0 rfl) rfl (sS' ?_)
 refine sD (nrm_block (nS (tS (tR (sL (lBa rfl rfl) rfl rfl ?_)))))
 refine sS' ?_
 refine sD (nS (tT (ret_own1 (outs := [rd br pb nb cb p4]) (rC rfl (lBa rfl rfl)) (by repeat (first | exact SubH.nil | refine SubH.cons Pk.here ?_ | refine SubH.cons (Pk.there Pk.here) ?_ | refine SubH.cons (Pk.there (Pk.there Pk.here)) ?_ | apply SubH.drop)) ?_)))
 (exact ⟨p4, by omega, by omega, rfl, _, _, rfl, hrM, small9 hf1 hs1 hs2 hts4, hc1⟩)
 refine sQ (qA rfl) rfl (sD (nS (cF rfl ?_)))
 refine tK (nrm_block (nS (tS (tR (sL (lBa rfl rfl) rfl rfl ?_)))))
 refine sS' ?_
 refine sD (nS (tT (ret_own1 (outs := [rd br pb nb cb (p1 + 1)]) (rC rfl (lBa rfl rfl)) (by repeat (first | exact SubH.nil | refine SubH.cons Pk.here ?_ | refine SubH.cons (Pk.there Pk.here) ?_ | refine SubH.cons (Pk.there (Pk.there Pk.here)) ?_ | apply SubH.drop)) ?_)))
 (exact ⟨p1 + 1, by omega, by omega, rfl, _, _, rfl, hr1, hf1, hc1⟩)
theorem l4Random_fn (br : Nat) (pb : Option Addr) (nb cb : Nat) (bs : List UInt8) (hnb : nb ≤ 2000) (p : Nat) (G : IM) (hb : Sl G pb nb cb 1 (byts bs)) (hp : p + 9100000 < 1099511627776) :
  Fn Tryz.prog 26 [.pointer (some ⟨br, 0, none⟩)] [rd br pb nb cb p] G
   (Drew br pb nb cb p 9100000 (fun G' v => ∃ e cells, v = .agg ⟨cells⟩ ∧ RTm G' e cells ∧ e.fit 100)) := by
 refine fn_enter Tryz.func26 rfl Tryz.ntmps26 Tryz.results26 rfl ?_
 intro w0
 refine tS (tR ?_)
 refine sE (step_alloc rfl) rfl (fun b3 => ?_)
 refine sD (nS (tS (tR (sQ (qM rfl) rfl ?_))))
 (have hcall := l3Typed_fn br pb nb cb bs hnb p _ hb (by omega); refine seq_take rfl hcall (Pk.perm (by repeat (first | exact Pk.here | apply Pk.there))) rfl rfl (fun v Gn outs hleT hh => ?_); obtain ⟨pT, hpT1, hpT2, rfl, eT, cT, rfl, hrT, hcT⟩ := hh; replace hb := hb.mono hleT)
 (refine seq_imm rfl (insertCasts_fn eT _ _ (by omega) hrT) rfl rfl (fun v G9 hle9 hh => ?_); obtain ⟨u0, cu0, t0, ct0, ok0, rfl, hru0, hsu0, hcu0, hrt0, hat0, hst0⟩ := hh; have hl0 := hru0.len; have ho0 := hru0.one; have hl1 := hrt0.len; have ho1 := hrt0.one; replace hb := hb.mono hle9; cases ok0)
 refine sQ (qM rfl) rfl (sQ (pX rfl rfl) rfl (sQ (pX rfl rfl) rfl (sQ (pX rfl rfl) rfl ?_)))
 refine sE (step_alloc rfl) rfl (fun b15 => ?_)
 refine sE (step_alloc rfl) rfl (fun b16 => ?_)
 refine seq_store rfl rfl rfl hl0 ho0 rfl (by repeat first | exact Sw.here | apply Sw.there) (by exact upd_all (by first | exact hl0.symm | omega)) ?_
 refine seq_store rfl rfl rfl hl1 ho1 rfl (by repeat first | exact Sw.here | apply Sw.there) (by exact upd_all (by first | exact hl1.symm | omega)) ?_
 refine sQ (qA rfl) rfl (sD (nS (tS (tS (tR (sQ (qM rfl) rfl ?_))))))
 refine sQ (pNf rfl) rfl (sD (nS (qT rfl ?_)))
 refine tS (tR (seq_val rfl ((l2Num_fn _ _)) rfl rfl ?_))
 refine sS' ?_
 refine sD (nS (tT (rS (ret_own1 (outs := [rd br pb nb cb pT]) (rC rfl (lBa rfl rfl)) (by repeat (first | exact SubH.nil | refine SubH.cons Pk.here ?_ | refine SubH.cons (Pk.there Pk.here) ?_ | refine SubH.cons (Pk.there (Pk.there Pk.here)) ?_ | apply SubH.drop)) ?_))))
 (exact ⟨pT, by omega, by omega, rfl, _, _, rfl, tz_r ⟨by omega, by omega⟩ ⟨by omega, by omega⟩, small_tm _ (by rw [tz_sz]; decide), by simp only [tmCount, tmCountL]; omega⟩)
 refine sQ (qM rfl) rfl (sQ (pX rfl rfl) rfl (sQ (pX rfl rfl) rfl (sQ (pX rfl rfl) rfl ?_)))
 refine sE (step_alloc rfl) rfl (fun b44 => ?_)
 refine sE (step_alloc rfl) rfl (fun b45 => ?_)
 refine seq_store rfl rfl rfl hl0 ho0 rfl (by repeat first | exact Sw.here | apply Sw.there) (by exact upd_all (by first | exact hl0.symm | omega)) ?_
 refine seq_store rfl rfl rfl hl1 ho1 rfl (by repeat first | exact Sw.here | apply Sw.there) (by exact upd_all (by first | exact hl1.symm | omega)) ?_
 refine sQ (qA rfl) rfl (sD (nS (tS (tS (tR (sQ (qM rfl) rfl ?_))))))
 refine sQ (pNt rfl) rfl (sD (nS (cF rfl ?_)))
 refine tK (nS (tS (tS (tR (sQ (qM rfl) rfl ?_)))))
 (refine seq_take rfl (pick_fn _ br pb nb cb (pT) bs 3 hb hnb (by omega)) (Pk.perm (by repeat (first | exact Pk.here | apply Pk.there))) rfl rfl (fun v Gp outs hle65 hh => ?_); obtain ⟨rfl, rfl, j65, rfl, hj65, hk65⟩ := hh; obtain ⟨i0, rfl⟩ := Int.eq_ofNat_of_zero_le hj65; have hi0 := hk65)
 replace hru0 := hru0.mono hle65
 replace hrt0 := hrt0.mono hle65
 replace hb := hb.mono hle65
 refine sQ (qA rfl) rfl (sD (nS (tri_block ?_)))
 (refine tri_loopN (fun (x : Nat × List Value × List Value × Nat × IM) => ⟨[(6, .int .i64 x.1), (0, .pointer (some ⟨br, 0, none⟩)), (2, .pointer (some ⟨b3, 0, none⟩)), (3, .pointer (some ⟨b44, 0, none⟩)), (4, .pointer (some ⟨b45, 0, none⟩))], [.blk b44 x.2.1, .blk b45 x.2.2.1, rd br pb nb cb x.2.2.2.1, .blk b3 [.int .i64 0, .string ⟨⟨[]⟩⟩, .int .i64 0, .int .i64 0, .slice none 0 0, .int .i64 0, .slice none 0 0, .int .i64 0, .slice none 0 0]], x.2.2.2.2⟩) (fun x => x.1 ≤ 2 ∧ IMle Gp x.2.2.2.2 ∧ (∃ e, RTm x.2.2.2.2 e x.2.1 ∧ e.small ∧ tmCount e + x.1 ≤ 62) ∧ (∃ t, RTy x.2.2.2.2 t x.2.2.1 ∧ tAr t ∧ szTy t ≤ 960) ∧ pT + 1 ≤ x.2.2.2.1 ∧ x.2.2.2.1 + x.1 * 2000 ≤ pT + 1 + 4000) (fun x => x.1) (i0, cu0, ct0, pT + 1, Gp) ?_ ?_ ?_)
 (simp only [flat_snoc]; exact sMk)
 (exact ⟨by dsimp only; omega, IMle.refl _, ⟨u0, hru0, hsu0, by dsimp only; omega⟩, ⟨t0, hrt0, hat0, hst0⟩, Nat.le_refl _, by dsimp only; omega⟩)
 (rintro ⟨(i : Nat), ce, ct, (p1 : Nat), G1⟩ ⟨hi, hleL, ⟨e, hre, hse, hce⟩, ⟨t, hrt, hat, hst⟩, hpL, hpL2⟩; simp only [] at hi hleL hre hse hce hrt hat hst hpL hpL2 ⊢; replace hb := hb.mono hleL; have hl2 := hre.len; have ho2 := hre.one; have hl3 := hrt.len; have ho3 := hrt.one; have hnt := szTy_nn t)
 refine tS (tS (tR (sQ (qM rfl) rfl (sB (pure_gtr rfl rfl) rfl rfl (fun h78 => ?_) (fun h78 => ?_)))))
 refine sD (nS (qT rfl ?_))
 refine tK (nS (tS ?_))
 (show Tri _ _ (.block 1 ..) _ _; obtain ⟨j, rfl⟩ : ∃ j, i = j + 1 := ⟨i - 1, by omega⟩; refine tri_block ?_)
 refine tS (tR (sQ (qM rfl) rfl (sL (load_a rfl rfl (at_blk_all (by repeat first | exact mH | apply mT)) hl3) rfl rfl ?_)))
 (have hcall := l1Blur_fn br pb nb cb bs hnb t p1 _ _ hat hrt hb (by omega); refine seq_take rfl hcall (Pk.perm (by repeat (first | exact Pk.here | apply Pk.there))) rfl rfl (fun v Gn outs hleu hh => ?_); obtain ⟨p2, hp21, hp22, rfl, u, cu, rfl, hru, hua, hus, huh⟩ := hh; have hl4 := hru.len; have ho4 := hru.one; replace hb := hb.mono hleu; replace hrt := hrt.mono hleu; replace hre := hre.mono hleu; replace hleL := hleL.trans hleu)
 refine sE (step_alloc rfl) rfl (fun b91 => ?_)
 refine seq_store rfl rfl rfl hl4 ho4 rfl (by repeat first | exact Sw.here | apply Sw.there) (by exact upd_all (by first | exact hl4.symm | omega)) ?_
 refine sD (nS (tS (tS (tR (sQ (qM rfl) rfl ?_)))))
 (refine seq_take rfl (pick_fn _ br pb nb cb (p2) bs 2 hb hnb (by omega)) (Pk.perm (by repeat (first | exact Pk.here | apply Pk.there))) rfl rfl (fun v Gp outs hle99 hh => ?_); obtain ⟨rfl, rfl, j99, rfl, hj99, hk99⟩ := hh; have hpickA := hj99)
 replace hru := hru.mono hle99
 replace hb := hb.mono hle99
 replace hrt := hrt.mono hle99
 replace hre := hre.mono hle99
 refine sB (qE rfl rfl) rfl rfl (fun h100 => ?_) (fun h100 => ?_)
 refine sD (nS (qT rfl ?_))
 refine tR (sQ (qM rfl) rfl ?_)
 (have hcall := l1TypeA_fn br pb nb cb bs hnb (p2 + 1) _ hb (by omega); refine seq_take rfl hcall (Pk.perm (by repeat (first | exact Pk.here | apply Pk.there))) rfl rfl (fun v Gn outs hlew hh => ?_); obtain ⟨p3, hp31, hp32, rfl, w, cw, rfl, hrw, hws, hwh⟩ := hh; have hl5 := hrw.len; have ho5 := hrw.one; have hwa := hwh.ar; replace hb := hb.mono hlew; replace hrt := hrt.mono hlew; replace hre := hre.mono hlew; replace hleL := hleL.trans hlew)
 refine seq_store rfl rfl rfl hl5 ho5 rfl (by repeat first | exact Sw.here | apply Sw.there) (by exact upd_all (by first | exact hl5.symm | omega)) ?_
 refine sD (nS (tS (tR (sL (load_a rfl rfl (at_blk_all (by repeat first | exact mH | apply mT)) hl3) rfl rfl ?_))))
 refine sL (load_a rfl rfl (at_blk_all (by repeat first | exact mH | apply mT)) hl5) rfl rfl ?_
 refine seq_valb rfl ((l1ConsistentA_fn t w _ _ _ hat hwa hrt hrw)) rfl rfl (fun h114 => ?_) (fun h114 => ?_)
 refine sD (nS (qT rfl ?_))
 refine tS (tR (sQ (qM rfl) rfl (sP (pure_add rfl rfl (by omega) (by omega)) rfl rfl ?_)))
 refine sQ (qA rfl) rfl (sD (nS (tS (tS (tR (sQ (qM rfl) rfl ?_))))))
 (refine seq_take rfl (pick_fn _ br pb nb cb (p3) bs 3 hb hnb (by omega)) (Pk.perm (by repeat (first | exact Pk.here | apply Pk.there))) rfl rfl (fun v Gp outs hle129 hh => ?_); obtain ⟨rfl, rfl, j129, rfl, hj129, hk129⟩ := hh; have hpickB := hwa)
 replace hrw := hrw.mono hle129
 replace hb := hb.mono hle129
 replace hrt := hrt.mono hle129
 replace hre := hre.mono hle129
 refine sB (qE rfl rfl) rfl rfl (fun h130 => ?_) (fun h130 => ?_)
 refine sD (nS (qT rfl ?_))
 refine tR (sQ (qM rfl) rfl (sP (pure_neg rfl (by omega) (by omega)) rfl rfl ?_))
 refine sQ (qA rfl) rfl (sD (nS (tS (tR (sL (load_a rfl rfl (at_blk_all (by repeat first | exact mH | apply mT)) hl2) rfl rfl ?_)))))
 refine sL (load_a rfl rfl (at_blk_all (by repeat first | exact mH | apply mT)) hl3) rfl rfl ?_
 refine sL (load_a rfl rfl (at_blk_all (by repeat first | exact mH | apply mT)) hl5) rfl rfl ?_
 refine sQ (qM rfl) rfl ?_
 (refine seq_imm rfl (l4Cast_fn e t w _ _ _ _ _ (by omega) hre hrt hrw hat hwa) rfl rfl (fun v G8 hle8 hh => ?_); obtain ⟨y, cy, ly, rfl, hry, hsy, hcy, _⟩ := hh; have hl6 := hry.len; have ho6 := hry.one; replace hb := hb.mono hle8; have hrN := hrw.mono hle8; replace hleL := hleL.trans hle8; have hNa := hwa; have hNs : szTy w ≤ 960 := (by omega))
 refine sQ (qM rfl) rfl (sQ (pX rfl rfl) rfl (sQ (pX rfl rfl) rfl (seq_store rfl rfl rfl hl6 ho6 rfl (by repeat first | exact Sw.here | apply Sw.there) (by exact upd_all (by first | exact hl6.symm | omega)) ?_)))
 refine sD (nS (tR (sL (load_a rfl rfl (at_blk_all (by repeat first | exact mH | apply mT)) hl5) rfl rfl ?_)))
 refine seq_store rfl rfl rfl hl5 ho5 rfl (by repeat first | exact Sw.here | apply Sw.there) (by exact upd_all (by first | exact hl5.symm | omega)) ?_
 refine sD (nrm_block (nS (tR (sQ (qM rfl) rfl (sP (pure_dec rfl rfl (by omega)) rfl rfl ?_)))))
 refine sQ (qA rfl) rfl (sD (nrm_loopN (j, cy, cw, p3 + 1, G8) ?_ ?_ ?_))
 (simp only [flat_snoc]; exact sMk)
 (dsimp only; exact ⟨by omega, hleL, ⟨y, hry, hsy hse, by omega⟩, ⟨_, hrN, hNa, hNs⟩, by omega, by omega⟩)
 (show _ < _ + 1; omega)
 refine sD (nS (cF rfl ?_))
 refine tK (nS (tS (tR (sL (load_a rfl rfl (at_blk_all (by repeat first | exact mH | apply mT)) hl2) rfl rfl ?_))))
 refine sL (load_a rfl rfl (at_blk_all (by repeat first | exact mH | apply mT)) hl3) rfl rfl ?_
 refine sL (load_a rfl rfl (at_blk_all (by repeat first | exact mH | apply mT)) hl5) rfl rfl ?_
 refine sQ (qM rfl) rfl ?_
 (refine seq_imm rfl (l4Cast_fn e t w _ _ _ _ _ (by omega) hre hrt hrw hat hwa) rfl rfl (fun v G8 hle8 hh => ?_); obtain ⟨y, cy, ly, rfl, hry, hsy, hcy, _⟩ := hh; have hl6 := hry.len; have ho6 := hry.one; replace hb := hb.mono hle8; have hrN := hrw.mono hle8; replace hleL := hleL.trans hle8; have hNa := hwa; have hNs : szTy w ≤ 960 := (by omega))
 refine sQ (qM rfl) rfl (sQ (pX rfl rfl) rfl (sQ (pX rfl rfl) rfl (seq_store rfl rfl rfl hl6 ho6 rfl (by repeat first | exact Sw.here | apply Sw.there) (by exact upd_all (by first | exact hl6.symm | omega)) ?_)))
 refine sD (nS (tR (sL (load_a rfl rfl (at_blk_all (by repeat first | exact mH | apply mT)) hl5) rfl rfl ?_)))
 refine seq_store rfl rfl rfl hl5 ho5 rfl (by repeat first | exact Sw.here | apply Sw.there) (by exact upd_all (by first | exact hl5.symm | omega)) ?_
 refine sD (nrm_block (nS (tR (sQ (qM rfl) rfl (sP (pure_dec rfl rfl (by omega)) rfl rfl ?_)))))
 refine sQ (qA rfl) rfl (sD (nrm_loopN (j, cy, cw, p3 + 1, G8) ?_ ?_ ?_))
 (simp only [flat_snoc]; exact sMk)
 (dsimp only; exact ⟨by omega, hleL, ⟨y, hry, hsy hse, by omega⟩, ⟨_, hrN, hNa, hNs⟩, by omega, by omega⟩)
 (show _ < _ + 1; omega)
 refine sD (nS (cF rfl ?_))
 refine tK (nrm_block (nS (tR (sQ (qM rfl) rfl (sP (pure_dec rfl rfl (by omega)) rfl rfl ?_)))))
 refine sQ (qA rfl) rfl (sD (nrm_loopN (j, ce, ct, p3, Gn) ?_ ?_ ?_))
 (simp only [flat_snoc]; exact sMk)
 (dsimp only; exact ⟨by omega, hleL, ⟨e, hre, hse, by omega⟩, ⟨t, hrt, hat, hst⟩, by omega, by omega⟩)
 (show _ < _ + 1; omega)
 refine sD (nS (cF rfl ?_))
 refine tK (nS (tS (tR (sL (load_a rfl rfl (at_blk_all (by repeat first | exact mH | apply mT)) hl3) rfl rfl ?_))))
 refine sL (load_a rfl rfl (at_blk_all (by repeat first | exact mH | apply mT)) hl4) rfl rfl ?_
 refine seq_valb rfl ((l1ConsistentA_fn t u _ _ _ hat hua hrt hru)) rfl rfl (fun h225 => ?_) (fun h225 => ?_)
 refine sD (nS (qT rfl ?_))
 refine tS (tR (sQ (qM rfl) rfl (sP (pure_add rfl rfl (by omega) (by omega)) rfl rfl ?_)))
 refine sQ (qA rfl) rfl (sD (nS (tS (tS (tR (sQ (qM rfl) rfl ?_))))))
 (refine seq_take rfl (pick_fn _ br pb nb cb (p2 + 1) bs 3 hb hnb (by omega)) (Pk.perm (by repeat (first | exact Pk.here | apply Pk.there))) rfl rfl (fun v Gp outs hle240 hh => ?_); obtain ⟨rfl, rfl, j240, rfl, hj240, hk240⟩ := hh; have hpickB := hua)
 replace hru := hru.mono hle240
 replace hb := hb.mono hle240
 replace hrt := hrt.mono hle240
 replace hre := hre.mono hle240
 refine sB (qE rfl rfl) rfl rfl (fun h241 => ?_) (fun h241 => ?_)
 refine sD (nS (qT rfl ?_))
 refine tR (sQ (qM rfl) rfl (sP (pure_neg rfl (by omega) (by omega)) rfl rfl ?_))
 refine sQ (qA rfl) rfl (sD (nS (tS (tR (sL (load_a rfl rfl (at_blk_all (by repeat first | exact mH | apply mT)) hl2) rfl rfl ?_)))))
 refine sL (load_a rfl rfl (at_blk_all (by repeat first | exact mH | apply mT)) hl3) rfl rfl ?_
 refine sL (load_a rfl rfl (at_blk_all (by repeat first | exact mH | apply mT)) hl4) rfl rfl ?_
 refine sQ (qM rfl) rfl ?_
 (refine seq_imm rfl (l4Cast_fn e t u _ _ _ _ _ (by omega) hre hrt hru hat hua) rfl rfl (fun v G8 hle8 hh => ?_); obtain ⟨y, cy, ly, rfl, hry, hsy, hcy, _⟩ := hh; have hl6 := hry.len; have ho6 := hry.one; replace hb := hb.mono hle8; have hrN := hru.mono hle8; replace hleL := hleL.trans hle8; have hNa := hua; have hNs : szTy u ≤ 960 := (by omega))
 refine sQ (qM rfl) rfl (sQ (pX rfl rfl) rfl (sQ (pX rfl rfl) rfl (seq_store rfl rfl rfl hl6 ho6 rfl (by repeat first | exact Sw.here | apply Sw.there) (by exact upd_all (by first | exact hl6.symm | omega)) ?_)))
 refine sD (nS (tR (sL (load_a rfl rfl (at_blk_all (by repeat first | exact mH | apply mT)) hl4) rfl rfl ?_)))
 refine seq_store rfl rfl rfl hl4 ho4 rfl (by repeat first | exact Sw.here | apply Sw.there) (by exact upd_all (by first | exact hl4.symm | omega)) ?_
 refine sD (nrm_block (nS (tR (sQ (qM rfl) rfl (sP (pure_dec rfl rfl (by omega)) rfl rfl ?_)))))
 refine sQ (qA rfl) rfl (sD (nrm_loopN (j, cy, cu, p2 + 1 + 1, G8) ?_ ?_ ?_))
 (simp only [flat_snoc]; exact sMk)
 (dsimp only; exact ⟨by omega, hleL, ⟨y, hry, hsy hse, by omega⟩, ⟨_, hrN, hNa, hNs⟩, by omega, by omega⟩)
 (show _ < _ + 1; omega)
 refine sD (nS (cF rfl ?_))
 refine tK (nS (tS (tR (sL (load_a rfl rfl (at_blk_all (by repeat first | exact mH | apply mT)) hl2) rfl rfl ?_))))
 refine sL (load_a rfl rfl (at_blk_all (by repeat first | exact mH | apply mT)) hl3) rfl rfl ?_
 refine sL (load_a rfl rfl (at_blk_all (by repeat first | exact mH | apply mT)) hl4) rfl rfl ?_
 refine sQ (qM rfl) rfl ?_
 (refine seq_imm rfl (l4Cast_fn e t u _ _ _ _ _ (by omega) hre hrt hru hat hua) rfl rfl (fun v G8 hle8 hh => ?_); obtain ⟨y, cy, ly, rfl, hry, hsy, hcy, _⟩ := hh; have hl6 := hry.len; have ho6 := hry.one; replace hb := hb.mono hle8; have hrN := hru.mono hle8; replace hleL := hleL.trans hle8; have hNa := hua; have hNs : szTy u ≤ 960 := (by omega))
 refine sQ (qM rfl) rfl (sQ (pX rfl rfl) rfl (sQ (pX rfl rfl) rfl (seq_store rfl rfl rfl hl6 ho6 rfl (by repeat first | exact Sw.here | apply Sw.there) (by exact upd_all (by first | exact hl6.symm | omega)) ?_)))
 refine sD (nS (tR (sL (load_a rfl rfl (at_blk_all (by repeat first | exact mH | apply mT)) hl4) rfl rfl ?_)))
 refine seq_store rfl rfl rfl hl4 ho4 rfl (by repeat first | exact Sw.here | apply Sw.there) (by exact upd_all (by first | exact hl4.symm | omega)) ?_
 refine sD (nrm_block (nS (tR (sQ (qM rfl) rfl (sP (pure_dec rfl rfl (by omega)) rfl rfl ?_)))))
 refine sQ (qA rfl) rfl (sD (nrm_loopN (j, cy, cu, p2 + 1 + 1, G8) ?_ ?_ ?_))
 (simp only [flat_snoc]; exact sMk)
 (dsimp only; exact ⟨by omega, hleL, ⟨y, hry, hsy hse, by omega⟩, ⟨_, hrN, hNa, hNs⟩, by omega, by omega⟩)
 (show _ < _ + 1; omega)
 refine sD (nS (cF rfl ?_))
 refine tK (nrm_block (nS (tR (sQ (qM rfl) rfl (sP (pure_dec rfl rfl (by omega)) rfl rfl ?_)))))
 refine sQ (qA rfl) rfl (sD (nrm_loopN (j, ce, ct, p2 + 1, Gp) ?_ ?_ ?_))
 (simp only [flat_snoc]; exact sMk)
 (dsimp only; exact ⟨by omega, hleL, ⟨e, hre, hse, by omega⟩, ⟨t, hrt, hat, hst⟩, by omega, by omega⟩)
 (show _ < _ + 1; omega)
 refine sD (nS (cF rfl ?_))
 refine tri_exit ?_
 refine ext_seq ?_
 refine ext_loopN ?_
 refine ext_block_eq ?_
 refine nS (tS (tR (sL (load_a rfl rfl (at_blk_all (by repeat first | exact mH | apply mT)) hl2) rfl rfl ?_)))
 refine seq_store rfl rfl rfl (by assumption) (by assumption) rfl (by repeat first | exact Sw.here | apply Sw.there) (by exact upd_all (by symm; assumption)) ?_
 refine sD (nS (tT (ret_own1 (outs := [rd br pb nb cb p1]) (rC rfl (load_a rfl rfl (at_blk_all (by repeat first | exact mH | apply mT)) hl2)) (by repeat (first | exact SubH.nil | refine SubH.cons Pk.here ?_ | refine SubH.cons (Pk.there Pk.here) ?_ | refine SubH.cons (Pk.there (Pk.there Pk.here)) ?_ | apply SubH.drop)) ?_)))
 (exact ⟨p1, by omega, by omega, rfl, e, _, rfl, hre, hse, by omega⟩)
/-- A drawn term and a drawn path. -/
def DrawnTp (G : IM) : IM → Value → List Ent → Prop := Imm fun G' v => ∃ t cells l q c, v = .tuple ⟨[.agg ⟨cells⟩, .slice q l.length c]⟩ ∧ RTm G' t cells ∧ t.fit 100 ∧ Sl G' q l.length c 1 (ints l) ∧ l.length ≤ 100
mutual
/-- The types of a term's text, in order. -/
def mTys : Tm → List Ty
 | .mk k _ _ ty _ _ ks => (if k = 5 ∨ k = 13 then [ty] else []) ++ mTysL ks
def mTysL : List Tm → List Ty
 | [] => []
 | t :: ts => mTys t ++ mTysL ts
end
mutual
/-- A term with the types of a list. -/
def mWith : Tm → List Ty → Tm
 | .mk k nm num ty fr lb ks, l => .mk k nm num (if k = 5 ∨ k = 13 then l.getD 0 ty0 else ty) fr lb (mWithL ks (if k = 5 ∨ k = 13 then l.drop 1 else l))
def mWithL : List Tm → List Ty → List Tm
 | [], _ => []
 | t :: ts, l => mWith t l :: mWithL ts (l.drop (mTys t).length)
end
/-- The types that a mask leaves: those of its bits become the unknown type. -/
def mMask (mask : Nat) : Nat → List Ty → List Ty
 | _, [] => []
 | i, t :: ts => (if (mask / 2 ^ i) % 2 = 1 then .mk 1 [] else t) :: mMask mask (i + 1) ts
def mBlur (e : Tm) (mask : Nat) : Tm := mWith e (mMask mask 0 (mTys e))
def mConfigs (e : Tm) : List Tm := (List.range (2 ^ (mTys e).length)).map (mBlur e)
def hasTy (k : Int) : Bool := decide (k = 5 ∨ k = 13)
section cap
variable {P : Program} {Γ : Ctx} {env : Env} {hp : List Ent} {G : IM} {K : Po} {ops : Array Oper} {rest : List Oper}
end cap
/-- Types in an own slice. -/
def TyOw (ts : List Ty) : IM → Value → List Ent → Prop := fun G' v outs => ∃ p c es, v = .slice p ts.length c ∧ outs = [.slc p c 25 2 ts.length es.flatten] ∧ RTyL G' ts es
/-- A term and what is left of the list. -/
def RtP (u : Tm) (l : List Ty) : IM → Value → List Ent → Prop := fun G' v outs => outs = [] ∧ ∃ cu p c el, v = .tuple ⟨[.agg ⟨cu⟩, .slice p l.length c]⟩ ∧ RTm G' u cu ∧ SlE G' p l.length c 2 el ∧ RTyL G' l el
section bits
variable {P : Program} {Γ : Ctx} {env : Env} {hp : List Ent} {G : IM} {ty : TypeId}
end bits
section wr
variable {P : Program} {Γ : Ctx} {env : Env} {hp : List Ent} {G : IM} {ty : TypeId} {K : Po} {ops : Array Oper} {rest : List Oper}
variable {pos : String} {af : Array Edge} {gd : Option (Nat × Bool)}
end wr
def mTermTypes (t : Tm) : List Ty := if termValid t = true then mTys t else []
def WtTm (u : Tm) (n : Int) : IM → Value → List Ent → Prop := fun G' v outs => outs = [] ∧ ∃ cu, v = .tuple ⟨[.agg ⟨cu⟩, .int .i64 n]⟩ ∧ RTm G' u cu
/-- A term with the types of a list, if it is valid, there are as many, and they are valid. -/
def mWithTypes (t : Tm) (L : List Ty) : Option Tm := if termValid t = true ∧ (mTermTypes t).length = L.length ∧ ∀ u ∈ L, tValid u = true then some (mWith t L) else none
def TmB (o : Option Tm) : IM → Value → List Ent → Prop := Imm fun G' v => ∃ cu, v = .tuple ⟨[.agg ⟨cu⟩, .bool o.isSome]⟩ ∧ RTm G' (o.getD tm0) cu
theorem l5Fuel_fn (br : Nat) (pb : Option Addr) (nb cb : Nat) (bs : List UInt8) (hnb : nb ≤ 2000) (p : Nat) (G : IM) (hb : Sl G pb nb cb 1 (byts bs)) (hp : p < 1099511627776) :
  Fn Tryz.prog 27 [.pointer (some ⟨br, 0, none⟩)] [rd br pb nb cb p] G
   (Drew br pb nb cb p 1 (fun _ v => ∃ k, v = .int .i64 k ∧ I64 k)) := by
 refine fn_enter Tryz.func27 rfl Tryz.ntmps27 Tryz.results27 rfl ?_
 intro w0
 refine tS (tR (sQ (qA rfl) rfl (sD (nS (tS (tR ?_))))))
 refine sQ (qM rfl) rfl ?_
 (refine seq_step (step_buildSlice rfl rfl rfl (by omega) (by unfold maxLen; omega) rfl) rfl ?_; rintro _ ⟨b9, rfl⟩)
 (refine triL_freeze (by repeat (first | exact Pk.here | apply Pk.there)) (fun Gf hlef hslf _ => ?_); refine seq_take rfl (num_fn Gf br pb nb cb p bs _ _ _ _ (hb.mono hlef) hnb (by omega) hslf (by decide)) (Pk.perm (by repeat (first | exact Pk.here | apply Pk.there))) rfl rfl (fun v Gm outs hlen hh => ?_); obtain ⟨rfl, rfl, hv⟩ := hh; obtain ⟨kn, rfl, hkn⟩ : ∃ k, v = .int .i64 k ∧ I64 k := (by simp only [List.mem_cons, List.not_mem_nil, or_false] at hv; rcases hv with rfl | rfl | rfl | rfl | rfl | rfl | rfl | rfl <;> exact ⟨_, rfl, by unfold I64; omega⟩))
 refine sQ (qA rfl) rfl (sD (nS (tT (ret_own1 (outs := [rd br pb nb cb (p + 1)]) (rT rfl) (by repeat (first | exact SubH.nil | refine SubH.cons Pk.here ?_ | refine SubH.cons (Pk.there Pk.here) ?_ | refine SubH.cons (Pk.there (Pk.there Pk.here)) ?_ | apply SubH.drop)) ?_))))
 (exact ⟨p + 1, by omega, by omega, rfl, kn, rfl, hkn⟩)
def DrawnCmp (G : IM) : IM → Value → List Ent → Prop := Imm fun G' v => ∃ a ca b cb f, v = .tuple ⟨[.agg ⟨ca⟩, .agg ⟨cb⟩, .int .i64 f]⟩ ∧ RTm G' a ca ∧ a.fit 1100 ∧ RTm G' b cb ∧ b.fit 1100 ∧ I64 f
def DrawnTri (G : IM) : IM → Value → List Ent → Prop := Imm fun G' v => ∃ a ca b cb d cd, v = .tuple ⟨[.agg ⟨ca⟩, .agg ⟨cb⟩, .agg ⟨cd⟩]⟩ ∧ RTm G' a ca ∧ a.fit 1100 ∧ RTm G' b cb ∧ b.fit 1100 ∧ RTm G' d cd ∧ d.fit 1100
def DrawnRun (N : Nat) (G : IM) : IM → Value → List Ent → Prop := Imm fun G' v => ∃ a ca f, v = .tuple ⟨[.agg ⟨ca⟩, .int .i64 f]⟩ ∧ RTm G' a ca ∧ a.fit N ∧ I64 f
def mIsValue (e : Tm) : Bool := castValid e && mVal e
theorem isValueC_fn (e : Tm) (G : IM) (cells : List Value) (hr : RTm G e cells) : Fn Tryz.prog 14 [.agg ⟨cells⟩] [] G (Val (.bool (mIsValue e)) G) := by
 have hl := hr.len
 have hone := hr.one
 have hv := castValid_fn e G cells hr
 have hi := isValue_fn e G cells hr
 unfold mIsValue
 refine fn_enter Tryz.func14 rfl Tryz.ntmps14 Tryz.results14 rfl ?_
 intro w0
 refine tS (tR ?_)
 refine sE (step_box_a rfl rfl) rfl (fun b3 => ?_)
 refine sQ (qA rfl) rfl (sD (nS (tS (tR (sL (load_a rfl rfl (at_blk_all (by repeat first | exact mH | apply mT)) hl) rfl rfl ?_)))))
 refine seq_valb rfl (hv) rfl rfl (fun h10 => ?_) (fun h10 => ?_)
 refine sQ (qM rfl) rfl (sL (load_a rfl rfl (at_blk_all (by repeat first | exact mH | apply mT)) hl) rfl rfl ?_)
 refine seq_valb rfl (hi) rfl rfl (fun h13 => ?_) (fun h13 => ?_)
 refine sQ (pPt rfl rfl) rfl (sQ (qA rfl) rfl (sD (nS (tT (rF1 (rT rfl) ?_)))))
 (exact ⟨rfl, by simp [*], rfl⟩)
 refine sQ (pPt rfl rfl) rfl (sQ (qA rfl) rfl (sD (nS (tT (rF1 (rT rfl) ?_)))))
 (exact ⟨rfl, by simp [*], rfl⟩)
 refine sQ (qM rfl) rfl (sK rfl rfl (sK rfl rfl (sQ (pPf rfl rfl) rfl (sQ (qA rfl) rfl (sD (nS ?_))))))
 refine tT (rF1 (rT rfl) ?_)
 (exact ⟨rfl, by simp [*], rfl⟩)
theorem valueTextC_fn (e : Tm) (G : IM) (cells : List Value) (hT : TabG G) (hr : RTm G e cells) : Fn Tryz.prog 15 [.agg ⟨cells⟩] [] G (Val (.string (if mIsValue e = true then mVText e else ⟨⟨[]⟩⟩)) G) := by
 have hl := hr.len
 have hone := hr.one
 have hv := isValueC_fn e G cells hr
 refine fn_enter Tryz.func15 rfl Tryz.ntmps15 Tryz.results15 rfl ?_
 intro w0
 refine tS (tR ?_)
 refine sE (step_box_a rfl rfl) rfl (fun b3 => ?_)
 refine sQ (qA rfl) rfl (sD (nS (tS (tS (tR (sL (load_a rfl rfl (at_blk_all (by repeat first | exact mH | apply mT)) hl) rfl rfl ?_))))))
 refine seq_valb rfl (hv) rfl rfl (fun h11 => ?_) (fun h11 => ?_)
 refine sQ (pNt rfl) rfl (sD (nS (cF rfl ?_)))
 refine tK (nS (tS (tR (sL (load_a rfl rfl (at_blk_all (by repeat first | exact mH | apply mT)) hl) rfl rfl ?_))))
 refine seq_val rfl ((valueText_fn e G cells hT (cv_of (by have h0 : mIsValue e = true := (by assumption); unfold mIsValue at h0; rw [Bool.and_eq_true] at h0; exact h0.1)).1 (by have h0 : mIsValue e = true := (by assumption); unfold mIsValue at h0; rw [Bool.and_eq_true] at h0; exact h0.2) hr)) rfl rfl ?_
 refine sQ (qA rfl) rfl (sD (nS (tT (rF1 (rT rfl) ?_))))
 (exact ⟨rfl, by rw [if_pos (by assumption)], rfl⟩)
 refine sQ (pNf rfl) rfl (sD (nS (qT rfl ?_)))
 refine tS (tR (sQ (qA rfl) rfl (sD (nS (tT (rS ?_))))))
 refine rF1 (rT rfl) ?_
 (exact ⟨rfl, by rw [if_neg (by simp [*])], rfl⟩)
theorem txNum_ne (n : Int) : txNum n ≠ ⟨⟨[]⟩⟩ := by
 unfold txNum
 intro h
 have h1 : Lib.decDigits n.toNat = [] := by
  have := congrArg (fun b : ByteArray => b.data.toList) h
  simpa using this
 unfold Lib.decDigits at h1
 split at h1 <;> simp at h1
theorem vText_ne : ∀ (t : Tm), cv t → mVal t = true → mVText t ≠ ⟨⟨[]⟩⟩ := by
 refine Tm.ind fun k nm num ty fr lb ks ih hc hv => ?_
 obtain ⟨hN, hk⟩ := hc.node
 by_cases h1 : k = 10 ∨ (prx (.mk k nm num ty fr lb ks) = true ∧ ty.k = 5)
 ·rw [vt_pair h1]; decide
 ·by_cases h2 : k = 5 ∨ prx (.mk k nm num ty fr lb ks) = true
  ·rw [vt_fun h1 h2]; decide
  ·have hp : prx (.mk k nm num ty fr lb ks) = false := by
    cases h : prx (.mk k nm num ty fr lb ks) with
    | false => rfl
    | true => exact absurd (.inr h) h2
   by_cases h3 : k = 14
   ·have h0 : 0 < ks.length := by
     have := hN.ops
     rw [h3, show tmOps 14 = 1 from rfl] at this; omega
    rw [vt_cast hp h3 h0]
    refine ih _ (List.getElem_mem h0) (hk _ (List.getElem_mem h0)) ?_
    have hi : inj (.mk k nm num ty fr lb ks) = true := by
     cases h : inj (.mk k nm num ty fr lb ks) with
     | true => rfl
     | false =>
      rw [val_no (fun e => h1 (.inl e)) hp h] at hv
      have := of_decide_eq_true hv; omega
    rw [val_yes (.inr (.inr hi)), List.all_eq_true] at hv
    exact hv _ (List.getElem_mem h0)
   ·rw [vt_leaf hp h3 (fun e => h1 (.inl e)) (fun e => h2 (.inl e))]
    unfold mLeaf
    split
    ·exact txNum_ne num
    ·split <;> decide
/-- Evaluation is type-safe. -/
theorem evc_good {e : Tm} {fuel : Int} (h : (mCastTypeOf e).isSome = true) (hf : withinB fuel 0 300 = true) :
  ((mEvalCast e fuel).2.1 = 0 ∧ mCastTypeOf (mEvalCast e fuel).1 = mCastTypeOf e ∧ mIsValue (mEvalCast e fuel).1 = true ∧ mVText (mEvalCast e fuel).1 ≠ ⟨⟨[]⟩⟩) ∨ ((mEvalCast e fuel).2.1 = 2 ∧ (mEvalCast e fuel).2.2 ≠ 0) ∨ (mEvalCast e fuel).2.1 = 4 ∨ (mEvalCast e fuel).2.1 = 5 := by
 unfold mCastTypeOf at h
 split at h
 ·rename_i hv
  obtain ⟨T, hT⟩ := Option.isSome_iff_exists.1 h
  have hg := ev_good (fun l => l ≠ 0) (fun l h => by omega) fuel.toNat e T hv hT (lbOk_cv e (cv_of hv).1)
  have he : mEvalCast e fuel = ((mEv fuel.toNat e).1, (mEv fuel.toNat e).2.1, (mEv fuel.toNat e).2.2.1) := by
   unfold mEvalCast; rw [if_pos (withinB_iff.1 hf)]
  rw [he]
  rcases hg with ⟨g1, _, g2, g3, g4⟩ | ⟨g1, g2⟩ | ⟨g1, _⟩ | ⟨g1, _⟩
  ·refine .inl ⟨g1, ?_, ?_, vText_ne _ (cv_of g4).1 g3⟩
   ·unfold mCastTypeOf
    rw [if_pos g4, if_pos hv, g2, hT]
   ·show (castValid (mEv fuel.toNat e).1 && mVal (mEv fuel.toNat e).1) = true
    rw [g4, g3]; rfl
  ·exact .inr (.inl ⟨g1, g2⟩)
  ·exact .inr (.inr (.inl g1))
  ·exact .inr (.inr (.inr g1))
 ·cases h
theorem drawEvalCast_fn (G : IM) (q : Option Addr) (n c : Nat) (bs : List UInt8) (hb : Sl G q n c 1 (byts bs)) : Fn Tryz.prog 8 [.slice q n c] [] G (DrawnRun 100 G) := by
 refine fn_enter Tryz.func8 rfl Tryz.ntmps8 Tryz.results8 rfl ?_
 intro w0
 refine tS (tR ?_)
 refine sE (step_alloc rfl) rfl (fun b3 => ?_)
 refine sQ (qA rfl) rfl (sD (nS (tS (tR (sQ (qM rfl) rfl ?_)))))
 (refine seq_take rfl (l18Open_fn G q n c bs hb) (List.Perm.refl _) rfl rfl (fun v G1 outs hle1 hh => ?_); obtain ⟨rfl, br, pb, nb, cb, bs', rfl, rfl, hnb, hb'⟩ := hh)
 refine sQ (qA rfl) rfl (sD (nS (tS (tR (sQ (qM rfl) rfl (sQ (qM rfl) rfl ?_))))))
 (have hcall := l4Random_fn br pb nb cb bs' hnb 0 _ hb' (by omega); refine seq_take rfl hcall (Pk.perm (by repeat (first | exact Pk.here | apply Pk.there))) rfl rfl (fun v Gn outs hle1 hh => ?_); obtain ⟨p1, hp11, hp12, rfl, e0, ce0, rfl, hr0, hf0⟩ := hh; replace hb' := hb'.mono hle1)
 (have hcall := l4Mutate_fn br pb nb cb bs' hnb p1 _ hb' (by omega) e0 ce0 100 hf0 hr0; refine seq_take rfl hcall (Pk.perm (by repeat (first | exact Pk.here | apply Pk.there))) rfl rfl (fun v Gn outs hle2 hh => ?_); obtain ⟨p2, hp21, hp22, rfl, e, ce, rfl, hre, hfe⟩ := hh; have hl1 := hre.len; have ho1 := hre.one; replace hb' := hb'.mono hle2)
 refine sE (step_alloc rfl) rfl (fun b20 => ?_)
 refine seq_store rfl rfl rfl hl1 ho1 rfl (by repeat first | exact Sw.here | apply Sw.there) (by exact upd_all (by first | exact hl1.symm | omega)) ?_
 refine sD (nS (tS (tri_draw mixed rfl ?_)))
 refine any_load (i := 0) (l' := [tt,ff,ff,ff,ff]) rfl npI (load_a rfl rfl (at_blk_all (by repeat first | exact mH | apply mT)) hl1) rfl (by kernel_rfl) rfl rfl ?_
 refine aP 1 rfl (qM rfl) rfl ?_
 refine aO' 2 ?_
 (have hcall := l5Fuel_fn br pb nb cb bs' hnb p2 _ hb' (by omega); refine one_take (l' := [tt,tt,tt,ff,ff]) rfl rfl hcall (Pk.perm (by repeat (first | exact Pk.here | apply Pk.there))) rfl rfl rfl (by repeat (first | exact HmOk.nil | apply HmOk.dep (by decide +kernel) | apply HmOk.blk (by decide +kernel) (by repeat (first | exact Pk.here | apply Pk.there)) (by repeat first | exact mH | apply mT))) (fun v Gn outs hle5 hh => ?_); obtain ⟨p5, hp51, hp52, rfl, fl, rfl, hfl⟩ := hh; replace hre := hre.mono hle5)
 refine aO' 3 ?_
 refine one_storeM rfl rfl rfl rfl hl1 ho1 rfl rfl (by repeat first | exact Sw.here | apply Sw.there) (by exact upd_all hl1.symm) (by repeat (first | exact HmOk.nil | apply HmOk.dep (by decide +kernel) | apply HmOk.blk (by decide +kernel) (by repeat (first | exact Pk.here | apply Pk.there)) (by repeat first | exact mH | apply mT))) ?_
 refine aP 4 rfl (qA rfl) rfl ?_
 refine aD' ?_
 refine nS (tT (rF2 (rC rfl (load_a rfl rfl (at_blk_all (by repeat first | exact mH | apply mT)) hl1)) (rT rfl) ?_))
 (exact ⟨rfl, e, ce, fl, rfl, hre, hfe, hfl⟩)
theorem fnEvalCast_fn (bs : List UInt8) (G : IM) (p : Option Addr) (n c : Nat) (hT : TabG G) (hb : Sl G p n c 1 (byts bs)) : Fn Tryz.prog 3 [.slice p n c] [] G (Imm fun _ v => v = .bool true) := by
 have hn := hb.le
 refine fn_enter Tryz.func3 rfl Tryz.ntmps3 Tryz.results3 rfl ?_
 intro w0
 refine tS (tR (sQ (qA rfl) rfl (sD (nS (tS (tS ?_))))))
 refine tR (sQ (qM rfl) rfl (sQ (pLn rfl rfl) rfl (sB (pure_gtr rfl rfl) rfl rfl (fun h11 => ?_) (fun h11 => ?_))))
 refine sD (nS (qT rfl ?_))
 refine tS (tR (sQ (qA rfl) rfl (sD (nS (tT (rS ?_))))))
 refine rF1 (rT rfl) ?_
 (exact ⟨rfl, rfl⟩)
 refine sD (nS (cF rfl ?_))
 refine tK (nS (tS (tR (sQ (qM rfl) rfl ?_))))
 (refine seq_imm rfl (drawEvalCast_fn G _ _ _ bs hb) rfl rfl (fun v G1 hle1 hh => ?_); obtain ⟨a, ca, fl, rfl, hra, hfa, hfl⟩ := hh; replace hT := hT.mono hle1; have hca := hfa.2; have hla := hra.len; have hoa := hra.one; have hA := evalCast_fn a fl G1 ca hra; have hS := sEvalCast_fn a fl; have hk := @evc_good a fl; have hw : withinB fl 0 300 = true ↔ 0 ≤ fl ∧ fl ≤ 300 := withinB_iff; obtain ⟨⟨u, c1, l1⟩, hr1⟩ : ∃ r, mEvalCast a fl = r := ⟨_, rfl⟩; rw [hr1] at hA hk hS; obtain ⟨TY, hTY⟩ : ∃ T, mCastTypeOf a = T := ⟨_, rfl⟩; rw [hTY] at hk; replace hk : TY.isSome = true → withinB fl 0 300 = true → (c1 = 0 ∧ mCastTypeOf u = TY ∧ mIsValue u = true ∧ mVText u ≠ ⟨⟨[]⟩⟩) ∨ (c1 = 2 ∧ l1 ≠ 0) ∨ c1 = 4 ∨ c1 = 5 := hk)
 refine sQ (qM rfl) rfl (sQ (pX rfl rfl) rfl (sQ (pX rfl rfl) rfl ?_))
 refine sE (step_alloc rfl) rfl (fun b36 => ?_)
 refine sS rfl rfl rfl hla hoa rfl ?_ (hu := by exact upd_all hla.symm)
 refine sQ (qA rfl) rfl (sD (nS (tS (tR (sL (load_a rfl rfl (at_blk_all (by repeat first | exact mH | apply mT)) hla) rfl rfl ?_)))))
 refine sQ (qM rfl) rfl ?_
 (refine seq_imm rfl hA rfl rfl (fun v2 G2 hle2 hh => ?_); obtain ⟨cu, hve, hru⟩ := hh; replace hve : v2 = .tuple ⟨[.agg ⟨cu⟩, .int .i64 c1, .int .i64 l1]⟩ := hve; subst hve; replace hru : RTm G2 u cu := hru; have hlu := hru.len; have hou := hru.one; replace hT := hT.mono hle2; replace hra := hra.mono hle2; have hS2 := hS G2 ca (by omega) hra)
 refine sQ (qM rfl) rfl (sQ (pX rfl rfl) rfl (sQ (pX rfl rfl) rfl (sQ (pX rfl rfl) rfl ?_)))
 refine sE (step_alloc rfl) rfl (fun b50 => ?_)
 refine sS rfl rfl rfl hlu hou rfl ?_ (hu := by exact upd_all hlu.symm)
 refine sQ (qA rfl) rfl (sQ (qA rfl) rfl (sD (nS (tS (tR (sL (load_a rfl rfl (at_blk_all (by repeat first | exact mH | apply mT)) hla) rfl rfl ?_))))))
 refine sQ (qM rfl) rfl ?_
 (refine seq_imm rfl hS2 rfl rfl (fun v3 G3 hle3 hh => ?_); obtain ⟨cv3, hve, hrv⟩ := hh; replace hve : v3 = .tuple ⟨[.agg ⟨cv3⟩, .int .i64 c1, .int .i64 l1]⟩ := hve; subst hve; replace hrv : RTm G3 u cv3 := hrv; have hlv := hrv.len; have hov := hrv.one; replace hT := hT.mono hle3; replace hra := hra.mono hle3; replace hru := hru.mono hle3; have hC := castTypeOf_fn a G3 ca hra; rw [hTY] at hC)
 refine sQ (qM rfl) rfl (sQ (pX rfl rfl) rfl (sQ (pX rfl rfl) rfl (sQ (pX rfl rfl) rfl ?_)))
 refine sE (step_alloc rfl) rfl (fun b65 => ?_)
 refine sS rfl rfl rfl hlv hov rfl ?_ (hu := by exact upd_all hlv.symm)
 refine sQ (qA rfl) rfl (sQ (qA rfl) rfl (sD (nS (tS (tR (sL (load_a rfl rfl (at_blk_all (by repeat first | exact mH | apply mT)) hla) rfl rfl ?_))))))
 (refine seq_imm rfl hC rfl rfl (fun v4 G4 hle4 hh => ?_); obtain ⟨ct, T1, rfl, hrt, hT1⟩ := hh; have hlt := hrt.len; have hot := hrt.one; replace hT := hT.mono hle4; replace hru := hru.mono hle4; replace hrv := hrv.mono hle4; have hSm := termSame_fn u G4 cu cv3 hru hrv; obtain ⟨bt, hbt⟩ : ∃ b, TY.isSome = b := ⟨_, rfl⟩; rw [hbt] at hk ⊢; cases bt)
 refine sQ (qM rfl) rfl (sQ (pX rfl rfl) rfl (sQ (pX rfl rfl) rfl ?_))
 refine sE (step_alloc rfl) rfl (fun b78 => ?_)
 refine sS rfl rfl rfl hlt hot rfl ?_ (hu := by exact upd_all hlt.symm)
 refine sQ (qA rfl) rfl (sD (nS (tS (tS (tR (sQ (qM rfl) rfl ?_))))))
 refine sQ (qM rfl) rfl (sP (pure_neq_f rfl rfl (by omega)) rfl rfl ?_)
 refine sQ (qM rfl) rfl (sQ (qM rfl) rfl (sQ (qM rfl) rfl (sP (pure_neq_f rfl rfl (by omega)) rfl rfl ?_)))
 refine sQ (pPf rfl rfl) rfl (sQ (qM rfl) rfl (sL (load_a rfl rfl (at_blk_all (by repeat first | exact mH | apply mT)) hlu) rfl rfl ?_))
 refine sL (load_a rfl rfl (at_blk_all (by repeat first | exact mH | apply mT)) hlv) rfl rfl ?_
 refine seq_val rfl (hSm) rfl rfl ?_
 refine sQ (pNt rfl) rfl (sQ (pPf rfl rfl) rfl (sQ (qM rfl) rfl (sQ (qM rfl) rfl (sQ (pNf rfl) rfl (sQ (pPf rfl rfl) rfl (sQ (qM rfl) rfl ?_))))))
 refine sK rfl rfl (sK rfl rfl (sQ (pPt rfl rfl) rfl (sQ (qM rfl) rfl (sK rfl rfl (sK rfl rfl (sQ (pPt rfl rfl) rfl ?_))))))
 refine sD (nS (qT rfl ?_))
 refine tS (tR (sQ (qM rfl) rfl (sQ (qM rfl) rfl (sP (pure_eql_t rfl rfl (by omega)) rfl rfl ?_))))
 refine sQ (qM rfl) rfl (sQ (qM rfl) rfl (sQ (qM rfl) rfl (sP (pure_eql_t rfl rfl (by omega)) rfl rfl ?_)))
 refine sQ (pPt rfl rfl) rfl (sQ (qM rfl) rfl (sL (load_a rfl rfl (at_blk_all (by repeat first | exact mH | apply mT)) hlu) rfl rfl ?_))
 refine sL (load_a rfl rfl (at_blk_all (by repeat first | exact mH | apply mT)) hlv) rfl rfl ?_
 refine seq_val rfl (hSm) rfl rfl ?_
 refine sQ (pPt rfl rfl) rfl (sQ (qA rfl) rfl (sD (nS (tT (rS (rF1 (rT rfl) ?_))))))
 (exact ⟨rfl, rfl⟩)
 refine sQ (qM rfl) rfl (sQ (pX rfl rfl) rfl (sQ (pX rfl rfl) rfl ?_))
 refine sE (step_alloc rfl) rfl (fun b140 => ?_)
 refine sS rfl rfl rfl hlt hot rfl ?_ (hu := by exact upd_all hlt.symm)
 refine sQ (qA rfl) rfl (sD (nS (tS (tS (tR (sQ (qM rfl) rfl ?_))))))
 refine sQ (qM rfl) rfl (sP (pure_neq_f rfl rfl (by omega)) rfl rfl ?_)
 refine sQ (qM rfl) rfl (sQ (qM rfl) rfl (sQ (qM rfl) rfl (sP (pure_neq_f rfl rfl (by omega)) rfl rfl ?_)))
 refine sQ (pPf rfl rfl) rfl (sQ (qM rfl) rfl (sL (load_a rfl rfl (at_blk_all (by repeat first | exact mH | apply mT)) hlu) rfl rfl ?_))
 refine sL (load_a rfl rfl (at_blk_all (by repeat first | exact mH | apply mT)) hlv) rfl rfl ?_
 refine seq_val rfl (hSm) rfl rfl ?_
 refine sQ (pNt rfl) rfl (sQ (pPf rfl rfl) rfl (sQ (qM rfl) rfl (sQ (qM rfl) rfl (sQ (pNt rfl) rfl (sQ (pPf rfl rfl) rfl (sQ (qM rfl) rfl ?_))))))
 refine sQ (qM rfl) rfl (sB (pure_lss rfl rfl) rfl rfl (fun h168 => ?_) (fun h168 => ?_))
 refine sQ (pPf rfl rfl) rfl (sQ (qM rfl) rfl (sK rfl rfl (sK rfl rfl (sQ (pPt rfl rfl) rfl (sD (nS ?_))))))
 refine qT rfl ?_
 refine tS (tR (sQ (qM rfl) rfl (sQ (qM rfl) rfl (sP (pure_eql_t rfl rfl (by omega)) rfl rfl ?_))))
 refine sQ (qM rfl) rfl (sQ (qM rfl) rfl (sQ (qM rfl) rfl (sP (pure_eql_t rfl rfl (by omega)) rfl rfl ?_)))
 refine sQ (pPt rfl rfl) rfl (sQ (qM rfl) rfl (sL (load_a rfl rfl (at_blk_all (by repeat first | exact mH | apply mT)) hlu) rfl rfl ?_))
 refine sL (load_a rfl rfl (at_blk_all (by repeat first | exact mH | apply mT)) hlv) rfl rfl ?_
 refine seq_val rfl (hSm) rfl rfl ?_
 refine sQ (pPt rfl rfl) rfl (sQ (qA rfl) rfl (sD (nS (tT (rS (rF1 (rT rfl) ?_))))))
 (exact ⟨rfl, rfl⟩)
 refine sQ (pPf rfl rfl) rfl (sQ (qM rfl) rfl (sQ (qM rfl) rfl (sB (pure_gtr rfl rfl) rfl rfl (fun h202 => ?_) (fun h202 => ?_))))
 refine sQ (pPf rfl rfl) rfl (sD (nS (qT rfl ?_)))
 refine tS (tR (sQ (qM rfl) rfl (sQ (qM rfl) rfl (sP (pure_eql_t rfl rfl (by omega)) rfl rfl ?_))))
 refine sQ (qM rfl) rfl (sQ (qM rfl) rfl (sQ (qM rfl) rfl (sP (pure_eql_t rfl rfl (by omega)) rfl rfl ?_)))
 refine sQ (pPt rfl rfl) rfl (sQ (qM rfl) rfl (sL (load_a rfl rfl (at_blk_all (by repeat first | exact mH | apply mT)) hlu) rfl rfl ?_))
 refine sL (load_a rfl rfl (at_blk_all (by repeat first | exact mH | apply mT)) hlv) rfl rfl ?_
 refine seq_val rfl (hSm) rfl rfl ?_
 refine sQ (pPt rfl rfl) rfl (sQ (qA rfl) rfl (sD (nS (tT (rS (rF1 (rT rfl) ?_))))))
 (exact ⟨rfl, rfl⟩)
 refine sQ (pPf rfl rfl) rfl (sD (nS (cF rfl ?_)))
 refine tK (nS (tS (tS (tR (sQ (qM rfl) rfl (sB (qE rfl rfl) rfl rfl (fun h239 => ?_) (fun h239 => ?_)))))))
 refine sD (nS (qT rfl ?_))
 refine tS (tR (sL (load_a rfl rfl (at_blk_all (by repeat first | exact mH | apply mT)) hlu) rfl rfl ?_))
 focus (rcases hk rfl (hw.2 ⟨by omega, by omega⟩) with ⟨hk1, hk2, hk3, hk4⟩ | hk1 | hk1; rotate_left; (exfalso; omega); (exfalso; omega); have hC2 := castTypeOf_fn u G4 cu hru; rw [hk2] at hC2; refine seq_imm rfl hC2 rfl rfl (fun v5 G5 hle5 hh => ?_); obtain ⟨cy, T2, rfl, hry, hT2⟩ := hh; have hly := hry.len; have hoy := hry.one; replace hT := hT.mono hle5; replace hru := hru.mono hle5; replace hrt := hrt.mono hle5; obtain ⟨T0, hT0⟩ := Option.isSome_iff_exists.1 hbt; have hTs := typeSame_fn T1 G5 ct cy hrt (by rw [hT1 T0 hT0, ← hT2 T0 hT0]; exact hry); have hIv := isValueC_fn u G5 cu hru; rw [hk3] at hIv; have hVt := valueTextC_fn u G5 cu hT hru; rw [if_pos hk3] at hVt; rw [hbt])
 refine sQ (qM rfl) rfl (sQ (pX rfl rfl) rfl (sQ (pX rfl rfl) rfl ?_))
 refine sE (step_alloc rfl) rfl (fun b250 => ?_)
 refine sS rfl rfl rfl hly hoy rfl ?_ (hu := by exact upd_all hly.symm)
 refine sQ (qA rfl) rfl (sD (nS (tS (tR (sQ (qM rfl) rfl (sQ (qM rfl) rfl ?_))))))
 refine sL (load_a rfl rfl (at_blk_all (by repeat first | exact mH | apply mT)) hlt) rfl rfl ?_
 refine sL (load_a rfl rfl (at_blk_all (by repeat first | exact mH | apply mT)) hly) rfl rfl ?_
 refine seq_val rfl (hTs) rfl rfl ?_
 refine sQ (pPt rfl rfl) rfl (sQ (qM rfl) rfl (sL (load_a rfl rfl (at_blk_all (by repeat first | exact mH | apply mT)) hlu) rfl rfl ?_))
 refine seq_val rfl (hIv) rfl rfl ?_
 refine sQ (pPt rfl rfl) rfl (sQ (qM rfl) rfl (sL (load_a rfl rfl (at_blk_all (by repeat first | exact mH | apply mT)) hlu) rfl rfl ?_))
 refine seq_val rfl (hVt) rfl rfl ?_
 refine sB (pure_sneq rfl rfl) rfl rfl (fun h270 => ?_) (fun h270 => ?_)
 refine sQ (pPt rfl rfl) rfl (sQ (qA rfl) rfl (sD (nS (tT (rS (rF1 (rT rfl) ?_))))))
 (exact ⟨rfl, rfl⟩)
 refine sQ (pPt rfl rfl) rfl (sQ (qA rfl) rfl (sD (nS (tT (rS (rF1 (rT rfl) ?_))))))
 (exfalso; first | omega | contradiction | (have hq := hk rfl (hw.2 ⟨by omega, by omega⟩); omega) | simp_all)
 refine sD (nS (cF rfl ?_))
 refine tK (nS (tS (tR (sQ (qM rfl) rfl (sB (qE rfl rfl) rfl rfl (fun h295 => ?_) (fun h295 => ?_))))))
 refine sQ (qM rfl) rfl (sQ (qM rfl) rfl (sB (pure_neq rfl rfl) rfl rfl (fun h298 => ?_) (fun h298 => ?_)))
 refine sQ (pPt rfl rfl) rfl (sQ (qM rfl) rfl (sK rfl rfl (sK rfl rfl (sQ (pPt rfl rfl) rfl (sQ (qM rfl) rfl (sK rfl rfl ?_))))))
 refine sK rfl rfl (sQ (pPt rfl rfl) rfl (sQ (qA rfl) rfl (sD (nS (tT (rF1 (rT rfl) ?_))))))
 (exact ⟨rfl, rfl⟩)
 refine sQ (pPt rfl rfl) rfl (sQ (qM rfl) rfl (sQ (qM rfl) rfl (sP (pure_eql_f rfl rfl (by omega)) rfl rfl ?_)))
 refine sQ (pPf rfl rfl) rfl (sQ (qM rfl) rfl (sQ (qM rfl) rfl (sP (pure_eql_f rfl rfl (by omega)) rfl rfl ?_)))
 refine sQ (pPf rfl rfl) rfl (sQ (qA rfl) rfl (sD (nS (tT (rF1 (rT rfl) ?_)))))
 (exfalso; first | omega | contradiction | (have hq := hk rfl (hw.2 ⟨by omega, by omega⟩); omega) | simp_all)
 refine sQ (qM rfl) rfl (sK rfl rfl (sK rfl rfl (sQ (pPf rfl rfl) rfl (sQ (qM rfl) rfl (sQ (qM rfl) rfl (sB (qE rfl rfl) rfl rfl (fun h335 => ?_) (fun h335 => ?_)))))))
 refine sQ (pPf rfl rfl) rfl (sQ (qM rfl) rfl (sK rfl rfl (sK rfl rfl (sQ (pPt rfl rfl) rfl (sQ (qA rfl) rfl (sD ?_))))))
 refine nS (tT (rF1 (rT rfl) ?_))
 (exact ⟨rfl, rfl⟩)
 refine sQ (pPf rfl rfl) rfl (sQ (qM rfl) rfl (sQ (qM rfl) rfl (sB (qE rfl rfl) rfl rfl (fun h350 => ?_) (fun h350 => ?_))))
 refine sQ (pPf rfl rfl) rfl (sQ (qA rfl) rfl (sD (nS (tT (rF1 (rT rfl) ?_)))))
 (exact ⟨rfl, rfl⟩)
 refine sQ (pPf rfl rfl) rfl (sQ (qA rfl) rfl (sD (nS (tT (rF1 (rT rfl) ?_)))))
 (exfalso; first | omega | contradiction | (have hq := hk rfl (hw.2 ⟨by omega, by omega⟩); omega) | simp_all)
end Gw
end Go.Proofs.YthpdjmbpbdbodaaGreatDoor
