/-
  slices.Clone of numbers, paths, AllPaths. AllPaths. The reference model's tests of types and nodes: they compute the same plain functions. The reference model's scans of types. The reference model's consistency of types. The reference model's tests of nodes.
-/
import Derived.Test.YteneckdjdfnjoaaKc1
namespace Go.Proofs.Yteneckdjdfnjoaa
open Go Go.RowKit
namespace Gw
set_option maxRecDepth 100000 in
theorem clone_int (G : IM) (p : Option Addr) (n c : Nat) (cells : List Value) (h : Sl G p n c 1 cells) (ho : ∀ u ∈ cells, u.oneCell' = true) (hn : n ≤ 4294967296) :
  Fn Try.prog 42 [.slice p n c] [] G (fun G' v outs => G' = G ∧ ∃ p' c', v = .slice p' n c' ∧ outs = [.slc p' c' 3 1 n cells]) := by
 have hp := h.nn
 obtain ⟨hl, hc, hm, hat⟩ := h
 refine fn_enter Try.func42 rfl Try.ntmps42 Try.results42 rfl ?_
 intro w0
 cases p with
 | none =>
  obtain rfl := hp rfl
  obtain rfl : cells = [] := List.length_eq_zero_iff.1 (by omega)
  refine tri_nil 3 1 ?_
  refine tri_seq ?_
  refine tri_region ?_
  refine seq_pure (pure_assign rfl) rfl rfl ?_
  refine seq_done ?_
  refine nrm_seq ?_
  refine tri_seq ?_
  refine tri_seq ?_
  refine tri_region ?_
  refine seq_pure (pure_move rfl) rfl rfl ?_
  refine seq_pure (pure_slnil_t rfl rfl rfl) rfl rfl ?_
  refine seq_done ?_
  refine nrm_seq ?_
  refine tri_cond_t rfl ?_
  refine tri_seq ?_
  refine tri_region ?_
  refine seq_pure (pure_assign rfl) rfl rfl ?_
  refine seq_done ?_
  refine nrm_seq ?_
  refine tri_ret ?_
  refine ret_seq ?_
  refine ret_own1 (res_tmp rfl) SubH.refl ?_
  exact ⟨rfl, _, _, rfl, rfl⟩
 | some a =>
  rcases Nat.eq_zero_or_pos n with rfl | hn0
  ·obtain rfl : cells = [] := List.length_eq_zero_iff.1 (by omega)
   refine tri_seq ?_
   refine tri_region ?_
   refine seq_pure (pure_assign rfl) rfl rfl ?_
   refine seq_done ?_
   refine nrm_seq ?_
   refine tri_seq ?_
   refine tri_seq ?_
   refine tri_region ?_
   refine seq_pure (pure_move rfl) rfl rfl ?_
   refine seq_pure (pure_slnil_f rfl rfl rfl) rfl rfl ?_
   refine seq_done ?_
   refine nrm_seq ?_
   refine tri_cond_f rfl ?_
   refine tri_skip ?_
   refine nrm_seq ?_
   refine tri_seq ?_
   refine tri_region ?_
   (refine seq_step (step_buildSlice rfl rfl rfl (by omega) (by unfold maxLen; omega) rfl) rfl ?_; rintro _ ⟨b18, rfl⟩)
   refine seq_pure (pure_move rfl) rfl rfl ?_
   refine seq_pure (pure_append0 rfl rfl rfl (Nat.le_refl _)) rfl rfl ?_
   refine seq_pure (pure_assign rfl) rfl rfl ?_
   refine seq_done ?_
   refine nrm_seq ?_
   refine tri_ret ?_
   refine ret_own1 (res_tmp rfl) SubH.refl ?_
   exact ⟨rfl, _, _, rfl, rfl⟩
  ·obtain ⟨b, o, full, he, hg, hv⟩ := hat.resolve_left (by omega)
   obtain rfl := Option.some.inj he
   refine tri_seq ?_
   refine tri_region ?_
   refine seq_pure (pure_assign rfl) rfl rfl ?_
   refine seq_done ?_
   refine nrm_seq ?_
   refine tri_seq ?_
   refine tri_seq ?_
   refine tri_region ?_
   refine seq_pure (pure_move rfl) rfl rfl ?_
   refine seq_pure (pure_slnil_f rfl rfl rfl) rfl rfl ?_
   refine seq_done ?_
   refine nrm_seq ?_
   refine tri_cond_f rfl ?_
   refine tri_skip ?_
   refine nrm_seq ?_
   refine tri_seq ?_
   refine tri_region ?_
   (refine seq_step (step_buildSlice rfl rfl rfl (by omega) (by unfold maxLen; omega) rfl) rfl ?_; rintro _ ⟨b18, rfl⟩)
   refine seq_pure (pure_move rfl) rfl rfl ?_
   refine seq_append rfl rfl rfl rfl rfl (fun _ _ => by repeat (first | exact Sw.here | apply Sw.there)) (at_im hg hv) (by omega) ho (by unfold maxLen; omega) (by omega) rfl (fun pn cn => ?_)
   refine seq_pure (pure_assign rfl) rfl rfl ?_
   refine seq_done ?_
   refine nrm_seq ?_
   refine tri_ret ?_
   refine ret_own1 (res_tmp rfl) SubH.refl ?_
   exact ⟨rfl, _, _, by rw [Nat.zero_add], by rw [Nat.zero_add]; rfl⟩
set_option maxHeartbeats 0 in
set_option maxRecDepth 100000 in
theorem paths_fn : ∀ (t : Tm) (path : List Int) (G : IM) (cells : List Value) (pp : Option Addr) (pc : Nat), RTm G t cells → Sl G pp path.length pc 1 (ints path) → path.length + tmCount t ≤ 4294967296 →
  Fn Try.prog 23 [.agg ⟨cells⟩, .slice pp path.length pc] [] G (Imm fun G' v => ∃ p c, v = .slice p (mPaths t path).length c ∧ RPs (Dif G' G) (mPaths t path) p c) := by
 refine Tm.ind fun k nm num ty fr lb ks ih path G cells pp pc hr hpath hcnt => ?_
 have hone := hr.one
 obtain ⟨tk, tks⟩ := ty
 obtain ⟨fk, fks⟩ := fr
 obtain ⟨pt, ct, pf, cf, p, cp, es, rfl, hk, hnum, hlb, hty, hfr, hsl, hkl⟩ := hr.open9
 rw [tmCount] at hcnt
 have hn := len_le_count ks
 refine fn_enter Try.func23 rfl Try.ntmps23 Try.results23 rfl ?_
 intro w0
 refine tri_seq ?_
 refine tri_region ?_
 (refine seq_step (step_box_a rfl rfl) rfl ?_; rintro _ ⟨b3, rfl⟩)
 refine seq_pure (pure_assign rfl) rfl rfl ?_
 refine seq_done ?_
 refine nrm_seq ?_
 refine tri_seq ?_
 refine tri_region ?_
 refine seq_pure (pure_move rfl) rfl rfl ?_
 (refine seq_own rfl (clone_int _ _ _ _ _ hpath (ints_one _) (by omega)) rfl rfl (fun v10 G10 outs10 hle10 h10 => ?_); obtain ⟨hG, p1, c1, rfl, rfl⟩ := h10; replace hG := hG.symm; subst hG)
 replace hpath := hpath.mono hle10
 replace hr := hr.mono hle10
 replace hty := hty.mono hle10
 replace hfr := hfr.mono hle10
 replace hsl := hsl.mono hle10
 replace hkl := hkl.mono hle10
 (refine triL_freeze (cs := ints path) (by repeat (first | exact Pk.here | apply Pk.there)) (fun G2 hle2 hsl2 hno2 => ?_); obtain ⟨hf1, hf2⟩ := SPs.first hsl2 hno2 hsl2.nn hle2; refine seq_step (step_buildSlice rfl rfl rfl (by omega) (by unfold maxLen; omega) rfl) rfl ?_; rintro _ ⟨b11, rfl⟩)
 refine seq_pure (pure_assign rfl) rfl rfl ?_
 refine seq_done ?_
 refine nrm_seq ?_
 refine tri_seq ?_
 refine tri_seq ?_
 refine tri_region ?_
 refine seq_pure (pure_fieldAddr0 rfl) rfl rfl ?_
 refine seq_load (load_bs rfl rfl (by repeat (first | exact List.Mem.head _ | apply List.Mem.tail)) (by rfl)) rfl rfl ?_
 refine seq_pure (pure_len rfl rfl) rfl rfl ?_
 refine seq_pure (pure_move rfl) rfl rfl ?_
 refine seq_done ?_
 refine nrm_seq ?_
 refine tri_block ?_
 (refine tri_loopN (fun (x : Nat × Option Addr × Nat × Nat × List Value × List Nat × IM) => ⟨[(14, .int .i64 x.1), (13, .int .i64 ks.length), (12, .slice p ks.length cp), (5, .slice x.2.1 x.2.2.1 x.2.2.2.1), (1, .slice pp path.length pc)], [.slc x.2.1 x.2.2.2.1 35 1 x.2.2.1 x.2.2.2.2.1], x.2.2.2.2.2.2⟩) (fun x => x.1 ≤ ks.length ∧ x.2.2.1 = tmCountL (ks.take x.1) + 1 ∧ IMle G x.2.2.2.2.2.2 ∧ SPs (Dif x.2.2.2.2.2.2 G) (path :: mPathsL (ks.take x.1) 0 path) x.2.2.2.2.1 x.2.2.2.2.2.1 ∧ x.2.2.2.2.2.1.Nodup) (fun x => ks.length - x.1) (0, some ⟨b11, 0, none⟩, 1, 1, [.slice p1 path.length c1], vfp p1, G2) ?_ ?_ ?_)
 ·(simp only [flat_snoc]; exact sub_mk (by repeat (first | exact SubE.nil | refine SubE.cons rfl ?_)) (by repeat (first | exact SubH.refl | exact SubH.nil | refine SubH.cons (by repeat (first | exact Pk.here | apply Pk.there)) ?_ | apply SubH.drop)))
 ·exact ⟨Nat.zero_le _, rfl, hle2, hf1, hf2⟩
 ·(rintro ⟨i, pn, m, cn, es', F, Gi⟩ ⟨hi, hm, hleI, hst, hnd⟩; simp only [] at hi hm hleI hst hnd ⊢; replace hsl := hsl.mono hleI; replace hkl := hkl.mono hleI; replace hpath := hpath.mono hleI)
  refine tri_seq ?_
  refine tri_region ?_
  refine seq_bool (pure_lss rfl rfl) rfl rfl (fun h31 => ?_) (fun h31 => ?_)
  ·refine seq_done ?_
   refine nrm_seq ?_
   refine tri_seq ?_
   refine tri_cond_t rfl ?_
   refine tri_skip ?_
   refine nrm_seq ?_
   refine tri_seq ?_
   refine tri_block ?_
   refine tri_seq ?_
   refine tri_region ?_
   refine seq_pure (pure_move rfl) rfl rfl ?_
   (obtain ⟨b, o, e, rfl, hl, hat, hre, hgb⟩ := hsl.kidTm hkl (i := i) (by omega) (by omega); have hone := hre.one; have htk := tmCountL_take (ks := ks) (i := i) (by omega); refine seq_pure (pure_indexAddrN rfl rfl rfl (by omega)) rfl rfl ?_)
   refine seq_load (load_a rfl rfl (hat _) hl) rfl rfl ?_
   (refine seq_step (step_alloc rfl) rfl ?_; rintro _ ⟨b45, rfl⟩)
   refine seq_pure (pure_assign rfl) rfl rfl ?_
   refine seq_store rfl rfl rfl (by assumption) (by assumption) rfl (by repeat (first | exact Sw.here | apply Sw.there)) (by exact upd_all (by symm; assumption)) ?_
   refine seq_done ?_
   refine nrm_seq ?_
   refine tri_draw mixed rfl ?_
   refine any_pure (i := 0) (listed' := [tt,ff,ff,ff,ff,ff,ff,ff,ff,ff]) rfl (by repeat (first | exact np_ret | apply np_seq | apply np_block | apply np_loopN')) (pure_move rfl) rfl (by kernel_rfl) rfl rfl ?_
   refine any_load (i := 1) (listed' := [tt,tt,ff,ff,ff,ff,ff,ff,ff,ff]) rfl (by repeat (first | exact np_ret | apply np_seq | apply np_block | apply np_loopN')) (load_a rfl rfl (at_blk_all (by repeat (first | exact List.Mem.head _ | apply List.Mem.tail))) (by assumption)) rfl (by kernel_rfl) rfl rfl ?_
   refine any_pure (i := 2) (listed' := [tt,tt,tt,ff,ff,ff,ff,ff,ff,ff]) rfl (by repeat (first | exact np_ret | apply np_seq | apply np_block | apply np_loopN')) (pure_move rfl) rfl (by kernel_rfl) rfl rfl ?_
   refine any_pure (i := 4) (listed' := [tt,tt,tt,ff,tt,ff,ff,ff,ff,ff]) rfl (by repeat (first | exact np_ret | apply np_seq | apply np_block | apply np_loopN')) (pure_move rfl) rfl (by kernel_rfl) rfl rfl ?_
   refine any_two (j := 3) (j' := 5) (by kernel_rfl) ?_ ?_
   ·(refine one_own (listed' := [tt,tt,tt,tt,tt,ff,ff,ff,ff,ff]) rfl rfl (clone_int _ _ _ _ _ hpath (ints_one _) (by omega)) rfl rfl rfl (fun v56 G56 outs56 hle56 h56 => ?_); obtain ⟨hG, p1, c1, rfl, rfl⟩ := h56; replace hG := hG.symm; subst hG)
    replace hkl := hkl.mono hle56
    replace hpath := hpath.mono hle56
    replace hsl := hsl.mono hle56
    replace hre := hre.mono hle56
    refine any_one (j := 5) (by kernel_rfl) ?_
    (refine one_step0 (listed' := [tt,tt,tt,tt,tt,tt,ff,ff,ff,ff]) rfl (step_buildSlice rfl rfl rfl (by omega) (by unfold maxLen; omega) rfl) rfl rfl ?_; rintro _ ⟨b58, rfl⟩)
    refine any_one (j := 6) (by kernel_rfl) ?_
    (refine one_append (listed' := [tt,tt,tt,tt,tt,tt,tt,ff,ff,ff]) rfl rfl rfl rfl rfl rfl (fun _ _ => by repeat (first | exact Sw.here | apply Sw.there)) (at_slc_all (by repeat (first | exact List.Mem.head _ | apply List.Mem.tail))) rfl (by simp [Value.oneCell']) (by unfold maxLen; omega) (by omega) rfl rfl (by repeat (first | exact HmOk.nil | apply HmOk.dep (by decide +kernel) | apply HmOk.blk (by decide +kernel) (by repeat (first | exact Pk.here | apply Pk.there)) (by repeat (first | exact List.Mem.head _ | apply List.Mem.tail)))) (fun p4 c4 => ?_))
    (refine any_freeze (cs := ints path ++ [.int .i64 (i : Int)]) (by repeat (first | exact Pk.here | apply Pk.there)) (fun Gf hle61 hslf hnof => ?_); rw [← ints_snoc] at hslf; replace hre := hre.mono hle61; have hlef := hle61)
    replace hkl := hkl.mono hle61
    replace hpath := hpath.mono hle61
    replace hsl := hsl.mono hle61
    refine any_one (j := 7) (by kernel_rfl) ?_
    (have hih := ih ks[i] (List.getElem_mem (by omega)) (path ++ [(i : Int)]) Gf e p4 c4 hre; rw [show (path ++ [(i : Int)]).length = path.length + 1 from by simp] at hih; replace hih := hih hslf (by omega); refine one_imm (listed' := [tt,tt,tt,tt,tt,tt,tt,tt,ff,ff]) rfl rfl hih rfl rfl rfl (fun v G1 hle1 hh => ?_); obtain ⟨p5, c5, rfl, es5, F5, hsl5, hnb5, hsp5, hnd5⟩ := hh; have hm5 := mPaths_len ks[i] (path ++ [(i : Int)]); have hpos := tmCount_pos ks[i]; obtain ⟨hl5, hc5, hx5, hat5⟩ := hsl5; obtain ⟨b5, o5, full5, rfl, hg5, hv5⟩ := hat5.resolve_left (by omega))
    refine any_one (j := 8) (by kernel_rfl) ?_
    (refine one_append (listed' := [tt,tt,tt,tt,tt,tt,tt,tt,tt,ff]) rfl rfl rfl rfl rfl rfl (fun _ _ => by repeat (first | exact Sw.here | apply Sw.there)) (at_im (Dif.le _ _ _ _ hg5) hv5) hl5 hsp5.one (by unfold maxLen; omega) (by omega) rfl rfl (by repeat (first | exact HmOk.nil | apply HmOk.dep (by decide +kernel) | apply HmOk.blk (by decide +kernel) (by repeat (first | exact Pk.here | apply Pk.there)) (by repeat (first | exact List.Mem.head _ | apply List.Mem.tail)))) (fun p6 c6 => ?_))
    refine any_pure (i := 9) (listed' := [tt,tt,tt,tt,tt,tt,tt,tt,tt,tt]) rfl (by repeat (first | exact np_ret | apply np_seq | apply np_block | apply np_loopN')) (pure_assign rfl) rfl (by kernel_rfl) rfl rfl ?_
    refine any_done (by kernel_rfl) ?_
    refine nrm_block ?_
    refine nrm_seq ?_
    refine tri_region ?_
    refine seq_pure (pure_add rfl rfl (by omega) (by omega)) rfl rfl ?_
    refine seq_pure (pure_move rfl) rfl rfl ?_
    refine seq_done ?_
    (obtain ⟨q1, q2⟩ := SPs.step hst hnd hleI hlef hle1 hsp5 (List.nodup_append.1 hnd5).2.1; have hsu := tmCountL_succ (ks := ks) (i := i) (by omega); refine nrm_loopN (i + 1, p6, m + (mPaths ks[i] (path ++ [(i : Int)])).length, c6, es' ++ es5, F ++ F5, G1) ?_ ?_ ?_)
    ·(simp only [flat_snoc]; exact sub_mk (by repeat (first | exact SubE.nil | refine SubE.cons rfl ?_)) (by repeat (first | exact SubH.refl | exact SubH.nil | refine SubH.cons (by repeat (first | exact Pk.here | apply Pk.there)) ?_ | apply SubH.drop)))
    ·(dsimp only; exact ⟨by omega, by omega, (hleI.trans hlef).trans hle1, by rw [mPathsL_take (by omega)]; exact q1, q2⟩)
    ·(show ks.length - (i + 1) < ks.length - i; omega)
   ·(refine one_step0 (listed' := [tt,tt,tt,ff,tt,tt,ff,ff,ff,ff]) rfl (step_buildSlice rfl rfl rfl (by omega) (by unfold maxLen; omega) rfl) rfl rfl ?_; rintro _ ⟨b78, rfl⟩)
    refine any_one (j := 3) (by kernel_rfl) ?_
    (refine one_own (listed' := [tt,tt,tt,tt,tt,tt,ff,ff,ff,ff]) rfl rfl (clone_int _ _ _ _ _ hpath (ints_one _) (by omega)) rfl rfl rfl (fun v80 G80 outs80 hle80 h80 => ?_); obtain ⟨hG, p1, c1, rfl, rfl⟩ := h80; replace hG := hG.symm; subst hG)
    replace hkl := hkl.mono hle80
    replace hpath := hpath.mono hle80
    replace hsl := hsl.mono hle80
    replace hre := hre.mono hle80
    refine any_one (j := 6) (by kernel_rfl) ?_
    (refine one_append (listed' := [tt,tt,tt,tt,tt,tt,tt,ff,ff,ff]) rfl rfl rfl rfl rfl rfl (fun _ _ => by repeat (first | exact Sw.here | apply Sw.there)) (at_slc_all (by repeat (first | exact List.Mem.head _ | apply List.Mem.tail))) rfl (by simp [Value.oneCell']) (by unfold maxLen; omega) (by omega) rfl rfl (by repeat (first | exact HmOk.nil | apply HmOk.dep (by decide +kernel) | apply HmOk.blk (by decide +kernel) (by repeat (first | exact Pk.here | apply Pk.there)) (by repeat (first | exact List.Mem.head _ | apply List.Mem.tail)))) (fun p4 c4 => ?_))
    (refine any_freeze (cs := ints path ++ [.int .i64 (i : Int)]) (by repeat (first | exact Pk.here | apply Pk.there)) (fun Gf hle83 hslf hnof => ?_); rw [← ints_snoc] at hslf; replace hre := hre.mono hle83; have hlef := hle83)
    replace hkl := hkl.mono hle83
    replace hpath := hpath.mono hle83
    replace hsl := hsl.mono hle83
    refine any_one (j := 7) (by kernel_rfl) ?_
    (have hih := ih ks[i] (List.getElem_mem (by omega)) (path ++ [(i : Int)]) Gf e p4 c4 hre; rw [show (path ++ [(i : Int)]).length = path.length + 1 from by simp] at hih; replace hih := hih hslf (by omega); refine one_imm (listed' := [tt,tt,tt,tt,tt,tt,tt,tt,ff,ff]) rfl rfl hih rfl rfl rfl (fun v G1 hle1 hh => ?_); obtain ⟨p5, c5, rfl, es5, F5, hsl5, hnb5, hsp5, hnd5⟩ := hh; have hm5 := mPaths_len ks[i] (path ++ [(i : Int)]); have hpos := tmCount_pos ks[i]; obtain ⟨hl5, hc5, hx5, hat5⟩ := hsl5; obtain ⟨b5, o5, full5, rfl, hg5, hv5⟩ := hat5.resolve_left (by omega))
    refine any_one (j := 8) (by kernel_rfl) ?_
    (refine one_append (listed' := [tt,tt,tt,tt,tt,tt,tt,tt,tt,ff]) rfl rfl rfl rfl rfl rfl (fun _ _ => by repeat (first | exact Sw.here | apply Sw.there)) (at_im (Dif.le _ _ _ _ hg5) hv5) hl5 hsp5.one (by unfold maxLen; omega) (by omega) rfl rfl (by repeat (first | exact HmOk.nil | apply HmOk.dep (by decide +kernel) | apply HmOk.blk (by decide +kernel) (by repeat (first | exact Pk.here | apply Pk.there)) (by repeat (first | exact List.Mem.head _ | apply List.Mem.tail)))) (fun p6 c6 => ?_))
    refine any_pure (i := 9) (listed' := [tt,tt,tt,tt,tt,tt,tt,tt,tt,tt]) rfl (by repeat (first | exact np_ret | apply np_seq | apply np_block | apply np_loopN')) (pure_assign rfl) rfl (by kernel_rfl) rfl rfl ?_
    refine any_done (by kernel_rfl) ?_
    refine nrm_block ?_
    refine nrm_seq ?_
    refine tri_region ?_
    refine seq_pure (pure_add rfl rfl (by omega) (by omega)) rfl rfl ?_
    refine seq_pure (pure_move rfl) rfl rfl ?_
    refine seq_done ?_
    (obtain ⟨q1, q2⟩ := SPs.step hst hnd hleI hlef hle1 hsp5 (List.nodup_append.1 hnd5).2.1; have hsu := tmCountL_succ (ks := ks) (i := i) (by omega); refine nrm_loopN (i + 1, p6, m + (mPaths ks[i] (path ++ [(i : Int)])).length, c6, es' ++ es5, F ++ F5, G1) ?_ ?_ ?_)
    ·(simp only [flat_snoc]; exact sub_mk (by repeat (first | exact SubE.nil | refine SubE.cons rfl ?_)) (by repeat (first | exact SubH.refl | exact SubH.nil | refine SubH.cons (by repeat (first | exact Pk.here | apply Pk.there)) ?_ | apply SubH.drop)))
    ·(dsimp only; exact ⟨by omega, by omega, (hleI.trans hlef).trans hle1, by rw [mPathsL_take (by omega)]; exact q1, q2⟩)
    ·(show ks.length - (i + 1) < ks.length - i; omega)
  ·refine seq_done ?_
   refine nrm_seq ?_
   refine tri_seq ?_
   refine tri_cond_f rfl ?_
   refine tri_exit ?_
   refine ext_seq ?_
   refine ext_loopN ?_
   refine ext_block_eq ?_
   refine nrm_seq ?_
   refine tri_seq ?_
   refine tri_region ?_
   refine seq_pure (pure_move rfl) rfl rfl ?_
   refine seq_pure (pure_assign rfl) rfl rfl ?_
   refine seq_done ?_
   refine nrm_seq ?_
   (refine ret_freeze (by repeat (first | exact Pk.here | apply Pk.there)) (fun G3 hle3 hsl3 hno3 => ?_); obtain rfl : i = ks.length := by omega)
   refine tri_ret ?_
   refine ret_fin1 (res_tmp rfl) ?_
   (rw [List.take_length] at hst hm; have hfin := RPs.fin hst hnd hleI hle3 hsl3 (by rw [List.length_cons, mPathsL_len, hm]) hno3; exact ⟨rfl, pn, cn, by rw [mPaths_len, tmCount, hm], by rw [mPaths]; exact hfin⟩)
end Gw
end Go.Proofs.Yteneckdjdfnjoaa
namespace Go.Proofs.Yteneckdjdfnjoaa
open Go Go.RowKit
namespace Gw
set_option maxRecDepth 100000 in
theorem allPaths_fn (t : Tm) (G : IM) (cells : List Value) (hr : RTm G t cells) :
  Fn Try.prog 7 [.agg ⟨cells⟩] [] G (Imm fun G' v => ∃ p c, v = .slice p (mAll t).length c ∧ RPs (Dif G' G) (mAll t) p c) := by
 have hl := hr.len
 have hv := castValid_fn t G cells hr
 have hcnt := @castValid_count t
 refine fn_enter Try.func7 rfl Try.ntmps7 Try.results7 rfl ?_
 intro w0
 refine tri_seq ?_
 refine tri_region ?_
 (refine seq_step (step_box_a rfl rfl) rfl ?_; rintro _ ⟨b3, rfl⟩)
 refine seq_pure (pure_assign rfl) rfl rfl ?_
 refine seq_done ?_
 refine nrm_seq ?_
 refine tri_seq ?_
 refine tri_seq ?_
 refine tri_region ?_
 refine seq_load (load_a rfl rfl (at_blk_all (by repeat (first | exact List.Mem.head _ | apply List.Mem.tail))) (by assumption)) rfl rfl ?_
 refine seq_valb rfl (hv) rfl rfl (fun h11 => ?_) (fun h11 => ?_)
 ·refine seq_pure (pure_not_t rfl) rfl rfl ?_
  refine seq_done ?_
  refine nrm_seq ?_
  refine tri_cond_f rfl ?_
  refine tri_skip ?_
  refine nrm_seq ?_
  refine tri_seq ?_
  refine tri_region ?_
  refine seq_load (load_a rfl rfl (at_blk_all (by repeat (first | exact List.Mem.head _ | apply List.Mem.tail))) (by assumption)) rfl rfl ?_
  (have hp := paths_fn t [] G cells none 0 hr (Sl.nil G 1) (by have := hcnt (by assumption); simp; omega); refine seq_imm rfl hp rfl rfl (fun v21 G21 hle21 hh => ?_); obtain ⟨p1, c1, rfl, hrp⟩ := hh)
  replace hr := hr.mono hle21
  refine seq_pure (pure_assign rfl) rfl rfl ?_
  refine seq_done ?_
  refine nrm_seq ?_
  refine tri_ret ?_
  refine ret_fin1 (res_tmp rfl) ?_
  (have hm : mAll t = mPaths t [] := if_pos (by assumption); rw [hm]; exact ⟨rfl, _, _, rfl, hrp⟩)
 ·refine seq_pure (pure_not_f rfl) rfl rfl ?_
  refine seq_done ?_
  refine nrm_seq ?_
  refine tri_cond_t rfl ?_
  refine tri_seq ?_
  refine tri_region ?_
  refine seq_pure (pure_assign rfl) rfl rfl ?_
  refine seq_done ?_
  refine nrm_seq ?_
  refine tri_ret ?_
  refine ret_seq ?_
  refine ret_fin1 (res_tmp rfl) ?_
  (have hm : mAll t = [] := if_neg (by simp [*]); rw [hm]; exact ⟨rfl, _, _, rfl, RPs.nil _⟩)
end Gw
end Go.Proofs.Yteneckdjdfnjoaa
namespace Go.Proofs.Yteneckdjdfnjoaa
open Go Go.RowKit
namespace Gw
set_option maxRecDepth 100000 in
theorem l1Kids_fn (k : Int) (G : IM) : Fn Try.prog 95 [.int .i64 k] [] G (Val (.int .i64 (tyOps k)) G) := by
 refine fn_enter Try.func95 rfl Try.ntmps95 Try.results95 rfl ?_
 intro w0
 refine tri_seq ?_
 refine tri_region ?_
 refine seq_pure (pure_assign rfl) rfl rfl ?_
 refine seq_done ?_
 refine nrm_seq ?_
 refine tri_seq ?_
 refine tri_seq ?_
 refine tri_region ?_
 refine seq_pure (pure_move rfl) rfl rfl ?_
 refine seq_done ?_
 refine nrm_seq ?_
 refine tri_block ?_
 refine tri_seq ?_
 refine tri_seq ?_
 refine tri_region ?_
 refine seq_bool (pure_eql rfl rfl) rfl rfl (fun h16 => ?_) (fun h16 => ?_)
 ·refine seq_pure (pure_assign rfl) rfl rfl ?_
  refine seq_done ?_
  refine nrm_seq ?_
  refine tri_cond_t rfl ?_
  refine tri_skip ?_
  refine nrm_seq ?_
  refine tri_cond_t rfl ?_
  refine tri_seq ?_
  refine tri_region ?_
  refine seq_pure (pure_assign rfl) rfl rfl ?_
  refine seq_done ?_
  refine nrm_seq ?_
  refine tri_ret ?_
  refine ret_block ?_
  refine ret_seq ?_
  refine ret_fin1 (res_tmp rfl) ?_
  exact ⟨rfl, by (first | rw [(tyOps_spec k).1 (by omega)] | rw [(tyOps_spec k).2.1 (by omega)] | rw [(tyOps_spec k).2.2 (by omega) (by omega) (by omega) (by omega) (by omega)]), rfl⟩
 ·refine seq_pure (pure_assign rfl) rfl rfl ?_
  refine seq_done ?_
  refine nrm_seq ?_
  refine tri_cond_f rfl ?_
  refine tri_seq ?_
  refine tri_region ?_
  refine seq_bool (pure_eql rfl rfl) rfl rfl (fun h40 => ?_) (fun h40 => ?_)
  ·refine seq_pure (pure_assign rfl) rfl rfl ?_
   refine seq_done ?_
   refine nrm_seq ?_
   refine tri_cond_t rfl ?_
   refine tri_skip ?_
   refine nrm_seq ?_
   refine tri_cond_t rfl ?_
   refine tri_seq ?_
   refine tri_region ?_
   refine seq_pure (pure_assign rfl) rfl rfl ?_
   refine seq_done ?_
   refine nrm_seq ?_
   refine tri_ret ?_
   refine ret_block ?_
   refine ret_seq ?_
   refine ret_fin1 (res_tmp rfl) ?_
   exact ⟨rfl, by (first | rw [(tyOps_spec k).1 (by omega)] | rw [(tyOps_spec k).2.1 (by omega)] | rw [(tyOps_spec k).2.2 (by omega) (by omega) (by omega) (by omega) (by omega)]), rfl⟩
  ·refine seq_pure (pure_assign rfl) rfl rfl ?_
   refine seq_done ?_
   refine nrm_seq ?_
   refine tri_cond_f rfl ?_
   refine tri_region ?_
   refine seq_bool (pure_eql rfl rfl) rfl rfl (fun h63 => ?_) (fun h63 => ?_)
   ·refine seq_pure (pure_assign rfl) rfl rfl ?_
    refine seq_done ?_
    refine nrm_seq ?_
    refine tri_cond_t rfl ?_
    refine tri_seq ?_
    refine tri_region ?_
    refine seq_pure (pure_assign rfl) rfl rfl ?_
    refine seq_done ?_
    refine nrm_seq ?_
    refine tri_ret ?_
    refine ret_block ?_
    refine ret_seq ?_
    refine ret_fin1 (res_tmp rfl) ?_
    exact ⟨rfl, by (first | rw [(tyOps_spec k).1 (by omega)] | rw [(tyOps_spec k).2.1 (by omega)] | rw [(tyOps_spec k).2.2 (by omega) (by omega) (by omega) (by omega) (by omega)]), rfl⟩
   ·refine seq_pure (pure_assign rfl) rfl rfl ?_
    refine seq_done ?_
    refine nrm_seq ?_
    refine tri_cond_f rfl ?_
    refine tri_seq ?_
    refine tri_seq ?_
    refine tri_region ?_
    refine seq_bool (pure_eql rfl rfl) rfl rfl (fun h85 => ?_) (fun h85 => ?_)
    ·refine seq_pure (pure_assign rfl) rfl rfl ?_
     refine seq_done ?_
     refine nrm_seq ?_
     refine tri_cond_t rfl ?_
     refine tri_skip ?_
     refine nrm_seq ?_
     refine tri_cond_t rfl ?_
     refine tri_seq ?_
     refine tri_region ?_
     refine seq_pure (pure_assign rfl) rfl rfl ?_
     refine seq_done ?_
     refine nrm_seq ?_
     refine tri_ret ?_
     refine ret_block ?_
     refine ret_seq ?_
     refine ret_fin1 (res_tmp rfl) ?_
     exact ⟨rfl, by (first | rw [(tyOps_spec k).1 (by omega)] | rw [(tyOps_spec k).2.1 (by omega)] | rw [(tyOps_spec k).2.2 (by omega) (by omega) (by omega) (by omega) (by omega)]), rfl⟩
    ·refine seq_pure (pure_assign rfl) rfl rfl ?_
     refine seq_done ?_
     refine nrm_seq ?_
     refine tri_cond_f rfl ?_
     refine tri_region ?_
     refine seq_bool (pure_eql rfl rfl) rfl rfl (fun h108 => ?_) (fun h108 => ?_)
     ·refine seq_pure (pure_assign rfl) rfl rfl ?_
      refine seq_done ?_
      refine nrm_seq ?_
      refine tri_cond_t rfl ?_
      refine tri_seq ?_
      refine tri_region ?_
      refine seq_pure (pure_assign rfl) rfl rfl ?_
      refine seq_done ?_
      refine nrm_seq ?_
      refine tri_ret ?_
      refine ret_block ?_
      refine ret_seq ?_
      refine ret_fin1 (res_tmp rfl) ?_
      exact ⟨rfl, by (first | rw [(tyOps_spec k).1 (by omega)] | rw [(tyOps_spec k).2.1 (by omega)] | rw [(tyOps_spec k).2.2 (by omega) (by omega) (by omega) (by omega) (by omega)]), rfl⟩
     ·refine seq_pure (pure_assign rfl) rfl rfl ?_
      refine seq_done ?_
      refine nrm_seq ?_
      refine tri_cond_f rfl ?_
      refine tri_skip ?_
      refine nrm_block ?_
      refine nrm_seq ?_
      refine tri_seq ?_
      refine tri_region ?_
      refine seq_pure (pure_assign rfl) rfl rfl ?_
      refine seq_done ?_
      refine nrm_seq ?_
      refine tri_ret ?_
      refine ret_fin1 (res_tmp rfl) ?_
      exact ⟨rfl, by (first | rw [(tyOps_spec k).1 (by omega)] | rw [(tyOps_spec k).2.1 (by omega)] | rw [(tyOps_spec k).2.2 (by omega) (by omega) (by omega) (by omega) (by omega)]), rfl⟩
set_option maxRecDepth 100000 in
theorem l2Kids_fn (k : Int) (G : IM) : Fn Try.prog 62 [.int .i64 k] [] G (Val (.int .i64 (tmOps k)) G) := by
 refine fn_enter Try.func62 rfl Try.ntmps62 Try.results62 rfl ?_
 intro w0
 refine tri_seq ?_
 refine tri_region ?_
 refine seq_pure (pure_assign rfl) rfl rfl ?_
 refine seq_done ?_
 refine nrm_seq ?_
 refine tri_seq ?_
 refine tri_seq ?_
 refine tri_region ?_
 refine seq_pure (pure_move rfl) rfl rfl ?_
 refine seq_done ?_
 refine nrm_seq ?_
 refine tri_block ?_
 refine tri_seq ?_
 refine tri_seq ?_
 refine tri_region ?_
 refine seq_bool (pure_eql rfl rfl) rfl rfl (fun h16 => ?_) (fun h16 => ?_)
 ·refine seq_pure (pure_assign rfl) rfl rfl ?_
  refine seq_done ?_
  refine nrm_seq ?_
  refine tri_cond_t rfl ?_
  refine tri_skip ?_
  refine nrm_seq ?_
  refine tri_cond_t rfl ?_
  refine tri_seq ?_
  refine tri_region ?_
  refine seq_pure (pure_assign rfl) rfl rfl ?_
  refine seq_done ?_
  refine nrm_seq ?_
  refine tri_ret ?_
  refine ret_block ?_
  refine ret_seq ?_
  refine ret_fin1 (res_tmp rfl) ?_
  exact ⟨rfl, by (unfold tmOps; first | rw [if_pos (by omega)] | rw [if_neg (by omega), if_pos (by omega)] | rw [if_neg (by omega), if_neg (by omega), if_pos (by omega)] | rw [if_neg (by omega), if_neg (by omega), if_neg (by omega), if_pos (by omega)] | rw [if_neg (by omega), if_neg (by omega), if_neg (by omega), if_neg (by omega)]), rfl⟩
 ·refine seq_pure (pure_assign rfl) rfl rfl ?_
  refine seq_done ?_
  refine nrm_seq ?_
  refine tri_cond_f rfl ?_
  refine tri_seq ?_
  refine tri_region ?_
  refine seq_bool (pure_eql rfl rfl) rfl rfl (fun h40 => ?_) (fun h40 => ?_)
  ·refine seq_pure (pure_assign rfl) rfl rfl ?_
   refine seq_done ?_
   refine nrm_seq ?_
   refine tri_cond_t rfl ?_
   refine tri_skip ?_
   refine nrm_seq ?_
   refine tri_cond_t rfl ?_
   refine tri_seq ?_
   refine tri_region ?_
   refine seq_pure (pure_assign rfl) rfl rfl ?_
   refine seq_done ?_
   refine nrm_seq ?_
   refine tri_ret ?_
   refine ret_block ?_
   refine ret_seq ?_
   refine ret_fin1 (res_tmp rfl) ?_
   exact ⟨rfl, by (unfold tmOps; first | rw [if_pos (by omega)] | rw [if_neg (by omega), if_pos (by omega)] | rw [if_neg (by omega), if_neg (by omega), if_pos (by omega)] | rw [if_neg (by omega), if_neg (by omega), if_neg (by omega), if_pos (by omega)] | rw [if_neg (by omega), if_neg (by omega), if_neg (by omega), if_neg (by omega)]), rfl⟩
  ·refine seq_pure (pure_assign rfl) rfl rfl ?_
   refine seq_done ?_
   refine nrm_seq ?_
   refine tri_cond_f rfl ?_
   refine tri_seq ?_
   refine tri_region ?_
   refine seq_bool (pure_eql rfl rfl) rfl rfl (fun h64 => ?_) (fun h64 => ?_)
   ·refine seq_pure (pure_assign rfl) rfl rfl ?_
    refine seq_done ?_
    refine nrm_seq ?_
    refine tri_cond_t rfl ?_
    refine tri_skip ?_
    refine nrm_seq ?_
    refine tri_cond_t rfl ?_
    refine tri_seq ?_
    refine tri_region ?_
    refine seq_pure (pure_assign rfl) rfl rfl ?_
    refine seq_done ?_
    refine nrm_seq ?_
    refine tri_ret ?_
    refine ret_block ?_
    refine ret_seq ?_
    refine ret_fin1 (res_tmp rfl) ?_
    exact ⟨rfl, by (unfold tmOps; first | rw [if_pos (by omega)] | rw [if_neg (by omega), if_pos (by omega)] | rw [if_neg (by omega), if_neg (by omega), if_pos (by omega)] | rw [if_neg (by omega), if_neg (by omega), if_neg (by omega), if_pos (by omega)] | rw [if_neg (by omega), if_neg (by omega), if_neg (by omega), if_neg (by omega)]), rfl⟩
   ·refine seq_pure (pure_assign rfl) rfl rfl ?_
    refine seq_done ?_
    refine nrm_seq ?_
    refine tri_cond_f rfl ?_
    refine tri_region ?_
    refine seq_bool (pure_eql rfl rfl) rfl rfl (fun h87 => ?_) (fun h87 => ?_)
    ·refine seq_pure (pure_assign rfl) rfl rfl ?_
     refine seq_done ?_
     refine nrm_seq ?_
     refine tri_cond_t rfl ?_
     refine tri_seq ?_
     refine tri_region ?_
     refine seq_pure (pure_assign rfl) rfl rfl ?_
     refine seq_done ?_
     refine nrm_seq ?_
     refine tri_ret ?_
     refine ret_block ?_
     refine ret_seq ?_
     refine ret_fin1 (res_tmp rfl) ?_
     exact ⟨rfl, by (unfold tmOps; first | rw [if_pos (by omega)] | rw [if_neg (by omega), if_pos (by omega)] | rw [if_neg (by omega), if_neg (by omega), if_pos (by omega)] | rw [if_neg (by omega), if_neg (by omega), if_neg (by omega), if_pos (by omega)] | rw [if_neg (by omega), if_neg (by omega), if_neg (by omega), if_neg (by omega)]), rfl⟩
    ·refine seq_pure (pure_assign rfl) rfl rfl ?_
     refine seq_done ?_
     refine nrm_seq ?_
     refine tri_cond_f rfl ?_
     refine tri_seq ?_
     refine tri_seq ?_
     refine tri_region ?_
     refine seq_bool (pure_eql rfl rfl) rfl rfl (fun h109 => ?_) (fun h109 => ?_)
     ·refine seq_pure (pure_assign rfl) rfl rfl ?_
      refine seq_done ?_
      refine nrm_seq ?_
      refine tri_cond_t rfl ?_
      refine tri_skip ?_
      refine nrm_seq ?_
      refine tri_cond_t rfl ?_
      refine tri_seq ?_
      refine tri_region ?_
      refine seq_pure (pure_assign rfl) rfl rfl ?_
      refine seq_done ?_
      refine nrm_seq ?_
      refine tri_ret ?_
      refine ret_block ?_
      refine ret_seq ?_
      refine ret_fin1 (res_tmp rfl) ?_
      exact ⟨rfl, by (unfold tmOps; first | rw [if_pos (by omega)] | rw [if_neg (by omega), if_pos (by omega)] | rw [if_neg (by omega), if_neg (by omega), if_pos (by omega)] | rw [if_neg (by omega), if_neg (by omega), if_neg (by omega), if_pos (by omega)] | rw [if_neg (by omega), if_neg (by omega), if_neg (by omega), if_neg (by omega)]), rfl⟩
     ·refine seq_pure (pure_assign rfl) rfl rfl ?_
      refine seq_done ?_
      refine nrm_seq ?_
      refine tri_cond_f rfl ?_
      refine tri_seq ?_
      refine tri_region ?_
      refine seq_bool (pure_eql rfl rfl) rfl rfl (fun h133 => ?_) (fun h133 => ?_)
      ·refine seq_pure (pure_assign rfl) rfl rfl ?_
       refine seq_done ?_
       refine nrm_seq ?_
       refine tri_cond_t rfl ?_
       refine tri_skip ?_
       refine nrm_seq ?_
       refine tri_cond_t rfl ?_
       refine tri_seq ?_
       refine tri_region ?_
       refine seq_pure (pure_assign rfl) rfl rfl ?_
       refine seq_done ?_
       refine nrm_seq ?_
       refine tri_ret ?_
       refine ret_block ?_
       refine ret_seq ?_
       refine ret_fin1 (res_tmp rfl) ?_
       exact ⟨rfl, by (unfold tmOps; first | rw [if_pos (by omega)] | rw [if_neg (by omega), if_pos (by omega)] | rw [if_neg (by omega), if_neg (by omega), if_pos (by omega)] | rw [if_neg (by omega), if_neg (by omega), if_neg (by omega), if_pos (by omega)] | rw [if_neg (by omega), if_neg (by omega), if_neg (by omega), if_neg (by omega)]), rfl⟩
      ·refine seq_pure (pure_assign rfl) rfl rfl ?_
       refine seq_done ?_
       refine nrm_seq ?_
       refine tri_cond_f rfl ?_
       refine tri_seq ?_
       refine tri_region ?_
       refine seq_bool (pure_eql rfl rfl) rfl rfl (fun h157 => ?_) (fun h157 => ?_)
       ·refine seq_pure (pure_assign rfl) rfl rfl ?_
        refine seq_done ?_
        refine nrm_seq ?_
        refine tri_cond_t rfl ?_
        refine tri_skip ?_
        refine nrm_seq ?_
        refine tri_cond_t rfl ?_
        refine tri_seq ?_
        refine tri_region ?_
        refine seq_pure (pure_assign rfl) rfl rfl ?_
        refine seq_done ?_
        refine nrm_seq ?_
        refine tri_ret ?_
        refine ret_block ?_
        refine ret_seq ?_
        refine ret_fin1 (res_tmp rfl) ?_
        exact ⟨rfl, by (unfold tmOps; first | rw [if_pos (by omega)] | rw [if_neg (by omega), if_pos (by omega)] | rw [if_neg (by omega), if_neg (by omega), if_pos (by omega)] | rw [if_neg (by omega), if_neg (by omega), if_neg (by omega), if_pos (by omega)] | rw [if_neg (by omega), if_neg (by omega), if_neg (by omega), if_neg (by omega)]), rfl⟩
       ·refine seq_pure (pure_assign rfl) rfl rfl ?_
        refine seq_done ?_
        refine nrm_seq ?_
        refine tri_cond_f rfl ?_
        refine tri_seq ?_
        refine tri_region ?_
        refine seq_bool (pure_eql rfl rfl) rfl rfl (fun h181 => ?_) (fun h181 => ?_)
        ·refine seq_pure (pure_assign rfl) rfl rfl ?_
         refine seq_done ?_
         refine nrm_seq ?_
         refine tri_cond_t rfl ?_
         refine tri_skip ?_
         refine nrm_seq ?_
         refine tri_cond_t rfl ?_
         refine tri_seq ?_
         refine tri_region ?_
         refine seq_pure (pure_assign rfl) rfl rfl ?_
         refine seq_done ?_
         refine nrm_seq ?_
         refine tri_ret ?_
         refine ret_block ?_
         refine ret_seq ?_
         refine ret_fin1 (res_tmp rfl) ?_
         exact ⟨rfl, by (unfold tmOps; first | rw [if_pos (by omega)] | rw [if_neg (by omega), if_pos (by omega)] | rw [if_neg (by omega), if_neg (by omega), if_pos (by omega)] | rw [if_neg (by omega), if_neg (by omega), if_neg (by omega), if_pos (by omega)] | rw [if_neg (by omega), if_neg (by omega), if_neg (by omega), if_neg (by omega)]), rfl⟩
        ·refine seq_pure (pure_assign rfl) rfl rfl ?_
         refine seq_done ?_
         refine nrm_seq ?_
         refine tri_cond_f rfl ?_
         refine tri_region ?_
         refine seq_bool (pure_eql rfl rfl) rfl rfl (fun h204 => ?_) (fun h204 => ?_)
         ·refine seq_pure (pure_assign rfl) rfl rfl ?_
          refine seq_done ?_
          refine nrm_seq ?_
          refine tri_cond_t rfl ?_
          refine tri_seq ?_
          refine tri_region ?_
          refine seq_pure (pure_assign rfl) rfl rfl ?_
          refine seq_done ?_
          refine nrm_seq ?_
          refine tri_ret ?_
          refine ret_block ?_
          refine ret_seq ?_
          refine ret_fin1 (res_tmp rfl) ?_
          exact ⟨rfl, by (unfold tmOps; first | rw [if_pos (by omega)] | rw [if_neg (by omega), if_pos (by omega)] | rw [if_neg (by omega), if_neg (by omega), if_pos (by omega)] | rw [if_neg (by omega), if_neg (by omega), if_neg (by omega), if_pos (by omega)] | rw [if_neg (by omega), if_neg (by omega), if_neg (by omega), if_neg (by omega)]), rfl⟩
         ·refine seq_pure (pure_assign rfl) rfl rfl ?_
          refine seq_done ?_
          refine nrm_seq ?_
          refine tri_cond_f rfl ?_
          refine tri_seq ?_
          refine tri_seq ?_
          refine tri_region ?_
          refine seq_bool (pure_eql rfl rfl) rfl rfl (fun h226 => ?_) (fun h226 => ?_)
          ·refine seq_pure (pure_assign rfl) rfl rfl ?_
           refine seq_done ?_
           refine nrm_seq ?_
           refine tri_cond_t rfl ?_
           refine tri_skip ?_
           refine nrm_seq ?_
           refine tri_cond_t rfl ?_
           refine tri_seq ?_
           refine tri_region ?_
           refine seq_pure (pure_assign rfl) rfl rfl ?_
           refine seq_done ?_
           refine nrm_seq ?_
           refine tri_ret ?_
           refine ret_block ?_
           refine ret_seq ?_
           refine ret_fin1 (res_tmp rfl) ?_
           exact ⟨rfl, by (unfold tmOps; first | rw [if_pos (by omega)] | rw [if_neg (by omega), if_pos (by omega)] | rw [if_neg (by omega), if_neg (by omega), if_pos (by omega)] | rw [if_neg (by omega), if_neg (by omega), if_neg (by omega), if_pos (by omega)] | rw [if_neg (by omega), if_neg (by omega), if_neg (by omega), if_neg (by omega)]), rfl⟩
          ·refine seq_pure (pure_assign rfl) rfl rfl ?_
           refine seq_done ?_
           refine nrm_seq ?_
           refine tri_cond_f rfl ?_
           refine tri_seq ?_
           refine tri_region ?_
           refine seq_bool (pure_eql rfl rfl) rfl rfl (fun h250 => ?_) (fun h250 => ?_)
           ·refine seq_pure (pure_assign rfl) rfl rfl ?_
            refine seq_done ?_
            refine nrm_seq ?_
            refine tri_cond_t rfl ?_
            refine tri_skip ?_
            refine nrm_seq ?_
            refine tri_cond_t rfl ?_
            refine tri_seq ?_
            refine tri_region ?_
            refine seq_pure (pure_assign rfl) rfl rfl ?_
            refine seq_done ?_
            refine nrm_seq ?_
            refine tri_ret ?_
            refine ret_block ?_
            refine ret_seq ?_
            refine ret_fin1 (res_tmp rfl) ?_
            exact ⟨rfl, by (unfold tmOps; first | rw [if_pos (by omega)] | rw [if_neg (by omega), if_pos (by omega)] | rw [if_neg (by omega), if_neg (by omega), if_pos (by omega)] | rw [if_neg (by omega), if_neg (by omega), if_neg (by omega), if_pos (by omega)] | rw [if_neg (by omega), if_neg (by omega), if_neg (by omega), if_neg (by omega)]), rfl⟩
           ·refine seq_pure (pure_assign rfl) rfl rfl ?_
            refine seq_done ?_
            refine nrm_seq ?_
            refine tri_cond_f rfl ?_
            refine tri_seq ?_
            refine tri_region ?_
            refine seq_bool (pure_eql rfl rfl) rfl rfl (fun h274 => ?_) (fun h274 => ?_)
            ·refine seq_pure (pure_assign rfl) rfl rfl ?_
             refine seq_done ?_
             refine nrm_seq ?_
             refine tri_cond_t rfl ?_
             refine tri_skip ?_
             refine nrm_seq ?_
             refine tri_cond_t rfl ?_
             refine tri_seq ?_
             refine tri_region ?_
             refine seq_pure (pure_assign rfl) rfl rfl ?_
             refine seq_done ?_
             refine nrm_seq ?_
             refine tri_ret ?_
             refine ret_block ?_
             refine ret_seq ?_
             refine ret_fin1 (res_tmp rfl) ?_
             exact ⟨rfl, by (unfold tmOps; first | rw [if_pos (by omega)] | rw [if_neg (by omega), if_pos (by omega)] | rw [if_neg (by omega), if_neg (by omega), if_pos (by omega)] | rw [if_neg (by omega), if_neg (by omega), if_neg (by omega), if_pos (by omega)] | rw [if_neg (by omega), if_neg (by omega), if_neg (by omega), if_neg (by omega)]), rfl⟩
            ·refine seq_pure (pure_assign rfl) rfl rfl ?_
             refine seq_done ?_
             refine nrm_seq ?_
             refine tri_cond_f rfl ?_
             refine tri_region ?_
             refine seq_bool (pure_eql rfl rfl) rfl rfl (fun h297 => ?_) (fun h297 => ?_)
             ·refine seq_pure (pure_assign rfl) rfl rfl ?_
              refine seq_done ?_
              refine nrm_seq ?_
              refine tri_cond_t rfl ?_
              refine tri_seq ?_
              refine tri_region ?_
              refine seq_pure (pure_assign rfl) rfl rfl ?_
              refine seq_done ?_
              refine nrm_seq ?_
              refine tri_ret ?_
              refine ret_block ?_
              refine ret_seq ?_
              refine ret_fin1 (res_tmp rfl) ?_
              exact ⟨rfl, by (unfold tmOps; first | rw [if_pos (by omega)] | rw [if_neg (by omega), if_pos (by omega)] | rw [if_neg (by omega), if_neg (by omega), if_pos (by omega)] | rw [if_neg (by omega), if_neg (by omega), if_neg (by omega), if_pos (by omega)] | rw [if_neg (by omega), if_neg (by omega), if_neg (by omega), if_neg (by omega)]), rfl⟩
             ·refine seq_pure (pure_assign rfl) rfl rfl ?_
              refine seq_done ?_
              refine nrm_seq ?_
              refine tri_cond_f rfl ?_
              refine tri_seq ?_
              refine tri_region ?_
              refine seq_bool (pure_eql rfl rfl) rfl rfl (fun h318 => ?_) (fun h318 => ?_)
              ·refine seq_pure (pure_assign rfl) rfl rfl ?_
               refine seq_done ?_
               refine nrm_seq ?_
               refine tri_cond_t rfl ?_
               refine tri_seq ?_
               refine tri_region ?_
               refine seq_pure (pure_assign rfl) rfl rfl ?_
               refine seq_done ?_
               refine nrm_seq ?_
               refine tri_ret ?_
               refine ret_block ?_
               refine ret_seq ?_
               refine ret_fin1 (res_tmp rfl) ?_
               exact ⟨rfl, by (unfold tmOps; first | rw [if_pos (by omega)] | rw [if_neg (by omega), if_pos (by omega)] | rw [if_neg (by omega), if_neg (by omega), if_pos (by omega)] | rw [if_neg (by omega), if_neg (by omega), if_neg (by omega), if_pos (by omega)] | rw [if_neg (by omega), if_neg (by omega), if_neg (by omega), if_neg (by omega)]), rfl⟩
              ·refine seq_pure (pure_assign rfl) rfl rfl ?_
               refine seq_done ?_
               refine nrm_seq ?_
               refine tri_cond_f rfl ?_
               refine tri_skip ?_
               refine nrm_block ?_
               refine nrm_seq ?_
               refine tri_seq ?_
               refine tri_region ?_
               refine seq_pure (pure_assign rfl) rfl rfl ?_
               refine seq_done ?_
               refine nrm_seq ?_
               refine tri_ret ?_
               refine ret_fin1 (res_tmp rfl) ?_
               exact ⟨rfl, by (unfold tmOps; first | rw [if_pos (by omega)] | rw [if_neg (by omega), if_pos (by omega)] | rw [if_neg (by omega), if_neg (by omega), if_pos (by omega)] | rw [if_neg (by omega), if_neg (by omega), if_neg (by omega), if_pos (by omega)] | rw [if_neg (by omega), if_neg (by omega), if_neg (by omega), if_neg (by omega)]), rfl⟩
set_option maxRecDepth 100000 in
theorem l2Name_fn (s : ByteArray) (G : IM) : Fn Try.prog 82 [.string s] [] G (Val (.bool (nameOk s)) G) := by
 refine fn_enter Try.func82 rfl Try.ntmps82 Try.results82 rfl ?_
 intro w0
 refine tri_seq ?_
 refine tri_region ?_
 refine seq_pure (pure_assign rfl) rfl rfl ?_
 refine seq_done ?_
 refine nrm_seq ?_
 refine tri_seq ?_
 refine tri_region ?_
 refine seq_pure (pure_move rfl) rfl rfl ?_
 refine seq_pure (pure_len_str rfl rfl) rfl rfl ?_
 refine seq_bool (pure_eql rfl rfl) rfl rfl (fun h10 => ?_) (fun h10 => ?_)
 ·refine seq_pure (pure_move rfl) rfl rfl ?_
  refine seq_pure (pure_move rfl) rfl rfl ?_
  refine seq_pure (pure_sindex rfl rfl rfl (by omega) (ba_get (by omega))) rfl rfl ?_
  refine seq_bool (pure_geq rfl rfl) rfl rfl (fun h14 => ?_) (fun h14 => ?_)
  ·refine seq_pure (pure_pick_t rfl rfl) rfl rfl ?_
   refine seq_pure (pure_move rfl) rfl rfl ?_
   refine seq_pure (pure_move rfl) rfl rfl ?_
   refine seq_pure (pure_sindex rfl rfl rfl (by omega) (ba_get (by omega))) rfl rfl ?_
   refine seq_bool (pure_leq rfl rfl) rfl rfl (fun h19 => ?_) (fun h19 => ?_)
   ·refine seq_pure (pure_pick_t rfl rfl) rfl rfl ?_
    refine seq_pure (pure_assign rfl) rfl rfl ?_
    refine seq_done ?_
    refine nrm_seq ?_
    refine tri_ret ?_
    refine ret_fin1 (res_tmp rfl) ?_
    exact ⟨rfl, by simp only [nameOk]; (try simp only [Int.toNat_zero] at *); (first | rw [decide_eq_true (by omega)] | rw [decide_eq_false (by omega)]), rfl⟩
   ·refine seq_pure (pure_pick_t rfl rfl) rfl rfl ?_
    refine seq_pure (pure_assign rfl) rfl rfl ?_
    refine seq_done ?_
    refine nrm_seq ?_
    refine tri_ret ?_
    refine ret_fin1 (res_tmp rfl) ?_
    exact ⟨rfl, by simp only [nameOk]; (try simp only [Int.toNat_zero] at *); (first | rw [decide_eq_true (by omega)] | rw [decide_eq_false (by omega)]), rfl⟩
  ·refine seq_pure (pure_pick_t rfl rfl) rfl rfl ?_
   refine seq_pure (pure_move rfl) rfl rfl ?_
   refine seq_skip rfl rfl ?_
   refine seq_skip rfl rfl ?_
   refine seq_skip rfl rfl ?_
   refine seq_pure (pure_pick_f rfl rfl) rfl rfl ?_
   refine seq_pure (pure_assign rfl) rfl rfl ?_
   refine seq_done ?_
   refine nrm_seq ?_
   refine tri_ret ?_
   refine ret_fin1 (res_tmp rfl) ?_
   exact ⟨rfl, by simp only [nameOk]; (try simp only [Int.toNat_zero] at *); (first | rw [decide_eq_true (by omega)] | rw [decide_eq_false (by omega)]), rfl⟩
 ·refine seq_pure (pure_move rfl) rfl rfl ?_
  refine seq_skip rfl rfl ?_
  refine seq_skip rfl rfl ?_
  refine seq_skip rfl rfl ?_
  refine seq_pure (pure_pick_f rfl rfl) rfl rfl ?_
  refine seq_pure (pure_move rfl) rfl rfl ?_
  refine seq_skip rfl rfl ?_
  refine seq_skip rfl rfl ?_
  refine seq_skip rfl rfl ?_
  refine seq_pure (pure_pick_f rfl rfl) rfl rfl ?_
  refine seq_pure (pure_assign rfl) rfl rfl ?_
  refine seq_done ?_
  refine nrm_seq ?_
  refine tri_ret ?_
  refine ret_fin1 (res_tmp rfl) ?_
  exact ⟨rfl, by simp only [nameOk]; (try simp only [Int.toNat_zero] at *); (first | rw [decide_eq_true (by omega)] | rw [decide_eq_false (by omega)]), rfl⟩
set_option maxRecDepth 100000 in
theorem l2None_fn (t : Ty) (G : IM) (cells : List Value) (hr : RTy G t cells) : Fn Try.prog 83 [.agg ⟨cells⟩] [] G (Val (.bool (tNone t)) G) := by
 obtain ⟨p, c, es, rfl, hk, hsl, hkl⟩ := hr.open
 refine fn_enter Try.func83 rfl Try.ntmps83 Try.results83 rfl ?_
 intro w0
 refine tri_seq ?_
 refine tri_region ?_
 (refine seq_step (step_box_a rfl rfl) rfl ?_; rintro _ ⟨b3, rfl⟩)
 refine seq_pure (pure_assign rfl) rfl rfl ?_
 refine seq_done ?_
 refine nrm_seq ?_
 refine tri_seq ?_
 refine tri_region ?_
 refine seq_pure (pure_fieldAddr0 rfl) rfl rfl ?_
 refine seq_load (load_bs rfl rfl (by repeat (first | exact List.Mem.head _ | apply List.Mem.tail)) (by rfl)) rfl rfl ?_
 refine seq_bool (pure_eql rfl rfl) rfl rfl (fun h11 => ?_) (fun h11 => ?_)
 ·refine seq_pure (pure_move rfl) rfl rfl ?_
  refine seq_pure (pure_fieldAddr0 rfl) rfl rfl ?_
  refine seq_load (load_bs rfl rfl (by repeat (first | exact List.Mem.head _ | apply List.Mem.tail)) (by rfl)) rfl rfl ?_
  refine seq_pure (pure_len rfl rfl) rfl rfl ?_
  refine seq_bool (pure_eql rfl rfl) rfl rfl (fun h16 => ?_) (fun h16 => ?_)
  ·refine seq_pure (pure_pick_t rfl rfl) rfl rfl ?_
   refine seq_pure (pure_assign rfl) rfl rfl ?_
   refine seq_done ?_
   refine nrm_seq ?_
   refine tri_ret ?_
   refine ret_fin1 (res_tmp rfl) ?_
   exact ⟨rfl, by simp only [tNone]; (first | rw [decide_eq_true (by omega)] | rw [decide_eq_false (by omega)]), rfl⟩
  ·refine seq_pure (pure_pick_t rfl rfl) rfl rfl ?_
   refine seq_pure (pure_assign rfl) rfl rfl ?_
   refine seq_done ?_
   refine nrm_seq ?_
   refine tri_ret ?_
   refine ret_fin1 (res_tmp rfl) ?_
   exact ⟨rfl, by simp only [tNone]; (first | rw [decide_eq_true (by omega)] | rw [decide_eq_false (by omega)]), rfl⟩
 ·refine seq_pure (pure_move rfl) rfl rfl ?_
  refine seq_skip rfl rfl ?_
  refine seq_skip rfl rfl ?_
  refine seq_skip rfl rfl ?_
  refine seq_skip rfl rfl ?_
  refine seq_pure (pure_pick_f rfl rfl) rfl rfl ?_
  refine seq_pure (pure_assign rfl) rfl rfl ?_
  refine seq_done ?_
  refine nrm_seq ?_
  refine tri_ret ?_
  refine ret_fin1 (res_tmp rfl) ?_
  exact ⟨rfl, by simp only [tNone]; (first | rw [decide_eq_true (by omega)] | rw [decide_eq_false (by omega)]), rfl⟩
/-- The absolute value of a label, 0 for what is no label's size. -/
def absLb (n : Int) : Int := if n < -99 ∨ n > 99 then 0 else if n < 0 then -n else n
set_option maxRecDepth 100000 in
theorem l1Abs_fn (n : Int) (G : IM) : Fn Try.prog 80 [.int .i64 n] [] G (Val (.int .i64 (absLb n)) G) := by
 refine fn_enter Try.func80 rfl Try.ntmps80 Try.results80 rfl ?_
 intro w0
 refine tri_seq ?_
 refine tri_region ?_
 refine seq_pure (pure_assign rfl) rfl rfl ?_
 refine seq_done ?_
 refine nrm_seq ?_
 refine tri_seq ?_
 refine tri_seq ?_
 refine tri_region ?_
 refine seq_pure (pure_move rfl) rfl rfl ?_
 refine seq_bool (pure_lss rfl rfl) rfl rfl (fun h10 => ?_) (fun h10 => ?_)
 ·refine seq_pure (pure_move rfl) rfl rfl ?_
  refine seq_skip rfl rfl ?_
  refine seq_skip rfl rfl ?_
  refine seq_pure (pure_pick_t rfl rfl) rfl rfl ?_
  refine seq_done ?_
  refine nrm_seq ?_
  refine tri_cond_t rfl ?_
  refine tri_seq ?_
  refine tri_region ?_
  refine seq_pure (pure_assign rfl) rfl rfl ?_
  refine seq_done ?_
  refine nrm_seq ?_
  refine tri_ret ?_
  refine ret_seq ?_
  refine ret_fin1 (res_tmp rfl) ?_
  exact ⟨rfl, by (unfold absLb; first | rw [if_pos (by omega)] | rw [if_neg (by omega), if_pos (by omega)] | rw [if_neg (by omega), if_neg (by omega)]), rfl⟩
 ·refine seq_pure (pure_move rfl) rfl rfl ?_
  refine seq_pure (pure_move rfl) rfl rfl ?_
  refine seq_bool (pure_gtr rfl rfl) rfl rfl (fun h29 => ?_) (fun h29 => ?_)
  ·refine seq_pure (pure_pick_f rfl rfl) rfl rfl ?_
   refine seq_done ?_
   refine nrm_seq ?_
   refine tri_cond_t rfl ?_
   refine tri_seq ?_
   refine tri_region ?_
   refine seq_pure (pure_assign rfl) rfl rfl ?_
   refine seq_done ?_
   refine nrm_seq ?_
   refine tri_ret ?_
   refine ret_seq ?_
   refine ret_fin1 (res_tmp rfl) ?_
   exact ⟨rfl, by (unfold absLb; first | rw [if_pos (by omega)] | rw [if_neg (by omega), if_pos (by omega)] | rw [if_neg (by omega), if_neg (by omega)]), rfl⟩
  ·refine seq_pure (pure_pick_f rfl rfl) rfl rfl ?_
   refine seq_done ?_
   refine nrm_seq ?_
   refine tri_cond_f rfl ?_
   refine tri_skip ?_
   refine nrm_seq ?_
   refine tri_seq ?_
   refine tri_seq ?_
   refine tri_region ?_
   refine seq_pure (pure_move rfl) rfl rfl ?_
   refine seq_bool (pure_lss rfl rfl) rfl rfl (fun h53 => ?_) (fun h53 => ?_)
   ·refine seq_done ?_
    refine nrm_seq ?_
    refine tri_cond_t rfl ?_
    refine tri_seq ?_
    refine tri_region ?_
    refine seq_pure (pure_move rfl) rfl rfl ?_
    refine seq_pure (pure_neg rfl (by omega) (by omega)) rfl rfl ?_
    refine seq_pure (pure_assign rfl) rfl rfl ?_
    refine seq_done ?_
    refine nrm_seq ?_
    refine tri_ret ?_
    refine ret_seq ?_
    refine ret_fin1 (res_tmp rfl) ?_
    exact ⟨rfl, by (unfold absLb; first | rw [if_pos (by omega)] | rw [if_neg (by omega), if_pos (by omega)] | rw [if_neg (by omega), if_neg (by omega)]), rfl⟩
   ·refine seq_done ?_
    refine nrm_seq ?_
    refine tri_cond_f rfl ?_
    refine tri_skip ?_
    refine nrm_seq ?_
    refine tri_seq ?_
    refine tri_region ?_
    refine seq_pure (pure_move rfl) rfl rfl ?_
    refine seq_pure (pure_assign rfl) rfl rfl ?_
    refine seq_done ?_
    refine nrm_seq ?_
    refine tri_ret ?_
    refine ret_fin1 (res_tmp rfl) ?_
    exact ⟨rfl, by (unfold absLb; first | rw [if_pos (by omega)] | rw [if_neg (by omega), if_pos (by omega)] | rw [if_neg (by omega), if_neg (by omega)]), rfl⟩
end Gw
end Go.Proofs.Yteneckdjdfnjoaa
namespace Go.Proofs.Yteneckdjdfnjoaa
open Go Go.RowKit
namespace Gw
theorem tScan_no {k : Int} {ks : List Ty} {d : Int} (h : 4 < d ∨ tyOps k ≠ ks.length) : tScan (.mk k ks) d = false := by
 rw [tScan]
 rcases h with h | h
 ·rw [decide_eq_false (by omega)]; rfl
 ·rw [decide_eq_false (p := tyOps k = ks.length) h, Bool.and_false]; rfl
theorem tScan_go {k : Int} {ks : List Ty} {d : Int} (h : d ≤ 4) (h2 : tyOps k = ks.length) : tScan (.mk k ks) d = tScanL ks (d + 1) := by
 rw [tScan, decide_eq_true h, decide_eq_true h2]; rfl
theorem tScanL_f {ks : List Ty} {d : Int} {i : Nat} (hi : i < ks.length) (h : tScan ks[i] d = false) : tScanL ks d = false := by
 cases hx : tScanL ks d with
 | false => rfl
 | true => rw [(tScanL_iff ks d).1 hx i hi] at h; cases h
set_option maxRecDepth 100000 in
theorem l1Shape_fn : ∀ (t : Ty) (d : Int) (G : IM) (cells : List Value), 0 ≤ d ∧ d ≤ 4 → RTy G t cells →
  Fn Try.prog 98 [.agg ⟨cells⟩, .int .i64 d] [] G (Val (.bool (tScan t (5 - d))) G) := by
 refine Ty.ind fun k ks ih d G cells hd hr => ?_
 obtain ⟨p, c, es, rfl, hk, hsl, hkl⟩ := hr.open
 simp only [Ty.k, Ty.ks] at hk hsl hkl ⊢
 have hn := hsl.le
 have hk1 := l1Kids_fn k G
 refine fn_enter Try.func98 rfl Try.ntmps98 Try.results98 rfl ?_
 intro w0
 refine tri_seq ?_
 refine tri_region ?_
 (refine seq_step (step_box_a rfl rfl) rfl ?_; rintro _ ⟨b3, rfl⟩)
 refine seq_pure (pure_assign rfl) rfl rfl ?_
 refine seq_done ?_
 refine nrm_seq ?_
 refine tri_seq ?_
 refine tri_seq ?_
 refine tri_draw mixed rfl ?_
 refine any_pure (i := 0) (listed' := [tt,ff,ff,ff,ff,ff,ff,ff,ff,ff,ff]) rfl (by repeat (first | exact np_ret | apply np_seq | apply np_block | apply np_loopN')) (pure_move rfl) rfl (by kernel_rfl) rfl rfl ?_
 refine any_bool (i := 1) (listed' := [tt,tt,ff,ff,ff,ff,ff,ff,ff,ff,ff]) rfl (by repeat (first | exact np_ret | apply np_seq | apply np_block | apply np_loopN')) (pure_lss rfl rfl) rfl (by kernel_rfl) rfl rfl (fun h11 => ?_) (fun h11 => ?_)
 ·refine any_pure (i := 2) (listed' := [tt,tt,tt,ff,ff,ff,ff,ff,ff,ff,ff]) rfl (by repeat (first | exact np_ret | apply np_seq | apply np_block | apply np_loopN')) (pure_move rfl) rfl (by kernel_rfl) rfl rfl ?_
  refine any_skip (i := 3) (listed' := [tt,tt,tt,tt,ff,ff,ff,ff,ff,ff,ff]) rfl (by repeat (first | exact np_ret | apply np_seq | apply np_block | apply np_loopN')) rfl (by kernel_rfl) rfl rfl ?_
  refine any_skip (i := 4) (listed' := [tt,tt,tt,tt,tt,ff,ff,ff,ff,ff,ff]) rfl (by repeat (first | exact np_ret | apply np_seq | apply np_block | apply np_loopN')) rfl (by kernel_rfl) rfl rfl ?_
  refine any_skip (i := 6) (listed' := [tt,tt,tt,tt,tt,ff,tt,ff,ff,ff,ff]) rfl (by repeat (first | exact np_ret | apply np_seq | apply np_block | apply np_loopN')) rfl (by kernel_rfl) rfl rfl ?_
  refine any_skip (i := 7) (listed' := [tt,tt,tt,tt,tt,ff,tt,tt,ff,ff,ff]) rfl (by repeat (first | exact np_ret | apply np_seq | apply np_block | apply np_loopN')) rfl (by kernel_rfl) rfl rfl ?_
  refine any_skip (i := 8) (listed' := [tt,tt,tt,tt,tt,ff,tt,tt,tt,ff,ff]) rfl (by repeat (first | exact np_ret | apply np_seq | apply np_block | apply np_loopN')) rfl (by kernel_rfl) rfl rfl ?_
  refine any_skip (i := 5) (listed' := [tt,tt,tt,tt,tt,tt,tt,tt,tt,ff,ff]) rfl (by repeat (first | exact np_ret | apply np_seq | apply np_block | apply np_loopN')) rfl (by kernel_rfl) rfl rfl ?_
  refine any_skip (i := 9) (listed' := [tt,tt,tt,tt,tt,tt,tt,tt,tt,tt,ff]) rfl (by repeat (first | exact np_ret | apply np_seq | apply np_block | apply np_loopN')) rfl (by kernel_rfl) rfl rfl ?_
  refine any_pure (i := 10) (listed' := [tt,tt,tt,tt,tt,tt,tt,tt,tt,tt,tt]) rfl (by repeat (first | exact np_ret | apply np_seq | apply np_block | apply np_loopN')) (pure_pick_t rfl rfl) rfl (by kernel_rfl) rfl rfl ?_
  refine any_done (by kernel_rfl) ?_
  refine nrm_seq ?_
  refine tri_cond_t rfl ?_
  refine tri_seq ?_
  refine tri_region ?_
  refine seq_pure (pure_assign rfl) rfl rfl ?_
  refine seq_done ?_
  refine nrm_seq ?_
  refine tri_ret ?_
  refine ret_seq ?_
  refine ret_fin1 (res_tmp rfl) ?_
  (rw [tScan_no (by omega)]; exact ⟨rfl, rfl, rfl⟩)
 ·refine any_pure (i := 2) (listed' := [tt,tt,tt,ff,ff,ff,ff,ff,ff,ff,ff]) rfl (by repeat (first | exact np_ret | apply np_seq | apply np_block | apply np_loopN')) (pure_move rfl) rfl (by kernel_rfl) rfl rfl ?_
  refine any_pure (i := 3) (listed' := [tt,tt,tt,tt,ff,ff,ff,ff,ff,ff,ff]) rfl (by repeat (first | exact np_ret | apply np_seq | apply np_block | apply np_loopN')) (pure_fieldAddr0 rfl) rfl (by kernel_rfl) rfl rfl ?_
  refine any_load (i := 4) (listed' := [tt,tt,tt,tt,tt,ff,ff,ff,ff,ff,ff]) rfl (by repeat (first | exact np_ret | apply np_seq | apply np_block | apply np_loopN')) (load_bs rfl rfl (by repeat (first | exact List.Mem.head _ | apply List.Mem.tail)) (by rfl)) rfl (by kernel_rfl) rfl rfl ?_
  refine any_pure (i := 6) (listed' := [tt,tt,tt,tt,tt,ff,tt,ff,ff,ff,ff]) rfl (by repeat (first | exact np_ret | apply np_seq | apply np_block | apply np_loopN')) (pure_fieldAddr0 rfl) rfl (by kernel_rfl) rfl rfl ?_
  refine any_load (i := 7) (listed' := [tt,tt,tt,tt,tt,ff,tt,tt,ff,ff,ff]) rfl (by repeat (first | exact np_ret | apply np_seq | apply np_block | apply np_loopN')) (load_bs rfl rfl (by repeat (first | exact List.Mem.head _ | apply List.Mem.tail)) (by rfl)) rfl (by kernel_rfl) rfl rfl ?_
  refine any_pure (i := 8) (listed' := [tt,tt,tt,tt,tt,ff,tt,tt,tt,ff,ff]) rfl (by repeat (first | exact np_ret | apply np_seq | apply np_block | apply np_loopN')) (pure_len rfl rfl) rfl (by kernel_rfl) rfl rfl ?_
  refine any_one (j := 5) (by kernel_rfl) ?_
  refine one_val (listed' := [tt,tt,tt,tt,tt,tt,tt,tt,tt,ff,ff]) rfl rfl (hk1) rfl rfl rfl ?_
  refine any_bool (i := 9) (listed' := [tt,tt,tt,tt,tt,tt,tt,tt,tt,tt,ff]) rfl (by repeat (first | exact np_ret | apply np_seq | apply np_block | apply np_loopN')) (pure_neq rfl rfl) rfl (by kernel_rfl) rfl rfl (fun h41 => ?_) (fun h41 => ?_)
  ·refine any_pure (i := 10) (listed' := [tt,tt,tt,tt,tt,tt,tt,tt,tt,tt,tt]) rfl (by repeat (first | exact np_ret | apply np_seq | apply np_block | apply np_loopN')) (pure_pick_f rfl rfl) rfl (by kernel_rfl) rfl rfl ?_
   refine any_done (by kernel_rfl) ?_
   refine nrm_seq ?_
   refine tri_cond_t rfl ?_
   refine tri_seq ?_
   refine tri_region ?_
   refine seq_pure (pure_assign rfl) rfl rfl ?_
   refine seq_done ?_
   refine nrm_seq ?_
   refine tri_ret ?_
   refine ret_seq ?_
   refine ret_fin1 (res_tmp rfl) ?_
   (rw [tScan_no (by omega)]; exact ⟨rfl, rfl, rfl⟩)
  ·refine any_pure (i := 10) (listed' := [tt,tt,tt,tt,tt,tt,tt,tt,tt,tt,tt]) rfl (by repeat (first | exact np_ret | apply np_seq | apply np_block | apply np_loopN')) (pure_pick_f rfl rfl) rfl (by kernel_rfl) rfl rfl ?_
   refine any_done (by kernel_rfl) ?_
   refine nrm_seq ?_
   refine tri_cond_f rfl ?_
   refine tri_skip ?_
   refine nrm_seq ?_
   refine tri_seq ?_
   refine tri_seq ?_
   refine tri_region ?_
   refine seq_pure (pure_assign rfl) rfl rfl ?_
   refine seq_done ?_
   refine nrm_seq ?_
   refine tri_block ?_
   (refine tri_loopN (fun (i : Nat) => ⟨[(5, .int .i64 i), (2, .pointer (some ⟨b3, 0, none⟩)), (1, .int .i64 d)], [.blk b3 [.int .i64 k, .slice p ks.length c]], G⟩) (fun i => i ≤ ks.length ∧ ∀ j (h : j < ks.length), j < i → tScan ks[j] (5 - d + 1) = true) (fun i => ks.length - i) 0 ?_ ?_ ?_)
   ·exact sub_mk (by repeat (first | exact SubE.nil | refine SubE.cons rfl ?_)) (by repeat (first | exact SubH.refl | exact SubH.nil | refine SubH.cons (by repeat (first | exact Pk.here | apply Pk.there)) ?_ | apply SubH.drop))
   ·exact ⟨by omega, by omega⟩
   ·(rintro i ⟨hi, hf⟩)
    refine tri_seq ?_
    refine tri_seq ?_
    refine tri_region ?_
    refine seq_pure (pure_move rfl) rfl rfl ?_
    refine seq_pure (pure_fieldAddr0 rfl) rfl rfl ?_
    refine seq_load (load_bs rfl rfl (by repeat (first | exact List.Mem.head _ | apply List.Mem.tail)) (by rfl)) rfl rfl ?_
    refine seq_pure (pure_len rfl rfl) rfl rfl ?_
    refine seq_bool (pure_lss rfl rfl) rfl rfl (fun h79 => ?_) (fun h79 => ?_)
    ·refine seq_done ?_
     refine nrm_seq ?_
     refine tri_cond_t rfl ?_
     refine tri_skip ?_
     refine nrm_seq ?_
     refine tri_seq ?_
     refine tri_block ?_
     refine tri_seq ?_
     refine tri_region ?_
     refine seq_pure (pure_fieldAddr0 rfl) rfl rfl ?_
     refine seq_load (load_bs rfl rfl (by repeat (first | exact List.Mem.head _ | apply List.Mem.tail)) (by rfl)) rfl rfl ?_
     refine seq_pure (pure_move rfl) rfl rfl ?_
     (obtain ⟨b, o, p2, c2, rfl, hat, hre, hgb⟩ := hsl.kidTy hkl (i := i) (by omega) (by omega); refine seq_pure (pure_indexAddrN rfl rfl rfl (by omega)) rfl rfl ?_)
     refine seq_load (load_a rfl rfl (hat _) rfl) rfl rfl ?_
     refine seq_pure (pure_move rfl) rfl rfl ?_
     refine seq_pure (pure_sub rfl rfl (by omega) (by omega)) rfl rfl ?_
     (have hih := ih ks[i] (List.getElem_mem (by omega)) (d - 1) G _ (by omega) hre; rw [show 5 - (d - 1) = 5 - d + 1 by omega] at hih; refine seq_valb rfl hih rfl rfl (fun h96 => ?_) (fun h96 => ?_))
     ·refine seq_pure (pure_not_t rfl) rfl rfl ?_
      refine seq_done ?_
      refine nrm_seq ?_
      refine tri_cond_f rfl ?_
      refine tri_skip ?_
      refine nrm_block ?_
      refine nrm_seq ?_
      refine tri_region ?_
      refine seq_pure (pure_move rfl) rfl rfl ?_
      refine seq_pure (pure_add rfl rfl (by omega) (by omega)) rfl rfl ?_
      refine seq_pure (pure_assign rfl) rfl rfl ?_
      refine seq_done ?_
      refine nrm_loopN (i + 1) ?_ ?_ ?_
      ·exact sub_mk (by repeat (first | exact SubE.nil | refine SubE.cons rfl ?_)) (by repeat (first | exact SubH.refl | exact SubH.nil | refine SubH.cons (by repeat (first | exact Pk.here | apply Pk.there)) ?_ | apply SubH.drop))
      ·exact ⟨by omega, fun j hj hji => by (by_cases he : j = i; (subst he; assumption); exact hf j hj (by omega))⟩
      ·omega
     ·refine seq_pure (pure_not_f rfl) rfl rfl ?_
      refine seq_done ?_
      refine nrm_seq ?_
      refine tri_cond_t rfl ?_
      refine tri_seq ?_
      refine tri_region ?_
      refine seq_pure (pure_assign rfl) rfl rfl ?_
      refine seq_done ?_
      refine nrm_seq ?_
      refine tri_ret ?_
      refine ret_block ?_
      refine ret_seq ?_
      refine ret_loopN ?_
      refine ret_block ?_
      refine ret_seq ?_
      refine ret_fin1 (res_tmp rfl) ?_
      (rw [tScan_go (by omega) (by omega), tScanL_f (i := i) (by omega) (by assumption)]; exact ⟨rfl, rfl, rfl⟩)
    ·refine seq_done ?_
     refine nrm_seq ?_
     refine tri_cond_f rfl ?_
     refine tri_exit ?_
     refine ext_seq ?_
     refine ext_loopN ?_
     refine ext_block_eq ?_
     refine nrm_seq ?_
     refine tri_seq ?_
     refine tri_region ?_
     refine seq_pure (pure_assign rfl) rfl rfl ?_
     refine seq_done ?_
     refine nrm_seq ?_
     refine tri_ret ?_
     refine ret_fin1 (res_tmp rfl) ?_
     (rw [tScan_go (by omega) (by omega), (tScanL_iff ks _).2 (fun j hj => hf j hj (by omega))]; exact ⟨rfl, rfl, rfl⟩)
set_option maxRecDepth 100000 in
theorem sTypeValid_fn (t : Ty) (G : IM) (cells : List Value) (hr : RTy G t cells) : Fn Try.prog 81 [.agg ⟨cells⟩] [] G (Val (.bool (tValid t)) G) := by
 have hl := hr.len
 have hv := l1Shape_fn t 4 G cells (by omega) hr
 refine fn_enter Try.func81 rfl Try.ntmps81 Try.results81 rfl ?_
 intro w0
 refine tri_seq ?_
 refine tri_region ?_
 (refine seq_step (step_box_a rfl rfl) rfl ?_; rintro _ ⟨b3, rfl⟩)
 refine seq_pure (pure_assign rfl) rfl rfl ?_
 refine seq_done ?_
 refine nrm_seq ?_
 refine tri_seq ?_
 refine tri_region ?_
 refine seq_load (load_a rfl rfl (at_blk_all (by repeat (first | exact List.Mem.head _ | apply List.Mem.tail))) (by assumption)) rfl rfl ?_
 refine seq_val rfl (hv) rfl rfl ?_
 refine seq_pure (pure_assign rfl) rfl rfl ?_
 refine seq_done ?_
 refine nrm_seq ?_
 refine tri_ret ?_
 refine ret_fin1 (res_tmp rfl) ?_
 exact ⟨rfl, rfl, rfl⟩
end Gw
end Go.Proofs.Yteneckdjdfnjoaa
namespace Go.Proofs.Yteneckdjdfnjoaa
open Go Go.RowKit
namespace Gw
theorem tScan_inv {k : Int} {ks : List Ty} {d : Int} (h : tScan (.mk k ks) d = true) : tyOps k = ks.length ∧ ∀ i, (hi : i < ks.length) → tScan ks[i] (d + 1) = true := by
 rw [tScan] at h
 simp only [Bool.and_eq_true, decide_eq_true_eq] at h
 exact ⟨h.1.2, (tScanL_iff ks _).1 h.2⟩
theorem tCons_any {k k' : Int} {ks ks' : List Ty} (h : k = 1 ∨ k' = 1) : tCons (.mk k ks) (.mk k' ks') = true := by
 rw [tCons_mk]
 rcases h with h | h
 ·rw [decide_eq_true (p := k = 1) h]; rfl
 ·rw [decide_eq_true (p := k' = 1) h]; simp
theorem tCons_ne {k k' : Int} {ks ks' : List Ty} (h : k ≠ 1) (h' : k' ≠ 1) (hk : k ≠ k') : tCons (.mk k ks) (.mk k' ks') = false := by
 rw [tCons_mk, decide_eq_false h, decide_eq_false h', decide_eq_false hk]; rfl
theorem tCons_eq {k k' : Int} {ks ks' : List Ty} (h : k ≠ 1) (h' : k' ≠ 1) (hk : k = k') : tCons (.mk k ks) (.mk k' ks') = tConsL ks ks' := by
 rw [tCons_mk, decide_eq_false h, decide_eq_false h', decide_eq_true hk]; rfl
theorem tConsL_f {ks ks' : List Ty} {i : Nat} (hi : i < ks.length) (hi' : i < ks'.length) (h : tCons ks[i] ks'[i] = false) : tConsL ks ks' = false := by
 cases hx : tConsL ks ks' with
 | false => rfl
 | true => rw [((tConsL_iff ks ks').1 hx).2 i hi hi'] at h; cases h
set_option maxRecDepth 100000 in
theorem l1Consistent_fn : ∀ (t t' : Ty) (G : IM) (cells cells' : List Value) (d d' : Int), tScan t d = true → tScan t' d' = true → RTy G t cells → RTy G t' cells' →
  Fn Try.prog 55 [.agg ⟨cells⟩, .agg ⟨cells'⟩] [] G (Val (.bool (tCons t t')) G) := by
 refine Ty.ind fun k ks ih t' G cells cells' d d' hv hv' hr hr' => ?_
 obtain ⟨k', ks'⟩ := t'
 obtain ⟨p, c, es, rfl, hk, hsl, hkl⟩ := hr.open
 obtain ⟨p', c', es', rfl, hk', hsl', hkl'⟩ := hr'.open
 simp only [Ty.k, Ty.ks] at hk hsl hkl hk' hsl' hkl' ⊢
 have hn := hsl.le
 have hn' := hsl'.le
 obtain ⟨hv1, hv2⟩ := tScan_inv hv
 obtain ⟨hv1', hv2'⟩ := tScan_inv hv'
 have hle : k = k' → ks.length = ks'.length := by rintro rfl; omega
 refine fn_enter Try.func55 rfl Try.ntmps55 Try.results55 rfl ?_
 intro w0
 refine tri_seq ?_
 refine tri_region ?_
 (refine seq_step (step_box_a rfl rfl) rfl ?_; rintro _ ⟨b3, rfl⟩)
 (refine seq_step (step_box_a rfl rfl) rfl ?_; rintro _ ⟨b4, rfl⟩)
 refine seq_pure (pure_assign rfl) rfl rfl ?_
 refine seq_done ?_
 refine nrm_seq ?_
 refine tri_seq ?_
 refine tri_seq ?_
 refine tri_region ?_
 refine seq_pure (pure_fieldAddr0 rfl) rfl rfl ?_
 refine seq_load (load_bs rfl rfl (by repeat (first | exact List.Mem.head _ | apply List.Mem.tail)) (by rfl)) rfl rfl ?_
 refine seq_bool (pure_eql rfl rfl) rfl rfl (fun h13 => ?_) (fun h13 => ?_)
 ·refine seq_pure (pure_move rfl) rfl rfl ?_
  refine seq_skip rfl rfl ?_
  refine seq_skip rfl rfl ?_
  refine seq_skip rfl rfl ?_
  refine seq_pure (pure_pick_t rfl rfl) rfl rfl ?_
  refine seq_done ?_
  refine nrm_seq ?_
  refine tri_cond_t rfl ?_
  refine tri_seq ?_
  refine tri_region ?_
  refine seq_pure (pure_assign rfl) rfl rfl ?_
  refine seq_done ?_
  refine nrm_seq ?_
  refine tri_ret ?_
  refine ret_seq ?_
  refine ret_fin1 (res_tmp rfl) ?_
  (rw [tCons_any (by omega)]; exact ⟨rfl, rfl, rfl⟩)
 ·refine seq_pure (pure_move rfl) rfl rfl ?_
  refine seq_pure (pure_fieldAddr0 rfl) rfl rfl ?_
  refine seq_load (load_bs rfl rfl (by repeat (first | exact List.Mem.head _ | apply List.Mem.tail)) (by rfl)) rfl rfl ?_
  refine seq_bool (pure_eql rfl rfl) rfl rfl (fun h34 => ?_) (fun h34 => ?_)
  ·refine seq_pure (pure_pick_f rfl rfl) rfl rfl ?_
   refine seq_done ?_
   refine nrm_seq ?_
   refine tri_cond_t rfl ?_
   refine tri_seq ?_
   refine tri_region ?_
   refine seq_pure (pure_assign rfl) rfl rfl ?_
   refine seq_done ?_
   refine nrm_seq ?_
   refine tri_ret ?_
   refine ret_seq ?_
   refine ret_fin1 (res_tmp rfl) ?_
   (rw [tCons_any (by omega)]; exact ⟨rfl, rfl, rfl⟩)
  ·refine seq_pure (pure_pick_f rfl rfl) rfl rfl ?_
   refine seq_done ?_
   refine nrm_seq ?_
   refine tri_cond_f rfl ?_
   refine tri_skip ?_
   refine nrm_seq ?_
   refine tri_seq ?_
   refine tri_seq ?_
   refine tri_region ?_
   refine seq_pure (pure_fieldAddr0 rfl) rfl rfl ?_
   refine seq_load (load_bs rfl rfl (by repeat (first | exact List.Mem.head _ | apply List.Mem.tail)) (by rfl)) rfl rfl ?_
   refine seq_pure (pure_fieldAddr0 rfl) rfl rfl ?_
   refine seq_load (load_bs rfl rfl (by repeat (first | exact List.Mem.head _ | apply List.Mem.tail)) (by rfl)) rfl rfl ?_
   refine seq_bool (pure_neq rfl rfl) rfl rfl (fun h61 => ?_) (fun h61 => ?_)
   ·refine seq_done ?_
    refine nrm_seq ?_
    refine tri_cond_t rfl ?_
    refine tri_seq ?_
    refine tri_region ?_
    refine seq_pure (pure_assign rfl) rfl rfl ?_
    refine seq_done ?_
    refine nrm_seq ?_
    refine tri_ret ?_
    refine ret_seq ?_
    refine ret_fin1 (res_tmp rfl) ?_
    (rw [tCons_ne (by omega) (by omega) (by omega)]; exact ⟨rfl, rfl, rfl⟩)
   ·refine seq_done ?_
    refine nrm_seq ?_
    refine tri_cond_f rfl ?_
    refine tri_skip ?_
    refine nrm_seq ?_
    refine tri_seq ?_
    refine tri_seq ?_
    refine tri_region ?_
    refine seq_pure (pure_assign rfl) rfl rfl ?_
    refine seq_done ?_
    refine nrm_seq ?_
    refine tri_block ?_
    (have hll : ks.length = ks'.length := hle (by omega); refine tri_loopN (fun (i : Nat) => ⟨[(5, .int .i64 i), (3, .pointer (some ⟨b4, 0, none⟩)), (2, .pointer (some ⟨b3, 0, none⟩))], [.blk b3 [.int .i64 k, .slice p ks.length c], .blk b4 [.int .i64 k', .slice p' ks'.length c']], G⟩) (fun i => i ≤ ks.length ∧ ∀ j (h : j < ks.length) (h' : j < ks'.length), j < i → tCons ks[j] ks'[j] = true) (fun i => ks.length - i) 0 ?_ ?_ ?_)
    ·exact sub_mk (by repeat (first | exact SubE.nil | refine SubE.cons rfl ?_)) (by repeat (first | exact SubH.refl | exact SubH.nil | refine SubH.cons (by repeat (first | exact Pk.here | apply Pk.there)) ?_ | apply SubH.drop))
    ·exact ⟨by omega, by omega⟩
    ·(rintro i ⟨hi, hf⟩)
     refine tri_seq ?_
     refine tri_seq ?_
     refine tri_region ?_
     refine seq_pure (pure_move rfl) rfl rfl ?_
     refine seq_pure (pure_fieldAddr0 rfl) rfl rfl ?_
     refine seq_load (load_bs rfl rfl (by repeat (first | exact List.Mem.head _ | apply List.Mem.tail)) (by rfl)) rfl rfl ?_
     refine seq_pure (pure_len rfl rfl) rfl rfl ?_
     refine seq_bool (pure_lss rfl rfl) rfl rfl (fun h97 => ?_) (fun h97 => ?_)
     ·refine seq_done ?_
      refine nrm_seq ?_
      refine tri_cond_t rfl ?_
      refine tri_skip ?_
      refine nrm_seq ?_
      refine tri_seq ?_
      refine tri_block ?_
      refine tri_seq ?_
      (obtain ⟨b, o, p2, c2, rfl, hat, hre, hgb⟩ := hsl.kidTy hkl (i := i) (by omega) (by omega); obtain ⟨b', o', p2', c2', rfl, hat', hre', hgb'⟩ := hsl'.kidTy hkl' (i := i) (by omega) (by omega); refine tri_draw mixed rfl ?_)
      refine any_pure (i := 0) (listed' := [tt,ff,ff,ff,ff,ff,ff,ff,ff,ff,ff,ff]) rfl (by repeat (first | exact np_ret | apply np_seq | apply np_block | apply np_loopN')) (pure_fieldAddr0 rfl) rfl (by kernel_rfl) rfl rfl ?_
      refine any_load (i := 1) (listed' := [tt,tt,ff,ff,ff,ff,ff,ff,ff,ff,ff,ff]) rfl (by repeat (first | exact np_ret | apply np_seq | apply np_block | apply np_loopN')) (load_bs rfl rfl (by repeat (first | exact List.Mem.head _ | apply List.Mem.tail)) (by rfl)) rfl (by kernel_rfl) rfl rfl ?_
      refine any_pure (i := 2) (listed' := [tt,tt,tt,ff,ff,ff,ff,ff,ff,ff,ff,ff]) rfl (by repeat (first | exact np_ret | apply np_seq | apply np_block | apply np_loopN')) (pure_move rfl) rfl (by kernel_rfl) rfl rfl ?_
      refine any_pure (i := 3) (listed' := [tt,tt,tt,tt,ff,ff,ff,ff,ff,ff,ff,ff]) rfl (by repeat (first | exact np_ret | apply np_seq | apply np_block | apply np_loopN')) (pure_indexAddrN rfl rfl rfl (by omega)) rfl (by kernel_rfl) rfl rfl ?_
      refine any_load (i := 4) (listed' := [tt,tt,tt,tt,tt,ff,ff,ff,ff,ff,ff,ff]) rfl (by repeat (first | exact np_ret | apply np_seq | apply np_block | apply np_loopN')) (load_a rfl rfl (hat _) rfl) rfl (by kernel_rfl) rfl rfl ?_
      refine any_pure (i := 5) (listed' := [tt,tt,tt,tt,tt,tt,ff,ff,ff,ff,ff,ff]) rfl (by repeat (first | exact np_ret | apply np_seq | apply np_block | apply np_loopN')) (pure_fieldAddr0 rfl) rfl (by kernel_rfl) rfl rfl ?_
      refine any_load (i := 6) (listed' := [tt,tt,tt,tt,tt,tt,tt,ff,ff,ff,ff,ff]) rfl (by repeat (first | exact np_ret | apply np_seq | apply np_block | apply np_loopN')) (load_bs rfl rfl (by repeat (first | exact List.Mem.head _ | apply List.Mem.tail)) (by rfl)) rfl (by kernel_rfl) rfl rfl ?_
      refine any_pure (i := 7) (listed' := [tt,tt,tt,tt,tt,tt,tt,tt,ff,ff,ff,ff]) rfl (by repeat (first | exact np_ret | apply np_seq | apply np_block | apply np_loopN')) (pure_move rfl) rfl (by kernel_rfl) rfl rfl ?_
      refine any_pure (i := 8) (listed' := [tt,tt,tt,tt,tt,tt,tt,tt,tt,ff,ff,ff]) rfl (by repeat (first | exact np_ret | apply np_seq | apply np_block | apply np_loopN')) (pure_indexAddrN rfl rfl rfl (by omega)) rfl (by kernel_rfl) rfl rfl ?_
      refine any_load (i := 9) (listed' := [tt,tt,tt,tt,tt,tt,tt,tt,tt,tt,ff,ff]) rfl (by repeat (first | exact np_ret | apply np_seq | apply np_block | apply np_loopN')) (load_a rfl rfl (hat' _) rfl) rfl (by kernel_rfl) rfl rfl ?_
      refine any_one (j := 10) (by kernel_rfl) ?_
      refine one_valb (listed' := [tt,tt,tt,tt,tt,tt,tt,tt,tt,tt,tt,ff]) rfl rfl (ih ks[i] (List.getElem_mem (by omega)) ks'[i] G _ _ _ _ (hv2 i (by omega)) (hv2' i (by omega)) hre hre') rfl rfl rfl (fun h118 => ?_) (fun h118 => ?_)
      ·refine any_pure (i := 11) (listed' := [tt,tt,tt,tt,tt,tt,tt,tt,tt,tt,tt,tt]) rfl (by repeat (first | exact np_ret | apply np_seq | apply np_block | apply np_loopN')) (pure_not_t rfl) rfl (by kernel_rfl) rfl rfl ?_
       refine any_done (by kernel_rfl) ?_
       refine nrm_seq ?_
       refine tri_cond_f rfl ?_
       refine tri_skip ?_
       refine nrm_block ?_
       refine nrm_seq ?_
       refine tri_region ?_
       refine seq_pure (pure_move rfl) rfl rfl ?_
       refine seq_pure (pure_add rfl rfl (by omega) (by omega)) rfl rfl ?_
       refine seq_pure (pure_assign rfl) rfl rfl ?_
       refine seq_done ?_
       refine nrm_loopN (i + 1) ?_ ?_ ?_
       ·exact sub_mk (by repeat (first | exact SubE.nil | refine SubE.cons rfl ?_)) (by repeat (first | exact SubH.refl | exact SubH.nil | refine SubH.cons (by repeat (first | exact Pk.here | apply Pk.there)) ?_ | apply SubH.drop))
       ·exact ⟨by omega, fun j hj hj' hji => by (by_cases he : j = i; (subst he; assumption); exact hf j hj hj' (by omega))⟩
       ·omega
      ·refine any_pure (i := 11) (listed' := [tt,tt,tt,tt,tt,tt,tt,tt,tt,tt,tt,tt]) rfl (by repeat (first | exact np_ret | apply np_seq | apply np_block | apply np_loopN')) (pure_not_f rfl) rfl (by kernel_rfl) rfl rfl ?_
       refine any_done (by kernel_rfl) ?_
       refine nrm_seq ?_
       refine tri_cond_t rfl ?_
       refine tri_seq ?_
       refine tri_region ?_
       refine seq_pure (pure_assign rfl) rfl rfl ?_
       refine seq_done ?_
       refine nrm_seq ?_
       refine tri_ret ?_
       refine ret_block ?_
       refine ret_seq ?_
       refine ret_loopN ?_
       refine ret_block ?_
       refine ret_seq ?_
       refine ret_fin1 (res_tmp rfl) ?_
       (rw [tCons_eq (by omega) (by omega) (by omega), tConsL_f (i := i) (by omega) (by omega) (by assumption)]; exact ⟨rfl, rfl, rfl⟩)
     ·refine seq_done ?_
      refine nrm_seq ?_
      refine tri_cond_f rfl ?_
      refine tri_exit ?_
      refine ext_seq ?_
      refine ext_loopN ?_
      refine ext_block_eq ?_
      refine nrm_seq ?_
      refine tri_seq ?_
      refine tri_region ?_
      refine seq_pure (pure_assign rfl) rfl rfl ?_
      refine seq_done ?_
      refine nrm_seq ?_
      refine tri_ret ?_
      refine ret_fin1 (res_tmp rfl) ?_
      (rw [tCons_eq (by omega) (by omega) (by omega), (tConsL_iff ks _).2 ⟨hll, fun j hj hj' => hf j hj hj' (by omega)⟩]; exact ⟨rfl, rfl, rfl⟩)
end Gw
end Go.Proofs.Yteneckdjdfnjoaa
namespace Go.Proofs.Yteneckdjdfnjoaa
open Go Go.RowKit
namespace Gw
section blaws
variable {P : Program} {Γ : Ctx} {env : Env} {hp : List Ent} {G : IM} {ty : TypeId}
theorem pure_bneq_s {x y : Operand} {t t' : TypeId} {i : TyR} [hI : TyI P t i] (hd : i.desc = .bool) {r : Bool} (hx : evo env x = some (.bool r)) (hy : evo env y = some (.bool r)) :
  PureOp P Γ ⟨env, hp, G⟩ (.binOp .neq t x y t') ty (.bool false) := by
 have h := pure_bneq (P := P) (Γ := Γ) (hp := hp) (G := G) (t := t) (t' := t') (ty := ty) hd hx hy
 rwa [decide_eq_false (by simp)] at h
theorem pure_bneq_tf {x y : Operand} {t t' : TypeId} {i : TyR} [hI : TyI P t i] (hd : i.desc = .bool) (hx : evo env x = some (.bool true)) (hy : evo env y = some (.bool false)) :
  PureOp P Γ ⟨env, hp, G⟩ (.binOp .neq t x y t') ty (.bool true) := pure_bneq hd hx hy
theorem pure_bneq_ft {x y : Operand} {t t' : TypeId} {i : TyR} [hI : TyI P t i] (hd : i.desc = .bool) (hx : evo env x = some (.bool false)) (hy : evo env y = some (.bool true)) :
  PureOp P Γ ⟨env, hp, G⟩ (.binOp .neq t x y t') ty (.bool true) := pure_bneq hd hx hy
end blaws
theorem absLb_spec (n : Int) : ((1 ≤ absLb n ∧ absLb n ≤ 99) ↔ labelOk n = true) := by
 unfold absLb labelOk withinB
 simp only [Bool.or_eq_true, decide_eq_true_eq]
 split
 ·omega
 ·split <;> omega
set_option maxHeartbeats 0 in
set_option maxRecDepth 100000 in
theorem l4Own_fn (k : Int) (nm : ByteArray) (num : Int) (ty fr : Ty) (lb : Int) (ks : List Tm) (G : IM) (cells : List Value) (hr : RTm G (.mk k nm num ty fr lb ks) cells) (R : Bool)
  (hi : R = true ↔ nm = ⟨#[]⟩ ∧ num = 0 ∧ (1 ≤ absLb lb ∧ absLb lb ≤ 99) ∧ tValid ty = true ∧ tValid fr = true ∧ tCons fr ty = true) :
  Fn Try.prog 63 [.agg ⟨cells⟩] [] G (Val (.bool R) G) := by
 obtain ⟨tk, tks⟩ := ty
 obtain ⟨fk, fks⟩ := fr
 obtain ⟨pt, ct, pf, cf, p, c, es, rfl, hk, hnum, hlb, hty, hfr, hsl, hkl⟩ := hr.open9
 clear hr
 have o3 := sTypeValid_fn _ G _ hty
 have o4 := sTypeValid_fn _ G _ hfr
 have o6 := l1Abs_fn lb G
 refine fn_enter Try.func63 rfl Try.ntmps63 Try.results63 rfl ?_
 intro w0
 refine tri_seq ?_
 refine tri_region ?_
 (refine seq_step (step_box_a rfl rfl) rfl ?_; rintro _ ⟨b3, rfl⟩)
 refine seq_pure (pure_assign rfl) rfl rfl ?_
 refine seq_done ?_
 refine nrm_seq ?_
 refine tri_seq ?_
 refine tri_region ?_
 refine seq_pure (pure_fieldAddr0 rfl) rfl rfl ?_
 refine seq_load (load_bs rfl rfl (by repeat (first | exact List.Mem.head _ | apply List.Mem.tail)) (by rfl)) rfl rfl ?_
 refine seq_val rfl (o6) rfl rfl ?_
 refine seq_pure (pure_assign rfl) rfl rfl ?_
 refine seq_done ?_
 refine nrm_seq ?_
 refine tri_seq ?_
 refine tri_region ?_
 refine seq_pure (pure_fieldAddr0 rfl) rfl rfl ?_
 refine seq_load (load_bs rfl rfl (by repeat (first | exact List.Mem.head _ | apply List.Mem.tail)) (by rfl)) rfl rfl ?_
 refine seq_bool (pure_seql rfl rfl) rfl rfl (fun h19 => ?_) (fun h19 => ?_)
 ·refine seq_pure (pure_move rfl) rfl rfl ?_
  refine seq_pure (pure_fieldAddr0 rfl) rfl rfl ?_
  refine seq_load (load_bs rfl rfl (by repeat (first | exact List.Mem.head _ | apply List.Mem.tail)) (by rfl)) rfl rfl ?_
  refine seq_bool (pure_eql rfl rfl) rfl rfl (fun h23 => ?_) (fun h23 => ?_)
  ·refine seq_pure (pure_pick_t rfl rfl) rfl rfl ?_
   refine seq_pure (pure_move rfl) rfl rfl ?_
   refine seq_pure (pure_move rfl) rfl rfl ?_
   refine seq_bool (pure_geq rfl rfl) rfl rfl (fun h27 => ?_) (fun h27 => ?_)
   ·refine seq_pure (pure_pick_t rfl rfl) rfl rfl ?_
    refine seq_pure (pure_move rfl) rfl rfl ?_
    refine seq_pure (pure_move rfl) rfl rfl ?_
    refine seq_bool (pure_leq rfl rfl) rfl rfl (fun h31 => ?_) (fun h31 => ?_)
    ·refine seq_pure (pure_pick_t rfl rfl) rfl rfl ?_
     refine seq_pure (pure_move rfl) rfl rfl ?_
     refine seq_pure (pure_fieldAddr0 rfl) rfl rfl ?_
     refine seq_load (load_ba rfl rfl (by repeat (first | exact List.Mem.head _ | apply List.Mem.tail)) (by rfl)) rfl rfl ?_
     refine seq_valb rfl (o3) rfl rfl (fun h36 => ?_) (fun h36 => ?_)
     ·refine seq_pure (pure_pick_t rfl rfl) rfl rfl ?_
      refine seq_pure (pure_move rfl) rfl rfl ?_
      refine seq_pure (pure_fieldAddr0 rfl) rfl rfl ?_
      refine seq_load (load_ba rfl rfl (by repeat (first | exact List.Mem.head _ | apply List.Mem.tail)) (by rfl)) rfl rfl ?_
      refine seq_valb rfl (o4) rfl rfl (fun h41 => ?_) (fun h41 => ?_)
      ·refine seq_pure (pure_pick_t rfl rfl) rfl rfl ?_
       refine seq_pure (pure_move rfl) rfl rfl ?_
       refine seq_pure (pure_fieldAddr0 rfl) rfl rfl ?_
       refine seq_load (load_ba rfl rfl (by repeat (first | exact List.Mem.head _ | apply List.Mem.tail)) (by rfl)) rfl rfl ?_
       refine seq_pure (pure_fieldAddr0 rfl) rfl rfl ?_
       refine seq_load (load_ba rfl rfl (by repeat (first | exact List.Mem.head _ | apply List.Mem.tail)) (by rfl)) rfl rfl ?_
       refine seq_valb rfl (l1Consistent_fn _ _ G _ _ _ _ (by assumption) (by assumption) hfr hty) rfl rfl (fun h48 => ?_) (fun h48 => ?_)
       ·refine seq_pure (pure_pick_t rfl rfl) rfl rfl ?_
        refine seq_pure (pure_assign rfl) rfl rfl ?_
        refine seq_done ?_
        refine nrm_seq ?_
        refine tri_ret ?_
        refine ret_fin1 (res_tmp rfl) ?_
        exact ⟨rfl, by rw [hi.2 ⟨by (first | assumption | exact Classical.not_not.1 (by assumption)), by omega, by omega, by assumption, by assumption, by assumption⟩], rfl⟩
       ·refine seq_pure (pure_pick_t rfl rfl) rfl rfl ?_
        refine seq_pure (pure_assign rfl) rfl rfl ?_
        refine seq_done ?_
        refine nrm_seq ?_
        refine tri_ret ?_
        refine ret_fin1 (res_tmp rfl) ?_
        exact ⟨rfl, by (cases R with | false => rfl | true => (exfalso; obtain ⟨i1, i2, i3, i4, i5, i6⟩ := hi.1 rfl; first | omega | (simp_all; done))), rfl⟩
      ·refine seq_pure (pure_pick_t rfl rfl) rfl rfl ?_
       refine seq_pure (pure_move rfl) rfl rfl ?_
       refine seq_skip rfl rfl ?_
       refine seq_skip rfl rfl ?_
       refine seq_skip rfl rfl ?_
       refine seq_skip rfl rfl ?_
       refine seq_skip rfl rfl ?_
       refine seq_pure (pure_pick_f rfl rfl) rfl rfl ?_
       refine seq_pure (pure_assign rfl) rfl rfl ?_
       refine seq_done ?_
       refine nrm_seq ?_
       refine tri_ret ?_
       refine ret_fin1 (res_tmp rfl) ?_
       exact ⟨rfl, by (cases R with | false => rfl | true => (exfalso; obtain ⟨i1, i2, i3, i4, i5, i6⟩ := hi.1 rfl; first | omega | (simp_all; done))), rfl⟩
     ·refine seq_pure (pure_pick_t rfl rfl) rfl rfl ?_
      refine seq_pure (pure_move rfl) rfl rfl ?_
      refine seq_skip rfl rfl ?_
      refine seq_skip rfl rfl ?_
      refine seq_skip rfl rfl ?_
      refine seq_pure (pure_pick_f rfl rfl) rfl rfl ?_
      refine seq_pure (pure_move rfl) rfl rfl ?_
      refine seq_skip rfl rfl ?_
      refine seq_skip rfl rfl ?_
      refine seq_skip rfl rfl ?_
      refine seq_skip rfl rfl ?_
      refine seq_skip rfl rfl ?_
      refine seq_pure (pure_pick_f rfl rfl) rfl rfl ?_
      refine seq_pure (pure_assign rfl) rfl rfl ?_
      refine seq_done ?_
      refine nrm_seq ?_
      refine tri_ret ?_
      refine ret_fin1 (res_tmp rfl) ?_
      exact ⟨rfl, by (cases R with | false => rfl | true => (exfalso; obtain ⟨i1, i2, i3, i4, i5, i6⟩ := hi.1 rfl; first | omega | (simp_all; done))), rfl⟩
    ·refine seq_pure (pure_pick_t rfl rfl) rfl rfl ?_
     refine seq_pure (pure_move rfl) rfl rfl ?_
     refine seq_skip rfl rfl ?_
     refine seq_skip rfl rfl ?_
     refine seq_skip rfl rfl ?_
     refine seq_pure (pure_pick_f rfl rfl) rfl rfl ?_
     refine seq_pure (pure_move rfl) rfl rfl ?_
     refine seq_skip rfl rfl ?_
     refine seq_skip rfl rfl ?_
     refine seq_skip rfl rfl ?_
     refine seq_pure (pure_pick_f rfl rfl) rfl rfl ?_
     refine seq_pure (pure_move rfl) rfl rfl ?_
     refine seq_skip rfl rfl ?_
     refine seq_skip rfl rfl ?_
     refine seq_skip rfl rfl ?_
     refine seq_skip rfl rfl ?_
     refine seq_skip rfl rfl ?_
     refine seq_pure (pure_pick_f rfl rfl) rfl rfl ?_
     refine seq_pure (pure_assign rfl) rfl rfl ?_
     refine seq_done ?_
     refine nrm_seq ?_
     refine tri_ret ?_
     refine ret_fin1 (res_tmp rfl) ?_
     exact ⟨rfl, by (cases R with | false => rfl | true => (exfalso; obtain ⟨i1, i2, i3, i4, i5, i6⟩ := hi.1 rfl; first | omega | (simp_all; done))), rfl⟩
   ·refine seq_pure (pure_pick_t rfl rfl) rfl rfl ?_
    refine seq_pure (pure_move rfl) rfl rfl ?_
    refine seq_skip rfl rfl ?_
    refine seq_skip rfl rfl ?_
    refine seq_pure (pure_pick_f rfl rfl) rfl rfl ?_
    refine seq_pure (pure_move rfl) rfl rfl ?_
    refine seq_skip rfl rfl ?_
    refine seq_skip rfl rfl ?_
    refine seq_skip rfl rfl ?_
    refine seq_pure (pure_pick_f rfl rfl) rfl rfl ?_
    refine seq_pure (pure_move rfl) rfl rfl ?_
    refine seq_skip rfl rfl ?_
    refine seq_skip rfl rfl ?_
    refine seq_skip rfl rfl ?_
    refine seq_pure (pure_pick_f rfl rfl) rfl rfl ?_
    refine seq_pure (pure_move rfl) rfl rfl ?_
    refine seq_skip rfl rfl ?_
    refine seq_skip rfl rfl ?_
    refine seq_skip rfl rfl ?_
    refine seq_skip rfl rfl ?_
    refine seq_skip rfl rfl ?_
    refine seq_pure (pure_pick_f rfl rfl) rfl rfl ?_
    refine seq_pure (pure_assign rfl) rfl rfl ?_
    refine seq_done ?_
    refine nrm_seq ?_
    refine tri_ret ?_
    refine ret_fin1 (res_tmp rfl) ?_
    exact ⟨rfl, by (cases R with | false => rfl | true => (exfalso; obtain ⟨i1, i2, i3, i4, i5, i6⟩ := hi.1 rfl; first | omega | (simp_all; done))), rfl⟩
  ·refine seq_pure (pure_pick_t rfl rfl) rfl rfl ?_
   refine seq_pure (pure_move rfl) rfl rfl ?_
   refine seq_skip rfl rfl ?_
   refine seq_skip rfl rfl ?_
   refine seq_pure (pure_pick_f rfl rfl) rfl rfl ?_
   refine seq_pure (pure_move rfl) rfl rfl ?_
   refine seq_skip rfl rfl ?_
   refine seq_skip rfl rfl ?_
   refine seq_pure (pure_pick_f rfl rfl) rfl rfl ?_
   refine seq_pure (pure_move rfl) rfl rfl ?_
   refine seq_skip rfl rfl ?_
   refine seq_skip rfl rfl ?_
   refine seq_skip rfl rfl ?_
   refine seq_pure (pure_pick_f rfl rfl) rfl rfl ?_
   refine seq_pure (pure_move rfl) rfl rfl ?_
   refine seq_skip rfl rfl ?_
   refine seq_skip rfl rfl ?_
   refine seq_skip rfl rfl ?_
   refine seq_pure (pure_pick_f rfl rfl) rfl rfl ?_
   refine seq_pure (pure_move rfl) rfl rfl ?_
   refine seq_skip rfl rfl ?_
   refine seq_skip rfl rfl ?_
   refine seq_skip rfl rfl ?_
   refine seq_skip rfl rfl ?_
   refine seq_skip rfl rfl ?_
   refine seq_pure (pure_pick_f rfl rfl) rfl rfl ?_
   refine seq_pure (pure_assign rfl) rfl rfl ?_
   refine seq_done ?_
   refine nrm_seq ?_
   refine tri_ret ?_
   refine ret_fin1 (res_tmp rfl) ?_
   exact ⟨rfl, by (cases R with | false => rfl | true => (exfalso; obtain ⟨i1, i2, i3, i4, i5, i6⟩ := hi.1 rfl; first | omega | (simp_all; done))), rfl⟩
 ·refine seq_pure (pure_move rfl) rfl rfl ?_
  refine seq_skip rfl rfl ?_
  refine seq_skip rfl rfl ?_
  refine seq_skip rfl rfl ?_
  refine seq_pure (pure_pick_f rfl rfl) rfl rfl ?_
  refine seq_pure (pure_move rfl) rfl rfl ?_
  refine seq_skip rfl rfl ?_
  refine seq_skip rfl rfl ?_
  refine seq_pure (pure_pick_f rfl rfl) rfl rfl ?_
  refine seq_pure (pure_move rfl) rfl rfl ?_
  refine seq_skip rfl rfl ?_
  refine seq_skip rfl rfl ?_
  refine seq_pure (pure_pick_f rfl rfl) rfl rfl ?_
  refine seq_pure (pure_move rfl) rfl rfl ?_
  refine seq_skip rfl rfl ?_
  refine seq_skip rfl rfl ?_
  refine seq_skip rfl rfl ?_
  refine seq_pure (pure_pick_f rfl rfl) rfl rfl ?_
  refine seq_pure (pure_move rfl) rfl rfl ?_
  refine seq_skip rfl rfl ?_
  refine seq_skip rfl rfl ?_
  refine seq_skip rfl rfl ?_
  refine seq_pure (pure_pick_f rfl rfl) rfl rfl ?_
  refine seq_pure (pure_move rfl) rfl rfl ?_
  refine seq_skip rfl rfl ?_
  refine seq_skip rfl rfl ?_
  refine seq_skip rfl rfl ?_
  refine seq_skip rfl rfl ?_
  refine seq_skip rfl rfl ?_
  refine seq_pure (pure_pick_f rfl rfl) rfl rfl ?_
  refine seq_pure (pure_assign rfl) rfl rfl ?_
  refine seq_done ?_
  refine nrm_seq ?_
  refine tri_ret ?_
  refine ret_fin1 (res_tmp rfl) ?_
  exact ⟨rfl, by (cases R with | false => rfl | true => (exfalso; obtain ⟨i1, i2, i3, i4, i5, i6⟩ := hi.1 rfl; first | omega | (simp_all; done))), rfl⟩
set_option maxHeartbeats 0 in
set_option maxRecDepth 100000 in
theorem l2Own_fn (k : Int) (nm : ByteArray) (num : Int) (ty fr : Ty) (lb : Int) (ks : List Tm) (G : IM) (cells : List Value) (hr : RTm G (.mk k nm num ty fr lb ks) cells) (R : Bool)
  (hi : R = true ↔ (k = 1 ∨ k = 5 → nameOk nm = true) ∧ (¬(k = 1 ∨ k = 5) → nm = ⟨#[]⟩) ∧ (k = 5 ∨ k = 13 ∨ k = 14 → tValid ty = true) ∧ (¬(k = 5 ∨ k = 13 ∨ k = 14) → tNone ty = true) ∧ (k ≠ 14 → tNone fr = true ∧ lb = 0) ∧ (k = 2 → 0 ≤ num ∧ num ≤ 999) ∧ (k ≠ 2 → num = 0)) :
  Fn Try.prog 64 [.agg ⟨cells⟩] [] G (Val (.bool R) G) := by
 have he : nm = ⟨#[]⟩ → nameOk nm = false := by rintro rfl; rfl
 obtain ⟨tk, tks⟩ := ty
 obtain ⟨fk, fks⟩ := fr
 obtain ⟨pt, ct, pf, cf, p, c, es, rfl, hk, hnum, hlb, hty, hfr, hsl, hkl⟩ := hr.open9
 clear hr
 have o2 := l2Name_fn nm G
 have o3 := sTypeValid_fn _ G _ hty
 have o4 := l2None_fn _ G _ hty
 have o7 := l2None_fn _ G _ hfr
 refine fn_enter Try.func64 rfl Try.ntmps64 Try.results64 rfl ?_
 intro w0
 refine tri_seq ?_
 refine tri_region ?_
 (refine seq_step (step_box_a rfl rfl) rfl ?_; rintro _ ⟨b3, rfl⟩)
 refine seq_pure (pure_assign rfl) rfl rfl ?_
 refine seq_done ?_
 refine nrm_seq ?_
 refine tri_seq ?_
 refine tri_region ?_
 refine seq_pure (pure_fieldAddr0 rfl) rfl rfl ?_
 refine seq_load (load_bs rfl rfl (by repeat (first | exact List.Mem.head _ | apply List.Mem.tail)) (by rfl)) rfl rfl ?_
 refine seq_bool (pure_eql rfl rfl) rfl rfl (fun h11 => ?_) (fun h11 => ?_)
 ·refine seq_pure (pure_move rfl) rfl rfl ?_
  refine seq_skip rfl rfl ?_
  refine seq_skip rfl rfl ?_
  refine seq_skip rfl rfl ?_
  refine seq_pure (pure_pick_t rfl rfl) rfl rfl ?_
  refine seq_pure (pure_assign rfl) rfl rfl ?_
  refine seq_done ?_
  refine nrm_seq ?_
  refine tri_seq ?_
  refine tri_region ?_
  refine seq_pure (pure_fieldAddr0 rfl) rfl rfl ?_
  refine seq_load (load_bs rfl rfl (by repeat (first | exact List.Mem.head _ | apply List.Mem.tail)) (by rfl)) rfl rfl ?_
  refine seq_pure (pure_eql_f rfl rfl (by omega)) rfl rfl ?_
  refine seq_pure (pure_move rfl) rfl rfl ?_
  refine seq_pure (pure_fieldAddr0 rfl) rfl rfl ?_
  refine seq_load (load_bs rfl rfl (by repeat (first | exact List.Mem.head _ | apply List.Mem.tail)) (by rfl)) rfl rfl ?_
  refine seq_pure (pure_eql_f rfl rfl (by omega)) rfl rfl ?_
  refine seq_pure (pure_pick_f rfl rfl) rfl rfl ?_
  refine seq_pure (pure_move rfl) rfl rfl ?_
  refine seq_pure (pure_fieldAddr0 rfl) rfl rfl ?_
  refine seq_load (load_bs rfl rfl (by repeat (first | exact List.Mem.head _ | apply List.Mem.tail)) (by rfl)) rfl rfl ?_
  refine seq_pure (pure_eql_f rfl rfl (by omega)) rfl rfl ?_
  refine seq_pure (pure_pick_f rfl rfl) rfl rfl ?_
  refine seq_pure (pure_assign rfl) rfl rfl ?_
  refine seq_done ?_
  refine nrm_seq ?_
  refine tri_seq ?_
  refine tri_seq ?_
  refine tri_region ?_
  refine seq_pure (pure_move rfl) rfl rfl ?_
  refine seq_pure (pure_fieldAddr0 rfl) rfl rfl ?_
  refine seq_load (load_bs rfl rfl (by repeat (first | exact List.Mem.head _ | apply List.Mem.tail)) (by rfl)) rfl rfl ?_
  refine seq_valb rfl (o2) rfl rfl (fun h44 => ?_) (fun h44 => ?_)
  ·refine seq_pure (pure_bneq_s rfl rfl rfl) rfl rfl ?_
   refine seq_pure (pure_move rfl) rfl rfl ?_
   refine seq_pure (pure_move rfl) rfl rfl ?_
   refine seq_pure (pure_not_t rfl) rfl rfl ?_
   refine seq_pure (pure_move rfl) rfl rfl ?_
   refine seq_skip rfl rfl ?_
   refine seq_skip rfl rfl ?_
   refine seq_skip rfl rfl ?_
   refine seq_pure (pure_pick_f rfl rfl) rfl rfl ?_
   refine seq_pure (pure_pick_f rfl rfl) rfl rfl ?_
   refine seq_pure (pure_move rfl) rfl rfl ?_
   refine seq_pure (pure_move rfl) rfl rfl ?_
   refine seq_pure (pure_move rfl) rfl rfl ?_
   refine seq_skip rfl rfl ?_
   refine seq_skip rfl rfl ?_
   refine seq_skip rfl rfl ?_
   refine seq_skip rfl rfl ?_
   refine seq_pure (pure_pick_f rfl rfl) rfl rfl ?_
   refine seq_pure (pure_pick_f rfl rfl) rfl rfl ?_
   refine seq_pure (pure_move rfl) rfl rfl ?_
   refine seq_pure (pure_move rfl) rfl rfl ?_
   refine seq_pure (pure_not_f rfl) rfl rfl ?_
   refine seq_pure (pure_move rfl) rfl rfl ?_
   refine seq_pure (pure_fieldAddr0 rfl) rfl rfl ?_
   refine seq_load (load_ba rfl rfl (by repeat (first | exact List.Mem.head _ | apply List.Mem.tail)) (by rfl)) rfl rfl ?_
   refine seq_valb rfl (o4) rfl rfl (fun h70 => ?_) (fun h70 => ?_)
   ·refine seq_pure (pure_not_t rfl) rfl rfl ?_
    refine seq_pure (pure_pick_t rfl rfl) rfl rfl ?_
    refine seq_pure (pure_pick_f rfl rfl) rfl rfl ?_
    refine seq_done ?_
    refine nrm_seq ?_
    refine tri_cond_f rfl ?_
    refine tri_skip ?_
    refine nrm_seq ?_
    refine tri_seq ?_
    refine tri_seq ?_
    refine tri_region ?_
    refine seq_pure (pure_fieldAddr0 rfl) rfl rfl ?_
    refine seq_load (load_bs rfl rfl (by repeat (first | exact List.Mem.head _ | apply List.Mem.tail)) (by rfl)) rfl rfl ?_
    refine seq_pure (pure_neq_t rfl rfl (by omega)) rfl rfl ?_
    refine seq_pure (pure_move rfl) rfl rfl ?_
    refine seq_pure (pure_fieldAddr0 rfl) rfl rfl ?_
    refine seq_load (load_ba rfl rfl (by repeat (first | exact List.Mem.head _ | apply List.Mem.tail)) (by rfl)) rfl rfl ?_
    refine seq_valb rfl (o7) rfl rfl (fun h88 => ?_) (fun h88 => ?_)
    ·refine seq_pure (pure_not_t rfl) rfl rfl ?_
     refine seq_pure (pure_move rfl) rfl rfl ?_
     refine seq_pure (pure_fieldAddr0 rfl) rfl rfl ?_
     refine seq_load (load_bs rfl rfl (by repeat (first | exact List.Mem.head _ | apply List.Mem.tail)) (by rfl)) rfl rfl ?_
     refine seq_bool (pure_neq rfl rfl) rfl rfl (fun h93 => ?_) (fun h93 => ?_)
     ·refine seq_pure (pure_pick_f rfl rfl) rfl rfl ?_
      refine seq_pure (pure_pick_t rfl rfl) rfl rfl ?_
      refine seq_done ?_
      refine nrm_seq ?_
      refine tri_cond_t rfl ?_
      refine tri_seq ?_
      refine tri_region ?_
      refine seq_pure (pure_assign rfl) rfl rfl ?_
      refine seq_done ?_
      refine nrm_seq ?_
      refine tri_ret ?_
      refine ret_seq ?_
      refine ret_fin1 (res_tmp rfl) ?_
      exact ⟨rfl, by (cases R with | false => rfl | true => (exfalso; obtain ⟨i1, i2, i3, i4, i5, i6, i7⟩ := hi.1 rfl; first | omega | (have j := i1 (by omega); simp_all; done) | (have j := he (i2 (by omega)); simp_all; done) | (have j := i2 (by omega); simp_all; done) | (have j := i3 (by omega); simp_all; done) | (have j := i4 (by omega); simp_all; done) | (have j := i5 (by omega); simp_all; done))), rfl⟩
     ·refine seq_pure (pure_pick_f rfl rfl) rfl rfl ?_
      refine seq_pure (pure_pick_t rfl rfl) rfl rfl ?_
      refine seq_done ?_
      refine nrm_seq ?_
      refine tri_cond_f rfl ?_
      refine tri_skip ?_
      refine nrm_seq ?_
      refine tri_seq ?_
      refine tri_seq ?_
      refine tri_region ?_
      refine seq_pure (pure_fieldAddr0 rfl) rfl rfl ?_
      refine seq_load (load_bs rfl rfl (by repeat (first | exact List.Mem.head _ | apply List.Mem.tail)) (by rfl)) rfl rfl ?_
      refine seq_pure (pure_eql_f rfl rfl (by omega)) rfl rfl ?_
      refine seq_done ?_
      refine nrm_seq ?_
      refine tri_cond_f rfl ?_
      refine tri_skip ?_
      refine nrm_seq ?_
      refine tri_seq ?_
      refine tri_region ?_
      refine seq_pure (pure_fieldAddr0 rfl) rfl rfl ?_
      refine seq_load (load_bs rfl rfl (by repeat (first | exact List.Mem.head _ | apply List.Mem.tail)) (by rfl)) rfl rfl ?_
      refine seq_bool (pure_eql rfl rfl) rfl rfl (fun h130 => ?_) (fun h130 => ?_)
      ·refine seq_pure (pure_assign rfl) rfl rfl ?_
       refine seq_done ?_
       refine nrm_seq ?_
       refine tri_ret ?_
       refine ret_fin1 (res_tmp rfl) ?_
       exact ⟨rfl, by rw [hi.2 ⟨fun _ => by (first | assumption | (exfalso; omega)), fun _ => by (first | assumption | (exfalso; omega) | exact Classical.not_not.1 (by assumption)), fun _ => by (first | assumption | (exfalso; omega)), fun _ => by (first | assumption | (exfalso; omega)), fun _ => ⟨by (first | assumption | (exfalso; omega)), by (first | assumption | omega)⟩, by omega, by omega⟩], rfl⟩
      ·refine seq_pure (pure_assign rfl) rfl rfl ?_
       refine seq_done ?_
       refine nrm_seq ?_
       refine tri_ret ?_
       refine ret_fin1 (res_tmp rfl) ?_
       exact ⟨rfl, by (cases R with | false => rfl | true => (exfalso; obtain ⟨i1, i2, i3, i4, i5, i6, i7⟩ := hi.1 rfl; first | omega | (have j := i1 (by omega); simp_all; done) | (have j := he (i2 (by omega)); simp_all; done) | (have j := i2 (by omega); simp_all; done) | (have j := i3 (by omega); simp_all; done) | (have j := i4 (by omega); simp_all; done) | (have j := i5 (by omega); simp_all; done))), rfl⟩
    ·refine seq_pure (pure_not_f rfl) rfl rfl ?_
     refine seq_pure (pure_move rfl) rfl rfl ?_
     refine seq_skip rfl rfl ?_
     refine seq_skip rfl rfl ?_
     refine seq_skip rfl rfl ?_
     refine seq_pure (pure_pick_t rfl rfl) rfl rfl ?_
     refine seq_pure (pure_pick_t rfl rfl) rfl rfl ?_
     refine seq_done ?_
     refine nrm_seq ?_
     refine tri_cond_t rfl ?_
     refine tri_seq ?_
     refine tri_region ?_
     refine seq_pure (pure_assign rfl) rfl rfl ?_
     refine seq_done ?_
     refine nrm_seq ?_
     refine tri_ret ?_
     refine ret_seq ?_
     refine ret_fin1 (res_tmp rfl) ?_
     exact ⟨rfl, by (cases R with | false => rfl | true => (exfalso; obtain ⟨i1, i2, i3, i4, i5, i6, i7⟩ := hi.1 rfl; first | omega | (have j := i1 (by omega); simp_all; done) | (have j := he (i2 (by omega)); simp_all; done) | (have j := i2 (by omega); simp_all; done) | (have j := i3 (by omega); simp_all; done) | (have j := i4 (by omega); simp_all; done) | (have j := i5 (by omega); simp_all; done))), rfl⟩
   ·refine seq_pure (pure_not_f rfl) rfl rfl ?_
    refine seq_pure (pure_pick_t rfl rfl) rfl rfl ?_
    refine seq_pure (pure_pick_f rfl rfl) rfl rfl ?_
    refine seq_done ?_
    refine nrm_seq ?_
    refine tri_cond_t rfl ?_
    refine tri_seq ?_
    refine tri_region ?_
    refine seq_pure (pure_assign rfl) rfl rfl ?_
    refine seq_done ?_
    refine nrm_seq ?_
    refine tri_ret ?_
    refine ret_seq ?_
    refine ret_fin1 (res_tmp rfl) ?_
    exact ⟨rfl, by (cases R with | false => rfl | true => (exfalso; obtain ⟨i1, i2, i3, i4, i5, i6, i7⟩ := hi.1 rfl; first | omega | (have j := i1 (by omega); simp_all; done) | (have j := he (i2 (by omega)); simp_all; done) | (have j := i2 (by omega); simp_all; done) | (have j := i3 (by omega); simp_all; done) | (have j := i4 (by omega); simp_all; done) | (have j := i5 (by omega); simp_all; done))), rfl⟩
  ·refine seq_pure (pure_bneq_tf rfl rfl rfl) rfl rfl ?_
   refine seq_pure (pure_move rfl) rfl rfl ?_
   refine seq_skip rfl rfl ?_
   refine seq_skip rfl rfl ?_
   refine seq_skip rfl rfl ?_
   refine seq_skip rfl rfl ?_
   refine seq_skip rfl rfl ?_
   refine seq_skip rfl rfl ?_
   refine seq_skip rfl rfl ?_
   refine seq_pure (pure_pick_t rfl rfl) rfl rfl ?_
   refine seq_pure (pure_move rfl) rfl rfl ?_
   refine seq_skip rfl rfl ?_
   refine seq_skip rfl rfl ?_
   refine seq_skip rfl rfl ?_
   refine seq_skip rfl rfl ?_
   refine seq_skip rfl rfl ?_
   refine seq_skip rfl rfl ?_
   refine seq_skip rfl rfl ?_
   refine seq_pure (pure_pick_t rfl rfl) rfl rfl ?_
   refine seq_pure (pure_move rfl) rfl rfl ?_
   refine seq_skip rfl rfl ?_
   refine seq_skip rfl rfl ?_
   refine seq_skip rfl rfl ?_
   refine seq_skip rfl rfl ?_
   refine seq_skip rfl rfl ?_
   refine seq_skip rfl rfl ?_
   refine seq_skip rfl rfl ?_
   refine seq_skip rfl rfl ?_
   refine seq_pure (pure_pick_t rfl rfl) rfl rfl ?_
   refine seq_done ?_
   refine nrm_seq ?_
   refine tri_cond_t rfl ?_
   refine tri_seq ?_
   refine tri_region ?_
   refine seq_pure (pure_assign rfl) rfl rfl ?_
   refine seq_done ?_
   refine nrm_seq ?_
   refine tri_ret ?_
   refine ret_seq ?_
   refine ret_fin1 (res_tmp rfl) ?_
   exact ⟨rfl, by (cases R with | false => rfl | true => (exfalso; obtain ⟨i1, i2, i3, i4, i5, i6, i7⟩ := hi.1 rfl; first | omega | (have j := i1 (by omega); simp_all; done) | (have j := he (i2 (by omega)); simp_all; done) | (have j := i2 (by omega); simp_all; done) | (have j := i3 (by omega); simp_all; done) | (have j := i4 (by omega); simp_all; done) | (have j := i5 (by omega); simp_all; done))), rfl⟩
 ·refine seq_pure (pure_move rfl) rfl rfl ?_
  refine seq_pure (pure_fieldAddr0 rfl) rfl rfl ?_
  refine seq_load (load_bs rfl rfl (by repeat (first | exact List.Mem.head _ | apply List.Mem.tail)) (by rfl)) rfl rfl ?_
  refine seq_bool (pure_eql rfl rfl) rfl rfl (fun h221 => ?_) (fun h221 => ?_)
  ·refine seq_pure (pure_pick_f rfl rfl) rfl rfl ?_
   refine seq_pure (pure_assign rfl) rfl rfl ?_
   refine seq_done ?_
   refine nrm_seq ?_
   refine tri_seq ?_
   refine tri_region ?_
   refine seq_pure (pure_fieldAddr0 rfl) rfl rfl ?_
   refine seq_load (load_bs rfl rfl (by repeat (first | exact List.Mem.head _ | apply List.Mem.tail)) (by rfl)) rfl rfl ?_
   refine seq_pure (pure_eql_t rfl rfl (by omega)) rfl rfl ?_
   refine seq_pure (pure_move rfl) rfl rfl ?_
   refine seq_skip rfl rfl ?_
   refine seq_skip rfl rfl ?_
   refine seq_skip rfl rfl ?_
   refine seq_pure (pure_pick_t rfl rfl) rfl rfl ?_
   refine seq_pure (pure_move rfl) rfl rfl ?_
   refine seq_skip rfl rfl ?_
   refine seq_skip rfl rfl ?_
   refine seq_skip rfl rfl ?_
   refine seq_pure (pure_pick_t rfl rfl) rfl rfl ?_
   refine seq_pure (pure_assign rfl) rfl rfl ?_
   refine seq_done ?_
   refine nrm_seq ?_
   refine tri_seq ?_
   refine tri_seq ?_
   refine tri_region ?_
   refine seq_pure (pure_move rfl) rfl rfl ?_
   refine seq_pure (pure_fieldAddr0 rfl) rfl rfl ?_
   refine seq_load (load_bs rfl rfl (by repeat (first | exact List.Mem.head _ | apply List.Mem.tail)) (by rfl)) rfl rfl ?_
   refine seq_valb rfl (o2) rfl rfl (fun h250 => ?_) (fun h250 => ?_)
   ·refine seq_pure (pure_bneq_s rfl rfl rfl) rfl rfl ?_
    refine seq_pure (pure_move rfl) rfl rfl ?_
    refine seq_pure (pure_move rfl) rfl rfl ?_
    refine seq_pure (pure_not_t rfl) rfl rfl ?_
    refine seq_pure (pure_move rfl) rfl rfl ?_
    refine seq_skip rfl rfl ?_
    refine seq_skip rfl rfl ?_
    refine seq_skip rfl rfl ?_
    refine seq_pure (pure_pick_f rfl rfl) rfl rfl ?_
    refine seq_pure (pure_pick_f rfl rfl) rfl rfl ?_
    refine seq_pure (pure_move rfl) rfl rfl ?_
    refine seq_pure (pure_move rfl) rfl rfl ?_
    refine seq_pure (pure_move rfl) rfl rfl ?_
    refine seq_pure (pure_fieldAddr0 rfl) rfl rfl ?_
    refine seq_load (load_ba rfl rfl (by repeat (first | exact List.Mem.head _ | apply List.Mem.tail)) (by rfl)) rfl rfl ?_
    refine seq_valb rfl (o3) rfl rfl (fun h266 => ?_) (fun h266 => ?_)
    ·refine seq_pure (pure_not_t rfl) rfl rfl ?_
     refine seq_pure (pure_pick_t rfl rfl) rfl rfl ?_
     refine seq_pure (pure_pick_f rfl rfl) rfl rfl ?_
     refine seq_pure (pure_move rfl) rfl rfl ?_
     refine seq_pure (pure_move rfl) rfl rfl ?_
     refine seq_pure (pure_not_t rfl) rfl rfl ?_
     refine seq_pure (pure_move rfl) rfl rfl ?_
     refine seq_skip rfl rfl ?_
     refine seq_skip rfl rfl ?_
     refine seq_skip rfl rfl ?_
     refine seq_skip rfl rfl ?_
     refine seq_pure (pure_pick_f rfl rfl) rfl rfl ?_
     refine seq_pure (pure_pick_f rfl rfl) rfl rfl ?_
     refine seq_done ?_
     refine nrm_seq ?_
     refine tri_cond_f rfl ?_
     refine tri_skip ?_
     refine nrm_seq ?_
     refine tri_seq ?_
     refine tri_seq ?_
     refine tri_region ?_
     refine seq_pure (pure_fieldAddr0 rfl) rfl rfl ?_
     refine seq_load (load_bs rfl rfl (by repeat (first | exact List.Mem.head _ | apply List.Mem.tail)) (by rfl)) rfl rfl ?_
     refine seq_pure (pure_neq_t rfl rfl (by omega)) rfl rfl ?_
     refine seq_pure (pure_move rfl) rfl rfl ?_
     refine seq_pure (pure_fieldAddr0 rfl) rfl rfl ?_
     refine seq_load (load_ba rfl rfl (by repeat (first | exact List.Mem.head _ | apply List.Mem.tail)) (by rfl)) rfl rfl ?_
     refine seq_valb rfl (o7) rfl rfl (fun h294 => ?_) (fun h294 => ?_)
     ·refine seq_pure (pure_not_t rfl) rfl rfl ?_
      refine seq_pure (pure_move rfl) rfl rfl ?_
      refine seq_pure (pure_fieldAddr0 rfl) rfl rfl ?_
      refine seq_load (load_bs rfl rfl (by repeat (first | exact List.Mem.head _ | apply List.Mem.tail)) (by rfl)) rfl rfl ?_
      refine seq_bool (pure_neq rfl rfl) rfl rfl (fun h299 => ?_) (fun h299 => ?_)
      ·refine seq_pure (pure_pick_f rfl rfl) rfl rfl ?_
       refine seq_pure (pure_pick_t rfl rfl) rfl rfl ?_
       refine seq_done ?_
       refine nrm_seq ?_
       refine tri_cond_t rfl ?_
       refine tri_seq ?_
       refine tri_region ?_
       refine seq_pure (pure_assign rfl) rfl rfl ?_
       refine seq_done ?_
       refine nrm_seq ?_
       refine tri_ret ?_
       refine ret_seq ?_
       refine ret_fin1 (res_tmp rfl) ?_
       exact ⟨rfl, by (cases R with | false => rfl | true => (exfalso; obtain ⟨i1, i2, i3, i4, i5, i6, i7⟩ := hi.1 rfl; first | omega | (have j := i1 (by omega); simp_all; done) | (have j := he (i2 (by omega)); simp_all; done) | (have j := i2 (by omega); simp_all; done) | (have j := i3 (by omega); simp_all; done) | (have j := i4 (by omega); simp_all; done) | (have j := i5 (by omega); simp_all; done))), rfl⟩
      ·refine seq_pure (pure_pick_f rfl rfl) rfl rfl ?_
       refine seq_pure (pure_pick_t rfl rfl) rfl rfl ?_
       refine seq_done ?_
       refine nrm_seq ?_
       refine tri_cond_f rfl ?_
       refine tri_skip ?_
       refine nrm_seq ?_
       refine tri_seq ?_
       refine tri_seq ?_
       refine tri_region ?_
       refine seq_pure (pure_fieldAddr0 rfl) rfl rfl ?_
       refine seq_load (load_bs rfl rfl (by repeat (first | exact List.Mem.head _ | apply List.Mem.tail)) (by rfl)) rfl rfl ?_
       refine seq_pure (pure_eql_f rfl rfl (by omega)) rfl rfl ?_
       refine seq_done ?_
       refine nrm_seq ?_
       refine tri_cond_f rfl ?_
       refine tri_skip ?_
       refine nrm_seq ?_
       refine tri_seq ?_
       refine tri_region ?_
       refine seq_pure (pure_fieldAddr0 rfl) rfl rfl ?_
       refine seq_load (load_bs rfl rfl (by repeat (first | exact List.Mem.head _ | apply List.Mem.tail)) (by rfl)) rfl rfl ?_
       refine seq_bool (pure_eql rfl rfl) rfl rfl (fun h336 => ?_) (fun h336 => ?_)
       ·refine seq_pure (pure_assign rfl) rfl rfl ?_
        refine seq_done ?_
        refine nrm_seq ?_
        refine tri_ret ?_
        refine ret_fin1 (res_tmp rfl) ?_
        exact ⟨rfl, by rw [hi.2 ⟨fun _ => by (first | assumption | (exfalso; omega)), fun _ => by (first | assumption | (exfalso; omega) | exact Classical.not_not.1 (by assumption)), fun _ => by (first | assumption | (exfalso; omega)), fun _ => by (first | assumption | (exfalso; omega)), fun _ => ⟨by (first | assumption | (exfalso; omega)), by (first | assumption | omega)⟩, by omega, by omega⟩], rfl⟩
       ·refine seq_pure (pure_assign rfl) rfl rfl ?_
        refine seq_done ?_
        refine nrm_seq ?_
        refine tri_ret ?_
        refine ret_fin1 (res_tmp rfl) ?_
        exact ⟨rfl, by (cases R with | false => rfl | true => (exfalso; obtain ⟨i1, i2, i3, i4, i5, i6, i7⟩ := hi.1 rfl; first | omega | (have j := i1 (by omega); simp_all; done) | (have j := he (i2 (by omega)); simp_all; done) | (have j := i2 (by omega); simp_all; done) | (have j := i3 (by omega); simp_all; done) | (have j := i4 (by omega); simp_all; done) | (have j := i5 (by omega); simp_all; done))), rfl⟩
     ·refine seq_pure (pure_not_f rfl) rfl rfl ?_
      refine seq_pure (pure_move rfl) rfl rfl ?_
      refine seq_skip rfl rfl ?_
      refine seq_skip rfl rfl ?_
      refine seq_skip rfl rfl ?_
      refine seq_pure (pure_pick_t rfl rfl) rfl rfl ?_
      refine seq_pure (pure_pick_t rfl rfl) rfl rfl ?_
      refine seq_done ?_
      refine nrm_seq ?_
      refine tri_cond_t rfl ?_
      refine tri_seq ?_
      refine tri_region ?_
      refine seq_pure (pure_assign rfl) rfl rfl ?_
      refine seq_done ?_
      refine nrm_seq ?_
      refine tri_ret ?_
      refine ret_seq ?_
      refine ret_fin1 (res_tmp rfl) ?_
      exact ⟨rfl, by (cases R with | false => rfl | true => (exfalso; obtain ⟨i1, i2, i3, i4, i5, i6, i7⟩ := hi.1 rfl; first | omega | (have j := i1 (by omega); simp_all; done) | (have j := he (i2 (by omega)); simp_all; done) | (have j := i2 (by omega); simp_all; done) | (have j := i3 (by omega); simp_all; done) | (have j := i4 (by omega); simp_all; done) | (have j := i5 (by omega); simp_all; done))), rfl⟩
    ·refine seq_pure (pure_not_f rfl) rfl rfl ?_
     refine seq_pure (pure_pick_t rfl rfl) rfl rfl ?_
     refine seq_pure (pure_pick_f rfl rfl) rfl rfl ?_
     refine seq_pure (pure_move rfl) rfl rfl ?_
     refine seq_skip rfl rfl ?_
     refine seq_skip rfl rfl ?_
     refine seq_skip rfl rfl ?_
     refine seq_skip rfl rfl ?_
     refine seq_skip rfl rfl ?_
     refine seq_skip rfl rfl ?_
     refine seq_skip rfl rfl ?_
     refine seq_skip rfl rfl ?_
     refine seq_pure (pure_pick_t rfl rfl) rfl rfl ?_
     refine seq_done ?_
     refine nrm_seq ?_
     refine tri_cond_t rfl ?_
     refine tri_seq ?_
     refine tri_region ?_
     refine seq_pure (pure_assign rfl) rfl rfl ?_
     refine seq_done ?_
     refine nrm_seq ?_
     refine tri_ret ?_
     refine ret_seq ?_
     refine ret_fin1 (res_tmp rfl) ?_
     exact ⟨rfl, by (cases R with | false => rfl | true => (exfalso; obtain ⟨i1, i2, i3, i4, i5, i6, i7⟩ := hi.1 rfl; first | omega | (have j := i1 (by omega); simp_all; done) | (have j := he (i2 (by omega)); simp_all; done) | (have j := i2 (by omega); simp_all; done) | (have j := i3 (by omega); simp_all; done) | (have j := i4 (by omega); simp_all; done) | (have j := i5 (by omega); simp_all; done))), rfl⟩
   ·refine seq_pure (pure_bneq_tf rfl rfl rfl) rfl rfl ?_
    refine seq_pure (pure_move rfl) rfl rfl ?_
    refine seq_skip rfl rfl ?_
    refine seq_skip rfl rfl ?_
    refine seq_skip rfl rfl ?_
    refine seq_skip rfl rfl ?_
    refine seq_skip rfl rfl ?_
    refine seq_skip rfl rfl ?_
    refine seq_skip rfl rfl ?_
    refine seq_pure (pure_pick_t rfl rfl) rfl rfl ?_
    refine seq_pure (pure_move rfl) rfl rfl ?_
    refine seq_skip rfl rfl ?_
    refine seq_skip rfl rfl ?_
    refine seq_skip rfl rfl ?_
    refine seq_skip rfl rfl ?_
    refine seq_skip rfl rfl ?_
    refine seq_skip rfl rfl ?_
    refine seq_skip rfl rfl ?_
    refine seq_pure (pure_pick_t rfl rfl) rfl rfl ?_
    refine seq_pure (pure_move rfl) rfl rfl ?_
    refine seq_skip rfl rfl ?_
    refine seq_skip rfl rfl ?_
    refine seq_skip rfl rfl ?_
    refine seq_skip rfl rfl ?_
    refine seq_skip rfl rfl ?_
    refine seq_skip rfl rfl ?_
    refine seq_skip rfl rfl ?_
    refine seq_skip rfl rfl ?_
    refine seq_pure (pure_pick_t rfl rfl) rfl rfl ?_
    refine seq_done ?_
    refine nrm_seq ?_
    refine tri_cond_t rfl ?_
    refine tri_seq ?_
    refine tri_region ?_
    refine seq_pure (pure_assign rfl) rfl rfl ?_
    refine seq_done ?_
    refine nrm_seq ?_
    refine tri_ret ?_
    refine ret_seq ?_
    refine ret_fin1 (res_tmp rfl) ?_
    exact ⟨rfl, by (cases R with | false => rfl | true => (exfalso; obtain ⟨i1, i2, i3, i4, i5, i6, i7⟩ := hi.1 rfl; first | omega | (have j := i1 (by omega); simp_all; done) | (have j := he (i2 (by omega)); simp_all; done) | (have j := i2 (by omega); simp_all; done) | (have j := i3 (by omega); simp_all; done) | (have j := i4 (by omega); simp_all; done) | (have j := i5 (by omega); simp_all; done))), rfl⟩
  ·refine seq_pure (pure_pick_f rfl rfl) rfl rfl ?_
   refine seq_pure (pure_assign rfl) rfl rfl ?_
   refine seq_done ?_
   refine nrm_seq ?_
   refine tri_seq ?_
   refine tri_region ?_
   refine seq_pure (pure_fieldAddr0 rfl) rfl rfl ?_
   refine seq_load (load_bs rfl rfl (by repeat (first | exact List.Mem.head _ | apply List.Mem.tail)) (by rfl)) rfl rfl ?_
   refine seq_pure (pure_eql_f rfl rfl (by omega)) rfl rfl ?_
   refine seq_pure (pure_move rfl) rfl rfl ?_
   refine seq_pure (pure_fieldAddr0 rfl) rfl rfl ?_
   refine seq_load (load_bs rfl rfl (by repeat (first | exact List.Mem.head _ | apply List.Mem.tail)) (by rfl)) rfl rfl ?_
   refine seq_bool (pure_eql rfl rfl) rfl rfl (fun h446 => ?_) (fun h446 => ?_)
   ·refine seq_pure (pure_pick_f rfl rfl) rfl rfl ?_
    refine seq_pure (pure_move rfl) rfl rfl ?_
    refine seq_skip rfl rfl ?_
    refine seq_skip rfl rfl ?_
    refine seq_skip rfl rfl ?_
    refine seq_pure (pure_pick_t rfl rfl) rfl rfl ?_
    refine seq_pure (pure_assign rfl) rfl rfl ?_
    refine seq_done ?_
    refine nrm_seq ?_
    refine tri_seq ?_
    refine tri_seq ?_
    refine tri_region ?_
    refine seq_pure (pure_move rfl) rfl rfl ?_
    refine seq_pure (pure_fieldAddr0 rfl) rfl rfl ?_
    refine seq_load (load_bs rfl rfl (by repeat (first | exact List.Mem.head _ | apply List.Mem.tail)) (by rfl)) rfl rfl ?_
    refine seq_valb rfl (o2) rfl rfl (fun h462 => ?_) (fun h462 => ?_)
    ·refine seq_pure (pure_bneq_ft rfl rfl rfl) rfl rfl ?_
     refine seq_pure (pure_move rfl) rfl rfl ?_
     refine seq_skip rfl rfl ?_
     refine seq_skip rfl rfl ?_
     refine seq_skip rfl rfl ?_
     refine seq_skip rfl rfl ?_
     refine seq_skip rfl rfl ?_
     refine seq_skip rfl rfl ?_
     refine seq_skip rfl rfl ?_
     refine seq_pure (pure_pick_t rfl rfl) rfl rfl ?_
     refine seq_pure (pure_move rfl) rfl rfl ?_
     refine seq_skip rfl rfl ?_
     refine seq_skip rfl rfl ?_
     refine seq_skip rfl rfl ?_
     refine seq_skip rfl rfl ?_
     refine seq_skip rfl rfl ?_
     refine seq_skip rfl rfl ?_
     refine seq_skip rfl rfl ?_
     refine seq_pure (pure_pick_t rfl rfl) rfl rfl ?_
     refine seq_pure (pure_move rfl) rfl rfl ?_
     refine seq_skip rfl rfl ?_
     refine seq_skip rfl rfl ?_
     refine seq_skip rfl rfl ?_
     refine seq_skip rfl rfl ?_
     refine seq_skip rfl rfl ?_
     refine seq_skip rfl rfl ?_
     refine seq_skip rfl rfl ?_
     refine seq_skip rfl rfl ?_
     refine seq_pure (pure_pick_t rfl rfl) rfl rfl ?_
     refine seq_done ?_
     refine nrm_seq ?_
     refine tri_cond_t rfl ?_
     refine tri_seq ?_
     refine tri_region ?_
     refine seq_pure (pure_assign rfl) rfl rfl ?_
     refine seq_done ?_
     refine nrm_seq ?_
     refine tri_ret ?_
     refine ret_seq ?_
     refine ret_fin1 (res_tmp rfl) ?_
     exact ⟨rfl, by (cases R with | false => rfl | true => (exfalso; obtain ⟨i1, i2, i3, i4, i5, i6, i7⟩ := hi.1 rfl; first | omega | (have j := i1 (by omega); simp_all; done) | (have j := he (i2 (by omega)); simp_all; done) | (have j := i2 (by omega); simp_all; done) | (have j := i3 (by omega); simp_all; done) | (have j := i4 (by omega); simp_all; done) | (have j := i5 (by omega); simp_all; done))), rfl⟩
    ·refine seq_pure (pure_bneq_s rfl rfl rfl) rfl rfl ?_
     refine seq_pure (pure_move rfl) rfl rfl ?_
     refine seq_pure (pure_move rfl) rfl rfl ?_
     refine seq_pure (pure_not_f rfl) rfl rfl ?_
     refine seq_pure (pure_move rfl) rfl rfl ?_
     refine seq_pure (pure_fieldAddr0 rfl) rfl rfl ?_
     refine seq_load (load_bs rfl rfl (by repeat (first | exact List.Mem.head _ | apply List.Mem.tail)) (by rfl)) rfl rfl ?_
     refine seq_bool (pure_sneq rfl rfl) rfl rfl (fun h511 => ?_) (fun h511 => ?_)
     ·refine seq_pure (pure_pick_t rfl rfl) rfl rfl ?_
      refine seq_pure (pure_pick_f rfl rfl) rfl rfl ?_
      refine seq_pure (pure_move rfl) rfl rfl ?_
      refine seq_skip rfl rfl ?_
      refine seq_skip rfl rfl ?_
      refine seq_skip rfl rfl ?_
      refine seq_skip rfl rfl ?_
      refine seq_skip rfl rfl ?_
      refine seq_skip rfl rfl ?_
      refine seq_skip rfl rfl ?_
      refine seq_pure (pure_pick_t rfl rfl) rfl rfl ?_
      refine seq_pure (pure_move rfl) rfl rfl ?_
      refine seq_skip rfl rfl ?_
      refine seq_skip rfl rfl ?_
      refine seq_skip rfl rfl ?_
      refine seq_skip rfl rfl ?_
      refine seq_skip rfl rfl ?_
      refine seq_skip rfl rfl ?_
      refine seq_skip rfl rfl ?_
      refine seq_skip rfl rfl ?_
      refine seq_pure (pure_pick_t rfl rfl) rfl rfl ?_
      refine seq_done ?_
      refine nrm_seq ?_
      refine tri_cond_t rfl ?_
      refine tri_seq ?_
      refine tri_region ?_
      refine seq_pure (pure_assign rfl) rfl rfl ?_
      refine seq_done ?_
      refine nrm_seq ?_
      refine tri_ret ?_
      refine ret_seq ?_
      refine ret_fin1 (res_tmp rfl) ?_
      exact ⟨rfl, by (cases R with | false => rfl | true => (exfalso; obtain ⟨i1, i2, i3, i4, i5, i6, i7⟩ := hi.1 rfl; first | omega | (have j := i1 (by omega); simp_all; done) | (have j := he (i2 (by omega)); simp_all; done) | (have j := i2 (by omega); simp_all; done) | (have j := i3 (by omega); simp_all; done) | (have j := i4 (by omega); simp_all; done) | (have j := i5 (by omega); simp_all; done))), rfl⟩
     ·refine seq_pure (pure_pick_t rfl rfl) rfl rfl ?_
      refine seq_pure (pure_pick_f rfl rfl) rfl rfl ?_
      refine seq_pure (pure_move rfl) rfl rfl ?_
      refine seq_pure (pure_move rfl) rfl rfl ?_
      refine seq_pure (pure_move rfl) rfl rfl ?_
      refine seq_pure (pure_fieldAddr0 rfl) rfl rfl ?_
      refine seq_load (load_ba rfl rfl (by repeat (first | exact List.Mem.head _ | apply List.Mem.tail)) (by rfl)) rfl rfl ?_
      refine seq_valb rfl (o3) rfl rfl (fun h552 => ?_) (fun h552 => ?_)
      ·refine seq_pure (pure_not_t rfl) rfl rfl ?_
       refine seq_pure (pure_pick_t rfl rfl) rfl rfl ?_
       refine seq_pure (pure_pick_f rfl rfl) rfl rfl ?_
       refine seq_pure (pure_move rfl) rfl rfl ?_
       refine seq_pure (pure_move rfl) rfl rfl ?_
       refine seq_pure (pure_not_t rfl) rfl rfl ?_
       refine seq_pure (pure_move rfl) rfl rfl ?_
       refine seq_skip rfl rfl ?_
       refine seq_skip rfl rfl ?_
       refine seq_skip rfl rfl ?_
       refine seq_skip rfl rfl ?_
       refine seq_pure (pure_pick_f rfl rfl) rfl rfl ?_
       refine seq_pure (pure_pick_f rfl rfl) rfl rfl ?_
       refine seq_done ?_
       refine nrm_seq ?_
       refine tri_cond_f rfl ?_
       refine tri_skip ?_
       refine nrm_seq ?_
       refine tri_seq ?_
       refine tri_seq ?_
       refine tri_region ?_
       refine seq_pure (pure_fieldAddr0 rfl) rfl rfl ?_
       refine seq_load (load_bs rfl rfl (by repeat (first | exact List.Mem.head _ | apply List.Mem.tail)) (by rfl)) rfl rfl ?_
       refine seq_pure (pure_neq_t rfl rfl (by omega)) rfl rfl ?_
       refine seq_pure (pure_move rfl) rfl rfl ?_
       refine seq_pure (pure_fieldAddr0 rfl) rfl rfl ?_
       refine seq_load (load_ba rfl rfl (by repeat (first | exact List.Mem.head _ | apply List.Mem.tail)) (by rfl)) rfl rfl ?_
       refine seq_valb rfl (o7) rfl rfl (fun h580 => ?_) (fun h580 => ?_)
       ·refine seq_pure (pure_not_t rfl) rfl rfl ?_
        refine seq_pure (pure_move rfl) rfl rfl ?_
        refine seq_pure (pure_fieldAddr0 rfl) rfl rfl ?_
        refine seq_load (load_bs rfl rfl (by repeat (first | exact List.Mem.head _ | apply List.Mem.tail)) (by rfl)) rfl rfl ?_
        refine seq_bool (pure_neq rfl rfl) rfl rfl (fun h585 => ?_) (fun h585 => ?_)
        ·refine seq_pure (pure_pick_f rfl rfl) rfl rfl ?_
         refine seq_pure (pure_pick_t rfl rfl) rfl rfl ?_
         refine seq_done ?_
         refine nrm_seq ?_
         refine tri_cond_t rfl ?_
         refine tri_seq ?_
         refine tri_region ?_
         refine seq_pure (pure_assign rfl) rfl rfl ?_
         refine seq_done ?_
         refine nrm_seq ?_
         refine tri_ret ?_
         refine ret_seq ?_
         refine ret_fin1 (res_tmp rfl) ?_
         exact ⟨rfl, by (cases R with | false => rfl | true => (exfalso; obtain ⟨i1, i2, i3, i4, i5, i6, i7⟩ := hi.1 rfl; first | omega | (have j := i1 (by omega); simp_all; done) | (have j := he (i2 (by omega)); simp_all; done) | (have j := i2 (by omega); simp_all; done) | (have j := i3 (by omega); simp_all; done) | (have j := i4 (by omega); simp_all; done) | (have j := i5 (by omega); simp_all; done))), rfl⟩
        ·refine seq_pure (pure_pick_f rfl rfl) rfl rfl ?_
         refine seq_pure (pure_pick_t rfl rfl) rfl rfl ?_
         refine seq_done ?_
         refine nrm_seq ?_
         refine tri_cond_f rfl ?_
         refine tri_skip ?_
         refine nrm_seq ?_
         refine tri_seq ?_
         refine tri_seq ?_
         refine tri_region ?_
         refine seq_pure (pure_fieldAddr0 rfl) rfl rfl ?_
         refine seq_load (load_bs rfl rfl (by repeat (first | exact List.Mem.head _ | apply List.Mem.tail)) (by rfl)) rfl rfl ?_
         refine seq_pure (pure_eql_f rfl rfl (by omega)) rfl rfl ?_
         refine seq_done ?_
         refine nrm_seq ?_
         refine tri_cond_f rfl ?_
         refine tri_skip ?_
         refine nrm_seq ?_
         refine tri_seq ?_
         refine tri_region ?_
         refine seq_pure (pure_fieldAddr0 rfl) rfl rfl ?_
         refine seq_load (load_bs rfl rfl (by repeat (first | exact List.Mem.head _ | apply List.Mem.tail)) (by rfl)) rfl rfl ?_
         refine seq_bool (pure_eql rfl rfl) rfl rfl (fun h622 => ?_) (fun h622 => ?_)
         ·refine seq_pure (pure_assign rfl) rfl rfl ?_
          refine seq_done ?_
          refine nrm_seq ?_
          refine tri_ret ?_
          refine ret_fin1 (res_tmp rfl) ?_
          exact ⟨rfl, by rw [hi.2 ⟨fun _ => by (first | assumption | (exfalso; omega)), fun _ => by (first | assumption | (exfalso; omega) | exact Classical.not_not.1 (by assumption)), fun _ => by (first | assumption | (exfalso; omega)), fun _ => by (first | assumption | (exfalso; omega)), fun _ => ⟨by (first | assumption | (exfalso; omega)), by (first | assumption | omega)⟩, by omega, by omega⟩], rfl⟩
         ·refine seq_pure (pure_assign rfl) rfl rfl ?_
          refine seq_done ?_
          refine nrm_seq ?_
          refine tri_ret ?_
          refine ret_fin1 (res_tmp rfl) ?_
          exact ⟨rfl, by (cases R with | false => rfl | true => (exfalso; obtain ⟨i1, i2, i3, i4, i5, i6, i7⟩ := hi.1 rfl; first | omega | (have j := i1 (by omega); simp_all; done) | (have j := he (i2 (by omega)); simp_all; done) | (have j := i2 (by omega); simp_all; done) | (have j := i3 (by omega); simp_all; done) | (have j := i4 (by omega); simp_all; done) | (have j := i5 (by omega); simp_all; done))), rfl⟩
       ·refine seq_pure (pure_not_f rfl) rfl rfl ?_
        refine seq_pure (pure_move rfl) rfl rfl ?_
        refine seq_skip rfl rfl ?_
        refine seq_skip rfl rfl ?_
        refine seq_skip rfl rfl ?_
        refine seq_pure (pure_pick_t rfl rfl) rfl rfl ?_
        refine seq_pure (pure_pick_t rfl rfl) rfl rfl ?_
        refine seq_done ?_
        refine nrm_seq ?_
        refine tri_cond_t rfl ?_
        refine tri_seq ?_
        refine tri_region ?_
        refine seq_pure (pure_assign rfl) rfl rfl ?_
        refine seq_done ?_
        refine nrm_seq ?_
        refine tri_ret ?_
        refine ret_seq ?_
        refine ret_fin1 (res_tmp rfl) ?_
        exact ⟨rfl, by (cases R with | false => rfl | true => (exfalso; obtain ⟨i1, i2, i3, i4, i5, i6, i7⟩ := hi.1 rfl; first | omega | (have j := i1 (by omega); simp_all; done) | (have j := he (i2 (by omega)); simp_all; done) | (have j := i2 (by omega); simp_all; done) | (have j := i3 (by omega); simp_all; done) | (have j := i4 (by omega); simp_all; done) | (have j := i5 (by omega); simp_all; done))), rfl⟩
      ·refine seq_pure (pure_not_f rfl) rfl rfl ?_
       refine seq_pure (pure_pick_t rfl rfl) rfl rfl ?_
       refine seq_pure (pure_pick_f rfl rfl) rfl rfl ?_
       refine seq_pure (pure_move rfl) rfl rfl ?_
       refine seq_skip rfl rfl ?_
       refine seq_skip rfl rfl ?_
       refine seq_skip rfl rfl ?_
       refine seq_skip rfl rfl ?_
       refine seq_skip rfl rfl ?_
       refine seq_skip rfl rfl ?_
       refine seq_skip rfl rfl ?_
       refine seq_skip rfl rfl ?_
       refine seq_pure (pure_pick_t rfl rfl) rfl rfl ?_
       refine seq_done ?_
       refine nrm_seq ?_
       refine tri_cond_t rfl ?_
       refine tri_seq ?_
       refine tri_region ?_
       refine seq_pure (pure_assign rfl) rfl rfl ?_
       refine seq_done ?_
       refine nrm_seq ?_
       refine tri_ret ?_
       refine ret_seq ?_
       refine ret_fin1 (res_tmp rfl) ?_
       exact ⟨rfl, by (cases R with | false => rfl | true => (exfalso; obtain ⟨i1, i2, i3, i4, i5, i6, i7⟩ := hi.1 rfl; first | omega | (have j := i1 (by omega); simp_all; done) | (have j := he (i2 (by omega)); simp_all; done) | (have j := i2 (by omega); simp_all; done) | (have j := i3 (by omega); simp_all; done) | (have j := i4 (by omega); simp_all; done) | (have j := i5 (by omega); simp_all; done))), rfl⟩
   ·refine seq_pure (pure_pick_f rfl rfl) rfl rfl ?_
    refine seq_pure (pure_move rfl) rfl rfl ?_
    refine seq_pure (pure_fieldAddr0 rfl) rfl rfl ?_
    refine seq_load (load_bs rfl rfl (by repeat (first | exact List.Mem.head _ | apply List.Mem.tail)) (by rfl)) rfl rfl ?_
    refine seq_bool (pure_eql rfl rfl) rfl rfl (fun h683 => ?_) (fun h683 => ?_)
    ·refine seq_pure (pure_pick_f rfl rfl) rfl rfl ?_
     refine seq_pure (pure_assign rfl) rfl rfl ?_
     refine seq_done ?_
     refine nrm_seq ?_
     refine tri_seq ?_
     refine tri_seq ?_
     refine tri_region ?_
     refine seq_pure (pure_move rfl) rfl rfl ?_
     refine seq_pure (pure_fieldAddr0 rfl) rfl rfl ?_
     refine seq_load (load_bs rfl rfl (by repeat (first | exact List.Mem.head _ | apply List.Mem.tail)) (by rfl)) rfl rfl ?_
     refine seq_valb rfl (o2) rfl rfl (fun h694 => ?_) (fun h694 => ?_)
     ·refine seq_pure (pure_bneq_ft rfl rfl rfl) rfl rfl ?_
      refine seq_pure (pure_move rfl) rfl rfl ?_
      refine seq_skip rfl rfl ?_
      refine seq_skip rfl rfl ?_
      refine seq_skip rfl rfl ?_
      refine seq_skip rfl rfl ?_
      refine seq_skip rfl rfl ?_
      refine seq_skip rfl rfl ?_
      refine seq_skip rfl rfl ?_
      refine seq_pure (pure_pick_t rfl rfl) rfl rfl ?_
      refine seq_pure (pure_move rfl) rfl rfl ?_
      refine seq_skip rfl rfl ?_
      refine seq_skip rfl rfl ?_
      refine seq_skip rfl rfl ?_
      refine seq_skip rfl rfl ?_
      refine seq_skip rfl rfl ?_
      refine seq_skip rfl rfl ?_
      refine seq_skip rfl rfl ?_
      refine seq_pure (pure_pick_t rfl rfl) rfl rfl ?_
      refine seq_pure (pure_move rfl) rfl rfl ?_
      refine seq_skip rfl rfl ?_
      refine seq_skip rfl rfl ?_
      refine seq_skip rfl rfl ?_
      refine seq_skip rfl rfl ?_
      refine seq_skip rfl rfl ?_
      refine seq_skip rfl rfl ?_
      refine seq_skip rfl rfl ?_
      refine seq_skip rfl rfl ?_
      refine seq_pure (pure_pick_t rfl rfl) rfl rfl ?_
      refine seq_done ?_
      refine nrm_seq ?_
      refine tri_cond_t rfl ?_
      refine tri_seq ?_
      refine tri_region ?_
      refine seq_pure (pure_assign rfl) rfl rfl ?_
      refine seq_done ?_
      refine nrm_seq ?_
      refine tri_ret ?_
      refine ret_seq ?_
      refine ret_fin1 (res_tmp rfl) ?_
      exact ⟨rfl, by (cases R with | false => rfl | true => (exfalso; obtain ⟨i1, i2, i3, i4, i5, i6, i7⟩ := hi.1 rfl; first | omega | (have j := i1 (by omega); simp_all; done) | (have j := he (i2 (by omega)); simp_all; done) | (have j := i2 (by omega); simp_all; done) | (have j := i3 (by omega); simp_all; done) | (have j := i4 (by omega); simp_all; done) | (have j := i5 (by omega); simp_all; done))), rfl⟩
     ·refine seq_pure (pure_bneq_s rfl rfl rfl) rfl rfl ?_
      refine seq_pure (pure_move rfl) rfl rfl ?_
      refine seq_pure (pure_move rfl) rfl rfl ?_
      refine seq_pure (pure_not_f rfl) rfl rfl ?_
      refine seq_pure (pure_move rfl) rfl rfl ?_
      refine seq_pure (pure_fieldAddr0 rfl) rfl rfl ?_
      refine seq_load (load_bs rfl rfl (by repeat (first | exact List.Mem.head _ | apply List.Mem.tail)) (by rfl)) rfl rfl ?_
      refine seq_bool (pure_sneq rfl rfl) rfl rfl (fun h743 => ?_) (fun h743 => ?_)
      ·refine seq_pure (pure_pick_t rfl rfl) rfl rfl ?_
       refine seq_pure (pure_pick_f rfl rfl) rfl rfl ?_
       refine seq_pure (pure_move rfl) rfl rfl ?_
       refine seq_skip rfl rfl ?_
       refine seq_skip rfl rfl ?_
       refine seq_skip rfl rfl ?_
       refine seq_skip rfl rfl ?_
       refine seq_skip rfl rfl ?_
       refine seq_skip rfl rfl ?_
       refine seq_skip rfl rfl ?_
       refine seq_pure (pure_pick_t rfl rfl) rfl rfl ?_
       refine seq_pure (pure_move rfl) rfl rfl ?_
       refine seq_skip rfl rfl ?_
       refine seq_skip rfl rfl ?_
       refine seq_skip rfl rfl ?_
       refine seq_skip rfl rfl ?_
       refine seq_skip rfl rfl ?_
       refine seq_skip rfl rfl ?_
       refine seq_skip rfl rfl ?_
       refine seq_skip rfl rfl ?_
       refine seq_pure (pure_pick_t rfl rfl) rfl rfl ?_
       refine seq_done ?_
       refine nrm_seq ?_
       refine tri_cond_t rfl ?_
       refine tri_seq ?_
       refine tri_region ?_
       refine seq_pure (pure_assign rfl) rfl rfl ?_
       refine seq_done ?_
       refine nrm_seq ?_
       refine tri_ret ?_
       refine ret_seq ?_
       refine ret_fin1 (res_tmp rfl) ?_
       exact ⟨rfl, by (cases R with | false => rfl | true => (exfalso; obtain ⟨i1, i2, i3, i4, i5, i6, i7⟩ := hi.1 rfl; first | omega | (have j := i1 (by omega); simp_all; done) | (have j := he (i2 (by omega)); simp_all; done) | (have j := i2 (by omega); simp_all; done) | (have j := i3 (by omega); simp_all; done) | (have j := i4 (by omega); simp_all; done) | (have j := i5 (by omega); simp_all; done))), rfl⟩
      ·refine seq_pure (pure_pick_t rfl rfl) rfl rfl ?_
       refine seq_pure (pure_pick_f rfl rfl) rfl rfl ?_
       refine seq_pure (pure_move rfl) rfl rfl ?_
       refine seq_pure (pure_move rfl) rfl rfl ?_
       refine seq_pure (pure_move rfl) rfl rfl ?_
       refine seq_pure (pure_fieldAddr0 rfl) rfl rfl ?_
       refine seq_load (load_ba rfl rfl (by repeat (first | exact List.Mem.head _ | apply List.Mem.tail)) (by rfl)) rfl rfl ?_
       refine seq_valb rfl (o3) rfl rfl (fun h784 => ?_) (fun h784 => ?_)
       ·refine seq_pure (pure_not_t rfl) rfl rfl ?_
        refine seq_pure (pure_pick_t rfl rfl) rfl rfl ?_
        refine seq_pure (pure_pick_f rfl rfl) rfl rfl ?_
        refine seq_pure (pure_move rfl) rfl rfl ?_
        refine seq_pure (pure_move rfl) rfl rfl ?_
        refine seq_pure (pure_not_t rfl) rfl rfl ?_
        refine seq_pure (pure_move rfl) rfl rfl ?_
        refine seq_skip rfl rfl ?_
        refine seq_skip rfl rfl ?_
        refine seq_skip rfl rfl ?_
        refine seq_skip rfl rfl ?_
        refine seq_pure (pure_pick_f rfl rfl) rfl rfl ?_
        refine seq_pure (pure_pick_f rfl rfl) rfl rfl ?_
        refine seq_done ?_
        refine nrm_seq ?_
        refine tri_cond_f rfl ?_
        refine tri_skip ?_
        refine nrm_seq ?_
        refine tri_seq ?_
        refine tri_seq ?_
        refine tri_region ?_
        refine seq_pure (pure_fieldAddr0 rfl) rfl rfl ?_
        refine seq_load (load_bs rfl rfl (by repeat (first | exact List.Mem.head _ | apply List.Mem.tail)) (by rfl)) rfl rfl ?_
        refine seq_pure (pure_neq_f rfl rfl (by omega)) rfl rfl ?_
        refine seq_pure (pure_move rfl) rfl rfl ?_
        refine seq_skip rfl rfl ?_
        refine seq_skip rfl rfl ?_
        refine seq_skip rfl rfl ?_
        refine seq_skip rfl rfl ?_
        refine seq_skip rfl rfl ?_
        refine seq_skip rfl rfl ?_
        refine seq_skip rfl rfl ?_
        refine seq_skip rfl rfl ?_
        refine seq_skip rfl rfl ?_
        refine seq_pure (pure_pick_f rfl rfl) rfl rfl ?_
        refine seq_done ?_
        refine nrm_seq ?_
        refine tri_cond_f rfl ?_
        refine tri_skip ?_
        refine nrm_seq ?_
        refine tri_seq ?_
        refine tri_seq ?_
        refine tri_region ?_
        refine seq_pure (pure_fieldAddr0 rfl) rfl rfl ?_
        refine seq_load (load_bs rfl rfl (by repeat (first | exact List.Mem.head _ | apply List.Mem.tail)) (by rfl)) rfl rfl ?_
        refine seq_pure (pure_eql_f rfl rfl (by omega)) rfl rfl ?_
        refine seq_done ?_
        refine nrm_seq ?_
        refine tri_cond_f rfl ?_
        refine tri_skip ?_
        refine nrm_seq ?_
        refine tri_seq ?_
        refine tri_region ?_
        refine seq_pure (pure_fieldAddr0 rfl) rfl rfl ?_
        refine seq_load (load_bs rfl rfl (by repeat (first | exact List.Mem.head _ | apply List.Mem.tail)) (by rfl)) rfl rfl ?_
        refine seq_bool (pure_eql rfl rfl) rfl rfl (fun h840 => ?_) (fun h840 => ?_)
        ·refine seq_pure (pure_assign rfl) rfl rfl ?_
         refine seq_done ?_
         refine nrm_seq ?_
         refine tri_ret ?_
         refine ret_fin1 (res_tmp rfl) ?_
         exact ⟨rfl, by rw [hi.2 ⟨fun _ => by (first | assumption | (exfalso; omega)), fun _ => by (first | assumption | (exfalso; omega) | exact Classical.not_not.1 (by assumption)), fun _ => by (first | assumption | (exfalso; omega)), fun _ => by (first | assumption | (exfalso; omega)), fun _ => ⟨by (first | assumption | (exfalso; omega)), by (first | assumption | omega)⟩, by omega, by omega⟩], rfl⟩
        ·refine seq_pure (pure_assign rfl) rfl rfl ?_
         refine seq_done ?_
         refine nrm_seq ?_
         refine tri_ret ?_
         refine ret_fin1 (res_tmp rfl) ?_
         exact ⟨rfl, by (cases R with | false => rfl | true => (exfalso; obtain ⟨i1, i2, i3, i4, i5, i6, i7⟩ := hi.1 rfl; first | omega | (have j := i1 (by omega); simp_all; done) | (have j := he (i2 (by omega)); simp_all; done) | (have j := i2 (by omega); simp_all; done) | (have j := i3 (by omega); simp_all; done) | (have j := i4 (by omega); simp_all; done) | (have j := i5 (by omega); simp_all; done))), rfl⟩
       ·refine seq_pure (pure_not_f rfl) rfl rfl ?_
        refine seq_pure (pure_pick_t rfl rfl) rfl rfl ?_
        refine seq_pure (pure_pick_f rfl rfl) rfl rfl ?_
        refine seq_pure (pure_move rfl) rfl rfl ?_
        refine seq_skip rfl rfl ?_
        refine seq_skip rfl rfl ?_
        refine seq_skip rfl rfl ?_
        refine seq_skip rfl rfl ?_
        refine seq_skip rfl rfl ?_
        refine seq_skip rfl rfl ?_
        refine seq_skip rfl rfl ?_
        refine seq_skip rfl rfl ?_
        refine seq_pure (pure_pick_t rfl rfl) rfl rfl ?_
        refine seq_done ?_
        refine nrm_seq ?_
        refine tri_cond_t rfl ?_
        refine tri_seq ?_
        refine tri_region ?_
        refine seq_pure (pure_assign rfl) rfl rfl ?_
        refine seq_done ?_
        refine nrm_seq ?_
        refine tri_ret ?_
        refine ret_seq ?_
        refine ret_fin1 (res_tmp rfl) ?_
        exact ⟨rfl, by (cases R with | false => rfl | true => (exfalso; obtain ⟨i1, i2, i3, i4, i5, i6, i7⟩ := hi.1 rfl; first | omega | (have j := i1 (by omega); simp_all; done) | (have j := he (i2 (by omega)); simp_all; done) | (have j := i2 (by omega); simp_all; done) | (have j := i3 (by omega); simp_all; done) | (have j := i4 (by omega); simp_all; done) | (have j := i5 (by omega); simp_all; done))), rfl⟩
    ·refine seq_pure (pure_pick_f rfl rfl) rfl rfl ?_
     refine seq_pure (pure_assign rfl) rfl rfl ?_
     refine seq_done ?_
     refine nrm_seq ?_
     refine tri_seq ?_
     refine tri_seq ?_
     refine tri_region ?_
     refine seq_pure (pure_move rfl) rfl rfl ?_
     refine seq_pure (pure_fieldAddr0 rfl) rfl rfl ?_
     refine seq_load (load_bs rfl rfl (by repeat (first | exact List.Mem.head _ | apply List.Mem.tail)) (by rfl)) rfl rfl ?_
     refine seq_valb rfl (o2) rfl rfl (fun h888 => ?_) (fun h888 => ?_)
     ·refine seq_pure (pure_bneq_ft rfl rfl rfl) rfl rfl ?_
      refine seq_pure (pure_move rfl) rfl rfl ?_
      refine seq_skip rfl rfl ?_
      refine seq_skip rfl rfl ?_
      refine seq_skip rfl rfl ?_
      refine seq_skip rfl rfl ?_
      refine seq_skip rfl rfl ?_
      refine seq_skip rfl rfl ?_
      refine seq_skip rfl rfl ?_
      refine seq_pure (pure_pick_t rfl rfl) rfl rfl ?_
      refine seq_pure (pure_move rfl) rfl rfl ?_
      refine seq_skip rfl rfl ?_
      refine seq_skip rfl rfl ?_
      refine seq_skip rfl rfl ?_
      refine seq_skip rfl rfl ?_
      refine seq_skip rfl rfl ?_
      refine seq_skip rfl rfl ?_
      refine seq_skip rfl rfl ?_
      refine seq_pure (pure_pick_t rfl rfl) rfl rfl ?_
      refine seq_pure (pure_move rfl) rfl rfl ?_
      refine seq_skip rfl rfl ?_
      refine seq_skip rfl rfl ?_
      refine seq_skip rfl rfl ?_
      refine seq_skip rfl rfl ?_
      refine seq_skip rfl rfl ?_
      refine seq_skip rfl rfl ?_
      refine seq_skip rfl rfl ?_
      refine seq_skip rfl rfl ?_
      refine seq_pure (pure_pick_t rfl rfl) rfl rfl ?_
      refine seq_done ?_
      refine nrm_seq ?_
      refine tri_cond_t rfl ?_
      refine tri_seq ?_
      refine tri_region ?_
      refine seq_pure (pure_assign rfl) rfl rfl ?_
      refine seq_done ?_
      refine nrm_seq ?_
      refine tri_ret ?_
      refine ret_seq ?_
      refine ret_fin1 (res_tmp rfl) ?_
      exact ⟨rfl, by (cases R with | false => rfl | true => (exfalso; obtain ⟨i1, i2, i3, i4, i5, i6, i7⟩ := hi.1 rfl; first | omega | (have j := i1 (by omega); simp_all; done) | (have j := he (i2 (by omega)); simp_all; done) | (have j := i2 (by omega); simp_all; done) | (have j := i3 (by omega); simp_all; done) | (have j := i4 (by omega); simp_all; done) | (have j := i5 (by omega); simp_all; done))), rfl⟩
     ·refine seq_pure (pure_bneq_s rfl rfl rfl) rfl rfl ?_
      refine seq_pure (pure_move rfl) rfl rfl ?_
      refine seq_pure (pure_move rfl) rfl rfl ?_
      refine seq_pure (pure_not_f rfl) rfl rfl ?_
      refine seq_pure (pure_move rfl) rfl rfl ?_
      refine seq_pure (pure_fieldAddr0 rfl) rfl rfl ?_
      refine seq_load (load_bs rfl rfl (by repeat (first | exact List.Mem.head _ | apply List.Mem.tail)) (by rfl)) rfl rfl ?_
      refine seq_bool (pure_sneq rfl rfl) rfl rfl (fun h937 => ?_) (fun h937 => ?_)
      ·refine seq_pure (pure_pick_t rfl rfl) rfl rfl ?_
       refine seq_pure (pure_pick_f rfl rfl) rfl rfl ?_
       refine seq_pure (pure_move rfl) rfl rfl ?_
       refine seq_skip rfl rfl ?_
       refine seq_skip rfl rfl ?_
       refine seq_skip rfl rfl ?_
       refine seq_skip rfl rfl ?_
       refine seq_skip rfl rfl ?_
       refine seq_skip rfl rfl ?_
       refine seq_skip rfl rfl ?_
       refine seq_pure (pure_pick_t rfl rfl) rfl rfl ?_
       refine seq_pure (pure_move rfl) rfl rfl ?_
       refine seq_skip rfl rfl ?_
       refine seq_skip rfl rfl ?_
       refine seq_skip rfl rfl ?_
       refine seq_skip rfl rfl ?_
       refine seq_skip rfl rfl ?_
       refine seq_skip rfl rfl ?_
       refine seq_skip rfl rfl ?_
       refine seq_skip rfl rfl ?_
       refine seq_pure (pure_pick_t rfl rfl) rfl rfl ?_
       refine seq_done ?_
       refine nrm_seq ?_
       refine tri_cond_t rfl ?_
       refine tri_seq ?_
       refine tri_region ?_
       refine seq_pure (pure_assign rfl) rfl rfl ?_
       refine seq_done ?_
       refine nrm_seq ?_
       refine tri_ret ?_
       refine ret_seq ?_
       refine ret_fin1 (res_tmp rfl) ?_
       exact ⟨rfl, by (cases R with | false => rfl | true => (exfalso; obtain ⟨i1, i2, i3, i4, i5, i6, i7⟩ := hi.1 rfl; first | omega | (have j := i1 (by omega); simp_all; done) | (have j := he (i2 (by omega)); simp_all; done) | (have j := i2 (by omega); simp_all; done) | (have j := i3 (by omega); simp_all; done) | (have j := i4 (by omega); simp_all; done) | (have j := i5 (by omega); simp_all; done))), rfl⟩
      ·refine seq_pure (pure_pick_t rfl rfl) rfl rfl ?_
       refine seq_pure (pure_pick_f rfl rfl) rfl rfl ?_
       refine seq_pure (pure_move rfl) rfl rfl ?_
       refine seq_pure (pure_move rfl) rfl rfl ?_
       refine seq_pure (pure_move rfl) rfl rfl ?_
       refine seq_skip rfl rfl ?_
       refine seq_skip rfl rfl ?_
       refine seq_skip rfl rfl ?_
       refine seq_skip rfl rfl ?_
       refine seq_pure (pure_pick_f rfl rfl) rfl rfl ?_
       refine seq_pure (pure_pick_f rfl rfl) rfl rfl ?_
       refine seq_pure (pure_move rfl) rfl rfl ?_
       refine seq_pure (pure_move rfl) rfl rfl ?_
       refine seq_pure (pure_not_f rfl) rfl rfl ?_
       refine seq_pure (pure_move rfl) rfl rfl ?_
       refine seq_pure (pure_fieldAddr0 rfl) rfl rfl ?_
       refine seq_load (load_ba rfl rfl (by repeat (first | exact List.Mem.head _ | apply List.Mem.tail)) (by rfl)) rfl rfl ?_
       refine seq_valb rfl (o4) rfl rfl (fun h988 => ?_) (fun h988 => ?_)
       ·refine seq_pure (pure_not_t rfl) rfl rfl ?_
        refine seq_pure (pure_pick_t rfl rfl) rfl rfl ?_
        refine seq_pure (pure_pick_f rfl rfl) rfl rfl ?_
        refine seq_done ?_
        refine nrm_seq ?_
        refine tri_cond_f rfl ?_
        refine tri_skip ?_
        refine nrm_seq ?_
        refine tri_seq ?_
        refine tri_seq ?_
        refine tri_region ?_
        refine seq_pure (pure_fieldAddr0 rfl) rfl rfl ?_
        refine seq_load (load_bs rfl rfl (by repeat (first | exact List.Mem.head _ | apply List.Mem.tail)) (by rfl)) rfl rfl ?_
        refine seq_pure (pure_neq_t rfl rfl (by omega)) rfl rfl ?_
        refine seq_pure (pure_move rfl) rfl rfl ?_
        refine seq_pure (pure_fieldAddr0 rfl) rfl rfl ?_
        refine seq_load (load_ba rfl rfl (by repeat (first | exact List.Mem.head _ | apply List.Mem.tail)) (by rfl)) rfl rfl ?_
        refine seq_valb rfl (o7) rfl rfl (fun h1006 => ?_) (fun h1006 => ?_)
        ·refine seq_pure (pure_not_t rfl) rfl rfl ?_
         refine seq_pure (pure_move rfl) rfl rfl ?_
         refine seq_pure (pure_fieldAddr0 rfl) rfl rfl ?_
         refine seq_load (load_bs rfl rfl (by repeat (first | exact List.Mem.head _ | apply List.Mem.tail)) (by rfl)) rfl rfl ?_
         refine seq_bool (pure_neq rfl rfl) rfl rfl (fun h1011 => ?_) (fun h1011 => ?_)
         ·refine seq_pure (pure_pick_f rfl rfl) rfl rfl ?_
          refine seq_pure (pure_pick_t rfl rfl) rfl rfl ?_
          refine seq_done ?_
          refine nrm_seq ?_
          refine tri_cond_t rfl ?_
          refine tri_seq ?_
          refine tri_region ?_
          refine seq_pure (pure_assign rfl) rfl rfl ?_
          refine seq_done ?_
          refine nrm_seq ?_
          refine tri_ret ?_
          refine ret_seq ?_
          refine ret_fin1 (res_tmp rfl) ?_
          exact ⟨rfl, by (cases R with | false => rfl | true => (exfalso; obtain ⟨i1, i2, i3, i4, i5, i6, i7⟩ := hi.1 rfl; first | omega | (have j := i1 (by omega); simp_all; done) | (have j := he (i2 (by omega)); simp_all; done) | (have j := i2 (by omega); simp_all; done) | (have j := i3 (by omega); simp_all; done) | (have j := i4 (by omega); simp_all; done) | (have j := i5 (by omega); simp_all; done))), rfl⟩
         ·refine seq_pure (pure_pick_f rfl rfl) rfl rfl ?_
          refine seq_pure (pure_pick_t rfl rfl) rfl rfl ?_
          refine seq_done ?_
          refine nrm_seq ?_
          refine tri_cond_f rfl ?_
          refine tri_skip ?_
          refine nrm_seq ?_
          refine tri_seq ?_
          refine tri_seq ?_
          refine tri_region ?_
          refine seq_pure (pure_fieldAddr0 rfl) rfl rfl ?_
          refine seq_load (load_bs rfl rfl (by repeat (first | exact List.Mem.head _ | apply List.Mem.tail)) (by rfl)) rfl rfl ?_
          refine seq_bool (pure_eql rfl rfl) rfl rfl (fun h1038 => ?_) (fun h1038 => ?_)
          ·refine seq_done ?_
           refine nrm_seq ?_
           refine tri_cond_t rfl ?_
           refine tri_seq ?_
           refine tri_region ?_
           refine seq_pure (pure_fieldAddr0 rfl) rfl rfl ?_
           refine seq_load (load_bs rfl rfl (by repeat (first | exact List.Mem.head _ | apply List.Mem.tail)) (by rfl)) rfl rfl ?_
           refine seq_bool (pure_geq rfl rfl) rfl rfl (fun h1046 => ?_) (fun h1046 => ?_)
           ·refine seq_pure (pure_move rfl) rfl rfl ?_
            refine seq_pure (pure_fieldAddr0 rfl) rfl rfl ?_
            refine seq_load (load_bs rfl rfl (by repeat (first | exact List.Mem.head _ | apply List.Mem.tail)) (by rfl)) rfl rfl ?_
            refine seq_bool (pure_leq rfl rfl) rfl rfl (fun h1050 => ?_) (fun h1050 => ?_)
            ·refine seq_pure (pure_pick_t rfl rfl) rfl rfl ?_
             refine seq_pure (pure_assign rfl) rfl rfl ?_
             refine seq_done ?_
             refine nrm_seq ?_
             refine tri_ret ?_
             refine ret_seq ?_
             refine ret_fin1 (res_tmp rfl) ?_
             exact ⟨rfl, by rw [hi.2 ⟨fun _ => by (first | assumption | (exfalso; omega)), fun _ => by (first | assumption | (exfalso; omega) | exact Classical.not_not.1 (by assumption)), fun _ => by (first | assumption | (exfalso; omega)), fun _ => by (first | assumption | (exfalso; omega)), fun _ => ⟨by (first | assumption | (exfalso; omega)), by (first | assumption | omega)⟩, by omega, by omega⟩], rfl⟩
            ·refine seq_pure (pure_pick_t rfl rfl) rfl rfl ?_
             refine seq_pure (pure_assign rfl) rfl rfl ?_
             refine seq_done ?_
             refine nrm_seq ?_
             refine tri_ret ?_
             refine ret_seq ?_
             refine ret_fin1 (res_tmp rfl) ?_
             exact ⟨rfl, by (cases R with | false => rfl | true => (exfalso; obtain ⟨i1, i2, i3, i4, i5, i6, i7⟩ := hi.1 rfl; first | omega | (have j := i1 (by omega); simp_all; done) | (have j := he (i2 (by omega)); simp_all; done) | (have j := i2 (by omega); simp_all; done) | (have j := i3 (by omega); simp_all; done) | (have j := i4 (by omega); simp_all; done) | (have j := i5 (by omega); simp_all; done))), rfl⟩
           ·refine seq_pure (pure_move rfl) rfl rfl ?_
            refine seq_skip rfl rfl ?_
            refine seq_skip rfl rfl ?_
            refine seq_skip rfl rfl ?_
            refine seq_pure (pure_pick_f rfl rfl) rfl rfl ?_
            refine seq_pure (pure_assign rfl) rfl rfl ?_
            refine seq_done ?_
            refine nrm_seq ?_
            refine tri_ret ?_
            refine ret_seq ?_
            refine ret_fin1 (res_tmp rfl) ?_
            exact ⟨rfl, by (cases R with | false => rfl | true => (exfalso; obtain ⟨i1, i2, i3, i4, i5, i6, i7⟩ := hi.1 rfl; first | omega | (have j := i1 (by omega); simp_all; done) | (have j := he (i2 (by omega)); simp_all; done) | (have j := i2 (by omega); simp_all; done) | (have j := i3 (by omega); simp_all; done) | (have j := i4 (by omega); simp_all; done) | (have j := i5 (by omega); simp_all; done))), rfl⟩
          ·refine seq_done ?_
           refine nrm_seq ?_
           refine tri_cond_f rfl ?_
           refine tri_skip ?_
           refine nrm_seq ?_
           refine tri_seq ?_
           refine tri_region ?_
           refine seq_pure (pure_fieldAddr0 rfl) rfl rfl ?_
           refine seq_load (load_bs rfl rfl (by repeat (first | exact List.Mem.head _ | apply List.Mem.tail)) (by rfl)) rfl rfl ?_
           refine seq_bool (pure_eql rfl rfl) rfl rfl (fun h1088 => ?_) (fun h1088 => ?_)
           ·refine seq_pure (pure_assign rfl) rfl rfl ?_
            refine seq_done ?_
            refine nrm_seq ?_
            refine tri_ret ?_
            refine ret_fin1 (res_tmp rfl) ?_
            exact ⟨rfl, by rw [hi.2 ⟨fun _ => by (first | assumption | (exfalso; omega)), fun _ => by (first | assumption | (exfalso; omega) | exact Classical.not_not.1 (by assumption)), fun _ => by (first | assumption | (exfalso; omega)), fun _ => by (first | assumption | (exfalso; omega)), fun _ => ⟨by (first | assumption | (exfalso; omega)), by (first | assumption | omega)⟩, by omega, by omega⟩], rfl⟩
           ·refine seq_pure (pure_assign rfl) rfl rfl ?_
            refine seq_done ?_
            refine nrm_seq ?_
            refine tri_ret ?_
            refine ret_fin1 (res_tmp rfl) ?_
            exact ⟨rfl, by (cases R with | false => rfl | true => (exfalso; obtain ⟨i1, i2, i3, i4, i5, i6, i7⟩ := hi.1 rfl; first | omega | (have j := i1 (by omega); simp_all; done) | (have j := he (i2 (by omega)); simp_all; done) | (have j := i2 (by omega); simp_all; done) | (have j := i3 (by omega); simp_all; done) | (have j := i4 (by omega); simp_all; done) | (have j := i5 (by omega); simp_all; done))), rfl⟩
        ·refine seq_pure (pure_not_f rfl) rfl rfl ?_
         refine seq_pure (pure_move rfl) rfl rfl ?_
         refine seq_skip rfl rfl ?_
         refine seq_skip rfl rfl ?_
         refine seq_skip rfl rfl ?_
         refine seq_pure (pure_pick_t rfl rfl) rfl rfl ?_
         refine seq_pure (pure_pick_t rfl rfl) rfl rfl ?_
         refine seq_done ?_
         refine nrm_seq ?_
         refine tri_cond_t rfl ?_
         refine tri_seq ?_
         refine tri_region ?_
         refine seq_pure (pure_assign rfl) rfl rfl ?_
         refine seq_done ?_
         refine nrm_seq ?_
         refine tri_ret ?_
         refine ret_seq ?_
         refine ret_fin1 (res_tmp rfl) ?_
         exact ⟨rfl, by (cases R with | false => rfl | true => (exfalso; obtain ⟨i1, i2, i3, i4, i5, i6, i7⟩ := hi.1 rfl; first | omega | (have j := i1 (by omega); simp_all; done) | (have j := he (i2 (by omega)); simp_all; done) | (have j := i2 (by omega); simp_all; done) | (have j := i3 (by omega); simp_all; done) | (have j := i4 (by omega); simp_all; done) | (have j := i5 (by omega); simp_all; done))), rfl⟩
       ·refine seq_pure (pure_not_f rfl) rfl rfl ?_
        refine seq_pure (pure_pick_t rfl rfl) rfl rfl ?_
        refine seq_pure (pure_pick_f rfl rfl) rfl rfl ?_
        refine seq_done ?_
        refine nrm_seq ?_
        refine tri_cond_t rfl ?_
        refine tri_seq ?_
        refine tri_region ?_
        refine seq_pure (pure_assign rfl) rfl rfl ?_
        refine seq_done ?_
        refine nrm_seq ?_
        refine tri_ret ?_
        refine ret_seq ?_
        refine ret_fin1 (res_tmp rfl) ?_
        exact ⟨rfl, by (cases R with | false => rfl | true => (exfalso; obtain ⟨i1, i2, i3, i4, i5, i6, i7⟩ := hi.1 rfl; first | omega | (have j := i1 (by omega); simp_all; done) | (have j := he (i2 (by omega)); simp_all; done) | (have j := i2 (by omega); simp_all; done) | (have j := i3 (by omega); simp_all; done) | (have j := i4 (by omega); simp_all; done) | (have j := i5 (by omega); simp_all; done))), rfl⟩
end Gw
end Go.Proofs.Yteneckdjdfnjoaa
