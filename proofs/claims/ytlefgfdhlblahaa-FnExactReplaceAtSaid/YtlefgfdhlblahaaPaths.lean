/-
  slices.Clone of numbers, paths, AllPaths.
-/
import Derived.Test.YtlefgfdhlblahaaPRep
namespace Go.Proofs.Ytlefgfdhlblahaa
open Go Go.RowKit
namespace Gw
set_option maxRecDepth 100000 in
theorem clone_int (G : IM) (p : Option Addr) (n c : Nat) (cells : List Value) (h : Sl G p n c 1 cells) (ho : ∀ u ∈ cells, u.oneCell' = true) (hn : n ≤ 4294967296) :
    Fn Try.prog 80 [.slice p n c] [] G (fun G' v outs => G' = G ∧ ∃ p' c', v = .slice p' n c' ∧ outs = [.slc p' c' 3 1 n cells]) := by
  have hp := h.nn
  obtain ⟨hl, hc, hm, hat⟩ := h
  refine fn_enter Try.func80 rfl Try.ntmps80 Try.results80 rfl ?_
  intro w0
  cases p with
  | none =>
    obtain rfl := hp rfl
    obtain rfl : cells = [] := List.length_eq_zero_iff.1 (by omega)
    refine tri_nil 3 1 ?_
    refine tri_seq ?_
    refine tri_region ?_
    refine seq_pure (pure_assign rfl) rfl rfl ?_
    refine seq_done ?_
    refine nrm_seq ?_
    refine tri_seq ?_
    refine tri_seq ?_
    refine tri_region ?_
    refine seq_pure (pure_move rfl) rfl rfl ?_
    refine seq_pure (pure_slnil_t rfl rfl rfl) rfl rfl ?_
    refine seq_done ?_
    refine nrm_seq ?_
    refine tri_cond_t rfl ?_
    refine tri_seq ?_
    refine tri_region ?_
    refine seq_pure (pure_assign rfl) rfl rfl ?_
    refine seq_done ?_
    refine nrm_seq ?_
    refine tri_ret ?_
    refine ret_seq ?_
    refine ret_own1 (res_tmp rfl) SubH.refl ?_
    exact ⟨rfl, _, _, rfl, rfl⟩
  | some a =>
    rcases Nat.eq_zero_or_pos n with rfl | hn0
    · obtain rfl : cells = [] := List.length_eq_zero_iff.1 (by omega)
      refine tri_seq ?_
      refine tri_region ?_
      refine seq_pure (pure_assign rfl) rfl rfl ?_
      refine seq_done ?_
      refine nrm_seq ?_
      refine tri_seq ?_
      refine tri_seq ?_
      refine tri_region ?_
      refine seq_pure (pure_move rfl) rfl rfl ?_
      refine seq_pure (pure_slnil_f rfl rfl rfl) rfl rfl ?_
      refine seq_done ?_
      refine nrm_seq ?_
      refine tri_cond_f rfl ?_
      refine tri_skip ?_
      refine nrm_seq ?_
      refine tri_seq ?_
      refine tri_region ?_
      (refine seq_step (step_buildSlice rfl rfl rfl (by omega) (by unfold maxLen; omega) rfl) rfl ?_; rintro _ ⟨b18, rfl⟩)
      refine seq_pure (pure_move rfl) rfl rfl ?_
      refine seq_pure (pure_append0 rfl rfl rfl (Nat.le_refl _)) rfl rfl ?_
      refine seq_pure (pure_assign rfl) rfl rfl ?_
      refine seq_done ?_
      refine nrm_seq ?_
      refine tri_ret ?_
      refine ret_own1 (res_tmp rfl) SubH.refl ?_
      exact ⟨rfl, _, _, rfl, rfl⟩
    · obtain ⟨b, o, full, he, hg, hv⟩ := hat.resolve_left (by omega)
      obtain rfl := Option.some.inj he
      refine tri_seq ?_
      refine tri_region ?_
      refine seq_pure (pure_assign rfl) rfl rfl ?_
      refine seq_done ?_
      refine nrm_seq ?_
      refine tri_seq ?_
      refine tri_seq ?_
      refine tri_region ?_
      refine seq_pure (pure_move rfl) rfl rfl ?_
      refine seq_pure (pure_slnil_f rfl rfl rfl) rfl rfl ?_
      refine seq_done ?_
      refine nrm_seq ?_
      refine tri_cond_f rfl ?_
      refine tri_skip ?_
      refine nrm_seq ?_
      refine tri_seq ?_
      refine tri_region ?_
      (refine seq_step (step_buildSlice rfl rfl rfl (by omega) (by unfold maxLen; omega) rfl) rfl ?_; rintro _ ⟨b18, rfl⟩)
      refine seq_pure (pure_move rfl) rfl rfl ?_
      refine seq_append rfl rfl rfl rfl rfl (fun _ _ => by repeat (first | exact Sw.here | apply Sw.there)) (at_im hg hv) (by omega) ho (by unfold maxLen; omega) (by omega) rfl (fun pn cn => ?_)
      refine seq_pure (pure_assign rfl) rfl rfl ?_
      refine seq_done ?_
      refine nrm_seq ?_
      refine tri_ret ?_
      refine ret_own1 (res_tmp rfl) SubH.refl ?_
      exact ⟨rfl, _, _, by rw [Nat.zero_add], by rw [Nat.zero_add]; rfl⟩
set_option maxHeartbeats 0 in
set_option maxRecDepth 100000 in
theorem paths_fn : ∀ (t : Tm) (path : List Int) (G : IM) (cells : List Value) (pp : Option Addr) (pc : Nat), RTm G t cells → Sl G pp path.length pc 1 (ints path) → path.length + tmCount t ≤ 4294967296 →
    Fn Try.prog 45 [.agg ⟨cells⟩, .slice pp path.length pc] [] G (Imm fun G' v => ∃ p c, v = .slice p (mPaths t path).length c ∧ RPs (Dif G' G) (mPaths t path) p c) := by
  refine Tm.ind fun k nm num ty fr lb ks ih path G cells pp pc hr hpath hcnt => ?_
  have hone := hr.one
  obtain ⟨tk, tks⟩ := ty
  obtain ⟨fk, fks⟩ := fr
  obtain ⟨pt, ct, pf, cf, p, cp, es, rfl, hk, hnum, hlb, hty, hfr, hsl, hkl⟩ := hr.open9
  rw [tmCount] at hcnt
  have hn := len_le_count ks
  refine fn_enter Try.func45 rfl Try.ntmps45 Try.results45 rfl ?_
  intro w0
  refine tri_seq ?_
  refine tri_region ?_
  (refine seq_step (step_box_a rfl rfl) rfl ?_; rintro _ ⟨b3, rfl⟩)
  refine seq_pure (pure_assign rfl) rfl rfl ?_
  refine seq_done ?_
  refine nrm_seq ?_
  refine tri_seq ?_
  refine tri_region ?_
  refine seq_pure (pure_move rfl) rfl rfl ?_
  (refine seq_own rfl (clone_int _ _ _ _ _ hpath (ints_one _) (by omega)) rfl rfl (fun v10 G10 outs10 hle10 h10 => ?_); obtain ⟨hG, p1, c1, rfl, rfl⟩ := h10; replace hG := hG.symm; subst hG)
  replace hpath := hpath.mono hle10
  replace hr := hr.mono hle10
  replace hty := hty.mono hle10
  replace hfr := hfr.mono hle10
  replace hsl := hsl.mono hle10
  replace hkl := hkl.mono hle10
  (refine triL_freeze (cs := ints path) (by repeat (first | exact Pk.here | apply Pk.there)) (fun G2 hle2 hsl2 hno2 => ?_); obtain ⟨hf1, hf2⟩ := SPs.first hsl2 hno2 hsl2.nn hle2; refine seq_step (step_buildSlice rfl rfl rfl (by omega) (by unfold maxLen; omega) rfl) rfl ?_; rintro _ ⟨b11, rfl⟩)
  refine seq_pure (pure_assign rfl) rfl rfl ?_
  refine seq_done ?_
  refine nrm_seq ?_
  refine tri_seq ?_
  refine tri_seq ?_
  refine tri_region ?_
  refine seq_pure (pure_fieldAddr0 rfl) rfl rfl ?_
  refine seq_load (load_bs rfl rfl (by repeat (first | exact List.Mem.head _ | apply List.Mem.tail)) (by rfl)) rfl rfl ?_
  refine seq_pure (pure_len rfl rfl) rfl rfl ?_
  refine seq_pure (pure_move rfl) rfl rfl ?_
  refine seq_done ?_
  refine nrm_seq ?_
  refine tri_block ?_
  (refine tri_loopN (fun (x : Nat × Option Addr × Nat × Nat × List Value × List Nat × IM) => ⟨[(14, .int .i64 x.1), (13, .int .i64 ks.length), (12, .slice p ks.length cp), (5, .slice x.2.1 x.2.2.1 x.2.2.2.1), (1, .slice pp path.length pc)], [.slc x.2.1 x.2.2.2.1 50 1 x.2.2.1 x.2.2.2.2.1], x.2.2.2.2.2.2⟩) (fun x => x.1 ≤ ks.length ∧ x.2.2.1 = tmCountL (ks.take x.1) + 1 ∧ IMle G x.2.2.2.2.2.2 ∧ SPs (Dif x.2.2.2.2.2.2 G) (path :: mPathsL (ks.take x.1) 0 path) x.2.2.2.2.1 x.2.2.2.2.2.1 ∧ x.2.2.2.2.2.1.Nodup) (fun x => ks.length - x.1) (0, some ⟨b11, 0, none⟩, 1, 1, [.slice p1 path.length c1], vfp p1, G2) ?_ ?_ ?_)
  · (simp only [flat_snoc]; exact sub_mk (by repeat (first | exact SubE.nil | refine SubE.cons rfl ?_)) (by repeat (first | exact SubH.refl | exact SubH.nil | refine SubH.cons (by repeat (first | exact Pk.here | apply Pk.there)) ?_ | apply SubH.drop)))
  · exact ⟨Nat.zero_le _, rfl, hle2, hf1, hf2⟩
  · (rintro ⟨i, pn, m, cn, es', F, Gi⟩ ⟨hi, hm, hleI, hst, hnd⟩; simp only [] at hi hm hleI hst hnd ⊢; replace hsl := hsl.mono hleI; replace hkl := hkl.mono hleI; replace hpath := hpath.mono hleI)
    refine tri_seq ?_
    refine tri_region ?_
    refine seq_bool (pure_lss rfl rfl) rfl rfl (fun h31 => ?_) (fun h31 => ?_)
    · refine seq_done ?_
      refine nrm_seq ?_
      refine tri_seq ?_
      refine tri_cond_t rfl ?_
      refine tri_skip ?_
      refine nrm_seq ?_
      refine tri_seq ?_
      refine tri_block ?_
      refine tri_seq ?_
      refine tri_region ?_
      refine seq_pure (pure_move rfl) rfl rfl ?_
      (obtain ⟨b, o, e, rfl, hl, hat, hre, hgb⟩ := hsl.kidTm hkl (i := i) (by omega) (by omega); have hone := hre.one; have htk := tmCountL_take (ks := ks) (i := i) (by omega); refine seq_pure (pure_indexAddrN rfl rfl rfl (by omega)) rfl rfl ?_)
      refine seq_load (load_a rfl rfl (hat _) hl) rfl rfl ?_
      (refine seq_step (step_alloc rfl) rfl ?_; rintro _ ⟨b45, rfl⟩)
      refine seq_pure (pure_assign rfl) rfl rfl ?_
      refine seq_store rfl rfl rfl (by assumption) (by assumption) rfl (by repeat (first | exact Sw.here | apply Sw.there)) (by exact upd_all (by symm; assumption)) ?_
      refine seq_done ?_
      refine nrm_seq ?_
      refine tri_draw mixed rfl ?_
      refine any_pure (i := 0) (listed' := [true, false, false, false, false, false, false, false, false, false]) rfl (by repeat (first | exact np_ret | apply np_seq | apply np_block | apply np_loopN')) (pure_move rfl) rfl (by kernel_rfl) rfl rfl ?_
      refine any_load (i := 1) (listed' := [true, true, false, false, false, false, false, false, false, false]) rfl (by repeat (first | exact np_ret | apply np_seq | apply np_block | apply np_loopN')) (load_a rfl rfl (at_blk_all (by repeat (first | exact List.Mem.head _ | apply List.Mem.tail))) (by assumption)) rfl (by kernel_rfl) rfl rfl ?_
      refine any_pure (i := 2) (listed' := [true, true, true, false, false, false, false, false, false, false]) rfl (by repeat (first | exact np_ret | apply np_seq | apply np_block | apply np_loopN')) (pure_move rfl) rfl (by kernel_rfl) rfl rfl ?_
      refine any_pure (i := 4) (listed' := [true, true, true, false, true, false, false, false, false, false]) rfl (by repeat (first | exact np_ret | apply np_seq | apply np_block | apply np_loopN')) (pure_move rfl) rfl (by kernel_rfl) rfl rfl ?_
      refine any_two (j := 3) (j' := 5) (by kernel_rfl) ?_ ?_
      · (refine one_own (listed' := [true, true, true, true, true, false, false, false, false, false]) rfl rfl (clone_int _ _ _ _ _ hpath (ints_one _) (by omega)) rfl rfl rfl (fun v56 G56 outs56 hle56 h56 => ?_); obtain ⟨hG, p1, c1, rfl, rfl⟩ := h56; replace hG := hG.symm; subst hG)
        replace hkl := hkl.mono hle56
        replace hpath := hpath.mono hle56
        replace hsl := hsl.mono hle56
        replace hre := hre.mono hle56
        refine any_one (j := 5) (by kernel_rfl) ?_
        (refine one_step0 (listed' := [true, true, true, true, true, true, false, false, false, false]) rfl (step_buildSlice rfl rfl rfl (by omega) (by unfold maxLen; omega) rfl) rfl rfl ?_; rintro _ ⟨b58, rfl⟩)
        refine any_one (j := 6) (by kernel_rfl) ?_
        (refine one_append (listed' := [true, true, true, true, true, true, true, false, false, false]) rfl rfl rfl rfl rfl rfl (fun _ _ => by repeat (first | exact Sw.here | apply Sw.there)) (at_slc_all (by repeat (first | exact List.Mem.head _ | apply List.Mem.tail))) rfl (by simp [Value.oneCell']) (by unfold maxLen; omega) (by omega) rfl rfl (by repeat (first | exact HmOk.nil | apply HmOk.dep (by decide +kernel) | apply HmOk.blk (by decide +kernel) (by repeat (first | exact Pk.here | apply Pk.there)) (by repeat (first | exact List.Mem.head _ | apply List.Mem.tail)))) (fun p4 c4 => ?_))
        (refine any_freeze (cs := ints path ++ [.int .i64 (i : Int)]) (by repeat (first | exact Pk.here | apply Pk.there)) (fun Gf hle61 hslf hnof => ?_); rw [← ints_snoc] at hslf; replace hre := hre.mono hle61; have hlef := hle61)
        replace hkl := hkl.mono hle61
        replace hpath := hpath.mono hle61
        replace hsl := hsl.mono hle61
        refine any_one (j := 7) (by kernel_rfl) ?_
        (have hih := ih ks[i] (List.getElem_mem (by omega)) (path ++ [(i : Int)]) Gf e p4 c4 hre; rw [show (path ++ [(i : Int)]).length = path.length + 1 from by simp] at hih; replace hih := hih hslf (by omega); refine one_imm (listed' := [true, true, true, true, true, true, true, true, false, false]) rfl rfl hih rfl rfl rfl (fun v G1 hle1 hh => ?_); obtain ⟨p5, c5, rfl, es5, F5, hsl5, hnb5, hsp5, hnd5⟩ := hh; have hm5 := mPaths_len ks[i] (path ++ [(i : Int)]); have hpos := tmCount_pos ks[i]; obtain ⟨hl5, hc5, hx5, hat5⟩ := hsl5; obtain ⟨b5, o5, full5, rfl, hg5, hv5⟩ := hat5.resolve_left (by omega))
        refine any_one (j := 8) (by kernel_rfl) ?_
        (refine one_append (listed' := [true, true, true, true, true, true, true, true, true, false]) rfl rfl rfl rfl rfl rfl (fun _ _ => by repeat (first | exact Sw.here | apply Sw.there)) (at_im (Dif.le _ _ _ _ hg5) hv5) hl5 hsp5.one (by unfold maxLen; omega) (by omega) rfl rfl (by repeat (first | exact HmOk.nil | apply HmOk.dep (by decide +kernel) | apply HmOk.blk (by decide +kernel) (by repeat (first | exact Pk.here | apply Pk.there)) (by repeat (first | exact List.Mem.head _ | apply List.Mem.tail)))) (fun p6 c6 => ?_))
        refine any_pure (i := 9) (listed' := [true, true, true, true, true, true, true, true, true, true]) rfl (by repeat (first | exact np_ret | apply np_seq | apply np_block | apply np_loopN')) (pure_assign rfl) rfl (by kernel_rfl) rfl rfl ?_
        refine any_done (by kernel_rfl) ?_
        refine nrm_block ?_
        refine nrm_seq ?_
        refine tri_region ?_
        refine seq_pure (pure_add rfl rfl (by omega) (by omega)) rfl rfl ?_
        refine seq_pure (pure_move rfl) rfl rfl ?_
        refine seq_done ?_
        (obtain ⟨q1, q2⟩ := SPs.step hst hnd hleI hlef hle1 hsp5 (List.nodup_append.1 hnd5).2.1; have hsu := tmCountL_succ (ks := ks) (i := i) (by omega); refine nrm_loopN (i + 1, p6, m + (mPaths ks[i] (path ++ [(i : Int)])).length, c6, es' ++ es5, F ++ F5, G1) ?_ ?_ ?_)
        · (simp only [flat_snoc]; exact sub_mk (by repeat (first | exact SubE.nil | refine SubE.cons rfl ?_)) (by repeat (first | exact SubH.refl | exact SubH.nil | refine SubH.cons (by repeat (first | exact Pk.here | apply Pk.there)) ?_ | apply SubH.drop)))
        · (dsimp only; exact ⟨by omega, by omega, (hleI.trans hlef).trans hle1, by rw [mPathsL_take (by omega)]; exact q1, q2⟩)
        · (show ks.length - (i + 1) < ks.length - i; omega)
      · (refine one_step0 (listed' := [true, true, true, false, true, true, false, false, false, false]) rfl (step_buildSlice rfl rfl rfl (by omega) (by unfold maxLen; omega) rfl) rfl rfl ?_; rintro _ ⟨b78, rfl⟩)
        refine any_one (j := 3) (by kernel_rfl) ?_
        (refine one_own (listed' := [true, true, true, true, true, true, false, false, false, false]) rfl rfl (clone_int _ _ _ _ _ hpath (ints_one _) (by omega)) rfl rfl rfl (fun v80 G80 outs80 hle80 h80 => ?_); obtain ⟨hG, p1, c1, rfl, rfl⟩ := h80; replace hG := hG.symm; subst hG)
        replace hkl := hkl.mono hle80
        replace hpath := hpath.mono hle80
        replace hsl := hsl.mono hle80
        replace hre := hre.mono hle80
        refine any_one (j := 6) (by kernel_rfl) ?_
        (refine one_append (listed' := [true, true, true, true, true, true, true, false, false, false]) rfl rfl rfl rfl rfl rfl (fun _ _ => by repeat (first | exact Sw.here | apply Sw.there)) (at_slc_all (by repeat (first | exact List.Mem.head _ | apply List.Mem.tail))) rfl (by simp [Value.oneCell']) (by unfold maxLen; omega) (by omega) rfl rfl (by repeat (first | exact HmOk.nil | apply HmOk.dep (by decide +kernel) | apply HmOk.blk (by decide +kernel) (by repeat (first | exact Pk.here | apply Pk.there)) (by repeat (first | exact List.Mem.head _ | apply List.Mem.tail)))) (fun p4 c4 => ?_))
        (refine any_freeze (cs := ints path ++ [.int .i64 (i : Int)]) (by repeat (first | exact Pk.here | apply Pk.there)) (fun Gf hle83 hslf hnof => ?_); rw [← ints_snoc] at hslf; replace hre := hre.mono hle83; have hlef := hle83)
        replace hkl := hkl.mono hle83
        replace hpath := hpath.mono hle83
        replace hsl := hsl.mono hle83
        refine any_one (j := 7) (by kernel_rfl) ?_
        (have hih := ih ks[i] (List.getElem_mem (by omega)) (path ++ [(i : Int)]) Gf e p4 c4 hre; rw [show (path ++ [(i : Int)]).length = path.length + 1 from by simp] at hih; replace hih := hih hslf (by omega); refine one_imm (listed' := [true, true, true, true, true, true, true, true, false, false]) rfl rfl hih rfl rfl rfl (fun v G1 hle1 hh => ?_); obtain ⟨p5, c5, rfl, es5, F5, hsl5, hnb5, hsp5, hnd5⟩ := hh; have hm5 := mPaths_len ks[i] (path ++ [(i : Int)]); have hpos := tmCount_pos ks[i]; obtain ⟨hl5, hc5, hx5, hat5⟩ := hsl5; obtain ⟨b5, o5, full5, rfl, hg5, hv5⟩ := hat5.resolve_left (by omega))
        refine any_one (j := 8) (by kernel_rfl) ?_
        (refine one_append (listed' := [true, true, true, true, true, true, true, true, true, false]) rfl rfl rfl rfl rfl rfl (fun _ _ => by repeat (first | exact Sw.here | apply Sw.there)) (at_im (Dif.le _ _ _ _ hg5) hv5) hl5 hsp5.one (by unfold maxLen; omega) (by omega) rfl rfl (by repeat (first | exact HmOk.nil | apply HmOk.dep (by decide +kernel) | apply HmOk.blk (by decide +kernel) (by repeat (first | exact Pk.here | apply Pk.there)) (by repeat (first | exact List.Mem.head _ | apply List.Mem.tail)))) (fun p6 c6 => ?_))
        refine any_pure (i := 9) (listed' := [true, true, true, true, true, true, true, true, true, true]) rfl (by repeat (first | exact np_ret | apply np_seq | apply np_block | apply np_loopN')) (pure_assign rfl) rfl (by kernel_rfl) rfl rfl ?_
        refine any_done (by kernel_rfl) ?_
        refine nrm_block ?_
        refine nrm_seq ?_
        refine tri_region ?_
        refine seq_pure (pure_add rfl rfl (by omega) (by omega)) rfl rfl ?_
        refine seq_pure (pure_move rfl) rfl rfl ?_
        refine seq_done ?_
        (obtain ⟨q1, q2⟩ := SPs.step hst hnd hleI hlef hle1 hsp5 (List.nodup_append.1 hnd5).2.1; have hsu := tmCountL_succ (ks := ks) (i := i) (by omega); refine nrm_loopN (i + 1, p6, m + (mPaths ks[i] (path ++ [(i : Int)])).length, c6, es' ++ es5, F ++ F5, G1) ?_ ?_ ?_)
        · (simp only [flat_snoc]; exact sub_mk (by repeat (first | exact SubE.nil | refine SubE.cons rfl ?_)) (by repeat (first | exact SubH.refl | exact SubH.nil | refine SubH.cons (by repeat (first | exact Pk.here | apply Pk.there)) ?_ | apply SubH.drop)))
        · (dsimp only; exact ⟨by omega, by omega, (hleI.trans hlef).trans hle1, by rw [mPathsL_take (by omega)]; exact q1, q2⟩)
        · (show ks.length - (i + 1) < ks.length - i; omega)
    · refine seq_done ?_
      refine nrm_seq ?_
      refine tri_seq ?_
      refine tri_cond_f rfl ?_
      refine tri_exit ?_
      refine ext_seq ?_
      refine ext_loopN ?_
      refine ext_block_eq ?_
      refine nrm_seq ?_
      refine tri_seq ?_
      refine tri_region ?_
      refine seq_pure (pure_move rfl) rfl rfl ?_
      refine seq_pure (pure_assign rfl) rfl rfl ?_
      refine seq_done ?_
      refine nrm_seq ?_
      (refine ret_freeze (by repeat (first | exact Pk.here | apply Pk.there)) (fun G3 hle3 hsl3 hno3 => ?_); obtain rfl : i = ks.length := by omega)
      refine tri_ret ?_
      refine ret_fin1 (res_tmp rfl) ?_
      (rw [List.take_length] at hst hm; have hfin := RPs.fin hst hnd hleI hle3 hsl3 (by rw [List.length_cons, mPathsL_len, hm]) hno3; exact ⟨rfl, pn, cn, by rw [mPaths_len, tmCount, hm], by rw [mPaths]; exact hfin⟩)
end Gw
end Go.Proofs.Ytlefgfdhlblahaa
