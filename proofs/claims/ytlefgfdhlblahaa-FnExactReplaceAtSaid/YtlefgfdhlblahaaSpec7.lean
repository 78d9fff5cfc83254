/-
  The reference model's paths.
-/
import Derived.Test.YtlefgfdhlblahaaSpec6
import Derived.Test.YtlefgfdhlblahaaApp
namespace Go.Proofs.Ytlefgfdhlblahaa
open Go Go.RowKit
namespace Gw
set_option maxHeartbeats 0 in
set_option maxRecDepth 100000 in
theorem l16Paths_fn : ∀ (t : Tm) (path : List Int) (G : IM) (cells : List Value) (pp : Option Addr) (pc : Nat) (pn : Option Addr) (m cn : Nat) (es0 : List Value), RTm G t cells → Sl G pp path.length pc 1 (ints path) → path.length + 2 * tmCount t + m ≤ 4294967296 →
    Fn Try.prog 49 [.slice pn m cn, .agg ⟨cells⟩, .slice pp path.length pc] [.slc pn cn 50 1 m es0] G
      (fun G' v outs => ∃ p' c' es F, v = .slice p' (m + tmCount t) c' ∧ outs = [.slc p' c' 50 1 (m + tmCount t) (es0 ++ es)] ∧ SPs (Dif G' G) (mPaths t path) es F ∧ F.Nodup) := by
  refine Tm.ind fun k nm num ty fr lb ks ih path G cells pp pc pn m cn es0 hr hpath hcnt => ?_
  have hone := hr.one
  obtain ⟨tk, tks⟩ := ty
  obtain ⟨fk, fks⟩ := fr
  obtain ⟨pt, ct, pf, cf, p, cp, es, rfl, hk, hnum, hlb, hty, hfr, hsl, hkl⟩ := hr.open9
  rw [tmCount] at hcnt
  have hn := len_le_count ks
  refine fn_enter Try.func49 rfl Try.ntmps49 Try.results49 rfl ?_
  intro w0
  refine tri_seq ?_
  refine tri_region ?_
  (refine seq_step (step_box_a rfl rfl) rfl ?_; rintro _ ⟨b3, rfl⟩)
  refine seq_pure (pure_assign rfl) rfl rfl ?_
  refine seq_done ?_
  refine nrm_seq ?_
  refine tri_seq ?_
  refine tri_region ?_
  refine seq_pure (pure_move rfl) rfl rfl ?_
  (refine seq_step (step_buildSlice rfl rfl rfl (by omega) (by unfold maxLen; omega) rfl) rfl ?_; rintro _ ⟨b10, rfl⟩)
  refine seq_pure (pure_move rfl) rfl rfl ?_
  (refine seq_appendSl rfl rfl rfl rfl rfl (fun _ _ => by repeat (first | exact Sw.here | apply Sw.there)) hpath (ints_one _) (Nat.zero_le _) (by unfold maxLen; omega) (by omega) rfl (fun p2 c2 => ?_); simp only [Nat.zero_add, List.nil_append]; refine triL_freeze (cs := ints path) (by repeat (first | exact Pk.here | apply Pk.there)) (fun G2 hle2 hsl2 hno2 => ?_); obtain ⟨hf1, hf2⟩ := SPs.first hsl2 hno2 hsl2.nn hle2)
  (refine seq_step (step_buildSlice rfl rfl rfl (by omega) (by unfold maxLen; omega) rfl) rfl ?_; rintro _ ⟨b13, rfl⟩)
  (refine seq_append rfl rfl rfl rfl rfl (fun _ _ => by repeat (first | exact Sw.here | apply Sw.there)) (at_slc_all (by repeat (first | exact List.Mem.head _ | apply List.Mem.tail))) rfl (by simp [Value.oneCell']) (by unfold maxLen; omega) (by omega) rfl (fun p3 c3 => ?_))
  refine seq_pure (pure_assign rfl) rfl rfl ?_
  refine seq_done ?_
  refine nrm_seq ?_
  refine tri_seq ?_
  refine tri_seq ?_
  refine tri_region ?_
  refine seq_pure (pure_assign rfl) rfl rfl ?_
  refine seq_done ?_
  refine nrm_seq ?_
  refine tri_block ?_
  (refine tri_loopN (fun (x : Nat × Option Addr × Nat × Nat × List Value × List Nat × IM) => ⟨[(7, .int .i64 x.1), (0, .slice x.2.1 (m + x.2.2.1) x.2.2.2.1), (4, .pointer (some ⟨b3, 0, none⟩)), (2, .slice pp path.length pc)], [.slc x.2.1 x.2.2.2.1 50 1 (m + x.2.2.1) (es0 ++ x.2.2.2.2.1), .blk b3 [.int .i64 k, .string nm, .int .i64 num, .int .i64 tk, .slice pt tks.length ct, .int .i64 fk, .slice pf fks.length cf, .int .i64 lb, .slice p ks.length cp]], x.2.2.2.2.2.2⟩) (fun x => x.1 ≤ ks.length ∧ x.2.2.1 = tmCountL (ks.take x.1) + 1 ∧ IMle G x.2.2.2.2.2.2 ∧ SPs (Dif x.2.2.2.2.2.2 G) (path :: mPathsL (ks.take x.1) 0 path) x.2.2.2.2.1 x.2.2.2.2.2.1 ∧ x.2.2.2.2.2.1.Nodup) (fun x => ks.length - x.1) (0, p3, 1, c3, [.slice p2 path.length c2], vfp p2, G2) ?_ ?_ ?_)
  · (simp only [flat_snoc]; exact sub_mk (by repeat (first | exact SubE.nil | refine SubE.cons rfl ?_)) (by repeat (first | exact SubH.refl | exact SubH.nil | refine SubH.cons (by repeat (first | exact Pk.here | apply Pk.there)) ?_ | apply SubH.drop)))
  · exact ⟨Nat.zero_le _, rfl, hle2, hf1, hf2⟩
  · (rintro ⟨i, pn', m', cn', es', F, Gi⟩ ⟨hi, hm, hleI, hst, hnd⟩; simp only [] at hi hm hleI hst hnd ⊢; replace hsl := hsl.mono hleI; replace hkl := hkl.mono hleI; replace hpath := hpath.mono hleI)
    refine tri_seq ?_
    refine tri_seq ?_
    refine tri_region ?_
    refine seq_pure (pure_move rfl) rfl rfl ?_
    refine seq_pure (pure_fieldAddr0 rfl) rfl rfl ?_
    refine seq_load (load_bs rfl rfl (by repeat (first | exact List.Mem.head _ | apply List.Mem.tail)) (by rfl)) rfl rfl ?_
    refine seq_pure (pure_len rfl rfl) rfl rfl ?_
    refine seq_bool (pure_lss rfl rfl) rfl rfl (fun h36 => ?_) (fun h36 => ?_)
    · refine seq_done ?_
      refine nrm_seq ?_
      refine tri_cond_t rfl ?_
      refine tri_skip ?_
      refine nrm_seq ?_
      refine tri_seq ?_
      refine tri_block ?_
      (obtain ⟨b, o, e, rfl, hl, hat, hre, hgb⟩ := hsl.kidTm hkl (i := i) (by omega) (by omega); have hone := hre.one; have htk := tmCountL_take (ks := ks) (i := i) (by omega); refine tri_draw mixed rfl ?_)
      refine any_pure (i := 0) (listed' := [true, false, false, false, false, false, false, false, false, false, false, false, false, false]) rfl (by repeat (first | exact np_ret | apply np_seq | apply np_block | apply np_loopN')) (pure_move rfl) rfl (by kernel_rfl) rfl rfl ?_
      refine any_pure (i := 1) (listed' := [true, true, false, false, false, false, false, false, false, false, false, false, false, false]) rfl (by repeat (first | exact np_ret | apply np_seq | apply np_block | apply np_loopN')) (pure_fieldAddr0 rfl) rfl (by kernel_rfl) rfl rfl ?_
      refine any_load (i := 2) (listed' := [true, true, true, false, false, false, false, false, false, false, false, false, false, false]) rfl (by repeat (first | exact np_ret | apply np_seq | apply np_block | apply np_loopN')) (load_bs rfl rfl (by repeat (first | exact List.Mem.head _ | apply List.Mem.tail)) (by rfl)) rfl (by kernel_rfl) rfl rfl ?_
      refine any_pure (i := 3) (listed' := [true, true, true, true, false, false, false, false, false, false, false, false, false, false]) rfl (by repeat (first | exact np_ret | apply np_seq | apply np_block | apply np_loopN')) (pure_move rfl) rfl (by kernel_rfl) rfl rfl ?_
      refine any_pure (i := 4) (listed' := [true, true, true, true, true, false, false, false, false, false, false, false, false, false]) rfl (by repeat (first | exact np_ret | apply np_seq | apply np_block | apply np_loopN')) (pure_indexAddrN rfl rfl rfl (by omega)) rfl (by kernel_rfl) rfl rfl ?_
      refine any_load (i := 5) (listed' := [true, true, true, true, true, true, false, false, false, false, false, false, false, false]) rfl (by repeat (first | exact np_ret | apply np_seq | apply np_block | apply np_loopN')) (load_a rfl rfl (hat _) hl) rfl (by kernel_rfl) rfl rfl ?_
      refine any_pure (i := 7) (listed' := [true, true, true, true, true, true, false, true, false, false, false, false, false, false]) rfl (by repeat (first | exact np_ret | apply np_seq | apply np_block | apply np_loopN')) (pure_move rfl) rfl (by kernel_rfl) rfl rfl ?_
      refine any_pure (i := 9) (listed' := [true, true, true, true, true, true, false, true, false, true, false, false, false, false]) rfl (by repeat (first | exact np_ret | apply np_seq | apply np_block | apply np_loopN')) (pure_move rfl) rfl (by kernel_rfl) rfl rfl ?_
      refine any_two (j := 6) (j' := 10) (by kernel_rfl) ?_ ?_
      · (refine one_step0 (listed' := [true, true, true, true, true, true, true, true, false, true, false, false, false, false]) rfl (step_buildSlice rfl rfl rfl (by omega) (by unfold maxLen; omega) rfl) rfl rfl ?_; rintro _ ⟨b54, rfl⟩)
        refine any_two (j := 8) (j' := 10) (by kernel_rfl) ?_ ?_
        · (refine one_appendSl (listed' := [true, true, true, true, true, true, true, true, true, true, false, false, false, false]) rfl rfl rfl rfl rfl rfl (fun _ _ => by repeat (first | exact Sw.here | apply Sw.there)) hpath (ints_one _) (Nat.zero_le _) (by unfold maxLen; omega) (by omega) rfl rfl (by repeat (first | exact HmOk.nil | apply HmOk.dep (by decide +kernel) | apply HmOk.im (by decide +kernel) hgb (by repeat (first | exact List.Mem.head _ | apply List.Mem.tail)) | apply HmOk.blk (by decide +kernel) (by repeat (first | exact Pk.here | apply Pk.there)) (by repeat (first | exact List.Mem.head _ | apply List.Mem.tail)))) (fun p4 c4 => ?_); simp only [Nat.zero_add, List.nil_append])
          refine any_one (j := 10) (by kernel_rfl) ?_
          (refine one_step0 (listed' := [true, true, true, true, true, true, true, true, true, true, true, false, false, false]) rfl (step_buildSlice rfl rfl rfl (by omega) (by unfold maxLen; omega) rfl) rfl rfl ?_; rintro _ ⟨b58, rfl⟩)
          refine any_one (j := 11) (by kernel_rfl) ?_
          (refine one_append (listed' := [true, true, true, true, true, true, true, true, true, true, true, true, false, false]) rfl rfl rfl rfl rfl rfl (fun _ _ => by repeat (first | exact Sw.here | apply Sw.there)) (at_slc_all (by repeat (first | exact List.Mem.head _ | apply List.Mem.tail))) rfl (by simp [Value.oneCell']) (by unfold maxLen; omega) (by omega) rfl rfl (by repeat (first | exact HmOk.nil | apply HmOk.dep (by decide +kernel) | apply HmOk.im (by decide +kernel) hgb (by repeat (first | exact List.Mem.head _ | apply List.Mem.tail)) | apply HmOk.blk (by decide +kernel) (by repeat (first | exact Pk.here | apply Pk.there)) (by repeat (first | exact List.Mem.head _ | apply List.Mem.tail)))) (fun p5 c5 => ?_))
          (refine any_freeze (cs := ints path ++ [.int .i64 (i : Int)]) (by repeat (first | exact Pk.here | apply Pk.there)) (fun Gf hle61 hslf hnof => ?_); rw [← ints_snoc] at hslf; replace hre := hre.mono hle61; have hlef := hle61)
          replace hkl := hkl.mono hle61
          replace hpath := hpath.mono hle61
          replace hsl := hsl.mono hle61
          refine any_one (j := 12) (by kernel_rfl) ?_
          (have hih := ih ks[i] (List.getElem_mem (by omega)) (path ++ [(i : Int)]) Gf e p5 c5 pn' (m + m') cn' (es0 ++ es') hre; rw [show (path ++ [(i : Int)]).length = path.length + 1 from by simp] at hih; replace hih := hih hslf (by omega); refine one_take (listed' := [true, true, true, true, true, true, true, true, true, true, true, true, true, false]) rfl rfl hih (Pk.perm (by repeat (first | exact Pk.here | apply Pk.there))) rfl rfl rfl (by repeat (first | exact HmOk.nil | apply HmOk.dep (by decide +kernel))) (fun v G1 outs hle1 hh => ?_); obtain ⟨p6, c6, es6, F6, rfl, rfl, hsp6, hnd6⟩ := hh; rw [show m + m' + tmCount ks[i] = m + (m' + tmCount ks[i]) from Nat.add_assoc _ _ _, List.append_assoc es0])
          refine any_pure (i := 13) (listed' := [true, true, true, true, true, true, true, true, true, true, true, true, true, true]) rfl (by repeat (first | exact np_ret | apply np_seq | apply np_block | apply np_loopN')) (pure_assign rfl) rfl (by kernel_rfl) rfl rfl ?_
          refine any_done (by kernel_rfl) ?_
          refine nrm_block ?_
          refine nrm_seq ?_
          refine tri_region ?_
          refine seq_pure (pure_move rfl) rfl rfl ?_
          refine seq_pure (pure_add rfl rfl (by omega) (by omega)) rfl rfl ?_
          refine seq_pure (pure_assign rfl) rfl rfl ?_
          refine seq_done ?_
          (obtain ⟨q1, q2⟩ := SPs.step hst hnd hleI hlef hle1 hsp6 hnd6; have hsu := tmCountL_succ (ks := ks) (i := i) (by omega); refine nrm_loopN (i + 1, p6, m' + tmCount ks[i], c6, es' ++ es6, F ++ F6, G1) ?_ ?_ ?_)
          · (simp only [flat_snoc]; exact sub_mk (by repeat (first | exact SubE.nil | refine SubE.cons rfl ?_)) (by repeat (first | exact SubH.refl | exact SubH.nil | refine SubH.cons (by repeat (first | exact Pk.here | apply Pk.there)) ?_ | apply SubH.drop)))
          · (dsimp only; exact ⟨by omega, by omega, (hleI.trans hlef).trans hle1, by rw [mPathsL_take (by omega)]; exact q1, q2⟩)
          · (show ks.length - (i + 1) < ks.length - i; omega)
        · (refine one_step0 (listed' := [true, true, true, true, true, true, true, true, false, true, true, false, false, false]) rfl (step_buildSlice rfl rfl rfl (by omega) (by unfold maxLen; omega) rfl) rfl rfl ?_; rintro _ ⟨b77, rfl⟩)
          refine any_one (j := 8) (by kernel_rfl) ?_
          (refine one_appendSl (listed' := [true, true, true, true, true, true, true, true, true, true, true, false, false, false]) rfl rfl rfl rfl rfl rfl (fun _ _ => by repeat (first | exact Sw.here | apply Sw.there)) hpath (ints_one _) (Nat.zero_le _) (by unfold maxLen; omega) (by omega) rfl rfl (by repeat (first | exact HmOk.nil | apply HmOk.dep (by decide +kernel) | apply HmOk.im (by decide +kernel) hgb (by repeat (first | exact List.Mem.head _ | apply List.Mem.tail)) | apply HmOk.blk (by decide +kernel) (by repeat (first | exact Pk.here | apply Pk.there)) (by repeat (first | exact List.Mem.head _ | apply List.Mem.tail)))) (fun p4 c4 => ?_); simp only [Nat.zero_add, List.nil_append])
          refine any_one (j := 11) (by kernel_rfl) ?_
          (refine one_append (listed' := [true, true, true, true, true, true, true, true, true, true, true, true, false, false]) rfl rfl rfl rfl rfl rfl (fun _ _ => by repeat (first | exact Sw.here | apply Sw.there)) (at_slc_all (by repeat (first | exact List.Mem.head _ | apply List.Mem.tail))) rfl (by simp [Value.oneCell']) (by unfold maxLen; omega) (by omega) rfl rfl (by repeat (first | exact HmOk.nil | apply HmOk.dep (by decide +kernel) | apply HmOk.im (by decide +kernel) hgb (by repeat (first | exact List.Mem.head _ | apply List.Mem.tail)) | apply HmOk.blk (by decide +kernel) (by repeat (first | exact Pk.here | apply Pk.there)) (by repeat (first | exact List.Mem.head _ | apply List.Mem.tail)))) (fun p5 c5 => ?_))
          (refine any_freeze (cs := ints path ++ [.int .i64 (i : Int)]) (by repeat (first | exact Pk.here | apply Pk.there)) (fun Gf hle82 hslf hnof => ?_); rw [← ints_snoc] at hslf; replace hre := hre.mono hle82; have hlef := hle82)
          replace hkl := hkl.mono hle82
          replace hpath := hpath.mono hle82
          replace hsl := hsl.mono hle82
          refine any_one (j := 12) (by kernel_rfl) ?_
          (have hih := ih ks[i] (List.getElem_mem (by omega)) (path ++ [(i : Int)]) Gf e p5 c5 pn' (m + m') cn' (es0 ++ es') hre; rw [show (path ++ [(i : Int)]).length = path.length + 1 from by simp] at hih; replace hih := hih hslf (by omega); refine one_take (listed' := [true, true, true, true, true, true, true, true, true, true, true, true, true, false]) rfl rfl hih (Pk.perm (by repeat (first | exact Pk.here | apply Pk.there))) rfl rfl rfl (by repeat (first | exact HmOk.nil | apply HmOk.dep (by decide +kernel))) (fun v G1 outs hle1 hh => ?_); obtain ⟨p6, c6, es6, F6, rfl, rfl, hsp6, hnd6⟩ := hh; rw [show m + m' + tmCount ks[i] = m + (m' + tmCount ks[i]) from Nat.add_assoc _ _ _, List.append_assoc es0])
          refine any_pure (i := 13) (listed' := [true, true, true, true, true, true, true, true, true, true, true, true, true, true]) rfl (by repeat (first | exact np_ret | apply np_seq | apply np_block | apply np_loopN')) (pure_assign rfl) rfl (by kernel_rfl) rfl rfl ?_
          refine any_done (by kernel_rfl) ?_
          refine nrm_block ?_
          refine nrm_seq ?_
          refine tri_region ?_
          refine seq_pure (pure_move rfl) rfl rfl ?_
          refine seq_pure (pure_add rfl rfl (by omega) (by omega)) rfl rfl ?_
          refine seq_pure (pure_assign rfl) rfl rfl ?_
          refine seq_done ?_
          (obtain ⟨q1, q2⟩ := SPs.step hst hnd hleI hlef hle1 hsp6 hnd6; have hsu := tmCountL_succ (ks := ks) (i := i) (by omega); refine nrm_loopN (i + 1, p6, m' + tmCount ks[i], c6, es' ++ es6, F ++ F6, G1) ?_ ?_ ?_)
          · (simp only [flat_snoc]; exact sub_mk (by repeat (first | exact SubE.nil | refine SubE.cons rfl ?_)) (by repeat (first | exact SubH.refl | exact SubH.nil | refine SubH.cons (by repeat (first | exact Pk.here | apply Pk.there)) ?_ | apply SubH.drop)))
          · (dsimp only; exact ⟨by omega, by omega, (hleI.trans hlef).trans hle1, by rw [mPathsL_take (by omega)]; exact q1, q2⟩)
          · (show ks.length - (i + 1) < ks.length - i; omega)
      · (refine one_step0 (listed' := [true, true, true, true, true, true, false, true, false, true, true, false, false, false]) rfl (step_buildSlice rfl rfl rfl (by omega) (by unfold maxLen; omega) rfl) rfl rfl ?_; rintro _ ⟨b98, rfl⟩)
        refine any_one (j := 6) (by kernel_rfl) ?_
        (refine one_step0 (listed' := [true, true, true, true, true, true, true, true, false, true, true, false, false, false]) rfl (step_buildSlice rfl rfl rfl (by omega) (by unfold maxLen; omega) rfl) rfl rfl ?_; rintro _ ⟨b100, rfl⟩)
        refine any_one (j := 8) (by kernel_rfl) ?_
        (refine one_appendSl (listed' := [true, true, true, true, true, true, true, true, true, true, true, false, false, false]) rfl rfl rfl rfl rfl rfl (fun _ _ => by repeat (first | exact Sw.here | apply Sw.there)) hpath (ints_one _) (Nat.zero_le _) (by unfold maxLen; omega) (by omega) rfl rfl (by repeat (first | exact HmOk.nil | apply HmOk.dep (by decide +kernel) | apply HmOk.im (by decide +kernel) hgb (by repeat (first | exact List.Mem.head _ | apply List.Mem.tail)) | apply HmOk.blk (by decide +kernel) (by repeat (first | exact Pk.here | apply Pk.there)) (by repeat (first | exact List.Mem.head _ | apply List.Mem.tail)))) (fun p4 c4 => ?_); simp only [Nat.zero_add, List.nil_append])
        refine any_one (j := 11) (by kernel_rfl) ?_
        (refine one_append (listed' := [true, true, true, true, true, true, true, true, true, true, true, true, false, false]) rfl rfl rfl rfl rfl rfl (fun _ _ => by repeat (first | exact Sw.here | apply Sw.there)) (at_slc_all (by repeat (first | exact List.Mem.head _ | apply List.Mem.tail))) rfl (by simp [Value.oneCell']) (by unfold maxLen; omega) (by omega) rfl rfl (by repeat (first | exact HmOk.nil | apply HmOk.dep (by decide +kernel) | apply HmOk.im (by decide +kernel) hgb (by repeat (first | exact List.Mem.head _ | apply List.Mem.tail)) | apply HmOk.blk (by decide +kernel) (by repeat (first | exact Pk.here | apply Pk.there)) (by repeat (first | exact List.Mem.head _ | apply List.Mem.tail)))) (fun p5 c5 => ?_))
        (refine any_freeze (cs := ints path ++ [.int .i64 (i : Int)]) (by repeat (first | exact Pk.here | apply Pk.there)) (fun Gf hle105 hslf hnof => ?_); rw [← ints_snoc] at hslf; replace hre := hre.mono hle105; have hlef := hle105)
        replace hkl := hkl.mono hle105
        replace hpath := hpath.mono hle105
        replace hsl := hsl.mono hle105
        refine any_one (j := 12) (by kernel_rfl) ?_
        (have hih := ih ks[i] (List.getElem_mem (by omega)) (path ++ [(i : Int)]) Gf e p5 c5 pn' (m + m') cn' (es0 ++ es') hre; rw [show (path ++ [(i : Int)]).length = path.length + 1 from by simp] at hih; replace hih := hih hslf (by omega); refine one_take (listed' := [true, true, true, true, true, true, true, true, true, true, true, true, true, false]) rfl rfl hih (Pk.perm (by repeat (first | exact Pk.here | apply Pk.there))) rfl rfl rfl (by repeat (first | exact HmOk.nil | apply HmOk.dep (by decide +kernel))) (fun v G1 outs hle1 hh => ?_); obtain ⟨p6, c6, es6, F6, rfl, rfl, hsp6, hnd6⟩ := hh; rw [show m + m' + tmCount ks[i] = m + (m' + tmCount ks[i]) from Nat.add_assoc _ _ _, List.append_assoc es0])
        refine any_pure (i := 13) (listed' := [true, true, true, true, true, true, true, true, true, true, true, true, true, true]) rfl (by repeat (first | exact np_ret | apply np_seq | apply np_block | apply np_loopN')) (pure_assign rfl) rfl (by kernel_rfl) rfl rfl ?_
        refine any_done (by kernel_rfl) ?_
        refine nrm_block ?_
        refine nrm_seq ?_
        refine tri_region ?_
        refine seq_pure (pure_move rfl) rfl rfl ?_
        refine seq_pure (pure_add rfl rfl (by omega) (by omega)) rfl rfl ?_
        refine seq_pure (pure_assign rfl) rfl rfl ?_
        refine seq_done ?_
        (obtain ⟨q1, q2⟩ := SPs.step hst hnd hleI hlef hle1 hsp6 hnd6; have hsu := tmCountL_succ (ks := ks) (i := i) (by omega); refine nrm_loopN (i + 1, p6, m' + tmCount ks[i], c6, es' ++ es6, F ++ F6, G1) ?_ ?_ ?_)
        · (simp only [flat_snoc]; exact sub_mk (by repeat (first | exact SubE.nil | refine SubE.cons rfl ?_)) (by repeat (first | exact SubH.refl | exact SubH.nil | refine SubH.cons (by repeat (first | exact Pk.here | apply Pk.there)) ?_ | apply SubH.drop)))
        · (dsimp only; exact ⟨by omega, by omega, (hleI.trans hlef).trans hle1, by rw [mPathsL_take (by omega)]; exact q1, q2⟩)
        · (show ks.length - (i + 1) < ks.length - i; omega)
    · refine seq_done ?_
      refine nrm_seq ?_
      refine tri_cond_f rfl ?_
      refine tri_exit ?_
      refine ext_seq ?_
      refine ext_loopN ?_
      refine ext_block_eq ?_
      refine nrm_seq ?_
      refine tri_seq ?_
      refine tri_region ?_
      refine seq_pure (pure_move rfl) rfl rfl ?_
      refine seq_pure (pure_assign rfl) rfl rfl ?_
      refine seq_done ?_
      refine nrm_seq ?_
      refine tri_ret ?_
      (obtain rfl : i = ks.length := (by omega); refine ret_own1 (res_tmp rfl) (SubH.cons Pk.here SubH.nil) ?_)
      (rw [List.take_length] at hst hm; subst hm; rw [tmCount, mPaths]; exact ⟨pn', cn', es', F, rfl, rfl, hst, hnd⟩)
end Gw
end Go.Proofs.Ytlefgfdhlblahaa
