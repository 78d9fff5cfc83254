/-
  AllPaths.
-/
import Derived.Test.YtlefgfdhlblahaaScan
import Derived.Test.YtlefgfdhlblahaaPaths
namespace Go.Proofs.Ytlefgfdhlblahaa
open Go Go.RowKit
namespace Gw
set_option maxRecDepth 100000 in
theorem allPaths_fn (t : Tm) (G : IM) (cells : List Value) (hr : RTm G t cells) :
    Fn Try.prog 14 [.agg ⟨cells⟩] [] G (Imm fun G' v => ∃ p c, v = .slice p (mAll t).length c ∧ RPs (Dif G' G) (mAll t) p c) := by
  have hl := hr.len
  have hv := castValid_fn t G cells hr
  have hcnt := @castValid_count t
  refine fn_enter Try.func14 rfl Try.ntmps14 Try.results14 rfl ?_
  intro w0
  refine tri_seq ?_
  refine tri_region ?_
  (refine seq_step (step_box_a rfl rfl) rfl ?_; rintro _ ⟨b3, rfl⟩)
  refine seq_pure (pure_assign rfl) rfl rfl ?_
  refine seq_done ?_
  refine nrm_seq ?_
  refine tri_seq ?_
  refine tri_seq ?_
  refine tri_region ?_
  refine seq_load (load_a rfl rfl (at_blk_all (by repeat (first | exact List.Mem.head _ | apply List.Mem.tail))) (by assumption)) rfl rfl ?_
  refine seq_valb rfl (hv) rfl rfl (fun h11 => ?_) (fun h11 => ?_)
  · refine seq_pure (pure_not_t rfl) rfl rfl ?_
    refine seq_done ?_
    refine nrm_seq ?_
    refine tri_cond_f rfl ?_
    refine tri_skip ?_
    refine nrm_seq ?_
    refine tri_seq ?_
    refine tri_region ?_
    refine seq_load (load_a rfl rfl (at_blk_all (by repeat (first | exact List.Mem.head _ | apply List.Mem.tail))) (by assumption)) rfl rfl ?_
    (have hp := paths_fn t [] G cells none 0 hr (Sl.nil G 1) (by have := hcnt (by assumption); simp; omega); refine seq_imm rfl hp rfl rfl (fun v21 G21 hle21 hh => ?_); obtain ⟨p1, c1, rfl, hrp⟩ := hh)
    replace hr := hr.mono hle21
    refine seq_pure (pure_assign rfl) rfl rfl ?_
    refine seq_done ?_
    refine nrm_seq ?_
    refine tri_ret ?_
    refine ret_fin1 (res_tmp rfl) ?_
    (have hm : mAll t = mPaths t [] := if_pos (by assumption); rw [hm]; exact ⟨rfl, _, _, rfl, hrp⟩)
  · refine seq_pure (pure_not_f rfl) rfl rfl ?_
    refine seq_done ?_
    refine nrm_seq ?_
    refine tri_cond_t rfl ?_
    refine tri_seq ?_
    refine tri_region ?_
    refine seq_pure (pure_assign rfl) rfl rfl ?_
    refine seq_done ?_
    refine nrm_seq ?_
    refine tri_ret ?_
    refine ret_seq ?_
    refine ret_fin1 (res_tmp rfl) ?_
    (have hm : mAll t = [] := if_neg (by simp [*]); rw [hm]; exact ⟨rfl, _, _, rfl, RPs.nil _⟩)
end Gw
end Go.Proofs.Ytlefgfdhlblahaa
