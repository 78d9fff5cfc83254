/-
  The tests of terms.
-/
import Derived.Test.YtlefgfdhlblahaaTypeScan
namespace Go.Proofs.Ytlefgfdhlblahaa
open Go Go.RowKit
namespace Gw
set_option maxRecDepth 100000 in
theorem operands_fn (k : Int) (G : IM) (hk : I64 k) : Fn Try.prog 108 [.int .i64 k] [] G (Val (.int .i64 (tmOps k)) G) := by
  unfold I64 at hk
  refine fn_enter Try.func108 rfl Try.ntmps108 Try.results108 rfl ?_
  intro w0
  refine tri_seq ?_
  refine tri_region ?_
  refine seq_pure (pure_assign rfl) rfl rfl ?_
  refine seq_done ?_
  refine nrm_seq ?_
  refine tri_seq ?_
  refine tri_seq ?_
  refine tri_region ?_
  refine seq_pure (pure_move rfl) rfl rfl ?_
  refine seq_valb rfl (within_fn _ _ _ _) rfl rfl (fun h10 => ?_) (fun h10 => ?_)
  · refine seq_pure (pure_not_t rfl) rfl rfl ?_
    refine seq_done ?_
    refine nrm_seq ?_
    refine tri_cond_f rfl ?_
    refine tri_skip ?_
    refine nrm_seq ?_
    refine tri_seq ?_
    refine tri_region ?_
    (refine seq_step (step_buildSlice rfl rfl rfl (by omega) (by unfold maxLen; omega) rfl) rfl ?_; rintro _ ⟨b19, rfl⟩)
    refine seq_pure (pure_move rfl) rfl rfl ?_
    (have hkk : 1 ≤ k ∧ k ≤ 14 := withinB_t (by assumption); refine seq_pure (pure_sub rfl rfl (by omega) (by omega)) rfl rfl ?_)
    refine seq_pure (pure_indexAddr rfl rfl rfl (by omega) (by omega)) rfl rfl ?_
    refine seq_load (load_s rfl rfl (at_slc (by repeat (first | exact List.Mem.head _ | apply List.Mem.tail)) (one_at (by rw [Nat.zero_add, Nat.mul_one]; exact tmOps_tab hkk)))) rfl rfl ?_
    refine seq_pure (pure_assign rfl) rfl rfl ?_
    refine seq_done ?_
    refine nrm_seq ?_
    refine tri_ret ?_
    refine ret_fin1 (res_tmp rfl) ?_
    exact ⟨rfl, rfl, rfl⟩
  · refine seq_pure (pure_not_f rfl) rfl rfl ?_
    refine seq_done ?_
    refine nrm_seq ?_
    refine tri_cond_t rfl ?_
    refine tri_seq ?_
    refine tri_region ?_
    refine seq_pure (pure_assign rfl) rfl rfl ?_
    refine seq_done ?_
    refine nrm_seq ?_
    refine tri_ret ?_
    refine ret_seq ?_
    refine ret_fin1 (res_tmp rfl) ?_
    exact ⟨rfl, by rw [tmOps_no (withinB_f (by assumption))], rfl⟩
set_option maxHeartbeats 0 in
set_option maxRecDepth 100000 in
theorem nodeOk_fn (k : Int) (nm : ByteArray) (num : Int) (ty fr : Ty) (lb : Int) (ks : List Tm) (G : IM) (cells : List Value) (hr : RTm G (.mk k nm num ty fr lb ks) cells) :
    Fn Try.prog 79 [.agg ⟨cells⟩] [] G (Val (.bool (tmNode k nm num ty fr lb ks.length)) G) := by
  obtain ⟨tk, tks⟩ := ty
  obtain ⟨fk, fks⟩ := fr
  obtain ⟨pt, ct, pf, cf, p, c, es, rfl, hk, hnum, hlb, hty, hfr, hsl, hkl⟩ := hr.open9
  have hi := @tmNode_iff k nm num (.mk tk tks) (.mk fk fks) lb ks.length
  obtain ⟨R, hR⟩ : ∃ R, tmNode k nm num (.mk tk tks) (.mk fk fks) lb ks.length = R := ⟨_, rfl⟩
  rw [hR] at hi ⊢
  clear hR hr
  have o1 := operands_fn k G hk
  have o2 := isName_fn nm G
  have o3 := typeValid_fn _ G _ hty
  have o4 := isNoType_fn _ G _ hty
  have o5 := consistentT_fn _ _ G _ _ hfr hty
  have o6 := isLabel_fn lb G
  have o7 := isNoType_fn _ G _ hfr
  refine fn_enter Try.func79 rfl Try.ntmps79 Try.results79 rfl ?_
  intro w0
  refine tri_seq ?_
  refine tri_region ?_
  (refine seq_step (step_box_a rfl rfl) rfl ?_; rintro _ ⟨b3, rfl⟩)
  refine seq_pure (pure_assign rfl) rfl rfl ?_
  refine seq_done ?_
  refine nrm_seq ?_
  refine tri_seq ?_
  refine tri_seq ?_
  refine tri_draw mixed rfl ?_
  refine any_pure (i := 0) (listed' := [true, false, false, false, false, false, false]) rfl (by repeat (first | exact np_ret | apply np_seq | apply np_block | apply np_loopN')) (pure_fieldAddr0 rfl) rfl (by kernel_rfl) rfl rfl ?_
  refine any_load (i := 1) (listed' := [true, true, false, false, false, false, false]) rfl (by repeat (first | exact np_ret | apply np_seq | apply np_block | apply np_loopN')) (load_bs rfl rfl (by repeat (first | exact List.Mem.head _ | apply List.Mem.tail)) (by rfl)) rfl (by kernel_rfl) rfl rfl ?_
  refine any_pure (i := 3) (listed' := [true, true, false, true, false, false, false]) rfl (by repeat (first | exact np_ret | apply np_seq | apply np_block | apply np_loopN')) (pure_fieldAddr0 rfl) rfl (by kernel_rfl) rfl rfl ?_
  refine any_load (i := 4) (listed' := [true, true, false, true, true, false, false]) rfl (by repeat (first | exact np_ret | apply np_seq | apply np_block | apply np_loopN')) (load_bs rfl rfl (by repeat (first | exact List.Mem.head _ | apply List.Mem.tail)) (by rfl)) rfl (by kernel_rfl) rfl rfl ?_
  refine any_pure (i := 5) (listed' := [true, true, false, true, true, true, false]) rfl (by repeat (first | exact np_ret | apply np_seq | apply np_block | apply np_loopN')) (pure_len rfl rfl) rfl (by kernel_rfl) rfl rfl ?_
  refine any_one (j := 2) (by kernel_rfl) ?_
  refine one_val (listed' := [true, true, true, true, true, true, false]) rfl rfl (o1) rfl rfl rfl ?_
  refine any_bool (i := 6) (listed' := [true, true, true, true, true, true, true]) rfl (by repeat (first | exact np_ret | apply np_seq | apply np_block | apply np_loopN')) (pure_neq rfl rfl) rfl (by kernel_rfl) rfl rfl (fun h17 => ?_) (fun h17 => ?_)
  · refine any_done (by kernel_rfl) ?_
    refine nrm_seq ?_
    refine tri_cond_t rfl ?_
    refine tri_seq ?_
    refine tri_region ?_
    refine seq_pure (pure_assign rfl) rfl rfl ?_
    refine seq_done ?_
    refine nrm_seq ?_
    refine tri_ret ?_
    refine ret_seq ?_
    refine ret_fin1 (res_tmp rfl) ?_
    exact ⟨rfl, by (cases R with | false => rfl | true => (exfalso; obtain ⟨i1, i2, i3, i4, i5, i6, i7, i8, i9⟩ := hi.1 rfl; first | omega | (have j := i2 (by omega); simp_all; done) | (have j := i3 (by omega); simp_all; done) | (have j := i4 (by omega); simp_all; done) | (have j := i5 (by omega); simp_all; done) | (have j := i6 (by omega); simp_all; done) | (have j := i7 (by omega); simp_all; done) | (have j := i8 (by omega); simp_all; done) | (have j := i9 (by omega); simp_all; done))), rfl⟩
  · refine any_done (by kernel_rfl) ?_
    refine nrm_seq ?_
    refine tri_cond_f rfl ?_
    refine tri_skip ?_
    refine nrm_seq ?_
    refine tri_seq ?_
    refine tri_region ?_
    refine seq_pure (pure_fieldAddr0 rfl) rfl rfl ?_
    refine seq_load (load_bs rfl rfl (by repeat (first | exact List.Mem.head _ | apply List.Mem.tail)) (by rfl)) rfl rfl ?_
    refine seq_bool (pure_eql rfl rfl) rfl rfl (fun h39 => ?_) (fun h39 => ?_)
    · refine seq_pure (pure_move rfl) rfl rfl ?_
      refine seq_skip rfl rfl ?_
      refine seq_skip rfl rfl ?_
      refine seq_skip rfl rfl ?_
      refine seq_pure (pure_pick_t rfl rfl) rfl rfl ?_
      refine seq_pure (pure_assign rfl) rfl rfl ?_
      refine seq_done ?_
      refine nrm_seq ?_
      refine tri_seq ?_
      refine tri_region ?_
      refine seq_pure (pure_fieldAddr0 rfl) rfl rfl ?_
      refine seq_load (load_bs rfl rfl (by repeat (first | exact List.Mem.head _ | apply List.Mem.tail)) (by rfl)) rfl rfl ?_
      refine seq_pure (pure_eql_f rfl rfl (by omega)) rfl rfl ?_
      refine seq_pure (pure_move rfl) rfl rfl ?_
      refine seq_pure (pure_fieldAddr0 rfl) rfl rfl ?_
      refine seq_load (load_bs rfl rfl (by repeat (first | exact List.Mem.head _ | apply List.Mem.tail)) (by rfl)) rfl rfl ?_
      refine seq_pure (pure_eql_f rfl rfl (by omega)) rfl rfl ?_
      refine seq_pure (pure_pick_f rfl rfl) rfl rfl ?_
      refine seq_pure (pure_move rfl) rfl rfl ?_
      refine seq_pure (pure_fieldAddr0 rfl) rfl rfl ?_
      refine seq_load (load_bs rfl rfl (by repeat (first | exact List.Mem.head _ | apply List.Mem.tail)) (by rfl)) rfl rfl ?_
      refine seq_pure (pure_eql_f rfl rfl (by omega)) rfl rfl ?_
      refine seq_pure (pure_pick_f rfl rfl) rfl rfl ?_
      refine seq_pure (pure_assign rfl) rfl rfl ?_
      refine seq_done ?_
      refine nrm_seq ?_
      refine tri_seq ?_
      refine tri_region ?_
      refine seq_pure (pure_fieldAddr0 rfl) rfl rfl ?_
      refine seq_load (load_bs rfl rfl (by repeat (first | exact List.Mem.head _ | apply List.Mem.tail)) (by rfl)) rfl rfl ?_
      refine seq_pure (pure_eql_f rfl rfl (by omega)) rfl rfl ?_
      refine seq_pure (pure_assign rfl) rfl rfl ?_
      refine seq_done ?_
      refine nrm_seq ?_
      refine tri_seq ?_
      refine tri_region ?_
      refine seq_pure (pure_assign rfl) rfl rfl ?_
      refine seq_done ?_
      refine nrm_seq ?_
      refine tri_seq ?_
      refine tri_seq ?_
      refine tri_region ?_
      refine seq_pure (pure_fieldAddr0 rfl) rfl rfl ?_
      refine seq_load (load_bs rfl rfl (by repeat (first | exact List.Mem.head _ | apply List.Mem.tail)) (by rfl)) rfl rfl ?_
      refine seq_pure (pure_eql_f rfl rfl (by omega)) rfl rfl ?_
      refine seq_done ?_
      refine nrm_seq ?_
      refine tri_cond_f rfl ?_
      refine tri_skip ?_
      refine nrm_seq ?_
      refine tri_seq ?_
      refine tri_block ?_
      refine tri_seq ?_
      refine tri_seq ?_
      refine tri_region ?_
      refine seq_pure (pure_move rfl) rfl rfl ?_
      refine seq_pure (pure_move rfl) rfl rfl ?_
      refine seq_pure (pure_fieldAddr0 rfl) rfl rfl ?_
      refine seq_load (load_bs rfl rfl (by repeat (first | exact List.Mem.head _ | apply List.Mem.tail)) (by rfl)) rfl rfl ?_
      refine seq_valb rfl (o2) rfl rfl (fun h99 => ?_) (fun h99 => ?_)
      · refine seq_pure (pure_not_t rfl) rfl rfl ?_
        refine seq_pure (pure_pick_t rfl rfl) rfl rfl ?_
        refine seq_pure (pure_assign rfl) rfl rfl ?_
        refine seq_done ?_
        refine nrm_seq ?_
        refine tri_cond_f rfl ?_
        refine tri_seq ?_
        refine tri_region ?_
        refine seq_pure (pure_move rfl) rfl rfl ?_
        refine seq_pure (pure_not_t rfl) rfl rfl ?_
        refine seq_pure (pure_move rfl) rfl rfl ?_
        refine seq_skip rfl rfl ?_
        refine seq_skip rfl rfl ?_
        refine seq_skip rfl rfl ?_
        refine seq_pure (pure_pick_f rfl rfl) rfl rfl ?_
        refine seq_pure (pure_assign rfl) rfl rfl ?_
        refine seq_done ?_
        refine nrm_seq ?_
        refine tri_cond_f rfl ?_
        refine tri_region ?_
        refine seq_pure (pure_fieldAddr0 rfl) rfl rfl ?_
        refine seq_load (load_bs rfl rfl (by repeat (first | exact List.Mem.head _ | apply List.Mem.tail)) (by rfl)) rfl rfl ?_
        refine seq_pure (pure_move rfl) rfl rfl ?_
        refine seq_valb rfl (within_fn _ _ _ _) rfl rfl (fun h123 => ?_) (fun h123 => ?_)
        · refine seq_pure (pure_not_t rfl) rfl rfl ?_
          refine seq_pure (pure_assign rfl) rfl rfl ?_
          refine seq_done ?_
          refine nrm_seq ?_
          refine tri_cond_f rfl ?_
          refine tri_seq ?_
          refine tri_seq ?_
          refine tri_region ?_
          refine seq_pure (pure_move rfl) rfl rfl ?_
          refine seq_pure (pure_move rfl) rfl rfl ?_
          refine seq_skip rfl rfl ?_
          refine seq_skip rfl rfl ?_
          refine seq_skip rfl rfl ?_
          refine seq_skip rfl rfl ?_
          refine seq_pure (pure_pick_f rfl rfl) rfl rfl ?_
          refine seq_pure (pure_assign rfl) rfl rfl ?_
          refine seq_done ?_
          refine nrm_seq ?_
          refine tri_cond_f rfl ?_
          refine tri_region ?_
          refine seq_pure (pure_move rfl) rfl rfl ?_
          refine seq_pure (pure_not_f rfl) rfl rfl ?_
          refine seq_pure (pure_move rfl) rfl rfl ?_
          refine seq_pure (pure_fieldAddr0 rfl) rfl rfl ?_
          refine seq_load (load_ba rfl rfl (by repeat (first | exact List.Mem.head _ | apply List.Mem.tail)) (by rfl)) rfl rfl ?_
          refine seq_valb rfl (o4) rfl rfl (fun h149 => ?_) (fun h149 => ?_)
          · refine seq_pure (pure_not_t rfl) rfl rfl ?_
            refine seq_pure (pure_pick_t rfl rfl) rfl rfl ?_
            refine seq_pure (pure_assign rfl) rfl rfl ?_
            refine seq_done ?_
            refine nrm_seq ?_
            refine tri_cond_f rfl ?_
            refine tri_seq ?_
            refine tri_seq ?_
            refine tri_region ?_
            refine seq_pure (pure_move rfl) rfl rfl ?_
            refine seq_pure (pure_move rfl) rfl rfl ?_
            refine seq_skip rfl rfl ?_
            refine seq_skip rfl rfl ?_
            refine seq_skip rfl rfl ?_
            refine seq_skip rfl rfl ?_
            refine seq_skip rfl rfl ?_
            refine seq_skip rfl rfl ?_
            refine seq_skip rfl rfl ?_
            refine seq_skip rfl rfl ?_
            refine seq_skip rfl rfl ?_
            refine seq_skip rfl rfl ?_
            refine seq_skip rfl rfl ?_
            refine seq_skip rfl rfl ?_
            refine seq_pure (pure_pick_f rfl rfl) rfl rfl ?_
            refine seq_pure (pure_assign rfl) rfl rfl ?_
            refine seq_done ?_
            refine nrm_seq ?_
            refine tri_cond_f rfl ?_
            refine tri_region ?_
            refine seq_pure (pure_move rfl) rfl rfl ?_
            refine seq_pure (pure_not_f rfl) rfl rfl ?_
            refine seq_pure (pure_move rfl) rfl rfl ?_
            refine seq_pure (pure_fieldAddr0 rfl) rfl rfl ?_
            refine seq_load (load_ba rfl rfl (by repeat (first | exact List.Mem.head _ | apply List.Mem.tail)) (by rfl)) rfl rfl ?_
            refine seq_valb rfl (o7) rfl rfl (fun h184 => ?_) (fun h184 => ?_)
            · refine seq_pure (pure_not_t rfl) rfl rfl ?_
              refine seq_pure (pure_move rfl) rfl rfl ?_
              refine seq_pure (pure_fieldAddr0 rfl) rfl rfl ?_
              refine seq_load (load_bs rfl rfl (by repeat (first | exact List.Mem.head _ | apply List.Mem.tail)) (by rfl)) rfl rfl ?_
              refine seq_bool (pure_neq rfl rfl) rfl rfl (fun h189 => ?_) (fun h189 => ?_)
              · refine seq_pure (pure_pick_f rfl rfl) rfl rfl ?_
                refine seq_pure (pure_pick_t rfl rfl) rfl rfl ?_
                refine seq_pure (pure_assign rfl) rfl rfl ?_
                refine seq_done ?_
                refine nrm_seq ?_
                refine tri_cond_t rfl ?_
                refine tri_seq ?_
                refine tri_region ?_
                refine seq_pure (pure_assign rfl) rfl rfl ?_
                refine seq_done ?_
                refine nrm_seq ?_
                refine tri_ret ?_
                refine ret_block ?_
                refine ret_seq ?_
                refine ret_fin1 (res_tmp rfl) ?_
                exact ⟨rfl, by (cases R with | false => rfl | true => (exfalso; obtain ⟨i1, i2, i3, i4, i5, i6, i7, i8, i9⟩ := hi.1 rfl; first | omega | (have j := i2 (by omega); simp_all; done) | (have j := i3 (by omega); simp_all; done) | (have j := i4 (by omega); simp_all; done) | (have j := i5 (by omega); simp_all; done) | (have j := i6 (by omega); simp_all; done) | (have j := i7 (by omega); simp_all; done) | (have j := i8 (by omega); simp_all; done) | (have j := i9 (by omega); simp_all; done))), rfl⟩
              · refine seq_pure (pure_pick_f rfl rfl) rfl rfl ?_
                refine seq_pure (pure_pick_t rfl rfl) rfl rfl ?_
                refine seq_pure (pure_assign rfl) rfl rfl ?_
                refine seq_done ?_
                refine nrm_seq ?_
                refine tri_cond_f rfl ?_
                refine tri_skip ?_
                refine nrm_block ?_
                refine nrm_seq ?_
                refine tri_seq ?_
                refine tri_region ?_
                refine seq_pure (pure_assign rfl) rfl rfl ?_
                refine seq_done ?_
                refine nrm_seq ?_
                refine tri_ret ?_
                refine ret_fin1 (res_tmp rfl) ?_
                exact ⟨rfl, by rw [hi.2 ⟨by omega, fun _ => by (first | assumption | (exfalso; omega) | exact Classical.not_not.1 (by assumption)), fun _ => by (first | assumption | (exfalso; omega) | exact Classical.not_not.1 (by assumption)), fun _ => by (first | assumption | (exfalso; omega) | exact Classical.not_not.1 (by assumption)), fun _ => by (first | assumption | (exfalso; omega) | exact Classical.not_not.1 (by assumption)), fun _ => by (first | assumption | (exfalso; omega) | exact Classical.not_not.1 (by assumption)), fun _ => by (first | assumption | (exfalso; omega) | exact Classical.not_not.1 (by assumption)), fun _ => ⟨by (first | assumption | (exfalso; omega)), by (first | assumption | (exfalso; omega))⟩, fun _ => ⟨by (first | assumption | (exfalso; omega)), by (first | assumption | omega)⟩⟩], rfl⟩
            · refine seq_pure (pure_not_f rfl) rfl rfl ?_
              refine seq_pure (pure_move rfl) rfl rfl ?_
              refine seq_skip rfl rfl ?_
              refine seq_skip rfl rfl ?_
              refine seq_skip rfl rfl ?_
              refine seq_pure (pure_pick_t rfl rfl) rfl rfl ?_
              refine seq_pure (pure_pick_t rfl rfl) rfl rfl ?_
              refine seq_pure (pure_assign rfl) rfl rfl ?_
              refine seq_done ?_
              refine nrm_seq ?_
              refine tri_cond_t rfl ?_
              refine tri_seq ?_
              refine tri_region ?_
              refine seq_pure (pure_assign rfl) rfl rfl ?_
              refine seq_done ?_
              refine nrm_seq ?_
              refine tri_ret ?_
              refine ret_block ?_
              refine ret_seq ?_
              refine ret_fin1 (res_tmp rfl) ?_
              exact ⟨rfl, by (cases R with | false => rfl | true => (exfalso; obtain ⟨i1, i2, i3, i4, i5, i6, i7, i8, i9⟩ := hi.1 rfl; first | omega | (have j := i2 (by omega); simp_all; done) | (have j := i3 (by omega); simp_all; done) | (have j := i4 (by omega); simp_all; done) | (have j := i5 (by omega); simp_all; done) | (have j := i6 (by omega); simp_all; done) | (have j := i7 (by omega); simp_all; done) | (have j := i8 (by omega); simp_all; done) | (have j := i9 (by omega); simp_all; done))), rfl⟩
          · refine seq_pure (pure_not_f rfl) rfl rfl ?_
            refine seq_pure (pure_pick_t rfl rfl) rfl rfl ?_
            refine seq_pure (pure_assign rfl) rfl rfl ?_
            refine seq_done ?_
            refine nrm_seq ?_
            refine tri_cond_t rfl ?_
            refine tri_seq ?_
            refine tri_region ?_
            refine seq_pure (pure_assign rfl) rfl rfl ?_
            refine seq_done ?_
            refine nrm_seq ?_
            refine tri_ret ?_
            refine ret_block ?_
            refine ret_seq ?_
            refine ret_fin1 (res_tmp rfl) ?_
            exact ⟨rfl, by (cases R with | false => rfl | true => (exfalso; obtain ⟨i1, i2, i3, i4, i5, i6, i7, i8, i9⟩ := hi.1 rfl; first | omega | (have j := i2 (by omega); simp_all; done) | (have j := i3 (by omega); simp_all; done) | (have j := i4 (by omega); simp_all; done) | (have j := i5 (by omega); simp_all; done) | (have j := i6 (by omega); simp_all; done) | (have j := i7 (by omega); simp_all; done) | (have j := i8 (by omega); simp_all; done) | (have j := i9 (by omega); simp_all; done))), rfl⟩
        · refine seq_pure (pure_not_f rfl) rfl rfl ?_
          refine seq_pure (pure_assign rfl) rfl rfl ?_
          refine seq_done ?_
          refine nrm_seq ?_
          refine tri_cond_t rfl ?_
          refine tri_seq ?_
          refine tri_region ?_
          refine seq_pure (pure_assign rfl) rfl rfl ?_
          refine seq_done ?_
          refine nrm_seq ?_
          refine tri_ret ?_
          refine ret_block ?_
          refine ret_seq ?_
          refine ret_fin1 (res_tmp rfl) ?_
          exact ⟨rfl, by (cases R with | false => rfl | true => (exfalso; obtain ⟨i1, i2, i3, i4, i5, i6, i7, i8, i9⟩ := hi.1 rfl; first | omega | (have j := i2 (by omega); simp_all; done) | (have j := i3 (by omega); simp_all; done) | (have j := i4 (by omega); simp_all; done) | (have j := i5 (by omega); simp_all; done) | (have j := i6 (by omega); simp_all; done) | (have j := i7 (by omega); simp_all; done) | (have j := i8 (by omega); simp_all; done) | (have j := i9 (by omega); simp_all; done))), rfl⟩
      · refine seq_pure (pure_not_f rfl) rfl rfl ?_
        refine seq_pure (pure_pick_t rfl rfl) rfl rfl ?_
        refine seq_pure (pure_assign rfl) rfl rfl ?_
        refine seq_done ?_
        refine nrm_seq ?_
        refine tri_cond_t rfl ?_
        refine tri_skip ?_
        refine nrm_seq ?_
        refine tri_cond_t rfl ?_
        refine tri_seq ?_
        refine tri_region ?_
        refine seq_pure (pure_assign rfl) rfl rfl ?_
        refine seq_done ?_
        refine nrm_seq ?_
        refine tri_ret ?_
        refine ret_block ?_
        refine ret_seq ?_
        refine ret_fin1 (res_tmp rfl) ?_
        exact ⟨rfl, by (cases R with | false => rfl | true => (exfalso; obtain ⟨i1, i2, i3, i4, i5, i6, i7, i8, i9⟩ := hi.1 rfl; first | omega | (have j := i2 (by omega); simp_all; done) | (have j := i3 (by omega); simp_all; done) | (have j := i4 (by omega); simp_all; done) | (have j := i5 (by omega); simp_all; done) | (have j := i6 (by omega); simp_all; done) | (have j := i7 (by omega); simp_all; done) | (have j := i8 (by omega); simp_all; done) | (have j := i9 (by omega); simp_all; done))), rfl⟩
    · refine seq_pure (pure_move rfl) rfl rfl ?_
      refine seq_pure (pure_fieldAddr0 rfl) rfl rfl ?_
      refine seq_load (load_bs rfl rfl (by repeat (first | exact List.Mem.head _ | apply List.Mem.tail)) (by rfl)) rfl rfl ?_
      refine seq_bool (pure_eql rfl rfl) rfl rfl (fun h297 => ?_) (fun h297 => ?_)
      · refine seq_pure (pure_pick_f rfl rfl) rfl rfl ?_
        refine seq_pure (pure_assign rfl) rfl rfl ?_
        refine seq_done ?_
        refine nrm_seq ?_
        refine tri_seq ?_
        refine tri_region ?_
        refine seq_pure (pure_fieldAddr0 rfl) rfl rfl ?_
        refine seq_load (load_bs rfl rfl (by repeat (first | exact List.Mem.head _ | apply List.Mem.tail)) (by rfl)) rfl rfl ?_
        refine seq_pure (pure_eql_t rfl rfl (by omega)) rfl rfl ?_
        refine seq_pure (pure_move rfl) rfl rfl ?_
        refine seq_skip rfl rfl ?_
        refine seq_skip rfl rfl ?_
        refine seq_skip rfl rfl ?_
        refine seq_pure (pure_pick_t rfl rfl) rfl rfl ?_
        refine seq_pure (pure_move rfl) rfl rfl ?_
        refine seq_skip rfl rfl ?_
        refine seq_skip rfl rfl ?_
        refine seq_skip rfl rfl ?_
        refine seq_pure (pure_pick_t rfl rfl) rfl rfl ?_
        refine seq_pure (pure_assign rfl) rfl rfl ?_
        refine seq_done ?_
        refine nrm_seq ?_
        refine tri_seq ?_
        refine tri_region ?_
        refine seq_pure (pure_fieldAddr0 rfl) rfl rfl ?_
        refine seq_load (load_bs rfl rfl (by repeat (first | exact List.Mem.head _ | apply List.Mem.tail)) (by rfl)) rfl rfl ?_
        refine seq_pure (pure_eql_f rfl rfl (by omega)) rfl rfl ?_
        refine seq_pure (pure_assign rfl) rfl rfl ?_
        refine seq_done ?_
        refine nrm_seq ?_
        refine tri_seq ?_
        refine tri_region ?_
        refine seq_pure (pure_assign rfl) rfl rfl ?_
        refine seq_done ?_
        refine nrm_seq ?_
        refine tri_seq ?_
        refine tri_seq ?_
        refine tri_region ?_
        refine seq_pure (pure_fieldAddr0 rfl) rfl rfl ?_
        refine seq_load (load_bs rfl rfl (by repeat (first | exact List.Mem.head _ | apply List.Mem.tail)) (by rfl)) rfl rfl ?_
        refine seq_pure (pure_eql_f rfl rfl (by omega)) rfl rfl ?_
        refine seq_done ?_
        refine nrm_seq ?_
        refine tri_cond_f rfl ?_
        refine tri_skip ?_
        refine nrm_seq ?_
        refine tri_seq ?_
        refine tri_block ?_
        refine tri_seq ?_
        refine tri_seq ?_
        refine tri_region ?_
        refine seq_pure (pure_move rfl) rfl rfl ?_
        refine seq_pure (pure_move rfl) rfl rfl ?_
        refine seq_pure (pure_fieldAddr0 rfl) rfl rfl ?_
        refine seq_load (load_bs rfl rfl (by repeat (first | exact List.Mem.head _ | apply List.Mem.tail)) (by rfl)) rfl rfl ?_
        refine seq_valb rfl (o2) rfl rfl (fun h353 => ?_) (fun h353 => ?_)
        · refine seq_pure (pure_not_t rfl) rfl rfl ?_
          refine seq_pure (pure_pick_t rfl rfl) rfl rfl ?_
          refine seq_pure (pure_assign rfl) rfl rfl ?_
          refine seq_done ?_
          refine nrm_seq ?_
          refine tri_cond_f rfl ?_
          refine tri_seq ?_
          refine tri_region ?_
          refine seq_pure (pure_move rfl) rfl rfl ?_
          refine seq_pure (pure_not_t rfl) rfl rfl ?_
          refine seq_pure (pure_move rfl) rfl rfl ?_
          refine seq_skip rfl rfl ?_
          refine seq_skip rfl rfl ?_
          refine seq_skip rfl rfl ?_
          refine seq_pure (pure_pick_f rfl rfl) rfl rfl ?_
          refine seq_pure (pure_assign rfl) rfl rfl ?_
          refine seq_done ?_
          refine nrm_seq ?_
          refine tri_cond_f rfl ?_
          refine tri_region ?_
          refine seq_pure (pure_fieldAddr0 rfl) rfl rfl ?_
          refine seq_load (load_bs rfl rfl (by repeat (first | exact List.Mem.head _ | apply List.Mem.tail)) (by rfl)) rfl rfl ?_
          refine seq_pure (pure_move rfl) rfl rfl ?_
          refine seq_valb rfl (within_fn _ _ _ _) rfl rfl (fun h377 => ?_) (fun h377 => ?_)
          · refine seq_pure (pure_not_t rfl) rfl rfl ?_
            refine seq_pure (pure_assign rfl) rfl rfl ?_
            refine seq_done ?_
            refine nrm_seq ?_
            refine tri_cond_f rfl ?_
            refine tri_seq ?_
            refine tri_seq ?_
            refine tri_region ?_
            refine seq_pure (pure_move rfl) rfl rfl ?_
            refine seq_pure (pure_move rfl) rfl rfl ?_
            refine seq_pure (pure_fieldAddr0 rfl) rfl rfl ?_
            refine seq_load (load_ba rfl rfl (by repeat (first | exact List.Mem.head _ | apply List.Mem.tail)) (by rfl)) rfl rfl ?_
            refine seq_valb rfl (o3) rfl rfl (fun h390 => ?_) (fun h390 => ?_)
            · refine seq_pure (pure_not_t rfl) rfl rfl ?_
              refine seq_pure (pure_pick_t rfl rfl) rfl rfl ?_
              refine seq_pure (pure_assign rfl) rfl rfl ?_
              refine seq_done ?_
              refine nrm_seq ?_
              refine tri_cond_f rfl ?_
              refine tri_region ?_
              refine seq_pure (pure_move rfl) rfl rfl ?_
              refine seq_pure (pure_not_t rfl) rfl rfl ?_
              refine seq_pure (pure_move rfl) rfl rfl ?_
              refine seq_skip rfl rfl ?_
              refine seq_skip rfl rfl ?_
              refine seq_skip rfl rfl ?_
              refine seq_skip rfl rfl ?_
              refine seq_pure (pure_pick_f rfl rfl) rfl rfl ?_
              refine seq_pure (pure_assign rfl) rfl rfl ?_
              refine seq_done ?_
              refine nrm_seq ?_
              refine tri_cond_f rfl ?_
              refine tri_seq ?_
              refine tri_seq ?_
              refine tri_region ?_
              refine seq_pure (pure_move rfl) rfl rfl ?_
              refine seq_pure (pure_move rfl) rfl rfl ?_
              refine seq_skip rfl rfl ?_
              refine seq_skip rfl rfl ?_
              refine seq_skip rfl rfl ?_
              refine seq_skip rfl rfl ?_
              refine seq_skip rfl rfl ?_
              refine seq_skip rfl rfl ?_
              refine seq_skip rfl rfl ?_
              refine seq_skip rfl rfl ?_
              refine seq_skip rfl rfl ?_
              refine seq_skip rfl rfl ?_
              refine seq_skip rfl rfl ?_
              refine seq_skip rfl rfl ?_
              refine seq_pure (pure_pick_f rfl rfl) rfl rfl ?_
              refine seq_pure (pure_assign rfl) rfl rfl ?_
              refine seq_done ?_
              refine nrm_seq ?_
              refine tri_cond_f rfl ?_
              refine tri_region ?_
              refine seq_pure (pure_move rfl) rfl rfl ?_
              refine seq_pure (pure_not_f rfl) rfl rfl ?_
              refine seq_pure (pure_move rfl) rfl rfl ?_
              refine seq_pure (pure_fieldAddr0 rfl) rfl rfl ?_
              refine seq_load (load_ba rfl rfl (by repeat (first | exact List.Mem.head _ | apply List.Mem.tail)) (by rfl)) rfl rfl ?_
              refine seq_valb rfl (o7) rfl rfl (fun h438 => ?_) (fun h438 => ?_)
              · refine seq_pure (pure_not_t rfl) rfl rfl ?_
                refine seq_pure (pure_move rfl) rfl rfl ?_
                refine seq_pure (pure_fieldAddr0 rfl) rfl rfl ?_
                refine seq_load (load_bs rfl rfl (by repeat (first | exact List.Mem.head _ | apply List.Mem.tail)) (by rfl)) rfl rfl ?_
                refine seq_bool (pure_neq rfl rfl) rfl rfl (fun h443 => ?_) (fun h443 => ?_)
                · refine seq_pure (pure_pick_f rfl rfl) rfl rfl ?_
                  refine seq_pure (pure_pick_t rfl rfl) rfl rfl ?_
                  refine seq_pure (pure_assign rfl) rfl rfl ?_
                  refine seq_done ?_
                  refine nrm_seq ?_
                  refine tri_cond_t rfl ?_
                  refine tri_seq ?_
                  refine tri_region ?_
                  refine seq_pure (pure_assign rfl) rfl rfl ?_
                  refine seq_done ?_
                  refine nrm_seq ?_
                  refine tri_ret ?_
                  refine ret_block ?_
                  refine ret_seq ?_
                  refine ret_fin1 (res_tmp rfl) ?_
                  exact ⟨rfl, by (cases R with | false => rfl | true => (exfalso; obtain ⟨i1, i2, i3, i4, i5, i6, i7, i8, i9⟩ := hi.1 rfl; first | omega | (have j := i2 (by omega); simp_all; done) | (have j := i3 (by omega); simp_all; done) | (have j := i4 (by omega); simp_all; done) | (have j := i5 (by omega); simp_all; done) | (have j := i6 (by omega); simp_all; done) | (have j := i7 (by omega); simp_all; done) | (have j := i8 (by omega); simp_all; done) | (have j := i9 (by omega); simp_all; done))), rfl⟩
                · refine seq_pure (pure_pick_f rfl rfl) rfl rfl ?_
                  refine seq_pure (pure_pick_t rfl rfl) rfl rfl ?_
                  refine seq_pure (pure_assign rfl) rfl rfl ?_
                  refine seq_done ?_
                  refine nrm_seq ?_
                  refine tri_cond_f rfl ?_
                  refine tri_skip ?_
                  refine nrm_block ?_
                  refine nrm_seq ?_
                  refine tri_seq ?_
                  refine tri_region ?_
                  refine seq_pure (pure_assign rfl) rfl rfl ?_
                  refine seq_done ?_
                  refine nrm_seq ?_
                  refine tri_ret ?_
                  refine ret_fin1 (res_tmp rfl) ?_
                  exact ⟨rfl, by rw [hi.2 ⟨by omega, fun _ => by (first | assumption | (exfalso; omega) | exact Classical.not_not.1 (by assumption)), fun _ => by (first | assumption | (exfalso; omega) | exact Classical.not_not.1 (by assumption)), fun _ => by (first | assumption | (exfalso; omega) | exact Classical.not_not.1 (by assumption)), fun _ => by (first | assumption | (exfalso; omega) | exact Classical.not_not.1 (by assumption)), fun _ => by (first | assumption | (exfalso; omega) | exact Classical.not_not.1 (by assumption)), fun _ => by (first | assumption | (exfalso; omega) | exact Classical.not_not.1 (by assumption)), fun _ => ⟨by (first | assumption | (exfalso; omega)), by (first | assumption | (exfalso; omega))⟩, fun _ => ⟨by (first | assumption | (exfalso; omega)), by (first | assumption | omega)⟩⟩], rfl⟩
              · refine seq_pure (pure_not_f rfl) rfl rfl ?_
                refine seq_pure (pure_move rfl) rfl rfl ?_
                refine seq_skip rfl rfl ?_
                refine seq_skip rfl rfl ?_
                refine seq_skip rfl rfl ?_
                refine seq_pure (pure_pick_t rfl rfl) rfl rfl ?_
                refine seq_pure (pure_pick_t rfl rfl) rfl rfl ?_
                refine seq_pure (pure_assign rfl) rfl rfl ?_
                refine seq_done ?_
                refine nrm_seq ?_
                refine tri_cond_t rfl ?_
                refine tri_seq ?_
                refine tri_region ?_
                refine seq_pure (pure_assign rfl) rfl rfl ?_
                refine seq_done ?_
                refine nrm_seq ?_
                refine tri_ret ?_
                refine ret_block ?_
                refine ret_seq ?_
                refine ret_fin1 (res_tmp rfl) ?_
                exact ⟨rfl, by (cases R with | false => rfl | true => (exfalso; obtain ⟨i1, i2, i3, i4, i5, i6, i7, i8, i9⟩ := hi.1 rfl; first | omega | (have j := i2 (by omega); simp_all; done) | (have j := i3 (by omega); simp_all; done) | (have j := i4 (by omega); simp_all; done) | (have j := i5 (by omega); simp_all; done) | (have j := i6 (by omega); simp_all; done) | (have j := i7 (by omega); simp_all; done) | (have j := i8 (by omega); simp_all; done) | (have j := i9 (by omega); simp_all; done))), rfl⟩
            · refine seq_pure (pure_not_f rfl) rfl rfl ?_
              refine seq_pure (pure_pick_t rfl rfl) rfl rfl ?_
              refine seq_pure (pure_assign rfl) rfl rfl ?_
              refine seq_done ?_
              refine nrm_seq ?_
              refine tri_cond_t rfl ?_
              refine tri_skip ?_
              refine nrm_seq ?_
              refine tri_cond_t rfl ?_
              refine tri_seq ?_
              refine tri_region ?_
              refine seq_pure (pure_assign rfl) rfl rfl ?_
              refine seq_done ?_
              refine nrm_seq ?_
              refine tri_ret ?_
              refine ret_block ?_
              refine ret_seq ?_
              refine ret_fin1 (res_tmp rfl) ?_
              exact ⟨rfl, by (cases R with | false => rfl | true => (exfalso; obtain ⟨i1, i2, i3, i4, i5, i6, i7, i8, i9⟩ := hi.1 rfl; first | omega | (have j := i2 (by omega); simp_all; done) | (have j := i3 (by omega); simp_all; done) | (have j := i4 (by omega); simp_all; done) | (have j := i5 (by omega); simp_all; done) | (have j := i6 (by omega); simp_all; done) | (have j := i7 (by omega); simp_all; done) | (have j := i8 (by omega); simp_all; done) | (have j := i9 (by omega); simp_all; done))), rfl⟩
          · refine seq_pure (pure_not_f rfl) rfl rfl ?_
            refine seq_pure (pure_assign rfl) rfl rfl ?_
            refine seq_done ?_
            refine nrm_seq ?_
            refine tri_cond_t rfl ?_
            refine tri_seq ?_
            refine tri_region ?_
            refine seq_pure (pure_assign rfl) rfl rfl ?_
            refine seq_done ?_
            refine nrm_seq ?_
            refine tri_ret ?_
            refine ret_block ?_
            refine ret_seq ?_
            refine ret_fin1 (res_tmp rfl) ?_
            exact ⟨rfl, by (cases R with | false => rfl | true => (exfalso; obtain ⟨i1, i2, i3, i4, i5, i6, i7, i8, i9⟩ := hi.1 rfl; first | omega | (have j := i2 (by omega); simp_all; done) | (have j := i3 (by omega); simp_all; done) | (have j := i4 (by omega); simp_all; done) | (have j := i5 (by omega); simp_all; done) | (have j := i6 (by omega); simp_all; done) | (have j := i7 (by omega); simp_all; done) | (have j := i8 (by omega); simp_all; done) | (have j := i9 (by omega); simp_all; done))), rfl⟩
        · refine seq_pure (pure_not_f rfl) rfl rfl ?_
          refine seq_pure (pure_pick_t rfl rfl) rfl rfl ?_
          refine seq_pure (pure_assign rfl) rfl rfl ?_
          refine seq_done ?_
          refine nrm_seq ?_
          refine tri_cond_t rfl ?_
          refine tri_skip ?_
          refine nrm_seq ?_
          refine tri_cond_t rfl ?_
          refine tri_seq ?_
          refine tri_region ?_
          refine seq_pure (pure_assign rfl) rfl rfl ?_
          refine seq_done ?_
          refine nrm_seq ?_
          refine tri_ret ?_
          refine ret_block ?_
          refine ret_seq ?_
          refine ret_fin1 (res_tmp rfl) ?_
          exact ⟨rfl, by (cases R with | false => rfl | true => (exfalso; obtain ⟨i1, i2, i3, i4, i5, i6, i7, i8, i9⟩ := hi.1 rfl; first | omega | (have j := i2 (by omega); simp_all; done) | (have j := i3 (by omega); simp_all; done) | (have j := i4 (by omega); simp_all; done) | (have j := i5 (by omega); simp_all; done) | (have j := i6 (by omega); simp_all; done) | (have j := i7 (by omega); simp_all; done) | (have j := i8 (by omega); simp_all; done) | (have j := i9 (by omega); simp_all; done))), rfl⟩
      · refine seq_pure (pure_pick_f rfl rfl) rfl rfl ?_
        refine seq_pure (pure_assign rfl) rfl rfl ?_
        refine seq_done ?_
        refine nrm_seq ?_
        refine tri_seq ?_
        refine tri_region ?_
        refine seq_pure (pure_fieldAddr0 rfl) rfl rfl ?_
        refine seq_load (load_bs rfl rfl (by repeat (first | exact List.Mem.head _ | apply List.Mem.tail)) (by rfl)) rfl rfl ?_
        refine seq_pure (pure_eql_f rfl rfl (by omega)) rfl rfl ?_
        refine seq_pure (pure_move rfl) rfl rfl ?_
        refine seq_pure (pure_fieldAddr0 rfl) rfl rfl ?_
        refine seq_load (load_bs rfl rfl (by repeat (first | exact List.Mem.head _ | apply List.Mem.tail)) (by rfl)) rfl rfl ?_
        refine seq_bool (pure_eql rfl rfl) rfl rfl (fun h563 => ?_) (fun h563 => ?_)
        · refine seq_pure (pure_pick_f rfl rfl) rfl rfl ?_
          refine seq_pure (pure_move rfl) rfl rfl ?_
          refine seq_skip rfl rfl ?_
          refine seq_skip rfl rfl ?_
          refine seq_skip rfl rfl ?_
          refine seq_pure (pure_pick_t rfl rfl) rfl rfl ?_
          refine seq_pure (pure_assign rfl) rfl rfl ?_
          refine seq_done ?_
          refine nrm_seq ?_
          refine tri_seq ?_
          refine tri_region ?_
          refine seq_pure (pure_fieldAddr0 rfl) rfl rfl ?_
          refine seq_load (load_bs rfl rfl (by repeat (first | exact List.Mem.head _ | apply List.Mem.tail)) (by rfl)) rfl rfl ?_
          refine seq_pure (pure_eql_f rfl rfl (by omega)) rfl rfl ?_
          refine seq_pure (pure_assign rfl) rfl rfl ?_
          refine seq_done ?_
          refine nrm_seq ?_
          refine tri_seq ?_
          refine tri_region ?_
          refine seq_pure (pure_assign rfl) rfl rfl ?_
          refine seq_done ?_
          refine nrm_seq ?_
          refine tri_seq ?_
          refine tri_seq ?_
          refine tri_region ?_
          refine seq_pure (pure_fieldAddr0 rfl) rfl rfl ?_
          refine seq_load (load_bs rfl rfl (by repeat (first | exact List.Mem.head _ | apply List.Mem.tail)) (by rfl)) rfl rfl ?_
          refine seq_pure (pure_eql_f rfl rfl (by omega)) rfl rfl ?_
          refine seq_done ?_
          refine nrm_seq ?_
          refine tri_cond_f rfl ?_
          refine tri_skip ?_
          refine nrm_seq ?_
          refine tri_seq ?_
          refine tri_block ?_
          refine tri_seq ?_
          refine tri_seq ?_
          refine tri_region ?_
          refine seq_pure (pure_move rfl) rfl rfl ?_
          refine seq_pure (pure_move rfl) rfl rfl ?_
          refine seq_skip rfl rfl ?_
          refine seq_skip rfl rfl ?_
          refine seq_skip rfl rfl ?_
          refine seq_skip rfl rfl ?_
          refine seq_pure (pure_pick_f rfl rfl) rfl rfl ?_
          refine seq_pure (pure_assign rfl) rfl rfl ?_
          refine seq_done ?_
          refine nrm_seq ?_
          refine tri_cond_f rfl ?_
          refine tri_seq ?_
          refine tri_region ?_
          refine seq_pure (pure_move rfl) rfl rfl ?_
          refine seq_pure (pure_not_f rfl) rfl rfl ?_
          refine seq_pure (pure_move rfl) rfl rfl ?_
          refine seq_pure (pure_fieldAddr0 rfl) rfl rfl ?_
          refine seq_load (load_bs rfl rfl (by repeat (first | exact List.Mem.head _ | apply List.Mem.tail)) (by rfl)) rfl rfl ?_
          refine seq_bool (pure_sneq rfl rfl) rfl rfl (fun h620 => ?_) (fun h620 => ?_)
          · refine seq_pure (pure_pick_t rfl rfl) rfl rfl ?_
            refine seq_pure (pure_assign rfl) rfl rfl ?_
            refine seq_done ?_
            refine nrm_seq ?_
            refine tri_cond_t rfl ?_
            refine tri_skip ?_
            refine nrm_seq ?_
            refine tri_cond_t rfl ?_
            refine tri_seq ?_
            refine tri_region ?_
            refine seq_pure (pure_assign rfl) rfl rfl ?_
            refine seq_done ?_
            refine nrm_seq ?_
            refine tri_ret ?_
            refine ret_block ?_
            refine ret_seq ?_
            refine ret_fin1 (res_tmp rfl) ?_
            exact ⟨rfl, by (cases R with | false => rfl | true => (exfalso; obtain ⟨i1, i2, i3, i4, i5, i6, i7, i8, i9⟩ := hi.1 rfl; first | omega | (have j := i2 (by omega); simp_all; done) | (have j := i3 (by omega); simp_all; done) | (have j := i4 (by omega); simp_all; done) | (have j := i5 (by omega); simp_all; done) | (have j := i6 (by omega); simp_all; done) | (have j := i7 (by omega); simp_all; done) | (have j := i8 (by omega); simp_all; done) | (have j := i9 (by omega); simp_all; done))), rfl⟩
          · refine seq_pure (pure_pick_t rfl rfl) rfl rfl ?_
            refine seq_pure (pure_assign rfl) rfl rfl ?_
            refine seq_done ?_
            refine nrm_seq ?_
            refine tri_cond_f rfl ?_
            refine tri_region ?_
            refine seq_pure (pure_fieldAddr0 rfl) rfl rfl ?_
            refine seq_load (load_bs rfl rfl (by repeat (first | exact List.Mem.head _ | apply List.Mem.tail)) (by rfl)) rfl rfl ?_
            refine seq_pure (pure_move rfl) rfl rfl ?_
            refine seq_valb rfl (within_fn _ _ _ _) rfl rfl (fun h648 => ?_) (fun h648 => ?_)
            · refine seq_pure (pure_not_t rfl) rfl rfl ?_
              refine seq_pure (pure_assign rfl) rfl rfl ?_
              refine seq_done ?_
              refine nrm_seq ?_
              refine tri_cond_f rfl ?_
              refine tri_seq ?_
              refine tri_seq ?_
              refine tri_region ?_
              refine seq_pure (pure_move rfl) rfl rfl ?_
              refine seq_pure (pure_move rfl) rfl rfl ?_
              refine seq_pure (pure_fieldAddr0 rfl) rfl rfl ?_
              refine seq_load (load_ba rfl rfl (by repeat (first | exact List.Mem.head _ | apply List.Mem.tail)) (by rfl)) rfl rfl ?_
              refine seq_valb rfl (o3) rfl rfl (fun h661 => ?_) (fun h661 => ?_)
              · refine seq_pure (pure_not_t rfl) rfl rfl ?_
                refine seq_pure (pure_pick_t rfl rfl) rfl rfl ?_
                refine seq_pure (pure_assign rfl) rfl rfl ?_
                refine seq_done ?_
                refine nrm_seq ?_
                refine tri_cond_f rfl ?_
                refine tri_region ?_
                refine seq_pure (pure_move rfl) rfl rfl ?_
                refine seq_pure (pure_not_t rfl) rfl rfl ?_
                refine seq_pure (pure_move rfl) rfl rfl ?_
                refine seq_skip rfl rfl ?_
                refine seq_skip rfl rfl ?_
                refine seq_skip rfl rfl ?_
                refine seq_skip rfl rfl ?_
                refine seq_pure (pure_pick_f rfl rfl) rfl rfl ?_
                refine seq_pure (pure_assign rfl) rfl rfl ?_
                refine seq_done ?_
                refine nrm_seq ?_
                refine tri_cond_f rfl ?_
                refine tri_seq ?_
                refine tri_seq ?_
                refine tri_region ?_
                refine seq_pure (pure_move rfl) rfl rfl ?_
                refine seq_pure (pure_move rfl) rfl rfl ?_
                refine seq_skip rfl rfl ?_
                refine seq_skip rfl rfl ?_
                refine seq_skip rfl rfl ?_
                refine seq_skip rfl rfl ?_
                refine seq_skip rfl rfl ?_
                refine seq_skip rfl rfl ?_
                refine seq_skip rfl rfl ?_
                refine seq_skip rfl rfl ?_
                refine seq_skip rfl rfl ?_
                refine seq_skip rfl rfl ?_
                refine seq_skip rfl rfl ?_
                refine seq_skip rfl rfl ?_
                refine seq_pure (pure_pick_f rfl rfl) rfl rfl ?_
                refine seq_pure (pure_assign rfl) rfl rfl ?_
                refine seq_done ?_
                refine nrm_seq ?_
                refine tri_cond_f rfl ?_
                refine tri_region ?_
                refine seq_pure (pure_move rfl) rfl rfl ?_
                refine seq_pure (pure_not_f rfl) rfl rfl ?_
                refine seq_pure (pure_move rfl) rfl rfl ?_
                refine seq_pure (pure_fieldAddr0 rfl) rfl rfl ?_
                refine seq_load (load_ba rfl rfl (by repeat (first | exact List.Mem.head _ | apply List.Mem.tail)) (by rfl)) rfl rfl ?_
                refine seq_valb rfl (o7) rfl rfl (fun h709 => ?_) (fun h709 => ?_)
                · refine seq_pure (pure_not_t rfl) rfl rfl ?_
                  refine seq_pure (pure_move rfl) rfl rfl ?_
                  refine seq_pure (pure_fieldAddr0 rfl) rfl rfl ?_
                  refine seq_load (load_bs rfl rfl (by repeat (first | exact List.Mem.head _ | apply List.Mem.tail)) (by rfl)) rfl rfl ?_
                  refine seq_bool (pure_neq rfl rfl) rfl rfl (fun h714 => ?_) (fun h714 => ?_)
                  · refine seq_pure (pure_pick_f rfl rfl) rfl rfl ?_
                    refine seq_pure (pure_pick_t rfl rfl) rfl rfl ?_
                    refine seq_pure (pure_assign rfl) rfl rfl ?_
                    refine seq_done ?_
                    refine nrm_seq ?_
                    refine tri_cond_t rfl ?_
                    refine tri_seq ?_
                    refine tri_region ?_
                    refine seq_pure (pure_assign rfl) rfl rfl ?_
                    refine seq_done ?_
                    refine nrm_seq ?_
                    refine tri_ret ?_
                    refine ret_block ?_
                    refine ret_seq ?_
                    refine ret_fin1 (res_tmp rfl) ?_
                    exact ⟨rfl, by (cases R with | false => rfl | true => (exfalso; obtain ⟨i1, i2, i3, i4, i5, i6, i7, i8, i9⟩ := hi.1 rfl; first | omega | (have j := i2 (by omega); simp_all; done) | (have j := i3 (by omega); simp_all; done) | (have j := i4 (by omega); simp_all; done) | (have j := i5 (by omega); simp_all; done) | (have j := i6 (by omega); simp_all; done) | (have j := i7 (by omega); simp_all; done) | (have j := i8 (by omega); simp_all; done) | (have j := i9 (by omega); simp_all; done))), rfl⟩
                  · refine seq_pure (pure_pick_f rfl rfl) rfl rfl ?_
                    refine seq_pure (pure_pick_t rfl rfl) rfl rfl ?_
                    refine seq_pure (pure_assign rfl) rfl rfl ?_
                    refine seq_done ?_
                    refine nrm_seq ?_
                    refine tri_cond_f rfl ?_
                    refine tri_skip ?_
                    refine nrm_block ?_
                    refine nrm_seq ?_
                    refine tri_seq ?_
                    refine tri_region ?_
                    refine seq_pure (pure_assign rfl) rfl rfl ?_
                    refine seq_done ?_
                    refine nrm_seq ?_
                    refine tri_ret ?_
                    refine ret_fin1 (res_tmp rfl) ?_
                    exact ⟨rfl, by rw [hi.2 ⟨by omega, fun _ => by (first | assumption | (exfalso; omega) | exact Classical.not_not.1 (by assumption)), fun _ => by (first | assumption | (exfalso; omega) | exact Classical.not_not.1 (by assumption)), fun _ => by (first | assumption | (exfalso; omega) | exact Classical.not_not.1 (by assumption)), fun _ => by (first | assumption | (exfalso; omega) | exact Classical.not_not.1 (by assumption)), fun _ => by (first | assumption | (exfalso; omega) | exact Classical.not_not.1 (by assumption)), fun _ => by (first | assumption | (exfalso; omega) | exact Classical.not_not.1 (by assumption)), fun _ => ⟨by (first | assumption | (exfalso; omega)), by (first | assumption | (exfalso; omega))⟩, fun _ => ⟨by (first | assumption | (exfalso; omega)), by (first | assumption | omega)⟩⟩], rfl⟩
                · refine seq_pure (pure_not_f rfl) rfl rfl ?_
                  refine seq_pure (pure_move rfl) rfl rfl ?_
                  refine seq_skip rfl rfl ?_
                  refine seq_skip rfl rfl ?_
                  refine seq_skip rfl rfl ?_
                  refine seq_pure (pure_pick_t rfl rfl) rfl rfl ?_
                  refine seq_pure (pure_pick_t rfl rfl) rfl rfl ?_
                  refine seq_pure (pure_assign rfl) rfl rfl ?_
                  refine seq_done ?_
                  refine nrm_seq ?_
                  refine tri_cond_t rfl ?_
                  refine tri_seq ?_
                  refine tri_region ?_
                  refine seq_pure (pure_assign rfl) rfl rfl ?_
                  refine seq_done ?_
                  refine nrm_seq ?_
                  refine tri_ret ?_
                  refine ret_block ?_
                  refine ret_seq ?_
                  refine ret_fin1 (res_tmp rfl) ?_
                  exact ⟨rfl, by (cases R with | false => rfl | true => (exfalso; obtain ⟨i1, i2, i3, i4, i5, i6, i7, i8, i9⟩ := hi.1 rfl; first | omega | (have j := i2 (by omega); simp_all; done) | (have j := i3 (by omega); simp_all; done) | (have j := i4 (by omega); simp_all; done) | (have j := i5 (by omega); simp_all; done) | (have j := i6 (by omega); simp_all; done) | (have j := i7 (by omega); simp_all; done) | (have j := i8 (by omega); simp_all; done) | (have j := i9 (by omega); simp_all; done))), rfl⟩
              · refine seq_pure (pure_not_f rfl) rfl rfl ?_
                refine seq_pure (pure_pick_t rfl rfl) rfl rfl ?_
                refine seq_pure (pure_assign rfl) rfl rfl ?_
                refine seq_done ?_
                refine nrm_seq ?_
                refine tri_cond_t rfl ?_
                refine tri_skip ?_
                refine nrm_seq ?_
                refine tri_cond_t rfl ?_
                refine tri_seq ?_
                refine tri_region ?_
                refine seq_pure (pure_assign rfl) rfl rfl ?_
                refine seq_done ?_
                refine nrm_seq ?_
                refine tri_ret ?_
                refine ret_block ?_
                refine ret_seq ?_
                refine ret_fin1 (res_tmp rfl) ?_
                exact ⟨rfl, by (cases R with | false => rfl | true => (exfalso; obtain ⟨i1, i2, i3, i4, i5, i6, i7, i8, i9⟩ := hi.1 rfl; first | omega | (have j := i2 (by omega); simp_all; done) | (have j := i3 (by omega); simp_all; done) | (have j := i4 (by omega); simp_all; done) | (have j := i5 (by omega); simp_all; done) | (have j := i6 (by omega); simp_all; done) | (have j := i7 (by omega); simp_all; done) | (have j := i8 (by omega); simp_all; done) | (have j := i9 (by omega); simp_all; done))), rfl⟩
            · refine seq_pure (pure_not_f rfl) rfl rfl ?_
              refine seq_pure (pure_assign rfl) rfl rfl ?_
              refine seq_done ?_
              refine nrm_seq ?_
              refine tri_cond_t rfl ?_
              refine tri_seq ?_
              refine tri_region ?_
              refine seq_pure (pure_assign rfl) rfl rfl ?_
              refine seq_done ?_
              refine nrm_seq ?_
              refine tri_ret ?_
              refine ret_block ?_
              refine ret_seq ?_
              refine ret_fin1 (res_tmp rfl) ?_
              exact ⟨rfl, by (cases R with | false => rfl | true => (exfalso; obtain ⟨i1, i2, i3, i4, i5, i6, i7, i8, i9⟩ := hi.1 rfl; first | omega | (have j := i2 (by omega); simp_all; done) | (have j := i3 (by omega); simp_all; done) | (have j := i4 (by omega); simp_all; done) | (have j := i5 (by omega); simp_all; done) | (have j := i6 (by omega); simp_all; done) | (have j := i7 (by omega); simp_all; done) | (have j := i8 (by omega); simp_all; done) | (have j := i9 (by omega); simp_all; done))), rfl⟩
        · refine seq_pure (pure_pick_f rfl rfl) rfl rfl ?_
          refine seq_pure (pure_move rfl) rfl rfl ?_
          refine seq_pure (pure_fieldAddr0 rfl) rfl rfl ?_
          refine seq_load (load_bs rfl rfl (by repeat (first | exact List.Mem.head _ | apply List.Mem.tail)) (by rfl)) rfl rfl ?_
          refine seq_bool (pure_eql rfl rfl) rfl rfl (fun h807 => ?_) (fun h807 => ?_)
          · refine seq_pure (pure_pick_f rfl rfl) rfl rfl ?_
            refine seq_pure (pure_assign rfl) rfl rfl ?_
            refine seq_done ?_
            refine nrm_seq ?_
            refine tri_seq ?_
            refine tri_region ?_
            refine seq_pure (pure_fieldAddr0 rfl) rfl rfl ?_
            refine seq_load (load_bs rfl rfl (by repeat (first | exact List.Mem.head _ | apply List.Mem.tail)) (by rfl)) rfl rfl ?_
            refine seq_pure (pure_eql_t rfl rfl (by omega)) rfl rfl ?_
            refine seq_pure (pure_assign rfl) rfl rfl ?_
            refine seq_done ?_
            refine nrm_seq ?_
            refine tri_seq ?_
            refine tri_region ?_
            refine seq_pure (pure_assign rfl) rfl rfl ?_
            refine seq_done ?_
            refine nrm_seq ?_
            refine tri_seq ?_
            refine tri_seq ?_
            refine tri_region ?_
            refine seq_pure (pure_fieldAddr0 rfl) rfl rfl ?_
            refine seq_load (load_bs rfl rfl (by repeat (first | exact List.Mem.head _ | apply List.Mem.tail)) (by rfl)) rfl rfl ?_
            refine seq_pure (pure_eql_f rfl rfl (by omega)) rfl rfl ?_
            refine seq_done ?_
            refine nrm_seq ?_
            refine tri_cond_f rfl ?_
            refine tri_skip ?_
            refine nrm_seq ?_
            refine tri_seq ?_
            refine tri_block ?_
            refine tri_seq ?_
            refine tri_seq ?_
            refine tri_region ?_
            refine seq_pure (pure_move rfl) rfl rfl ?_
            refine seq_pure (pure_move rfl) rfl rfl ?_
            refine seq_skip rfl rfl ?_
            refine seq_skip rfl rfl ?_
            refine seq_skip rfl rfl ?_
            refine seq_skip rfl rfl ?_
            refine seq_pure (pure_pick_f rfl rfl) rfl rfl ?_
            refine seq_pure (pure_assign rfl) rfl rfl ?_
            refine seq_done ?_
            refine nrm_seq ?_
            refine tri_cond_f rfl ?_
            refine tri_seq ?_
            refine tri_region ?_
            refine seq_pure (pure_move rfl) rfl rfl ?_
            refine seq_pure (pure_not_f rfl) rfl rfl ?_
            refine seq_pure (pure_move rfl) rfl rfl ?_
            refine seq_pure (pure_fieldAddr0 rfl) rfl rfl ?_
            refine seq_load (load_bs rfl rfl (by repeat (first | exact List.Mem.head _ | apply List.Mem.tail)) (by rfl)) rfl rfl ?_
            refine seq_bool (pure_sneq rfl rfl) rfl rfl (fun h859 => ?_) (fun h859 => ?_)
            · refine seq_pure (pure_pick_t rfl rfl) rfl rfl ?_
              refine seq_pure (pure_assign rfl) rfl rfl ?_
              refine seq_done ?_
              refine nrm_seq ?_
              refine tri_cond_t rfl ?_
              refine tri_skip ?_
              refine nrm_seq ?_
              refine tri_cond_t rfl ?_
              refine tri_seq ?_
              refine tri_region ?_
              refine seq_pure (pure_assign rfl) rfl rfl ?_
              refine seq_done ?_
              refine nrm_seq ?_
              refine tri_ret ?_
              refine ret_block ?_
              refine ret_seq ?_
              refine ret_fin1 (res_tmp rfl) ?_
              exact ⟨rfl, by (cases R with | false => rfl | true => (exfalso; obtain ⟨i1, i2, i3, i4, i5, i6, i7, i8, i9⟩ := hi.1 rfl; first | omega | (have j := i2 (by omega); simp_all; done) | (have j := i3 (by omega); simp_all; done) | (have j := i4 (by omega); simp_all; done) | (have j := i5 (by omega); simp_all; done) | (have j := i6 (by omega); simp_all; done) | (have j := i7 (by omega); simp_all; done) | (have j := i8 (by omega); simp_all; done) | (have j := i9 (by omega); simp_all; done))), rfl⟩
            · refine seq_pure (pure_pick_t rfl rfl) rfl rfl ?_
              refine seq_pure (pure_assign rfl) rfl rfl ?_
              refine seq_done ?_
              refine nrm_seq ?_
              refine tri_cond_f rfl ?_
              refine tri_region ?_
              refine seq_pure (pure_fieldAddr0 rfl) rfl rfl ?_
              refine seq_load (load_bs rfl rfl (by repeat (first | exact List.Mem.head _ | apply List.Mem.tail)) (by rfl)) rfl rfl ?_
              refine seq_pure (pure_move rfl) rfl rfl ?_
              refine seq_valb rfl (within_fn _ _ _ _) rfl rfl (fun h887 => ?_) (fun h887 => ?_)
              · refine seq_pure (pure_not_t rfl) rfl rfl ?_
                refine seq_pure (pure_assign rfl) rfl rfl ?_
                refine seq_done ?_
                refine nrm_seq ?_
                refine tri_cond_f rfl ?_
                refine tri_seq ?_
                refine tri_seq ?_
                refine tri_region ?_
                refine seq_pure (pure_move rfl) rfl rfl ?_
                refine seq_pure (pure_move rfl) rfl rfl ?_
                refine seq_pure (pure_fieldAddr0 rfl) rfl rfl ?_
                refine seq_load (load_ba rfl rfl (by repeat (first | exact List.Mem.head _ | apply List.Mem.tail)) (by rfl)) rfl rfl ?_
                refine seq_valb rfl (o3) rfl rfl (fun h900 => ?_) (fun h900 => ?_)
                · refine seq_pure (pure_not_t rfl) rfl rfl ?_
                  refine seq_pure (pure_pick_t rfl rfl) rfl rfl ?_
                  refine seq_pure (pure_assign rfl) rfl rfl ?_
                  refine seq_done ?_
                  refine nrm_seq ?_
                  refine tri_cond_f rfl ?_
                  refine tri_region ?_
                  refine seq_pure (pure_move rfl) rfl rfl ?_
                  refine seq_pure (pure_not_t rfl) rfl rfl ?_
                  refine seq_pure (pure_move rfl) rfl rfl ?_
                  refine seq_skip rfl rfl ?_
                  refine seq_skip rfl rfl ?_
                  refine seq_skip rfl rfl ?_
                  refine seq_skip rfl rfl ?_
                  refine seq_pure (pure_pick_f rfl rfl) rfl rfl ?_
                  refine seq_pure (pure_assign rfl) rfl rfl ?_
                  refine seq_done ?_
                  refine nrm_seq ?_
                  refine tri_cond_f rfl ?_
                  refine tri_seq ?_
                  refine tri_seq ?_
                  refine tri_region ?_
                  refine seq_pure (pure_move rfl) rfl rfl ?_
                  refine seq_pure (pure_move rfl) rfl rfl ?_
                  refine seq_pure (pure_fieldAddr0 rfl) rfl rfl ?_
                  refine seq_load (load_ba rfl rfl (by repeat (first | exact List.Mem.head _ | apply List.Mem.tail)) (by rfl)) rfl rfl ?_
                  refine seq_pure (pure_fieldAddr0 rfl) rfl rfl ?_
                  refine seq_load (load_ba rfl rfl (by repeat (first | exact List.Mem.head _ | apply List.Mem.tail)) (by rfl)) rfl rfl ?_
                  refine seq_valb rfl (o5) rfl rfl (fun h929 => ?_) (fun h929 => ?_)
                  · refine seq_pure (pure_not_t rfl) rfl rfl ?_
                    refine seq_pure (pure_move rfl) rfl rfl ?_
                    refine seq_pure (pure_fieldAddr0 rfl) rfl rfl ?_
                    refine seq_load (load_bs rfl rfl (by repeat (first | exact List.Mem.head _ | apply List.Mem.tail)) (by rfl)) rfl rfl ?_
                    refine seq_valb rfl (o6) rfl rfl (fun h934 => ?_) (fun h934 => ?_)
                    · refine seq_pure (pure_not_t rfl) rfl rfl ?_
                      refine seq_pure (pure_pick_f rfl rfl) rfl rfl ?_
                      refine seq_pure (pure_pick_t rfl rfl) rfl rfl ?_
                      refine seq_pure (pure_assign rfl) rfl rfl ?_
                      refine seq_done ?_
                      refine nrm_seq ?_
                      refine tri_cond_f rfl ?_
                      refine tri_region ?_
                      refine seq_pure (pure_move rfl) rfl rfl ?_
                      refine seq_pure (pure_not_t rfl) rfl rfl ?_
                      refine seq_pure (pure_move rfl) rfl rfl ?_
                      refine seq_skip rfl rfl ?_
                      refine seq_skip rfl rfl ?_
                      refine seq_skip rfl rfl ?_
                      refine seq_skip rfl rfl ?_
                      refine seq_skip rfl rfl ?_
                      refine seq_skip rfl rfl ?_
                      refine seq_skip rfl rfl ?_
                      refine seq_skip rfl rfl ?_
                      refine seq_skip rfl rfl ?_
                      refine seq_pure (pure_pick_f rfl rfl) rfl rfl ?_
                      refine seq_pure (pure_assign rfl) rfl rfl ?_
                      refine seq_done ?_
                      refine nrm_seq ?_
                      refine tri_cond_f rfl ?_
                      refine tri_skip ?_
                      refine nrm_block ?_
                      refine nrm_seq ?_
                      refine tri_seq ?_
                      refine tri_region ?_
                      refine seq_pure (pure_assign rfl) rfl rfl ?_
                      refine seq_done ?_
                      refine nrm_seq ?_
                      refine tri_ret ?_
                      refine ret_fin1 (res_tmp rfl) ?_
                      exact ⟨rfl, by rw [hi.2 ⟨by omega, fun _ => by (first | assumption | (exfalso; omega) | exact Classical.not_not.1 (by assumption)), fun _ => by (first | assumption | (exfalso; omega) | exact Classical.not_not.1 (by assumption)), fun _ => by (first | assumption | (exfalso; omega) | exact Classical.not_not.1 (by assumption)), fun _ => by (first | assumption | (exfalso; omega) | exact Classical.not_not.1 (by assumption)), fun _ => by (first | assumption | (exfalso; omega) | exact Classical.not_not.1 (by assumption)), fun _ => by (first | assumption | (exfalso; omega) | exact Classical.not_not.1 (by assumption)), fun _ => ⟨by (first | assumption | (exfalso; omega)), by (first | assumption | (exfalso; omega))⟩, fun _ => ⟨by (first | assumption | (exfalso; omega)), by (first | assumption | omega)⟩⟩], rfl⟩
                    · refine seq_pure (pure_not_f rfl) rfl rfl ?_
                      refine seq_pure (pure_pick_f rfl rfl) rfl rfl ?_
                      refine seq_pure (pure_pick_t rfl rfl) rfl rfl ?_
                      refine seq_pure (pure_assign rfl) rfl rfl ?_
                      refine seq_done ?_
                      refine nrm_seq ?_
                      refine tri_cond_t rfl ?_
                      refine tri_skip ?_
                      refine nrm_seq ?_
                      refine tri_cond_t rfl ?_
                      refine tri_seq ?_
                      refine tri_region ?_
                      refine seq_pure (pure_assign rfl) rfl rfl ?_
                      refine seq_done ?_
                      refine nrm_seq ?_
                      refine tri_ret ?_
                      refine ret_block ?_
                      refine ret_seq ?_
                      refine ret_fin1 (res_tmp rfl) ?_
                      exact ⟨rfl, by (cases R with | false => rfl | true => (exfalso; obtain ⟨i1, i2, i3, i4, i5, i6, i7, i8, i9⟩ := hi.1 rfl; first | omega | (have j := i2 (by omega); simp_all; done) | (have j := i3 (by omega); simp_all; done) | (have j := i4 (by omega); simp_all; done) | (have j := i5 (by omega); simp_all; done) | (have j := i6 (by omega); simp_all; done) | (have j := i7 (by omega); simp_all; done) | (have j := i8 (by omega); simp_all; done) | (have j := i9 (by omega); simp_all; done))), rfl⟩
                  · refine seq_pure (pure_not_f rfl) rfl rfl ?_
                    refine seq_pure (pure_move rfl) rfl rfl ?_
                    refine seq_skip rfl rfl ?_
                    refine seq_skip rfl rfl ?_
                    refine seq_skip rfl rfl ?_
                    refine seq_skip rfl rfl ?_
                    refine seq_pure (pure_pick_t rfl rfl) rfl rfl ?_
                    refine seq_pure (pure_pick_t rfl rfl) rfl rfl ?_
                    refine seq_pure (pure_assign rfl) rfl rfl ?_
                    refine seq_done ?_
                    refine nrm_seq ?_
                    refine tri_cond_t rfl ?_
                    refine tri_skip ?_
                    refine nrm_seq ?_
                    refine tri_cond_t rfl ?_
                    refine tri_seq ?_
                    refine tri_region ?_
                    refine seq_pure (pure_assign rfl) rfl rfl ?_
                    refine seq_done ?_
                    refine nrm_seq ?_
                    refine tri_ret ?_
                    refine ret_block ?_
                    refine ret_seq ?_
                    refine ret_fin1 (res_tmp rfl) ?_
                    exact ⟨rfl, by (cases R with | false => rfl | true => (exfalso; obtain ⟨i1, i2, i3, i4, i5, i6, i7, i8, i9⟩ := hi.1 rfl; first | omega | (have j := i2 (by omega); simp_all; done) | (have j := i3 (by omega); simp_all; done) | (have j := i4 (by omega); simp_all; done) | (have j := i5 (by omega); simp_all; done) | (have j := i6 (by omega); simp_all; done) | (have j := i7 (by omega); simp_all; done) | (have j := i8 (by omega); simp_all; done) | (have j := i9 (by omega); simp_all; done))), rfl⟩
                · refine seq_pure (pure_not_f rfl) rfl rfl ?_
                  refine seq_pure (pure_pick_t rfl rfl) rfl rfl ?_
                  refine seq_pure (pure_assign rfl) rfl rfl ?_
                  refine seq_done ?_
                  refine nrm_seq ?_
                  refine tri_cond_t rfl ?_
                  refine tri_skip ?_
                  refine nrm_seq ?_
                  refine tri_cond_t rfl ?_
                  refine tri_seq ?_
                  refine tri_region ?_
                  refine seq_pure (pure_assign rfl) rfl rfl ?_
                  refine seq_done ?_
                  refine nrm_seq ?_
                  refine tri_ret ?_
                  refine ret_block ?_
                  refine ret_seq ?_
                  refine ret_fin1 (res_tmp rfl) ?_
                  exact ⟨rfl, by (cases R with | false => rfl | true => (exfalso; obtain ⟨i1, i2, i3, i4, i5, i6, i7, i8, i9⟩ := hi.1 rfl; first | omega | (have j := i2 (by omega); simp_all; done) | (have j := i3 (by omega); simp_all; done) | (have j := i4 (by omega); simp_all; done) | (have j := i5 (by omega); simp_all; done) | (have j := i6 (by omega); simp_all; done) | (have j := i7 (by omega); simp_all; done) | (have j := i8 (by omega); simp_all; done) | (have j := i9 (by omega); simp_all; done))), rfl⟩
              · refine seq_pure (pure_not_f rfl) rfl rfl ?_
                refine seq_pure (pure_assign rfl) rfl rfl ?_
                refine seq_done ?_
                refine nrm_seq ?_
                refine tri_cond_t rfl ?_
                refine tri_seq ?_
                refine tri_region ?_
                refine seq_pure (pure_assign rfl) rfl rfl ?_
                refine seq_done ?_
                refine nrm_seq ?_
                refine tri_ret ?_
                refine ret_block ?_
                refine ret_seq ?_
                refine ret_fin1 (res_tmp rfl) ?_
                exact ⟨rfl, by (cases R with | false => rfl | true => (exfalso; obtain ⟨i1, i2, i3, i4, i5, i6, i7, i8, i9⟩ := hi.1 rfl; first | omega | (have j := i2 (by omega); simp_all; done) | (have j := i3 (by omega); simp_all; done) | (have j := i4 (by omega); simp_all; done) | (have j := i5 (by omega); simp_all; done) | (have j := i6 (by omega); simp_all; done) | (have j := i7 (by omega); simp_all; done) | (have j := i8 (by omega); simp_all; done) | (have j := i9 (by omega); simp_all; done))), rfl⟩
          · refine seq_pure (pure_pick_f rfl rfl) rfl rfl ?_
            refine seq_pure (pure_assign rfl) rfl rfl ?_
            refine seq_done ?_
            refine nrm_seq ?_
            refine tri_seq ?_
            refine tri_region ?_
            refine seq_pure (pure_fieldAddr0 rfl) rfl rfl ?_
            refine seq_load (load_bs rfl rfl (by repeat (first | exact List.Mem.head _ | apply List.Mem.tail)) (by rfl)) rfl rfl ?_
            refine seq_pure (pure_eql_f rfl rfl (by omega)) rfl rfl ?_
            refine seq_pure (pure_assign rfl) rfl rfl ?_
            refine seq_done ?_
            refine nrm_seq ?_
            refine tri_seq ?_
            refine tri_region ?_
            refine seq_pure (pure_assign rfl) rfl rfl ?_
            refine seq_done ?_
            refine nrm_seq ?_
            refine tri_seq ?_
            refine tri_seq ?_
            refine tri_region ?_
            refine seq_pure (pure_fieldAddr0 rfl) rfl rfl ?_
            refine seq_load (load_bs rfl rfl (by repeat (first | exact List.Mem.head _ | apply List.Mem.tail)) (by rfl)) rfl rfl ?_
            refine seq_bool (pure_eql rfl rfl) rfl rfl (fun h1072 => ?_) (fun h1072 => ?_)
            · refine seq_done ?_
              refine nrm_seq ?_
              refine tri_cond_t rfl ?_
              refine tri_region ?_
              refine seq_pure (pure_assign rfl) rfl rfl ?_
              refine seq_done ?_
              refine nrm_seq ?_
              refine tri_seq ?_
              refine tri_block ?_
              refine tri_seq ?_
              refine tri_seq ?_
              refine tri_region ?_
              refine seq_pure (pure_move rfl) rfl rfl ?_
              refine seq_pure (pure_move rfl) rfl rfl ?_
              refine seq_skip rfl rfl ?_
              refine seq_skip rfl rfl ?_
              refine seq_skip rfl rfl ?_
              refine seq_skip rfl rfl ?_
              refine seq_pure (pure_pick_f rfl rfl) rfl rfl ?_
              refine seq_pure (pure_assign rfl) rfl rfl ?_
              refine seq_done ?_
              refine nrm_seq ?_
              refine tri_cond_f rfl ?_
              refine tri_seq ?_
              refine tri_region ?_
              refine seq_pure (pure_move rfl) rfl rfl ?_
              refine seq_pure (pure_not_f rfl) rfl rfl ?_
              refine seq_pure (pure_move rfl) rfl rfl ?_
              refine seq_pure (pure_fieldAddr0 rfl) rfl rfl ?_
              refine seq_load (load_bs rfl rfl (by repeat (first | exact List.Mem.head _ | apply List.Mem.tail)) (by rfl)) rfl rfl ?_
              refine seq_bool (pure_sneq rfl rfl) rfl rfl (fun h1103 => ?_) (fun h1103 => ?_)
              · refine seq_pure (pure_pick_t rfl rfl) rfl rfl ?_
                refine seq_pure (pure_assign rfl) rfl rfl ?_
                refine seq_done ?_
                refine nrm_seq ?_
                refine tri_cond_t rfl ?_
                refine tri_skip ?_
                refine nrm_seq ?_
                refine tri_cond_t rfl ?_
                refine tri_seq ?_
                refine tri_region ?_
                refine seq_pure (pure_assign rfl) rfl rfl ?_
                refine seq_done ?_
                refine nrm_seq ?_
                refine tri_ret ?_
                refine ret_block ?_
                refine ret_seq ?_
                refine ret_fin1 (res_tmp rfl) ?_
                exact ⟨rfl, by (cases R with | false => rfl | true => (exfalso; obtain ⟨i1, i2, i3, i4, i5, i6, i7, i8, i9⟩ := hi.1 rfl; first | omega | (have j := i2 (by omega); simp_all; done) | (have j := i3 (by omega); simp_all; done) | (have j := i4 (by omega); simp_all; done) | (have j := i5 (by omega); simp_all; done) | (have j := i6 (by omega); simp_all; done) | (have j := i7 (by omega); simp_all; done) | (have j := i8 (by omega); simp_all; done) | (have j := i9 (by omega); simp_all; done))), rfl⟩
              · refine seq_pure (pure_pick_t rfl rfl) rfl rfl ?_
                refine seq_pure (pure_assign rfl) rfl rfl ?_
                refine seq_done ?_
                refine nrm_seq ?_
                refine tri_cond_f rfl ?_
                refine tri_region ?_
                refine seq_pure (pure_fieldAddr0 rfl) rfl rfl ?_
                refine seq_load (load_bs rfl rfl (by repeat (first | exact List.Mem.head _ | apply List.Mem.tail)) (by rfl)) rfl rfl ?_
                refine seq_pure (pure_move rfl) rfl rfl ?_
                refine seq_valb rfl (within_fn _ _ _ _) rfl rfl (fun h1131 => ?_) (fun h1131 => ?_)
                · refine seq_pure (pure_not_t rfl) rfl rfl ?_
                  refine seq_pure (pure_assign rfl) rfl rfl ?_
                  refine seq_done ?_
                  refine nrm_seq ?_
                  refine tri_cond_f rfl ?_
                  refine tri_seq ?_
                  refine tri_seq ?_
                  refine tri_region ?_
                  refine seq_pure (pure_move rfl) rfl rfl ?_
                  refine seq_pure (pure_move rfl) rfl rfl ?_
                  refine seq_skip rfl rfl ?_
                  refine seq_skip rfl rfl ?_
                  refine seq_skip rfl rfl ?_
                  refine seq_skip rfl rfl ?_
                  refine seq_pure (pure_pick_f rfl rfl) rfl rfl ?_
                  refine seq_pure (pure_assign rfl) rfl rfl ?_
                  refine seq_done ?_
                  refine nrm_seq ?_
                  refine tri_cond_f rfl ?_
                  refine tri_region ?_
                  refine seq_pure (pure_move rfl) rfl rfl ?_
                  refine seq_pure (pure_not_f rfl) rfl rfl ?_
                  refine seq_pure (pure_move rfl) rfl rfl ?_
                  refine seq_pure (pure_fieldAddr0 rfl) rfl rfl ?_
                  refine seq_load (load_ba rfl rfl (by repeat (first | exact List.Mem.head _ | apply List.Mem.tail)) (by rfl)) rfl rfl ?_
                  refine seq_valb rfl (o4) rfl rfl (fun h1157 => ?_) (fun h1157 => ?_)
                  · refine seq_pure (pure_not_t rfl) rfl rfl ?_
                    refine seq_pure (pure_pick_t rfl rfl) rfl rfl ?_
                    refine seq_pure (pure_assign rfl) rfl rfl ?_
                    refine seq_done ?_
                    refine nrm_seq ?_
                    refine tri_cond_f rfl ?_
                    refine tri_seq ?_
                    refine tri_seq ?_
                    refine tri_region ?_
                    refine seq_pure (pure_move rfl) rfl rfl ?_
                    refine seq_pure (pure_move rfl) rfl rfl ?_
                    refine seq_skip rfl rfl ?_
                    refine seq_skip rfl rfl ?_
                    refine seq_skip rfl rfl ?_
                    refine seq_skip rfl rfl ?_
                    refine seq_skip rfl rfl ?_
                    refine seq_skip rfl rfl ?_
                    refine seq_skip rfl rfl ?_
                    refine seq_skip rfl rfl ?_
                    refine seq_skip rfl rfl ?_
                    refine seq_skip rfl rfl ?_
                    refine seq_skip rfl rfl ?_
                    refine seq_skip rfl rfl ?_
                    refine seq_pure (pure_pick_f rfl rfl) rfl rfl ?_
                    refine seq_pure (pure_assign rfl) rfl rfl ?_
                    refine seq_done ?_
                    refine nrm_seq ?_
                    refine tri_cond_f rfl ?_
                    refine tri_region ?_
                    refine seq_pure (pure_move rfl) rfl rfl ?_
                    refine seq_pure (pure_not_f rfl) rfl rfl ?_
                    refine seq_pure (pure_move rfl) rfl rfl ?_
                    refine seq_pure (pure_fieldAddr0 rfl) rfl rfl ?_
                    refine seq_load (load_ba rfl rfl (by repeat (first | exact List.Mem.head _ | apply List.Mem.tail)) (by rfl)) rfl rfl ?_
                    refine seq_valb rfl (o7) rfl rfl (fun h1192 => ?_) (fun h1192 => ?_)
                    · refine seq_pure (pure_not_t rfl) rfl rfl ?_
                      refine seq_pure (pure_move rfl) rfl rfl ?_
                      refine seq_pure (pure_fieldAddr0 rfl) rfl rfl ?_
                      refine seq_load (load_bs rfl rfl (by repeat (first | exact List.Mem.head _ | apply List.Mem.tail)) (by rfl)) rfl rfl ?_
                      refine seq_bool (pure_neq rfl rfl) rfl rfl (fun h1197 => ?_) (fun h1197 => ?_)
                      · refine seq_pure (pure_pick_f rfl rfl) rfl rfl ?_
                        refine seq_pure (pure_pick_t rfl rfl) rfl rfl ?_
                        refine seq_pure (pure_assign rfl) rfl rfl ?_
                        refine seq_done ?_
                        refine nrm_seq ?_
                        refine tri_cond_t rfl ?_
                        refine tri_seq ?_
                        refine tri_region ?_
                        refine seq_pure (pure_assign rfl) rfl rfl ?_
                        refine seq_done ?_
                        refine nrm_seq ?_
                        refine tri_ret ?_
                        refine ret_block ?_
                        refine ret_seq ?_
                        refine ret_fin1 (res_tmp rfl) ?_
                        exact ⟨rfl, by (cases R with | false => rfl | true => (exfalso; obtain ⟨i1, i2, i3, i4, i5, i6, i7, i8, i9⟩ := hi.1 rfl; first | omega | (have j := i2 (by omega); simp_all; done) | (have j := i3 (by omega); simp_all; done) | (have j := i4 (by omega); simp_all; done) | (have j := i5 (by omega); simp_all; done) | (have j := i6 (by omega); simp_all; done) | (have j := i7 (by omega); simp_all; done) | (have j := i8 (by omega); simp_all; done) | (have j := i9 (by omega); simp_all; done))), rfl⟩
                      · refine seq_pure (pure_pick_f rfl rfl) rfl rfl ?_
                        refine seq_pure (pure_pick_t rfl rfl) rfl rfl ?_
                        refine seq_pure (pure_assign rfl) rfl rfl ?_
                        refine seq_done ?_
                        refine nrm_seq ?_
                        refine tri_cond_f rfl ?_
                        refine tri_skip ?_
                        refine nrm_block ?_
                        refine nrm_seq ?_
                        refine tri_seq ?_
                        refine tri_region ?_
                        refine seq_pure (pure_assign rfl) rfl rfl ?_
                        refine seq_done ?_
                        refine nrm_seq ?_
                        refine tri_ret ?_
                        refine ret_fin1 (res_tmp rfl) ?_
                        exact ⟨rfl, by rw [hi.2 ⟨by omega, fun _ => by (first | assumption | (exfalso; omega) | exact Classical.not_not.1 (by assumption)), fun _ => by (first | assumption | (exfalso; omega) | exact Classical.not_not.1 (by assumption)), fun _ => by (first | assumption | (exfalso; omega) | exact Classical.not_not.1 (by assumption)), fun _ => by (first | assumption | (exfalso; omega) | exact Classical.not_not.1 (by assumption)), fun _ => by (first | assumption | (exfalso; omega) | exact Classical.not_not.1 (by assumption)), fun _ => by (first | assumption | (exfalso; omega) | exact Classical.not_not.1 (by assumption)), fun _ => ⟨by (first | assumption | (exfalso; omega)), by (first | assumption | (exfalso; omega))⟩, fun _ => ⟨by (first | assumption | (exfalso; omega)), by (first | assumption | omega)⟩⟩], rfl⟩
                    · refine seq_pure (pure_not_f rfl) rfl rfl ?_
                      refine seq_pure (pure_move rfl) rfl rfl ?_
                      refine seq_skip rfl rfl ?_
                      refine seq_skip rfl rfl ?_
                      refine seq_skip rfl rfl ?_
                      refine seq_pure (pure_pick_t rfl rfl) rfl rfl ?_
                      refine seq_pure (pure_pick_t rfl rfl) rfl rfl ?_
                      refine seq_pure (pure_assign rfl) rfl rfl ?_
                      refine seq_done ?_
                      refine nrm_seq ?_
                      refine tri_cond_t rfl ?_
                      refine tri_seq ?_
                      refine tri_region ?_
                      refine seq_pure (pure_assign rfl) rfl rfl ?_
                      refine seq_done ?_
                      refine nrm_seq ?_
                      refine tri_ret ?_
                      refine ret_block ?_
                      refine ret_seq ?_
                      refine ret_fin1 (res_tmp rfl) ?_
                      exact ⟨rfl, by (cases R with | false => rfl | true => (exfalso; obtain ⟨i1, i2, i3, i4, i5, i6, i7, i8, i9⟩ := hi.1 rfl; first | omega | (have j := i2 (by omega); simp_all; done) | (have j := i3 (by omega); simp_all; done) | (have j := i4 (by omega); simp_all; done) | (have j := i5 (by omega); simp_all; done) | (have j := i6 (by omega); simp_all; done) | (have j := i7 (by omega); simp_all; done) | (have j := i8 (by omega); simp_all; done) | (have j := i9 (by omega); simp_all; done))), rfl⟩
                  · refine seq_pure (pure_not_f rfl) rfl rfl ?_
                    refine seq_pure (pure_pick_t rfl rfl) rfl rfl ?_
                    refine seq_pure (pure_assign rfl) rfl rfl ?_
                    refine seq_done ?_
                    refine nrm_seq ?_
                    refine tri_cond_t rfl ?_
                    refine tri_seq ?_
                    refine tri_region ?_
                    refine seq_pure (pure_assign rfl) rfl rfl ?_
                    refine seq_done ?_
                    refine nrm_seq ?_
                    refine tri_ret ?_
                    refine ret_block ?_
                    refine ret_seq ?_
                    refine ret_fin1 (res_tmp rfl) ?_
                    exact ⟨rfl, by (cases R with | false => rfl | true => (exfalso; obtain ⟨i1, i2, i3, i4, i5, i6, i7, i8, i9⟩ := hi.1 rfl; first | omega | (have j := i2 (by omega); simp_all; done) | (have j := i3 (by omega); simp_all; done) | (have j := i4 (by omega); simp_all; done) | (have j := i5 (by omega); simp_all; done) | (have j := i6 (by omega); simp_all; done) | (have j := i7 (by omega); simp_all; done) | (have j := i8 (by omega); simp_all; done) | (have j := i9 (by omega); simp_all; done))), rfl⟩
                · refine seq_pure (pure_not_f rfl) rfl rfl ?_
                  refine seq_pure (pure_assign rfl) rfl rfl ?_
                  refine seq_done ?_
                  refine nrm_seq ?_
                  refine tri_cond_t rfl ?_
                  refine tri_seq ?_
                  refine tri_region ?_
                  refine seq_pure (pure_assign rfl) rfl rfl ?_
                  refine seq_done ?_
                  refine nrm_seq ?_
                  refine tri_ret ?_
                  refine ret_block ?_
                  refine ret_seq ?_
                  refine ret_fin1 (res_tmp rfl) ?_
                  exact ⟨rfl, by (cases R with | false => rfl | true => (exfalso; obtain ⟨i1, i2, i3, i4, i5, i6, i7, i8, i9⟩ := hi.1 rfl; first | omega | (have j := i2 (by omega); simp_all; done) | (have j := i3 (by omega); simp_all; done) | (have j := i4 (by omega); simp_all; done) | (have j := i5 (by omega); simp_all; done) | (have j := i6 (by omega); simp_all; done) | (have j := i7 (by omega); simp_all; done) | (have j := i8 (by omega); simp_all; done) | (have j := i9 (by omega); simp_all; done))), rfl⟩
            · refine seq_done ?_
              refine nrm_seq ?_
              refine tri_cond_f rfl ?_
              refine tri_skip ?_
              refine nrm_seq ?_
              refine tri_seq ?_
              refine tri_block ?_
              refine tri_seq ?_
              refine tri_seq ?_
              refine tri_region ?_
              refine seq_pure (pure_move rfl) rfl rfl ?_
              refine seq_pure (pure_move rfl) rfl rfl ?_
              refine seq_skip rfl rfl ?_
              refine seq_skip rfl rfl ?_
              refine seq_skip rfl rfl ?_
              refine seq_skip rfl rfl ?_
              refine seq_pure (pure_pick_f rfl rfl) rfl rfl ?_
              refine seq_pure (pure_assign rfl) rfl rfl ?_
              refine seq_done ?_
              refine nrm_seq ?_
              refine tri_cond_f rfl ?_
              refine tri_seq ?_
              refine tri_region ?_
              refine seq_pure (pure_move rfl) rfl rfl ?_
              refine seq_pure (pure_not_f rfl) rfl rfl ?_
              refine seq_pure (pure_move rfl) rfl rfl ?_
              refine seq_pure (pure_fieldAddr0 rfl) rfl rfl ?_
              refine seq_load (load_bs rfl rfl (by repeat (first | exact List.Mem.head _ | apply List.Mem.tail)) (by rfl)) rfl rfl ?_
              refine seq_bool (pure_sneq rfl rfl) rfl rfl (fun h1311 => ?_) (fun h1311 => ?_)
              · refine seq_pure (pure_pick_t rfl rfl) rfl rfl ?_
                refine seq_pure (pure_assign rfl) rfl rfl ?_
                refine seq_done ?_
                refine nrm_seq ?_
                refine tri_cond_t rfl ?_
                refine tri_skip ?_
                refine nrm_seq ?_
                refine tri_cond_t rfl ?_
                refine tri_seq ?_
                refine tri_region ?_
                refine seq_pure (pure_assign rfl) rfl rfl ?_
                refine seq_done ?_
                refine nrm_seq ?_
                refine tri_ret ?_
                refine ret_block ?_
                refine ret_seq ?_
                refine ret_fin1 (res_tmp rfl) ?_
                exact ⟨rfl, by (cases R with | false => rfl | true => (exfalso; obtain ⟨i1, i2, i3, i4, i5, i6, i7, i8, i9⟩ := hi.1 rfl; first | omega | (have j := i2 (by omega); simp_all; done) | (have j := i3 (by omega); simp_all; done) | (have j := i4 (by omega); simp_all; done) | (have j := i5 (by omega); simp_all; done) | (have j := i6 (by omega); simp_all; done) | (have j := i7 (by omega); simp_all; done) | (have j := i8 (by omega); simp_all; done) | (have j := i9 (by omega); simp_all; done))), rfl⟩
              · refine seq_pure (pure_pick_t rfl rfl) rfl rfl ?_
                refine seq_pure (pure_assign rfl) rfl rfl ?_
                refine seq_done ?_
                refine nrm_seq ?_
                refine tri_cond_f rfl ?_
                refine tri_region ?_
                refine seq_pure (pure_fieldAddr0 rfl) rfl rfl ?_
                refine seq_load (load_bs rfl rfl (by repeat (first | exact List.Mem.head _ | apply List.Mem.tail)) (by rfl)) rfl rfl ?_
                refine seq_pure (pure_move rfl) rfl rfl ?_
                refine seq_valb rfl (within_fn _ _ _ _) rfl rfl (fun h1339 => ?_) (fun h1339 => ?_)
                · refine seq_pure (pure_not_t rfl) rfl rfl ?_
                  refine seq_pure (pure_assign rfl) rfl rfl ?_
                  refine seq_done ?_
                  refine nrm_seq ?_
                  refine tri_cond_f rfl ?_
                  refine tri_seq ?_
                  refine tri_seq ?_
                  refine tri_region ?_
                  refine seq_pure (pure_move rfl) rfl rfl ?_
                  refine seq_pure (pure_move rfl) rfl rfl ?_
                  refine seq_skip rfl rfl ?_
                  refine seq_skip rfl rfl ?_
                  refine seq_skip rfl rfl ?_
                  refine seq_skip rfl rfl ?_
                  refine seq_pure (pure_pick_f rfl rfl) rfl rfl ?_
                  refine seq_pure (pure_assign rfl) rfl rfl ?_
                  refine seq_done ?_
                  refine nrm_seq ?_
                  refine tri_cond_f rfl ?_
                  refine tri_region ?_
                  refine seq_pure (pure_move rfl) rfl rfl ?_
                  refine seq_pure (pure_not_f rfl) rfl rfl ?_
                  refine seq_pure (pure_move rfl) rfl rfl ?_
                  refine seq_pure (pure_fieldAddr0 rfl) rfl rfl ?_
                  refine seq_load (load_ba rfl rfl (by repeat (first | exact List.Mem.head _ | apply List.Mem.tail)) (by rfl)) rfl rfl ?_
                  refine seq_valb rfl (o4) rfl rfl (fun h1365 => ?_) (fun h1365 => ?_)
                  · refine seq_pure (pure_not_t rfl) rfl rfl ?_
                    refine seq_pure (pure_pick_t rfl rfl) rfl rfl ?_
                    refine seq_pure (pure_assign rfl) rfl rfl ?_
                    refine seq_done ?_
                    refine nrm_seq ?_
                    refine tri_cond_f rfl ?_
                    refine tri_seq ?_
                    refine tri_seq ?_
                    refine tri_region ?_
                    refine seq_pure (pure_move rfl) rfl rfl ?_
                    refine seq_pure (pure_move rfl) rfl rfl ?_
                    refine seq_skip rfl rfl ?_
                    refine seq_skip rfl rfl ?_
                    refine seq_skip rfl rfl ?_
                    refine seq_skip rfl rfl ?_
                    refine seq_skip rfl rfl ?_
                    refine seq_skip rfl rfl ?_
                    refine seq_skip rfl rfl ?_
                    refine seq_skip rfl rfl ?_
                    refine seq_skip rfl rfl ?_
                    refine seq_skip rfl rfl ?_
                    refine seq_skip rfl rfl ?_
                    refine seq_skip rfl rfl ?_
                    refine seq_pure (pure_pick_f rfl rfl) rfl rfl ?_
                    refine seq_pure (pure_assign rfl) rfl rfl ?_
                    refine seq_done ?_
                    refine nrm_seq ?_
                    refine tri_cond_f rfl ?_
                    refine tri_region ?_
                    refine seq_pure (pure_move rfl) rfl rfl ?_
                    refine seq_pure (pure_not_f rfl) rfl rfl ?_
                    refine seq_pure (pure_move rfl) rfl rfl ?_
                    refine seq_pure (pure_fieldAddr0 rfl) rfl rfl ?_
                    refine seq_load (load_ba rfl rfl (by repeat (first | exact List.Mem.head _ | apply List.Mem.tail)) (by rfl)) rfl rfl ?_
                    refine seq_valb rfl (o7) rfl rfl (fun h1400 => ?_) (fun h1400 => ?_)
                    · refine seq_pure (pure_not_t rfl) rfl rfl ?_
                      refine seq_pure (pure_move rfl) rfl rfl ?_
                      refine seq_pure (pure_fieldAddr0 rfl) rfl rfl ?_
                      refine seq_load (load_bs rfl rfl (by repeat (first | exact List.Mem.head _ | apply List.Mem.tail)) (by rfl)) rfl rfl ?_
                      refine seq_bool (pure_neq rfl rfl) rfl rfl (fun h1405 => ?_) (fun h1405 => ?_)
                      · refine seq_pure (pure_pick_f rfl rfl) rfl rfl ?_
                        refine seq_pure (pure_pick_t rfl rfl) rfl rfl ?_
                        refine seq_pure (pure_assign rfl) rfl rfl ?_
                        refine seq_done ?_
                        refine nrm_seq ?_
                        refine tri_cond_t rfl ?_
                        refine tri_seq ?_
                        refine tri_region ?_
                        refine seq_pure (pure_assign rfl) rfl rfl ?_
                        refine seq_done ?_
                        refine nrm_seq ?_
                        refine tri_ret ?_
                        refine ret_block ?_
                        refine ret_seq ?_
                        refine ret_fin1 (res_tmp rfl) ?_
                        exact ⟨rfl, by (cases R with | false => rfl | true => (exfalso; obtain ⟨i1, i2, i3, i4, i5, i6, i7, i8, i9⟩ := hi.1 rfl; first | omega | (have j := i2 (by omega); simp_all; done) | (have j := i3 (by omega); simp_all; done) | (have j := i4 (by omega); simp_all; done) | (have j := i5 (by omega); simp_all; done) | (have j := i6 (by omega); simp_all; done) | (have j := i7 (by omega); simp_all; done) | (have j := i8 (by omega); simp_all; done) | (have j := i9 (by omega); simp_all; done))), rfl⟩
                      · refine seq_pure (pure_pick_f rfl rfl) rfl rfl ?_
                        refine seq_pure (pure_pick_t rfl rfl) rfl rfl ?_
                        refine seq_pure (pure_assign rfl) rfl rfl ?_
                        refine seq_done ?_
                        refine nrm_seq ?_
                        refine tri_cond_f rfl ?_
                        refine tri_skip ?_
                        refine nrm_block ?_
                        refine nrm_seq ?_
                        refine tri_seq ?_
                        refine tri_region ?_
                        refine seq_pure (pure_assign rfl) rfl rfl ?_
                        refine seq_done ?_
                        refine nrm_seq ?_
                        refine tri_ret ?_
                        refine ret_fin1 (res_tmp rfl) ?_
                        exact ⟨rfl, by rw [hi.2 ⟨by omega, fun _ => by (first | assumption | (exfalso; omega) | exact Classical.not_not.1 (by assumption)), fun _ => by (first | assumption | (exfalso; omega) | exact Classical.not_not.1 (by assumption)), fun _ => by (first | assumption | (exfalso; omega) | exact Classical.not_not.1 (by assumption)), fun _ => by (first | assumption | (exfalso; omega) | exact Classical.not_not.1 (by assumption)), fun _ => by (first | assumption | (exfalso; omega) | exact Classical.not_not.1 (by assumption)), fun _ => by (first | assumption | (exfalso; omega) | exact Classical.not_not.1 (by assumption)), fun _ => ⟨by (first | assumption | (exfalso; omega)), by (first | assumption | (exfalso; omega))⟩, fun _ => ⟨by (first | assumption | (exfalso; omega)), by (first | assumption | omega)⟩⟩], rfl⟩
                    · refine seq_pure (pure_not_f rfl) rfl rfl ?_
                      refine seq_pure (pure_move rfl) rfl rfl ?_
                      refine seq_skip rfl rfl ?_
                      refine seq_skip rfl rfl ?_
                      refine seq_skip rfl rfl ?_
                      refine seq_pure (pure_pick_t rfl rfl) rfl rfl ?_
                      refine seq_pure (pure_pick_t rfl rfl) rfl rfl ?_
                      refine seq_pure (pure_assign rfl) rfl rfl ?_
                      refine seq_done ?_
                      refine nrm_seq ?_
                      refine tri_cond_t rfl ?_
                      refine tri_seq ?_
                      refine tri_region ?_
                      refine seq_pure (pure_assign rfl) rfl rfl ?_
                      refine seq_done ?_
                      refine nrm_seq ?_
                      refine tri_ret ?_
                      refine ret_block ?_
                      refine ret_seq ?_
                      refine ret_fin1 (res_tmp rfl) ?_
                      exact ⟨rfl, by (cases R with | false => rfl | true => (exfalso; obtain ⟨i1, i2, i3, i4, i5, i6, i7, i8, i9⟩ := hi.1 rfl; first | omega | (have j := i2 (by omega); simp_all; done) | (have j := i3 (by omega); simp_all; done) | (have j := i4 (by omega); simp_all; done) | (have j := i5 (by omega); simp_all; done) | (have j := i6 (by omega); simp_all; done) | (have j := i7 (by omega); simp_all; done) | (have j := i8 (by omega); simp_all; done) | (have j := i9 (by omega); simp_all; done))), rfl⟩
                  · refine seq_pure (pure_not_f rfl) rfl rfl ?_
                    refine seq_pure (pure_pick_t rfl rfl) rfl rfl ?_
                    refine seq_pure (pure_assign rfl) rfl rfl ?_
                    refine seq_done ?_
                    refine nrm_seq ?_
                    refine tri_cond_t rfl ?_
                    refine tri_seq ?_
                    refine tri_region ?_
                    refine seq_pure (pure_assign rfl) rfl rfl ?_
                    refine seq_done ?_
                    refine nrm_seq ?_
                    refine tri_ret ?_
                    refine ret_block ?_
                    refine ret_seq ?_
                    refine ret_fin1 (res_tmp rfl) ?_
                    exact ⟨rfl, by (cases R with | false => rfl | true => (exfalso; obtain ⟨i1, i2, i3, i4, i5, i6, i7, i8, i9⟩ := hi.1 rfl; first | omega | (have j := i2 (by omega); simp_all; done) | (have j := i3 (by omega); simp_all; done) | (have j := i4 (by omega); simp_all; done) | (have j := i5 (by omega); simp_all; done) | (have j := i6 (by omega); simp_all; done) | (have j := i7 (by omega); simp_all; done) | (have j := i8 (by omega); simp_all; done) | (have j := i9 (by omega); simp_all; done))), rfl⟩
                · refine seq_pure (pure_not_f rfl) rfl rfl ?_
                  refine seq_pure (pure_assign rfl) rfl rfl ?_
                  refine seq_done ?_
                  refine nrm_seq ?_
                  refine tri_cond_t rfl ?_
                  refine tri_seq ?_
                  refine tri_region ?_
                  refine seq_pure (pure_assign rfl) rfl rfl ?_
                  refine seq_done ?_
                  refine nrm_seq ?_
                  refine tri_ret ?_
                  refine ret_block ?_
                  refine ret_seq ?_
                  refine ret_fin1 (res_tmp rfl) ?_
                  exact ⟨rfl, by (cases R with | false => rfl | true => (exfalso; obtain ⟨i1, i2, i3, i4, i5, i6, i7, i8, i9⟩ := hi.1 rfl; first | omega | (have j := i2 (by omega); simp_all; done) | (have j := i3 (by omega); simp_all; done) | (have j := i4 (by omega); simp_all; done) | (have j := i5 (by omega); simp_all; done) | (have j := i6 (by omega); simp_all; done) | (have j := i7 (by omega); simp_all; done) | (have j := i8 (by omega); simp_all; done) | (have j := i9 (by omega); simp_all; done))), rfl⟩
end Gw
end Go.Proofs.Ytlefgfdhlblahaa
