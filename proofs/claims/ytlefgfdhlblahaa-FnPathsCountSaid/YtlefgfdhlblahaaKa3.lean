/-
  The tests of terms. The scan of a term, CastValid, TermValid. The reference model's tests of types and nodes: they compute the same plain functions. append of a slice in memory that no longer changes, empty or not. Data that the call owns, block by block: what the laws' marking writes.
-/
import Derived.Test.YtlefgfdhlblahaaKa2
import Derived.Test.YtlefgfdhlblahaaKa1
namespace Go.Proofs.Ytlefgfdhlblahaa
open Go Go.RowKit
namespace Gw
set_option maxRecDepth 100000 in
theorem operands_fn (k : Int) (G : IM) (hk : I64 k) : Fn Try.prog 108 [.int .i64 k] [] G (Val (.int .i64 (tmOps k)) G) := by
  unfold I64 at hk
  refine fn_enter Try.func108 rfl Try.ntmps108 Try.results108 rfl ?_
  intro w0
  refine tri_seq ?_
  refine tri_region ?_
  refine seq_pure (pure_assign rfl) rfl rfl ?_
  refine seq_done ?_
  refine nrm_seq ?_
  refine tri_seq ?_
  refine tri_seq ?_
  refine tri_region ?_
  refine seq_pure (pure_move rfl) rfl rfl ?_
  refine seq_valb rfl (within_fn _ _ _ _) rfl rfl (fun h10 => ?_) (fun h10 => ?_)
  · refine seq_pure (pure_not_t rfl) rfl rfl ?_
    refine seq_done ?_
    refine nrm_seq ?_
    refine tri_cond_f rfl ?_
    refine tri_skip ?_
    refine nrm_seq ?_
    refine tri_seq ?_
    refine tri_region ?_
    (refine seq_step (step_buildSlice rfl rfl rfl (by omega) (by unfold maxLen; omega) rfl) rfl ?_; rintro _ ⟨b19, rfl⟩)
    refine seq_pure (pure_move rfl) rfl rfl ?_
    (have hkk : 1 ≤ k ∧ k ≤ 14 := withinB_t (by assumption); refine seq_pure (pure_sub rfl rfl (by omega) (by omega)) rfl rfl ?_)
    refine seq_pure (pure_indexAddr rfl rfl rfl (by omega) (by omega)) rfl rfl ?_
    refine seq_load (load_s rfl rfl (at_slc (by repeat (first | exact List.Mem.head _ | apply List.Mem.tail)) (one_at (by rw [Nat.zero_add, Nat.mul_one]; exact tmOps_tab hkk)))) rfl rfl ?_
    refine seq_pure (pure_assign rfl) rfl rfl ?_
    refine seq_done ?_
    refine nrm_seq ?_
    refine tri_ret ?_
    refine ret_fin1 (res_tmp rfl) ?_
    exact ⟨rfl, rfl, rfl⟩
  · refine seq_pure (pure_not_f rfl) rfl rfl ?_
    refine seq_done ?_
    refine nrm_seq ?_
    refine tri_cond_t rfl ?_
    refine tri_seq ?_
    refine tri_region ?_
    refine seq_pure (pure_assign rfl) rfl rfl ?_
    refine seq_done ?_
    refine nrm_seq ?_
    refine tri_ret ?_
    refine ret_seq ?_
    refine ret_fin1 (res_tmp rfl) ?_
    exact ⟨rfl, by rw [tmOps_no (withinB_f (by assumption))], rfl⟩
set_option maxHeartbeats 0 in
set_option maxRecDepth 100000 in
theorem nodeOk_fn (k : Int) (nm : ByteArray) (num : Int) (ty fr : Ty) (lb : Int) (ks : List Tm) (G : IM) (cells : List Value) (hr : RTm G (.mk k nm num ty fr lb ks) cells) :
    Fn Try.prog 79 [.agg ⟨cells⟩] [] G (Val (.bool (tmNode k nm num ty fr lb ks.length)) G) := by
  obtain ⟨tk, tks⟩ := ty
  obtain ⟨fk, fks⟩ := fr
  obtain ⟨pt, ct, pf, cf, p, c, es, rfl, hk, hnum, hlb, hty, hfr, hsl, hkl⟩ := hr.open9
  have hi := @tmNode_iff k nm num (.mk tk tks) (.mk fk fks) lb ks.length
  obtain ⟨R, hR⟩ : ∃ R, tmNode k nm num (.mk tk tks) (.mk fk fks) lb ks.length = R := ⟨_, rfl⟩
  rw [hR] at hi ⊢
  clear hR hr
  have o1 := operands_fn k G hk
  have o2 := isName_fn nm G
  have o3 := typeValid_fn _ G _ hty
  have o4 := isNoType_fn _ G _ hty
  have o5 := consistentT_fn _ _ G _ _ hfr hty
  have o6 := isLabel_fn lb G
  have o7 := isNoType_fn _ G _ hfr
  refine fn_enter Try.func79 rfl Try.ntmps79 Try.results79 rfl ?_
  intro w0
  refine tri_seq ?_
  refine tri_region ?_
  (refine seq_step (step_box_a rfl rfl) rfl ?_; rintro _ ⟨b3, rfl⟩)
  refine seq_pure (pure_assign rfl) rfl rfl ?_
  refine seq_done ?_
  refine nrm_seq ?_
  refine tri_seq ?_
  refine tri_seq ?_
  refine tri_draw mixed rfl ?_
  refine any_pure (i := 0) (listed' := [true, false, false, false, false, false, false]) rfl (by repeat (first | exact np_ret | apply np_seq | apply np_block | apply np_loopN')) (pure_fieldAddr0 rfl) rfl (by kernel_rfl) rfl rfl ?_
  refine any_load (i := 1) (listed' := [true, true, false, false, false, false, false]) rfl (by repeat (first | exact np_ret | apply np_seq | apply np_block | apply np_loopN')) (load_bs rfl rfl (by repeat (first | exact List.Mem.head _ | apply List.Mem.tail)) (by rfl)) rfl (by kernel_rfl) rfl rfl ?_
  refine any_pure (i := 3) (listed' := [true, true, false, true, false, false, false]) rfl (by repeat (first | exact np_ret | apply np_seq | apply np_block | apply np_loopN')) (pure_fieldAddr0 rfl) rfl (by kernel_rfl) rfl rfl ?_
  refine any_load (i := 4) (listed' := [true, true, false, true, true, false, false]) rfl (by repeat (first | exact np_ret | apply np_seq | apply np_block | apply np_loopN')) (load_bs rfl rfl (by repeat (first | exact List.Mem.head _ | apply List.Mem.tail)) (by rfl)) rfl (by kernel_rfl) rfl rfl ?_
  refine any_pure (i := 5) (listed' := [true, true, false, true, true, true, false]) rfl (by repeat (first | exact np_ret | apply np_seq | apply np_block | apply np_loopN')) (pure_len rfl rfl) rfl (by kernel_rfl) rfl rfl ?_
  refine any_one (j := 2) (by kernel_rfl) ?_
  refine one_val (listed' := [true, true, true, true, true, true, false]) rfl rfl (o1) rfl rfl rfl ?_
  refine any_bool (i := 6) (listed' := [true, true, true, true, true, true, true]) rfl (by repeat (first | exact np_ret | apply np_seq | apply np_block | apply np_loopN')) (pure_neq rfl rfl) rfl (by kernel_rfl) rfl rfl (fun h17 => ?_) (fun h17 => ?_)
  · refine any_done (by kernel_rfl) ?_
    refine nrm_seq ?_
    refine tri_cond_t rfl ?_
    refine tri_seq ?_
    refine tri_region ?_
    refine seq_pure (pure_assign rfl) rfl rfl ?_
    refine seq_done ?_
    refine nrm_seq ?_
    refine tri_ret ?_
    refine ret_seq ?_
    refine ret_fin1 (res_tmp rfl) ?_
    exact ⟨rfl, by (cases R with | false => rfl | true => (exfalso; obtain ⟨i1, i2, i3, i4, i5, i6, i7, i8, i9⟩ := hi.1 rfl; first | omega | (have j := i2 (by omega); simp_all; done) | (have j := i3 (by omega); simp_all; done) | (have j := i4 (by omega); simp_all; done) | (have j := i5 (by omega); simp_all; done) | (have j := i6 (by omega); simp_all; done) | (have j := i7 (by omega); simp_all; done) | (have j := i8 (by omega); simp_all; done) | (have j := i9 (by omega); simp_all; done))), rfl⟩
  · refine any_done (by kernel_rfl) ?_
    refine nrm_seq ?_
    refine tri_cond_f rfl ?_
    refine tri_skip ?_
    refine nrm_seq ?_
    refine tri_seq ?_
    refine tri_region ?_
    refine seq_pure (pure_fieldAddr0 rfl) rfl rfl ?_
    refine seq_load (load_bs rfl rfl (by repeat (first | exact List.Mem.head _ | apply List.Mem.tail)) (by rfl)) rfl rfl ?_
    refine seq_bool (pure_eql rfl rfl) rfl rfl (fun h39 => ?_) (fun h39 => ?_)
    · refine seq_pure (pure_move rfl) rfl rfl ?_
      refine seq_skip rfl rfl ?_
      refine seq_skip rfl rfl ?_
      refine seq_skip rfl rfl ?_
      refine seq_pure (pure_pick_t rfl rfl) rfl rfl ?_
      refine seq_pure (pure_assign rfl) rfl rfl ?_
      refine seq_done ?_
      refine nrm_seq ?_
      refine tri_seq ?_
      refine tri_region ?_
      refine seq_pure (pure_fieldAddr0 rfl) rfl rfl ?_
      refine seq_load (load_bs rfl rfl (by repeat (first | exact List.Mem.head _ | apply List.Mem.tail)) (by rfl)) rfl rfl ?_
      refine seq_pure (pure_eql_f rfl rfl (by omega)) rfl rfl ?_
      refine seq_pure (pure_move rfl) rfl rfl ?_
      refine seq_pure (pure_fieldAddr0 rfl) rfl rfl ?_
      refine seq_load (load_bs rfl rfl (by repeat (first | exact List.Mem.head _ | apply List.Mem.tail)) (by rfl)) rfl rfl ?_
      refine seq_pure (pure_eql_f rfl rfl (by omega)) rfl rfl ?_
      refine seq_pure (pure_pick_f rfl rfl) rfl rfl ?_
      refine seq_pure (pure_move rfl) rfl rfl ?_
      refine seq_pure (pure_fieldAddr0 rfl) rfl rfl ?_
      refine seq_load (load_bs rfl rfl (by repeat (first | exact List.Mem.head _ | apply List.Mem.tail)) (by rfl)) rfl rfl ?_
      refine seq_pure (pure_eql_f rfl rfl (by omega)) rfl rfl ?_
      refine seq_pure (pure_pick_f rfl rfl) rfl rfl ?_
      refine seq_pure (pure_assign rfl) rfl rfl ?_
      refine seq_done ?_
      refine nrm_seq ?_
      refine tri_seq ?_
      refine tri_region ?_
      refine seq_pure (pure_fieldAddr0 rfl) rfl rfl ?_
      refine seq_load (load_bs rfl rfl (by repeat (first | exact List.Mem.head _ | apply List.Mem.tail)) (by rfl)) rfl rfl ?_
      refine seq_pure (pure_eql_f rfl rfl (by omega)) rfl rfl ?_
      refine seq_pure (pure_assign rfl) rfl rfl ?_
      refine seq_done ?_
      refine nrm_seq ?_
      refine tri_seq ?_
      refine tri_region ?_
      refine seq_pure (pure_assign rfl) rfl rfl ?_
      refine seq_done ?_
      refine nrm_seq ?_
      refine tri_seq ?_
      refine tri_seq ?_
      refine tri_region ?_
      refine seq_pure (pure_fieldAddr0 rfl) rfl rfl ?_
      refine seq_load (load_bs rfl rfl (by repeat (first | exact List.Mem.head _ | apply List.Mem.tail)) (by rfl)) rfl rfl ?_
      refine seq_pure (pure_eql_f rfl rfl (by omega)) rfl rfl ?_
      refine seq_done ?_
      refine nrm_seq ?_
      refine tri_cond_f rfl ?_
      refine tri_skip ?_
      refine nrm_seq ?_
      refine tri_seq ?_
      refine tri_block ?_
      refine tri_seq ?_
      refine tri_seq ?_
      refine tri_region ?_
      refine seq_pure (pure_move rfl) rfl rfl ?_
      refine seq_pure (pure_move rfl) rfl rfl ?_
      refine seq_pure (pure_fieldAddr0 rfl) rfl rfl ?_
      refine seq_load (load_bs rfl rfl (by repeat (first | exact List.Mem.head _ | apply List.Mem.tail)) (by rfl)) rfl rfl ?_
      refine seq_valb rfl (o2) rfl rfl (fun h99 => ?_) (fun h99 => ?_)
      · refine seq_pure (pure_not_t rfl) rfl rfl ?_
        refine seq_pure (pure_pick_t rfl rfl) rfl rfl ?_
        refine seq_pure (pure_assign rfl) rfl rfl ?_
        refine seq_done ?_
        refine nrm_seq ?_
        refine tri_cond_f rfl ?_
        refine tri_seq ?_
        refine tri_region ?_
        refine seq_pure (pure_move rfl) rfl rfl ?_
        refine seq_pure (pure_not_t rfl) rfl rfl ?_
        refine seq_pure (pure_move rfl) rfl rfl ?_
        refine seq_skip rfl rfl ?_
        refine seq_skip rfl rfl ?_
        refine seq_skip rfl rfl ?_
        refine seq_pure (pure_pick_f rfl rfl) rfl rfl ?_
        refine seq_pure (pure_assign rfl) rfl rfl ?_
        refine seq_done ?_
        refine nrm_seq ?_
        refine tri_cond_f rfl ?_
        refine tri_region ?_
        refine seq_pure (pure_fieldAddr0 rfl) rfl rfl ?_
        refine seq_load (load_bs rfl rfl (by repeat (first | exact List.Mem.head _ | apply List.Mem.tail)) (by rfl)) rfl rfl ?_
        refine seq_pure (pure_move rfl) rfl rfl ?_
        refine seq_valb rfl (within_fn _ _ _ _) rfl rfl (fun h123 => ?_) (fun h123 => ?_)
        · refine seq_pure (pure_not_t rfl) rfl rfl ?_
          refine seq_pure (pure_assign rfl) rfl rfl ?_
          refine seq_done ?_
          refine nrm_seq ?_
          refine tri_cond_f rfl ?_
          refine tri_seq ?_
          refine tri_seq ?_
          refine tri_region ?_
          refine seq_pure (pure_move rfl) rfl rfl ?_
          refine seq_pure (pure_move rfl) rfl rfl ?_
          refine seq_skip rfl rfl ?_
          refine seq_skip rfl rfl ?_
          refine seq_skip rfl rfl ?_
          refine seq_skip rfl rfl ?_
          refine seq_pure (pure_pick_f rfl rfl) rfl rfl ?_
          refine seq_pure (pure_assign rfl) rfl rfl ?_
          refine seq_done ?_
          refine nrm_seq ?_
          refine tri_cond_f rfl ?_
          refine tri_region ?_
          refine seq_pure (pure_move rfl) rfl rfl ?_
          refine seq_pure (pure_not_f rfl) rfl rfl ?_
          refine seq_pure (pure_move rfl) rfl rfl ?_
          refine seq_pure (pure_fieldAddr0 rfl) rfl rfl ?_
          refine seq_load (load_ba rfl rfl (by repeat (first | exact List.Mem.head _ | apply List.Mem.tail)) (by rfl)) rfl rfl ?_
          refine seq_valb rfl (o4) rfl rfl (fun h149 => ?_) (fun h149 => ?_)
          · refine seq_pure (pure_not_t rfl) rfl rfl ?_
            refine seq_pure (pure_pick_t rfl rfl) rfl rfl ?_
            refine seq_pure (pure_assign rfl) rfl rfl ?_
            refine seq_done ?_
            refine nrm_seq ?_
            refine tri_cond_f rfl ?_
            refine tri_seq ?_
            refine tri_seq ?_
            refine tri_region ?_
            refine seq_pure (pure_move rfl) rfl rfl ?_
            refine seq_pure (pure_move rfl) rfl rfl ?_
            refine seq_skip rfl rfl ?_
            refine seq_skip rfl rfl ?_
            refine seq_skip rfl rfl ?_
            refine seq_skip rfl rfl ?_
            refine seq_skip rfl rfl ?_
            refine seq_skip rfl rfl ?_
            refine seq_skip rfl rfl ?_
            refine seq_skip rfl rfl ?_
            refine seq_skip rfl rfl ?_
            refine seq_skip rfl rfl ?_
            refine seq_skip rfl rfl ?_
            refine seq_skip rfl rfl ?_
            refine seq_pure (pure_pick_f rfl rfl) rfl rfl ?_
            refine seq_pure (pure_assign rfl) rfl rfl ?_
            refine seq_done ?_
            refine nrm_seq ?_
            refine tri_cond_f rfl ?_
            refine tri_region ?_
            refine seq_pure (pure_move rfl) rfl rfl ?_
            refine seq_pure (pure_not_f rfl) rfl rfl ?_
            refine seq_pure (pure_move rfl) rfl rfl ?_
            refine seq_pure (pure_fieldAddr0 rfl) rfl rfl ?_
            refine seq_load (load_ba rfl rfl (by repeat (first | exact List.Mem.head _ | apply List.Mem.tail)) (by rfl)) rfl rfl ?_
            refine seq_valb rfl (o7) rfl rfl (fun h184 => ?_) (fun h184 => ?_)
            · refine seq_pure (pure_not_t rfl) rfl rfl ?_
              refine seq_pure (pure_move rfl) rfl rfl ?_
              refine seq_pure (pure_fieldAddr0 rfl) rfl rfl ?_
              refine seq_load (load_bs rfl rfl (by repeat (first | exact List.Mem.head _ | apply List.Mem.tail)) (by rfl)) rfl rfl ?_
              refine seq_bool (pure_neq rfl rfl) rfl rfl (fun h189 => ?_) (fun h189 => ?_)
              · refine seq_pure (pure_pick_f rfl rfl) rfl rfl ?_
                refine seq_pure (pure_pick_t rfl rfl) rfl rfl ?_
                refine seq_pure (pure_assign rfl) rfl rfl ?_
                refine seq_done ?_
                refine nrm_seq ?_
                refine tri_cond_t rfl ?_
                refine tri_seq ?_
                refine tri_region ?_
                refine seq_pure (pure_assign rfl) rfl rfl ?_
                refine seq_done ?_
                refine nrm_seq ?_
                refine tri_ret ?_
                refine ret_block ?_
                refine ret_seq ?_
                refine ret_fin1 (res_tmp rfl) ?_
                exact ⟨rfl, by (cases R with | false => rfl | true => (exfalso; obtain ⟨i1, i2, i3, i4, i5, i6, i7, i8, i9⟩ := hi.1 rfl; first | omega | (have j := i2 (by omega); simp_all; done) | (have j := i3 (by omega); simp_all; done) | (have j := i4 (by omega); simp_all; done) | (have j := i5 (by omega); simp_all; done) | (have j := i6 (by omega); simp_all; done) | (have j := i7 (by omega); simp_all; done) | (have j := i8 (by omega); simp_all; done) | (have j := i9 (by omega); simp_all; done))), rfl⟩
              · refine seq_pure (pure_pick_f rfl rfl) rfl rfl ?_
                refine seq_pure (pure_pick_t rfl rfl) rfl rfl ?_
                refine seq_pure (pure_assign rfl) rfl rfl ?_
                refine seq_done ?_
                refine nrm_seq ?_
                refine tri_cond_f rfl ?_
                refine tri_skip ?_
                refine nrm_block ?_
                refine nrm_seq ?_
                refine tri_seq ?_
                refine tri_region ?_
                refine seq_pure (pure_assign rfl) rfl rfl ?_
                refine seq_done ?_
                refine nrm_seq ?_
                refine tri_ret ?_
                refine ret_fin1 (res_tmp rfl) ?_
                exact ⟨rfl, by rw [hi.2 ⟨by omega, fun _ => by (first | assumption | (exfalso; omega) | exact Classical.not_not.1 (by assumption)), fun _ => by (first | assumption | (exfalso; omega) | exact Classical.not_not.1 (by assumption)), fun _ => by (first | assumption | (exfalso; omega) | exact Classical.not_not.1 (by assumption)), fun _ => by (first | assumption | (exfalso; omega) | exact Classical.not_not.1 (by assumption)), fun _ => by (first | assumption | (exfalso; omega) | exact Classical.not_not.1 (by assumption)), fun _ => by (first | assumption | (exfalso; omega) | exact Classical.not_not.1 (by assumption)), fun _ => ⟨by (first | assumption | (exfalso; omega)), by (first | assumption | (exfalso; omega))⟩, fun _ => ⟨by (first | assumption | (exfalso; omega)), by (first | assumption | omega)⟩⟩], rfl⟩
            · refine seq_pure (pure_not_f rfl) rfl rfl ?_
              refine seq_pure (pure_move rfl) rfl rfl ?_
              refine seq_skip rfl rfl ?_
              refine seq_skip rfl rfl ?_
              refine seq_skip rfl rfl ?_
              refine seq_pure (pure_pick_t rfl rfl) rfl rfl ?_
              refine seq_pure (pure_pick_t rfl rfl) rfl rfl ?_
              refine seq_pure (pure_assign rfl) rfl rfl ?_
              refine seq_done ?_
              refine nrm_seq ?_
              refine tri_cond_t rfl ?_
              refine tri_seq ?_
              refine tri_region ?_
              refine seq_pure (pure_assign rfl) rfl rfl ?_
              refine seq_done ?_
              refine nrm_seq ?_
              refine tri_ret ?_
              refine ret_block ?_
              refine ret_seq ?_
              refine ret_fin1 (res_tmp rfl) ?_
              exact ⟨rfl, by (cases R with | false => rfl | true => (exfalso; obtain ⟨i1, i2, i3, i4, i5, i6, i7, i8, i9⟩ := hi.1 rfl; first | omega | (have j := i2 (by omega); simp_all; done) | (have j := i3 (by omega); simp_all; done) | (have j := i4 (by omega); simp_all; done) | (have j := i5 (by omega); simp_all; done) | (have j := i6 (by omega); simp_all; done) | (have j := i7 (by omega); simp_all; done) | (have j := i8 (by omega); simp_all; done) | (have j := i9 (by omega); simp_all; done))), rfl⟩
          · refine seq_pure (pure_not_f rfl) rfl rfl ?_
            refine seq_pure (pure_pick_t rfl rfl) rfl rfl ?_
            refine seq_pure (pure_assign rfl) rfl rfl ?_
            refine seq_done ?_
            refine nrm_seq ?_
            refine tri_cond_t rfl ?_
            refine tri_seq ?_
            refine tri_region ?_
            refine seq_pure (pure_assign rfl) rfl rfl ?_
            refine seq_done ?_
            refine nrm_seq ?_
            refine tri_ret ?_
            refine ret_block ?_
            refine ret_seq ?_
            refine ret_fin1 (res_tmp rfl) ?_
            exact ⟨rfl, by (cases R with | false => rfl | true => (exfalso; obtain ⟨i1, i2, i3, i4, i5, i6, i7, i8, i9⟩ := hi.1 rfl; first | omega | (have j := i2 (by omega); simp_all; done) | (have j := i3 (by omega); simp_all; done) | (have j := i4 (by omega); simp_all; done) | (have j := i5 (by omega); simp_all; done) | (have j := i6 (by omega); simp_all; done) | (have j := i7 (by omega); simp_all; done) | (have j := i8 (by omega); simp_all; done) | (have j := i9 (by omega); simp_all; done))), rfl⟩
        · refine seq_pure (pure_not_f rfl) rfl rfl ?_
          refine seq_pure (pure_assign rfl) rfl rfl ?_
          refine seq_done ?_
          refine nrm_seq ?_
          refine tri_cond_t rfl ?_
          refine tri_seq ?_
          refine tri_region ?_
          refine seq_pure (pure_assign rfl) rfl rfl ?_
          refine seq_done ?_
          refine nrm_seq ?_
          refine tri_ret ?_
          refine ret_block ?_
          refine ret_seq ?_
          refine ret_fin1 (res_tmp rfl) ?_
          exact ⟨rfl, by (cases R with | false => rfl | true => (exfalso; obtain ⟨i1, i2, i3, i4, i5, i6, i7, i8, i9⟩ := hi.1 rfl; first | omega | (have j := i2 (by omega); simp_all; done) | (have j := i3 (by omega); simp_all; done) | (have j := i4 (by omega); simp_all; done) | (have j := i5 (by omega); simp_all; done) | (have j := i6 (by omega); simp_all; done) | (have j := i7 (by omega); simp_all; done) | (have j := i8 (by omega); simp_all; done) | (have j := i9 (by omega); simp_all; done))), rfl⟩
      · refine seq_pure (pure_not_f rfl) rfl rfl ?_
        refine seq_pure (pure_pick_t rfl rfl) rfl rfl ?_
        refine seq_pure (pure_assign rfl) rfl rfl ?_
        refine seq_done ?_
        refine nrm_seq ?_
        refine tri_cond_t rfl ?_
        refine tri_skip ?_
        refine nrm_seq ?_
        refine tri_cond_t rfl ?_
        refine tri_seq ?_
        refine tri_region ?_
        refine seq_pure (pure_assign rfl) rfl rfl ?_
        refine seq_done ?_
        refine nrm_seq ?_
        refine tri_ret ?_
        refine ret_block ?_
        refine ret_seq ?_
        refine ret_fin1 (res_tmp rfl) ?_
        exact ⟨rfl, by (cases R with | false => rfl | true => (exfalso; obtain ⟨i1, i2, i3, i4, i5, i6, i7, i8, i9⟩ := hi.1 rfl; first | omega | (have j := i2 (by omega); simp_all; done) | (have j := i3 (by omega); simp_all; done) | (have j := i4 (by omega); simp_all; done) | (have j := i5 (by omega); simp_all; done) | (have j := i6 (by omega); simp_all; done) | (have j := i7 (by omega); simp_all; done) | (have j := i8 (by omega); simp_all; done) | (have j := i9 (by omega); simp_all; done))), rfl⟩
    · refine seq_pure (pure_move rfl) rfl rfl ?_
      refine seq_pure (pure_fieldAddr0 rfl) rfl rfl ?_
      refine seq_load (load_bs rfl rfl (by repeat (first | exact List.Mem.head _ | apply List.Mem.tail)) (by rfl)) rfl rfl ?_
      refine seq_bool (pure_eql rfl rfl) rfl rfl (fun h297 => ?_) (fun h297 => ?_)
      · refine seq_pure (pure_pick_f rfl rfl) rfl rfl ?_
        refine seq_pure (pure_assign rfl) rfl rfl ?_
        refine seq_done ?_
        refine nrm_seq ?_
        refine tri_seq ?_
        refine tri_region ?_
        refine seq_pure (pure_fieldAddr0 rfl) rfl rfl ?_
        refine seq_load (load_bs rfl rfl (by repeat (first | exact List.Mem.head _ | apply List.Mem.tail)) (by rfl)) rfl rfl ?_
        refine seq_pure (pure_eql_t rfl rfl (by omega)) rfl rfl ?_
        refine seq_pure (pure_move rfl) rfl rfl ?_
        refine seq_skip rfl rfl ?_
        refine seq_skip rfl rfl ?_
        refine seq_skip rfl rfl ?_
        refine seq_pure (pure_pick_t rfl rfl) rfl rfl ?_
        refine seq_pure (pure_move rfl) rfl rfl ?_
        refine seq_skip rfl rfl ?_
        refine seq_skip rfl rfl ?_
        refine seq_skip rfl rfl ?_
        refine seq_pure (pure_pick_t rfl rfl) rfl rfl ?_
        refine seq_pure (pure_assign rfl) rfl rfl ?_
        refine seq_done ?_
        refine nrm_seq ?_
        refine tri_seq ?_
        refine tri_region ?_
        refine seq_pure (pure_fieldAddr0 rfl) rfl rfl ?_
        refine seq_load (load_bs rfl rfl (by repeat (first | exact List.Mem.head _ | apply List.Mem.tail)) (by rfl)) rfl rfl ?_
        refine seq_pure (pure_eql_f rfl rfl (by omega)) rfl rfl ?_
        refine seq_pure (pure_assign rfl) rfl rfl ?_
        refine seq_done ?_
        refine nrm_seq ?_
        refine tri_seq ?_
        refine tri_region ?_
        refine seq_pure (pure_assign rfl) rfl rfl ?_
        refine seq_done ?_
        refine nrm_seq ?_
        refine tri_seq ?_
        refine tri_seq ?_
        refine tri_region ?_
        refine seq_pure (pure_fieldAddr0 rfl) rfl rfl ?_
        refine seq_load (load_bs rfl rfl (by repeat (first | exact List.Mem.head _ | apply List.Mem.tail)) (by rfl)) rfl rfl ?_
        refine seq_pure (pure_eql_f rfl rfl (by omega)) rfl rfl ?_
        refine seq_done ?_
        refine nrm_seq ?_
        refine tri_cond_f rfl ?_
        refine tri_skip ?_
        refine nrm_seq ?_
        refine tri_seq ?_
        refine tri_block ?_
        refine tri_seq ?_
        refine tri_seq ?_
        refine tri_region ?_
        refine seq_pure (pure_move rfl) rfl rfl ?_
        refine seq_pure (pure_move rfl) rfl rfl ?_
        refine seq_pure (pure_fieldAddr0 rfl) rfl rfl ?_
        refine seq_load (load_bs rfl rfl (by repeat (first | exact List.Mem.head _ | apply List.Mem.tail)) (by rfl)) rfl rfl ?_
        refine seq_valb rfl (o2) rfl rfl (fun h353 => ?_) (fun h353 => ?_)
        · refine seq_pure (pure_not_t rfl) rfl rfl ?_
          refine seq_pure (pure_pick_t rfl rfl) rfl rfl ?_
          refine seq_pure (pure_assign rfl) rfl rfl ?_
          refine seq_done ?_
          refine nrm_seq ?_
          refine tri_cond_f rfl ?_
          refine tri_seq ?_
          refine tri_region ?_
          refine seq_pure (pure_move rfl) rfl rfl ?_
          refine seq_pure (pure_not_t rfl) rfl rfl ?_
          refine seq_pure (pure_move rfl) rfl rfl ?_
          refine seq_skip rfl rfl ?_
          refine seq_skip rfl rfl ?_
          refine seq_skip rfl rfl ?_
          refine seq_pure (pure_pick_f rfl rfl) rfl rfl ?_
          refine seq_pure (pure_assign rfl) rfl rfl ?_
          refine seq_done ?_
          refine nrm_seq ?_
          refine tri_cond_f rfl ?_
          refine tri_region ?_
          refine seq_pure (pure_fieldAddr0 rfl) rfl rfl ?_
          refine seq_load (load_bs rfl rfl (by repeat (first | exact List.Mem.head _ | apply List.Mem.tail)) (by rfl)) rfl rfl ?_
          refine seq_pure (pure_move rfl) rfl rfl ?_
          refine seq_valb rfl (within_fn _ _ _ _) rfl rfl (fun h377 => ?_) (fun h377 => ?_)
          · refine seq_pure (pure_not_t rfl) rfl rfl ?_
            refine seq_pure (pure_assign rfl) rfl rfl ?_
            refine seq_done ?_
            refine nrm_seq ?_
            refine tri_cond_f rfl ?_
            refine tri_seq ?_
            refine tri_seq ?_
            refine tri_region ?_
            refine seq_pure (pure_move rfl) rfl rfl ?_
            refine seq_pure (pure_move rfl) rfl rfl ?_
            refine seq_pure (pure_fieldAddr0 rfl) rfl rfl ?_
            refine seq_load (load_ba rfl rfl (by repeat (first | exact List.Mem.head _ | apply List.Mem.tail)) (by rfl)) rfl rfl ?_
            refine seq_valb rfl (o3) rfl rfl (fun h390 => ?_) (fun h390 => ?_)
            · refine seq_pure (pure_not_t rfl) rfl rfl ?_
              refine seq_pure (pure_pick_t rfl rfl) rfl rfl ?_
              refine seq_pure (pure_assign rfl) rfl rfl ?_
              refine seq_done ?_
              refine nrm_seq ?_
              refine tri_cond_f rfl ?_
              refine tri_region ?_
              refine seq_pure (pure_move rfl) rfl rfl ?_
              refine seq_pure (pure_not_t rfl) rfl rfl ?_
              refine seq_pure (pure_move rfl) rfl rfl ?_
              refine seq_skip rfl rfl ?_
              refine seq_skip rfl rfl ?_
              refine seq_skip rfl rfl ?_
              refine seq_skip rfl rfl ?_
              refine seq_pure (pure_pick_f rfl rfl) rfl rfl ?_
              refine seq_pure (pure_assign rfl) rfl rfl ?_
              refine seq_done ?_
              refine nrm_seq ?_
              refine tri_cond_f rfl ?_
              refine tri_seq ?_
              refine tri_seq ?_
              refine tri_region ?_
              refine seq_pure (pure_move rfl) rfl rfl ?_
              refine seq_pure (pure_move rfl) rfl rfl ?_
              refine seq_skip rfl rfl ?_
              refine seq_skip rfl rfl ?_
              refine seq_skip rfl rfl ?_
              refine seq_skip rfl rfl ?_
              refine seq_skip rfl rfl ?_
              refine seq_skip rfl rfl ?_
              refine seq_skip rfl rfl ?_
              refine seq_skip rfl rfl ?_
              refine seq_skip rfl rfl ?_
              refine seq_skip rfl rfl ?_
              refine seq_skip rfl rfl ?_
              refine seq_skip rfl rfl ?_
              refine seq_pure (pure_pick_f rfl rfl) rfl rfl ?_
              refine seq_pure (pure_assign rfl) rfl rfl ?_
              refine seq_done ?_
              refine nrm_seq ?_
              refine tri_cond_f rfl ?_
              refine tri_region ?_
              refine seq_pure (pure_move rfl) rfl rfl ?_
              refine seq_pure (pure_not_f rfl) rfl rfl ?_
              refine seq_pure (pure_move rfl) rfl rfl ?_
              refine seq_pure (pure_fieldAddr0 rfl) rfl rfl ?_
              refine seq_load (load_ba rfl rfl (by repeat (first | exact List.Mem.head _ | apply List.Mem.tail)) (by rfl)) rfl rfl ?_
              refine seq_valb rfl (o7) rfl rfl (fun h438 => ?_) (fun h438 => ?_)
              · refine seq_pure (pure_not_t rfl) rfl rfl ?_
                refine seq_pure (pure_move rfl) rfl rfl ?_
                refine seq_pure (pure_fieldAddr0 rfl) rfl rfl ?_
                refine seq_load (load_bs rfl rfl (by repeat (first | exact List.Mem.head _ | apply List.Mem.tail)) (by rfl)) rfl rfl ?_
                refine seq_bool (pure_neq rfl rfl) rfl rfl (fun h443 => ?_) (fun h443 => ?_)
                · refine seq_pure (pure_pick_f rfl rfl) rfl rfl ?_
                  refine seq_pure (pure_pick_t rfl rfl) rfl rfl ?_
                  refine seq_pure (pure_assign rfl) rfl rfl ?_
                  refine seq_done ?_
                  refine nrm_seq ?_
                  refine tri_cond_t rfl ?_
                  refine tri_seq ?_
                  refine tri_region ?_
                  refine seq_pure (pure_assign rfl) rfl rfl ?_
                  refine seq_done ?_
                  refine nrm_seq ?_
                  refine tri_ret ?_
                  refine ret_block ?_
                  refine ret_seq ?_
                  refine ret_fin1 (res_tmp rfl) ?_
                  exact ⟨rfl, by (cases R with | false => rfl | true => (exfalso; obtain ⟨i1, i2, i3, i4, i5, i6, i7, i8, i9⟩ := hi.1 rfl; first | omega | (have j := i2 (by omega); simp_all; done) | (have j := i3 (by omega); simp_all; done) | (have j := i4 (by omega); simp_all; done) | (have j := i5 (by omega); simp_all; done) | (have j := i6 (by omega); simp_all; done) | (have j := i7 (by omega); simp_all; done) | (have j := i8 (by omega); simp_all; done) | (have j := i9 (by omega); simp_all; done))), rfl⟩
                · refine seq_pure (pure_pick_f rfl rfl) rfl rfl ?_
                  refine seq_pure (pure_pick_t rfl rfl) rfl rfl ?_
                  refine seq_pure (pure_assign rfl) rfl rfl ?_
                  refine seq_done ?_
                  refine nrm_seq ?_
                  refine tri_cond_f rfl ?_
                  refine tri_skip ?_
                  refine nrm_block ?_
                  refine nrm_seq ?_
                  refine tri_seq ?_
                  refine tri_region ?_
                  refine seq_pure (pure_assign rfl) rfl rfl ?_
                  refine seq_done ?_
                  refine nrm_seq ?_
                  refine tri_ret ?_
                  refine ret_fin1 (res_tmp rfl) ?_
                  exact ⟨rfl, by rw [hi.2 ⟨by omega, fun _ => by (first | assumption | (exfalso; omega) | exact Classical.not_not.1 (by assumption)), fun _ => by (first | assumption | (exfalso; omega) | exact Classical.not_not.1 (by assumption)), fun _ => by (first | assumption | (exfalso; omega) | exact Classical.not_not.1 (by assumption)), fun _ => by (first | assumption | (exfalso; omega) | exact Classical.not_not.1 (by assumption)), fun _ => by (first | assumption | (exfalso; omega) | exact Classical.not_not.1 (by assumption)), fun _ => by (first | assumption | (exfalso; omega) | exact Classical.not_not.1 (by assumption)), fun _ => ⟨by (first | assumption | (exfalso; omega)), by (first | assumption | (exfalso; omega))⟩, fun _ => ⟨by (first | assumption | (exfalso; omega)), by (first | assumption | omega)⟩⟩], rfl⟩
              · refine seq_pure (pure_not_f rfl) rfl rfl ?_
                refine seq_pure (pure_move rfl) rfl rfl ?_
                refine seq_skip rfl rfl ?_
                refine seq_skip rfl rfl ?_
                refine seq_skip rfl rfl ?_
                refine seq_pure (pure_pick_t rfl rfl) rfl rfl ?_
                refine seq_pure (pure_pick_t rfl rfl) rfl rfl ?_
                refine seq_pure (pure_assign rfl) rfl rfl ?_
                refine seq_done ?_
                refine nrm_seq ?_
                refine tri_cond_t rfl ?_
                refine tri_seq ?_
                refine tri_region ?_
                refine seq_pure (pure_assign rfl) rfl rfl ?_
                refine seq_done ?_
                refine nrm_seq ?_
                refine tri_ret ?_
                refine ret_block ?_
                refine ret_seq ?_
                refine ret_fin1 (res_tmp rfl) ?_
                exact ⟨rfl, by (cases R with | false => rfl | true => (exfalso; obtain ⟨i1, i2, i3, i4, i5, i6, i7, i8, i9⟩ := hi.1 rfl; first | omega | (have j := i2 (by omega); simp_all; done) | (have j := i3 (by omega); simp_all; done) | (have j := i4 (by omega); simp_all; done) | (have j := i5 (by omega); simp_all; done) | (have j := i6 (by omega); simp_all; done) | (have j := i7 (by omega); simp_all; done) | (have j := i8 (by omega); simp_all; done) | (have j := i9 (by omega); simp_all; done))), rfl⟩
            · refine seq_pure (pure_not_f rfl) rfl rfl ?_
              refine seq_pure (pure_pick_t rfl rfl) rfl rfl ?_
              refine seq_pure (pure_assign rfl) rfl rfl ?_
              refine seq_done ?_
              refine nrm_seq ?_
              refine tri_cond_t rfl ?_
              refine tri_skip ?_
              refine nrm_seq ?_
              refine tri_cond_t rfl ?_
              refine tri_seq ?_
              refine tri_region ?_
              refine seq_pure (pure_assign rfl) rfl rfl ?_
              refine seq_done ?_
              refine nrm_seq ?_
              refine tri_ret ?_
              refine ret_block ?_
              refine ret_seq ?_
              refine ret_fin1 (res_tmp rfl) ?_
              exact ⟨rfl, by (cases R with | false => rfl | true => (exfalso; obtain ⟨i1, i2, i3, i4, i5, i6, i7, i8, i9⟩ := hi.1 rfl; first | omega | (have j := i2 (by omega); simp_all; done) | (have j := i3 (by omega); simp_all; done) | (have j := i4 (by omega); simp_all; done) | (have j := i5 (by omega); simp_all; done) | (have j := i6 (by omega); simp_all; done) | (have j := i7 (by omega); simp_all; done) | (have j := i8 (by omega); simp_all; done) | (have j := i9 (by omega); simp_all; done))), rfl⟩
          · refine seq_pure (pure_not_f rfl) rfl rfl ?_
            refine seq_pure (pure_assign rfl) rfl rfl ?_
            refine seq_done ?_
            refine nrm_seq ?_
            refine tri_cond_t rfl ?_
            refine tri_seq ?_
            refine tri_region ?_
            refine seq_pure (pure_assign rfl) rfl rfl ?_
            refine seq_done ?_
            refine nrm_seq ?_
            refine tri_ret ?_
            refine ret_block ?_
            refine ret_seq ?_
            refine ret_fin1 (res_tmp rfl) ?_
            exact ⟨rfl, by (cases R with | false => rfl | true => (exfalso; obtain ⟨i1, i2, i3, i4, i5, i6, i7, i8, i9⟩ := hi.1 rfl; first | omega | (have j := i2 (by omega); simp_all; done) | (have j := i3 (by omega); simp_all; done) | (have j := i4 (by omega); simp_all; done) | (have j := i5 (by omega); simp_all; done) | (have j := i6 (by omega); simp_all; done) | (have j := i7 (by omega); simp_all; done) | (have j := i8 (by omega); simp_all; done) | (have j := i9 (by omega); simp_all; done))), rfl⟩
        · refine seq_pure (pure_not_f rfl) rfl rfl ?_
          refine seq_pure (pure_pick_t rfl rfl) rfl rfl ?_
          refine seq_pure (pure_assign rfl) rfl rfl ?_
          refine seq_done ?_
          refine nrm_seq ?_
          refine tri_cond_t rfl ?_
          refine tri_skip ?_
          refine nrm_seq ?_
          refine tri_cond_t rfl ?_
          refine tri_seq ?_
          refine tri_region ?_
          refine seq_pure (pure_assign rfl) rfl rfl ?_
          refine seq_done ?_
          refine nrm_seq ?_
          refine tri_ret ?_
          refine ret_block ?_
          refine ret_seq ?_
          refine ret_fin1 (res_tmp rfl) ?_
          exact ⟨rfl, by (cases R with | false => rfl | true => (exfalso; obtain ⟨i1, i2, i3, i4, i5, i6, i7, i8, i9⟩ := hi.1 rfl; first | omega | (have j := i2 (by omega); simp_all; done) | (have j := i3 (by omega); simp_all; done) | (have j := i4 (by omega); simp_all; done) | (have j := i5 (by omega); simp_all; done) | (have j := i6 (by omega); simp_all; done) | (have j := i7 (by omega); simp_all; done) | (have j := i8 (by omega); simp_all; done) | (have j := i9 (by omega); simp_all; done))), rfl⟩
      · refine seq_pure (pure_pick_f rfl rfl) rfl rfl ?_
        refine seq_pure (pure_assign rfl) rfl rfl ?_
        refine seq_done ?_
        refine nrm_seq ?_
        refine tri_seq ?_
        refine tri_region ?_
        refine seq_pure (pure_fieldAddr0 rfl) rfl rfl ?_
        refine seq_load (load_bs rfl rfl (by repeat (first | exact List.Mem.head _ | apply List.Mem.tail)) (by rfl)) rfl rfl ?_
        refine seq_pure (pure_eql_f rfl rfl (by omega)) rfl rfl ?_
        refine seq_pure (pure_move rfl) rfl rfl ?_
        refine seq_pure (pure_fieldAddr0 rfl) rfl rfl ?_
        refine seq_load (load_bs rfl rfl (by repeat (first | exact List.Mem.head _ | apply List.Mem.tail)) (by rfl)) rfl rfl ?_
        refine seq_bool (pure_eql rfl rfl) rfl rfl (fun h563 => ?_) (fun h563 => ?_)
        · refine seq_pure (pure_pick_f rfl rfl) rfl rfl ?_
          refine seq_pure (pure_move rfl) rfl rfl ?_
          refine seq_skip rfl rfl ?_
          refine seq_skip rfl rfl ?_
          refine seq_skip rfl rfl ?_
          refine seq_pure (pure_pick_t rfl rfl) rfl rfl ?_
          refine seq_pure (pure_assign rfl) rfl rfl ?_
          refine seq_done ?_
          refine nrm_seq ?_
          refine tri_seq ?_
          refine tri_region ?_
          refine seq_pure (pure_fieldAddr0 rfl) rfl rfl ?_
          refine seq_load (load_bs rfl rfl (by repeat (first | exact List.Mem.head _ | apply List.Mem.tail)) (by rfl)) rfl rfl ?_
          refine seq_pure (pure_eql_f rfl rfl (by omega)) rfl rfl ?_
          refine seq_pure (pure_assign rfl) rfl rfl ?_
          refine seq_done ?_
          refine nrm_seq ?_
          refine tri_seq ?_
          refine tri_region ?_
          refine seq_pure (pure_assign rfl) rfl rfl ?_
          refine seq_done ?_
          refine nrm_seq ?_
          refine tri_seq ?_
          refine tri_seq ?_
          refine tri_region ?_
          refine seq_pure (pure_fieldAddr0 rfl) rfl rfl ?_
          refine seq_load (load_bs rfl rfl (by repeat (first | exact List.Mem.head _ | apply List.Mem.tail)) (by rfl)) rfl rfl ?_
          refine seq_pure (pure_eql_f rfl rfl (by omega)) rfl rfl ?_
          refine seq_done ?_
          refine nrm_seq ?_
          refine tri_cond_f rfl ?_
          refine tri_skip ?_
          refine nrm_seq ?_
          refine tri_seq ?_
          refine tri_block ?_
          refine tri_seq ?_
          refine tri_seq ?_
          refine tri_region ?_
          refine seq_pure (pure_move rfl) rfl rfl ?_
          refine seq_pure (pure_move rfl) rfl rfl ?_
          refine seq_skip rfl rfl ?_
          refine seq_skip rfl rfl ?_
          refine seq_skip rfl rfl ?_
          refine seq_skip rfl rfl ?_
          refine seq_pure (pure_pick_f rfl rfl) rfl rfl ?_
          refine seq_pure (pure_assign rfl) rfl rfl ?_
          refine seq_done ?_
          refine nrm_seq ?_
          refine tri_cond_f rfl ?_
          refine tri_seq ?_
          refine tri_region ?_
          refine seq_pure (pure_move rfl) rfl rfl ?_
          refine seq_pure (pure_not_f rfl) rfl rfl ?_
          refine seq_pure (pure_move rfl) rfl rfl ?_
          refine seq_pure (pure_fieldAddr0 rfl) rfl rfl ?_
          refine seq_load (load_bs rfl rfl (by repeat (first | exact List.Mem.head _ | apply List.Mem.tail)) (by rfl)) rfl rfl ?_
          refine seq_bool (pure_sneq rfl rfl) rfl rfl (fun h620 => ?_) (fun h620 => ?_)
          · refine seq_pure (pure_pick_t rfl rfl) rfl rfl ?_
            refine seq_pure (pure_assign rfl) rfl rfl ?_
            refine seq_done ?_
            refine nrm_seq ?_
            refine tri_cond_t rfl ?_
            refine tri_skip ?_
            refine nrm_seq ?_
            refine tri_cond_t rfl ?_
            refine tri_seq ?_
            refine tri_region ?_
            refine seq_pure (pure_assign rfl) rfl rfl ?_
            refine seq_done ?_
            refine nrm_seq ?_
            refine tri_ret ?_
            refine ret_block ?_
            refine ret_seq ?_
            refine ret_fin1 (res_tmp rfl) ?_
            exact ⟨rfl, by (cases R with | false => rfl | true => (exfalso; obtain ⟨i1, i2, i3, i4, i5, i6, i7, i8, i9⟩ := hi.1 rfl; first | omega | (have j := i2 (by omega); simp_all; done) | (have j := i3 (by omega); simp_all; done) | (have j := i4 (by omega); simp_all; done) | (have j := i5 (by omega); simp_all; done) | (have j := i6 (by omega); simp_all; done) | (have j := i7 (by omega); simp_all; done) | (have j := i8 (by omega); simp_all; done) | (have j := i9 (by omega); simp_all; done))), rfl⟩
          · refine seq_pure (pure_pick_t rfl rfl) rfl rfl ?_
            refine seq_pure (pure_assign rfl) rfl rfl ?_
            refine seq_done ?_
            refine nrm_seq ?_
            refine tri_cond_f rfl ?_
            refine tri_region ?_
            refine seq_pure (pure_fieldAddr0 rfl) rfl rfl ?_
            refine seq_load (load_bs rfl rfl (by repeat (first | exact List.Mem.head _ | apply List.Mem.tail)) (by rfl)) rfl rfl ?_
            refine seq_pure (pure_move rfl) rfl rfl ?_
            refine seq_valb rfl (within_fn _ _ _ _) rfl rfl (fun h648 => ?_) (fun h648 => ?_)
            · refine seq_pure (pure_not_t rfl) rfl rfl ?_
              refine seq_pure (pure_assign rfl) rfl rfl ?_
              refine seq_done ?_
              refine nrm_seq ?_
              refine tri_cond_f rfl ?_
              refine tri_seq ?_
              refine tri_seq ?_
              refine tri_region ?_
              refine seq_pure (pure_move rfl) rfl rfl ?_
              refine seq_pure (pure_move rfl) rfl rfl ?_
              refine seq_pure (pure_fieldAddr0 rfl) rfl rfl ?_
              refine seq_load (load_ba rfl rfl (by repeat (first | exact List.Mem.head _ | apply List.Mem.tail)) (by rfl)) rfl rfl ?_
              refine seq_valb rfl (o3) rfl rfl (fun h661 => ?_) (fun h661 => ?_)
              · refine seq_pure (pure_not_t rfl) rfl rfl ?_
                refine seq_pure (pure_pick_t rfl rfl) rfl rfl ?_
                refine seq_pure (pure_assign rfl) rfl rfl ?_
                refine seq_done ?_
                refine nrm_seq ?_
                refine tri_cond_f rfl ?_
                refine tri_region ?_
                refine seq_pure (pure_move rfl) rfl rfl ?_
                refine seq_pure (pure_not_t rfl) rfl rfl ?_
                refine seq_pure (pure_move rfl) rfl rfl ?_
                refine seq_skip rfl rfl ?_
                refine seq_skip rfl rfl ?_
                refine seq_skip rfl rfl ?_
                refine seq_skip rfl rfl ?_
                refine seq_pure (pure_pick_f rfl rfl) rfl rfl ?_
                refine seq_pure (pure_assign rfl) rfl rfl ?_
                refine seq_done ?_
                refine nrm_seq ?_
                refine tri_cond_f rfl ?_
                refine tri_seq ?_
                refine tri_seq ?_
                refine tri_region ?_
                refine seq_pure (pure_move rfl) rfl rfl ?_
                refine seq_pure (pure_move rfl) rfl rfl ?_
                refine seq_skip rfl rfl ?_
                refine seq_skip rfl rfl ?_
                refine seq_skip rfl rfl ?_
                refine seq_skip rfl rfl ?_
                refine seq_skip rfl rfl ?_
                refine seq_skip rfl rfl ?_
                refine seq_skip rfl rfl ?_
                refine seq_skip rfl rfl ?_
                refine seq_skip rfl rfl ?_
                refine seq_skip rfl rfl ?_
                refine seq_skip rfl rfl ?_
                refine seq_skip rfl rfl ?_
                refine seq_pure (pure_pick_f rfl rfl) rfl rfl ?_
                refine seq_pure (pure_assign rfl) rfl rfl ?_
                refine seq_done ?_
                refine nrm_seq ?_
                refine tri_cond_f rfl ?_
                refine tri_region ?_
                refine seq_pure (pure_move rfl) rfl rfl ?_
                refine seq_pure (pure_not_f rfl) rfl rfl ?_
                refine seq_pure (pure_move rfl) rfl rfl ?_
                refine seq_pure (pure_fieldAddr0 rfl) rfl rfl ?_
                refine seq_load (load_ba rfl rfl (by repeat (first | exact List.Mem.head _ | apply List.Mem.tail)) (by rfl)) rfl rfl ?_
                refine seq_valb rfl (o7) rfl rfl (fun h709 => ?_) (fun h709 => ?_)
                · refine seq_pure (pure_not_t rfl) rfl rfl ?_
                  refine seq_pure (pure_move rfl) rfl rfl ?_
                  refine seq_pure (pure_fieldAddr0 rfl) rfl rfl ?_
                  refine seq_load (load_bs rfl rfl (by repeat (first | exact List.Mem.head _ | apply List.Mem.tail)) (by rfl)) rfl rfl ?_
                  refine seq_bool (pure_neq rfl rfl) rfl rfl (fun h714 => ?_) (fun h714 => ?_)
                  · refine seq_pure (pure_pick_f rfl rfl) rfl rfl ?_
                    refine seq_pure (pure_pick_t rfl rfl) rfl rfl ?_
                    refine seq_pure (pure_assign rfl) rfl rfl ?_
                    refine seq_done ?_
                    refine nrm_seq ?_
                    refine tri_cond_t rfl ?_
                    refine tri_seq ?_
                    refine tri_region ?_
                    refine seq_pure (pure_assign rfl) rfl rfl ?_
                    refine seq_done ?_
                    refine nrm_seq ?_
                    refine tri_ret ?_
                    refine ret_block ?_
                    refine ret_seq ?_
                    refine ret_fin1 (res_tmp rfl) ?_
                    exact ⟨rfl, by (cases R with | false => rfl | true => (exfalso; obtain ⟨i1, i2, i3, i4, i5, i6, i7, i8, i9⟩ := hi.1 rfl; first | omega | (have j := i2 (by omega); simp_all; done) | (have j := i3 (by omega); simp_all; done) | (have j := i4 (by omega); simp_all; done) | (have j := i5 (by omega); simp_all; done) | (have j := i6 (by omega); simp_all; done) | (have j := i7 (by omega); simp_all; done) | (have j := i8 (by omega); simp_all; done) | (have j := i9 (by omega); simp_all; done))), rfl⟩
                  · refine seq_pure (pure_pick_f rfl rfl) rfl rfl ?_
                    refine seq_pure (pure_pick_t rfl rfl) rfl rfl ?_
                    refine seq_pure (pure_assign rfl) rfl rfl ?_
                    refine seq_done ?_
                    refine nrm_seq ?_
                    refine tri_cond_f rfl ?_
                    refine tri_skip ?_
                    refine nrm_block ?_
                    refine nrm_seq ?_
                    refine tri_seq ?_
                    refine tri_region ?_
                    refine seq_pure (pure_assign rfl) rfl rfl ?_
                    refine seq_done ?_
                    refine nrm_seq ?_
                    refine tri_ret ?_
                    refine ret_fin1 (res_tmp rfl) ?_
                    exact ⟨rfl, by rw [hi.2 ⟨by omega, fun _ => by (first | assumption | (exfalso; omega) | exact Classical.not_not.1 (by assumption)), fun _ => by (first | assumption | (exfalso; omega) | exact Classical.not_not.1 (by assumption)), fun _ => by (first | assumption | (exfalso; omega) | exact Classical.not_not.1 (by assumption)), fun _ => by (first | assumption | (exfalso; omega) | exact Classical.not_not.1 (by assumption)), fun _ => by (first | assumption | (exfalso; omega) | exact Classical.not_not.1 (by assumption)), fun _ => by (first | assumption | (exfalso; omega) | exact Classical.not_not.1 (by assumption)), fun _ => ⟨by (first | assumption | (exfalso; omega)), by (first | assumption | (exfalso; omega))⟩, fun _ => ⟨by (first | assumption | (exfalso; omega)), by (first | assumption | omega)⟩⟩], rfl⟩
                · refine seq_pure (pure_not_f rfl) rfl rfl ?_
                  refine seq_pure (pure_move rfl) rfl rfl ?_
                  refine seq_skip rfl rfl ?_
                  refine seq_skip rfl rfl ?_
                  refine seq_skip rfl rfl ?_
                  refine seq_pure (pure_pick_t rfl rfl) rfl rfl ?_
                  refine seq_pure (pure_pick_t rfl rfl) rfl rfl ?_
                  refine seq_pure (pure_assign rfl) rfl rfl ?_
                  refine seq_done ?_
                  refine nrm_seq ?_
                  refine tri_cond_t rfl ?_
                  refine tri_seq ?_
                  refine tri_region ?_
                  refine seq_pure (pure_assign rfl) rfl rfl ?_
                  refine seq_done ?_
                  refine nrm_seq ?_
                  refine tri_ret ?_
                  refine ret_block ?_
                  refine ret_seq ?_
                  refine ret_fin1 (res_tmp rfl) ?_
                  exact ⟨rfl, by (cases R with | false => rfl | true => (exfalso; obtain ⟨i1, i2, i3, i4, i5, i6, i7, i8, i9⟩ := hi.1 rfl; first | omega | (have j := i2 (by omega); simp_all; done) | (have j := i3 (by omega); simp_all; done) | (have j := i4 (by omega); simp_all; done) | (have j := i5 (by omega); simp_all; done) | (have j := i6 (by omega); simp_all; done) | (have j := i7 (by omega); simp_all; done) | (have j := i8 (by omega); simp_all; done) | (have j := i9 (by omega); simp_all; done))), rfl⟩
              · refine seq_pure (pure_not_f rfl) rfl rfl ?_
                refine seq_pure (pure_pick_t rfl rfl) rfl rfl ?_
                refine seq_pure (pure_assign rfl) rfl rfl ?_
                refine seq_done ?_
                refine nrm_seq ?_
                refine tri_cond_t rfl ?_
                refine tri_skip ?_
                refine nrm_seq ?_
                refine tri_cond_t rfl ?_
                refine tri_seq ?_
                refine tri_region ?_
                refine seq_pure (pure_assign rfl) rfl rfl ?_
                refine seq_done ?_
                refine nrm_seq ?_
                refine tri_ret ?_
                refine ret_block ?_
                refine ret_seq ?_
                refine ret_fin1 (res_tmp rfl) ?_
                exact ⟨rfl, by (cases R with | false => rfl | true => (exfalso; obtain ⟨i1, i2, i3, i4, i5, i6, i7, i8, i9⟩ := hi.1 rfl; first | omega | (have j := i2 (by omega); simp_all; done) | (have j := i3 (by omega); simp_all; done) | (have j := i4 (by omega); simp_all; done) | (have j := i5 (by omega); simp_all; done) | (have j := i6 (by omega); simp_all; done) | (have j := i7 (by omega); simp_all; done) | (have j := i8 (by omega); simp_all; done) | (have j := i9 (by omega); simp_all; done))), rfl⟩
            · refine seq_pure (pure_not_f rfl) rfl rfl ?_
              refine seq_pure (pure_assign rfl) rfl rfl ?_
              refine seq_done ?_
              refine nrm_seq ?_
              refine tri_cond_t rfl ?_
              refine tri_seq ?_
              refine tri_region ?_
              refine seq_pure (pure_assign rfl) rfl rfl ?_
              refine seq_done ?_
              refine nrm_seq ?_
              refine tri_ret ?_
              refine ret_block ?_
              refine ret_seq ?_
              refine ret_fin1 (res_tmp rfl) ?_
              exact ⟨rfl, by (cases R with | false => rfl | true => (exfalso; obtain ⟨i1, i2, i3, i4, i5, i6, i7, i8, i9⟩ := hi.1 rfl; first | omega | (have j := i2 (by omega); simp_all; done) | (have j := i3 (by omega); simp_all; done) | (have j := i4 (by omega); simp_all; done) | (have j := i5 (by omega); simp_all; done) | (have j := i6 (by omega); simp_all; done) | (have j := i7 (by omega); simp_all; done) | (have j := i8 (by omega); simp_all; done) | (have j := i9 (by omega); simp_all; done))), rfl⟩
        · refine seq_pure (pure_pick_f rfl rfl) rfl rfl ?_
          refine seq_pure (pure_move rfl) rfl rfl ?_
          refine seq_pure (pure_fieldAddr0 rfl) rfl rfl ?_
          refine seq_load (load_bs rfl rfl (by repeat (first | exact List.Mem.head _ | apply List.Mem.tail)) (by rfl)) rfl rfl ?_
          refine seq_bool (pure_eql rfl rfl) rfl rfl (fun h807 => ?_) (fun h807 => ?_)
          · refine seq_pure (pure_pick_f rfl rfl) rfl rfl ?_
            refine seq_pure (pure_assign rfl) rfl rfl ?_
            refine seq_done ?_
            refine nrm_seq ?_
            refine tri_seq ?_
            refine tri_region ?_
            refine seq_pure (pure_fieldAddr0 rfl) rfl rfl ?_
            refine seq_load (load_bs rfl rfl (by repeat (first | exact List.Mem.head _ | apply List.Mem.tail)) (by rfl)) rfl rfl ?_
            refine seq_pure (pure_eql_t rfl rfl (by omega)) rfl rfl ?_
            refine seq_pure (pure_assign rfl) rfl rfl ?_
            refine seq_done ?_
            refine nrm_seq ?_
            refine tri_seq ?_
            refine tri_region ?_
            refine seq_pure (pure_assign rfl) rfl rfl ?_
            refine seq_done ?_
            refine nrm_seq ?_
            refine tri_seq ?_
            refine tri_seq ?_
            refine tri_region ?_
            refine seq_pure (pure_fieldAddr0 rfl) rfl rfl ?_
            refine seq_load (load_bs rfl rfl (by repeat (first | exact List.Mem.head _ | apply List.Mem.tail)) (by rfl)) rfl rfl ?_
            refine seq_pure (pure_eql_f rfl rfl (by omega)) rfl rfl ?_
            refine seq_done ?_
            refine nrm_seq ?_
            refine tri_cond_f rfl ?_
            refine tri_skip ?_
            refine nrm_seq ?_
            refine tri_seq ?_
            refine tri_block ?_
            refine tri_seq ?_
            refine tri_seq ?_
            refine tri_region ?_
            refine seq_pure (pure_move rfl) rfl rfl ?_
            refine seq_pure (pure_move rfl) rfl rfl ?_
            refine seq_skip rfl rfl ?_
            refine seq_skip rfl rfl ?_
            refine seq_skip rfl rfl ?_
            refine seq_skip rfl rfl ?_
            refine seq_pure (pure_pick_f rfl rfl) rfl rfl ?_
            refine seq_pure (pure_assign rfl) rfl rfl ?_
            refine seq_done ?_
            refine nrm_seq ?_
            refine tri_cond_f rfl ?_
            refine tri_seq ?_
            refine tri_region ?_
            refine seq_pure (pure_move rfl) rfl rfl ?_
            refine seq_pure (pure_not_f rfl) rfl rfl ?_
            refine seq_pure (pure_move rfl) rfl rfl ?_
            refine seq_pure (pure_fieldAddr0 rfl) rfl rfl ?_
            refine seq_load (load_bs rfl rfl (by repeat (first | exact List.Mem.head _ | apply List.Mem.tail)) (by rfl)) rfl rfl ?_
            refine seq_bool (pure_sneq rfl rfl) rfl rfl (fun h859 => ?_) (fun h859 => ?_)
            · refine seq_pure (pure_pick_t rfl rfl) rfl rfl ?_
              refine seq_pure (pure_assign rfl) rfl rfl ?_
              refine seq_done ?_
              refine nrm_seq ?_
              refine tri_cond_t rfl ?_
              refine tri_skip ?_
              refine nrm_seq ?_
              refine tri_cond_t rfl ?_
              refine tri_seq ?_
              refine tri_region ?_
              refine seq_pure (pure_assign rfl) rfl rfl ?_
              refine seq_done ?_
              refine nrm_seq ?_
              refine tri_ret ?_
              refine ret_block ?_
              refine ret_seq ?_
              refine ret_fin1 (res_tmp rfl) ?_
              exact ⟨rfl, by (cases R with | false => rfl | true => (exfalso; obtain ⟨i1, i2, i3, i4, i5, i6, i7, i8, i9⟩ := hi.1 rfl; first | omega | (have j := i2 (by omega); simp_all; done) | (have j := i3 (by omega); simp_all; done) | (have j := i4 (by omega); simp_all; done) | (have j := i5 (by omega); simp_all; done) | (have j := i6 (by omega); simp_all; done) | (have j := i7 (by omega); simp_all; done) | (have j := i8 (by omega); simp_all; done) | (have j := i9 (by omega); simp_all; done))), rfl⟩
            · refine seq_pure (pure_pick_t rfl rfl) rfl rfl ?_
              refine seq_pure (pure_assign rfl) rfl rfl ?_
              refine seq_done ?_
              refine nrm_seq ?_
              refine tri_cond_f rfl ?_
              refine tri_region ?_
              refine seq_pure (pure_fieldAddr0 rfl) rfl rfl ?_
              refine seq_load (load_bs rfl rfl (by repeat (first | exact List.Mem.head _ | apply List.Mem.tail)) (by rfl)) rfl rfl ?_
              refine seq_pure (pure_move rfl) rfl rfl ?_
              refine seq_valb rfl (within_fn _ _ _ _) rfl rfl (fun h887 => ?_) (fun h887 => ?_)
              · refine seq_pure (pure_not_t rfl) rfl rfl ?_
                refine seq_pure (pure_assign rfl) rfl rfl ?_
                refine seq_done ?_
                refine nrm_seq ?_
                refine tri_cond_f rfl ?_
                refine tri_seq ?_
                refine tri_seq ?_
                refine tri_region ?_
                refine seq_pure (pure_move rfl) rfl rfl ?_
                refine seq_pure (pure_move rfl) rfl rfl ?_
                refine seq_pure (pure_fieldAddr0 rfl) rfl rfl ?_
                refine seq_load (load_ba rfl rfl (by repeat (first | exact List.Mem.head _ | apply List.Mem.tail)) (by rfl)) rfl rfl ?_
                refine seq_valb rfl (o3) rfl rfl (fun h900 => ?_) (fun h900 => ?_)
                · refine seq_pure (pure_not_t rfl) rfl rfl ?_
                  refine seq_pure (pure_pick_t rfl rfl) rfl rfl ?_
                  refine seq_pure (pure_assign rfl) rfl rfl ?_
                  refine seq_done ?_
                  refine nrm_seq ?_
                  refine tri_cond_f rfl ?_
                  refine tri_region ?_
                  refine seq_pure (pure_move rfl) rfl rfl ?_
                  refine seq_pure (pure_not_t rfl) rfl rfl ?_
                  refine seq_pure (pure_move rfl) rfl rfl ?_
                  refine seq_skip rfl rfl ?_
                  refine seq_skip rfl rfl ?_
                  refine seq_skip rfl rfl ?_
                  refine seq_skip rfl rfl ?_
                  refine seq_pure (pure_pick_f rfl rfl) rfl rfl ?_
                  refine seq_pure (pure_assign rfl) rfl rfl ?_
                  refine seq_done ?_
                  refine nrm_seq ?_
                  refine tri_cond_f rfl ?_
                  refine tri_seq ?_
                  refine tri_seq ?_
                  refine tri_region ?_
                  refine seq_pure (pure_move rfl) rfl rfl ?_
                  refine seq_pure (pure_move rfl) rfl rfl ?_
                  refine seq_pure (pure_fieldAddr0 rfl) rfl rfl ?_
                  refine seq_load (load_ba rfl rfl (by repeat (first | exact List.Mem.head _ | apply List.Mem.tail)) (by rfl)) rfl rfl ?_
                  refine seq_pure (pure_fieldAddr0 rfl) rfl rfl ?_
                  refine seq_load (load_ba rfl rfl (by repeat (first | exact List.Mem.head _ | apply List.Mem.tail)) (by rfl)) rfl rfl ?_
                  refine seq_valb rfl (o5) rfl rfl (fun h929 => ?_) (fun h929 => ?_)
                  · refine seq_pure (pure_not_t rfl) rfl rfl ?_
                    refine seq_pure (pure_move rfl) rfl rfl ?_
                    refine seq_pure (pure_fieldAddr0 rfl) rfl rfl ?_
                    refine seq_load (load_bs rfl rfl (by repeat (first | exact List.Mem.head _ | apply List.Mem.tail)) (by rfl)) rfl rfl ?_
                    refine seq_valb rfl (o6) rfl rfl (fun h934 => ?_) (fun h934 => ?_)
                    · refine seq_pure (pure_not_t rfl) rfl rfl ?_
                      refine seq_pure (pure_pick_f rfl rfl) rfl rfl ?_
                      refine seq_pure (pure_pick_t rfl rfl) rfl rfl ?_
                      refine seq_pure (pure_assign rfl) rfl rfl ?_
                      refine seq_done ?_
                      refine nrm_seq ?_
                      refine tri_cond_f rfl ?_
                      refine tri_region ?_
                      refine seq_pure (pure_move rfl) rfl rfl ?_
                      refine seq_pure (pure_not_t rfl) rfl rfl ?_
                      refine seq_pure (pure_move rfl) rfl rfl ?_
                      refine seq_skip rfl rfl ?_
                      refine seq_skip rfl rfl ?_
                      refine seq_skip rfl rfl ?_
                      refine seq_skip rfl rfl ?_
                      refine seq_skip rfl rfl ?_
                      refine seq_skip rfl rfl ?_
                      refine seq_skip rfl rfl ?_
                      refine seq_skip rfl rfl ?_
                      refine seq_skip rfl rfl ?_
                      refine seq_pure (pure_pick_f rfl rfl) rfl rfl ?_
                      refine seq_pure (pure_assign rfl) rfl rfl ?_
                      refine seq_done ?_
                      refine nrm_seq ?_
                      refine tri_cond_f rfl ?_
                      refine tri_skip ?_
                      refine nrm_block ?_
                      refine nrm_seq ?_
                      refine tri_seq ?_
                      refine tri_region ?_
                      refine seq_pure (pure_assign rfl) rfl rfl ?_
                      refine seq_done ?_
                      refine nrm_seq ?_
                      refine tri_ret ?_
                      refine ret_fin1 (res_tmp rfl) ?_
                      exact ⟨rfl, by rw [hi.2 ⟨by omega, fun _ => by (first | assumption | (exfalso; omega) | exact Classical.not_not.1 (by assumption)), fun _ => by (first | assumption | (exfalso; omega) | exact Classical.not_not.1 (by assumption)), fun _ => by (first | assumption | (exfalso; omega) | exact Classical.not_not.1 (by assumption)), fun _ => by (first | assumption | (exfalso; omega) | exact Classical.not_not.1 (by assumption)), fun _ => by (first | assumption | (exfalso; omega) | exact Classical.not_not.1 (by assumption)), fun _ => by (first | assumption | (exfalso; omega) | exact Classical.not_not.1 (by assumption)), fun _ => ⟨by (first | assumption | (exfalso; omega)), by (first | assumption | (exfalso; omega))⟩, fun _ => ⟨by (first | assumption | (exfalso; omega)), by (first | assumption | omega)⟩⟩], rfl⟩
                    · refine seq_pure (pure_not_f rfl) rfl rfl ?_
                      refine seq_pure (pure_pick_f rfl rfl) rfl rfl ?_
                      refine seq_pure (pure_pick_t rfl rfl) rfl rfl ?_
                      refine seq_pure (pure_assign rfl) rfl rfl ?_
                      refine seq_done ?_
                      refine nrm_seq ?_
                      refine tri_cond_t rfl ?_
                      refine tri_skip ?_
                      refine nrm_seq ?_
                      refine tri_cond_t rfl ?_
                      refine tri_seq ?_
                      refine tri_region ?_
                      refine seq_pure (pure_assign rfl) rfl rfl ?_
                      refine seq_done ?_
                      refine nrm_seq ?_
                      refine tri_ret ?_
                      refine ret_block ?_
                      refine ret_seq ?_
                      refine ret_fin1 (res_tmp rfl) ?_
                      exact ⟨rfl, by (cases R with | false => rfl | true => (exfalso; obtain ⟨i1, i2, i3, i4, i5, i6, i7, i8, i9⟩ := hi.1 rfl; first | omega | (have j := i2 (by omega); simp_all; done) | (have j := i3 (by omega); simp_all; done) | (have j := i4 (by omega); simp_all; done) | (have j := i5 (by omega); simp_all; done) | (have j := i6 (by omega); simp_all; done) | (have j := i7 (by omega); simp_all; done) | (have j := i8 (by omega); simp_all; done) | (have j := i9 (by omega); simp_all; done))), rfl⟩
                  · refine seq_pure (pure_not_f rfl) rfl rfl ?_
                    refine seq_pure (pure_move rfl) rfl rfl ?_
                    refine seq_skip rfl rfl ?_
                    refine seq_skip rfl rfl ?_
                    refine seq_skip rfl rfl ?_
                    refine seq_skip rfl rfl ?_
                    refine seq_pure (pure_pick_t rfl rfl) rfl rfl ?_
                    refine seq_pure (pure_pick_t rfl rfl) rfl rfl ?_
                    refine seq_pure (pure_assign rfl) rfl rfl ?_
                    refine seq_done ?_
                    refine nrm_seq ?_
                    refine tri_cond_t rfl ?_
                    refine tri_skip ?_
                    refine nrm_seq ?_
                    refine tri_cond_t rfl ?_
                    refine tri_seq ?_
                    refine tri_region ?_
                    refine seq_pure (pure_assign rfl) rfl rfl ?_
                    refine seq_done ?_
                    refine nrm_seq ?_
                    refine tri_ret ?_
                    refine ret_block ?_
                    refine ret_seq ?_
                    refine ret_fin1 (res_tmp rfl) ?_
                    exact ⟨rfl, by (cases R with | false => rfl | true => (exfalso; obtain ⟨i1, i2, i3, i4, i5, i6, i7, i8, i9⟩ := hi.1 rfl; first | omega | (have j := i2 (by omega); simp_all; done) | (have j := i3 (by omega); simp_all; done) | (have j := i4 (by omega); simp_all; done) | (have j := i5 (by omega); simp_all; done) | (have j := i6 (by omega); simp_all; done) | (have j := i7 (by omega); simp_all; done) | (have j := i8 (by omega); simp_all; done) | (have j := i9 (by omega); simp_all; done))), rfl⟩
                · refine seq_pure (pure_not_f rfl) rfl rfl ?_
                  refine seq_pure (pure_pick_t rfl rfl) rfl rfl ?_
                  refine seq_pure (pure_assign rfl) rfl rfl ?_
                  refine seq_done ?_
                  refine nrm_seq ?_
                  refine tri_cond_t rfl ?_
                  refine tri_skip ?_
                  refine nrm_seq ?_
                  refine tri_cond_t rfl ?_
                  refine tri_seq ?_
                  refine tri_region ?_
                  refine seq_pure (pure_assign rfl) rfl rfl ?_
                  refine seq_done ?_
                  refine nrm_seq ?_
                  refine tri_ret ?_
                  refine ret_block ?_
                  refine ret_seq ?_
                  refine ret_fin1 (res_tmp rfl) ?_
                  exact ⟨rfl, by (cases R with | false => rfl | true => (exfalso; obtain ⟨i1, i2, i3, i4, i5, i6, i7, i8, i9⟩ := hi.1 rfl; first | omega | (have j := i2 (by omega); simp_all; done) | (have j := i3 (by omega); simp_all; done) | (have j := i4 (by omega); simp_all; done) | (have j := i5 (by omega); simp_all; done) | (have j := i6 (by omega); simp_all; done) | (have j := i7 (by omega); simp_all; done) | (have j := i8 (by omega); simp_all; done) | (have j := i9 (by omega); simp_all; done))), rfl⟩
              · refine seq_pure (pure_not_f rfl) rfl rfl ?_
                refine seq_pure (pure_assign rfl) rfl rfl ?_
                refine seq_done ?_
                refine nrm_seq ?_
                refine tri_cond_t rfl ?_
                refine tri_seq ?_
                refine tri_region ?_
                refine seq_pure (pure_assign rfl) rfl rfl ?_
                refine seq_done ?_
                refine nrm_seq ?_
                refine tri_ret ?_
                refine ret_block ?_
                refine ret_seq ?_
                refine ret_fin1 (res_tmp rfl) ?_
                exact ⟨rfl, by (cases R with | false => rfl | true => (exfalso; obtain ⟨i1, i2, i3, i4, i5, i6, i7, i8, i9⟩ := hi.1 rfl; first | omega | (have j := i2 (by omega); simp_all; done) | (have j := i3 (by omega); simp_all; done) | (have j := i4 (by omega); simp_all; done) | (have j := i5 (by omega); simp_all; done) | (have j := i6 (by omega); simp_all; done) | (have j := i7 (by omega); simp_all; done) | (have j := i8 (by omega); simp_all; done) | (have j := i9 (by omega); simp_all; done))), rfl⟩
          · refine seq_pure (pure_pick_f rfl rfl) rfl rfl ?_
            refine seq_pure (pure_assign rfl) rfl rfl ?_
            refine seq_done ?_
            refine nrm_seq ?_
            refine tri_seq ?_
            refine tri_region ?_
            refine seq_pure (pure_fieldAddr0 rfl) rfl rfl ?_
            refine seq_load (load_bs rfl rfl (by repeat (first | exact List.Mem.head _ | apply List.Mem.tail)) (by rfl)) rfl rfl ?_
            refine seq_pure (pure_eql_f rfl rfl (by omega)) rfl rfl ?_
            refine seq_pure (pure_assign rfl) rfl rfl ?_
            refine seq_done ?_
            refine nrm_seq ?_
            refine tri_seq ?_
            refine tri_region ?_
            refine seq_pure (pure_assign rfl) rfl rfl ?_
            refine seq_done ?_
            refine nrm_seq ?_
            refine tri_seq ?_
            refine tri_seq ?_
            refine tri_region ?_
            refine seq_pure (pure_fieldAddr0 rfl) rfl rfl ?_
            refine seq_load (load_bs rfl rfl (by repeat (first | exact List.Mem.head _ | apply List.Mem.tail)) (by rfl)) rfl rfl ?_
            refine seq_bool (pure_eql rfl rfl) rfl rfl (fun h1072 => ?_) (fun h1072 => ?_)
            · refine seq_done ?_
              refine nrm_seq ?_
              refine tri_cond_t rfl ?_
              refine tri_region ?_
              refine seq_pure (pure_assign rfl) rfl rfl ?_
              refine seq_done ?_
              refine nrm_seq ?_
              refine tri_seq ?_
              refine tri_block ?_
              refine tri_seq ?_
              refine tri_seq ?_
              refine tri_region ?_
              refine seq_pure (pure_move rfl) rfl rfl ?_
              refine seq_pure (pure_move rfl) rfl rfl ?_
              refine seq_skip rfl rfl ?_
              refine seq_skip rfl rfl ?_
              refine seq_skip rfl rfl ?_
              refine seq_skip rfl rfl ?_
              refine seq_pure (pure_pick_f rfl rfl) rfl rfl ?_
              refine seq_pure (pure_assign rfl) rfl rfl ?_
              refine seq_done ?_
              refine nrm_seq ?_
              refine tri_cond_f rfl ?_
              refine tri_seq ?_
              refine tri_region ?_
              refine seq_pure (pure_move rfl) rfl rfl ?_
              refine seq_pure (pure_not_f rfl) rfl rfl ?_
              refine seq_pure (pure_move rfl) rfl rfl ?_
              refine seq_pure (pure_fieldAddr0 rfl) rfl rfl ?_
              refine seq_load (load_bs rfl rfl (by repeat (first | exact List.Mem.head _ | apply List.Mem.tail)) (by rfl)) rfl rfl ?_
              refine seq_bool (pure_sneq rfl rfl) rfl rfl (fun h1103 => ?_) (fun h1103 => ?_)
              · refine seq_pure (pure_pick_t rfl rfl) rfl rfl ?_
                refine seq_pure (pure_assign rfl) rfl rfl ?_
                refine seq_done ?_
                refine nrm_seq ?_
                refine tri_cond_t rfl ?_
                refine tri_skip ?_
                refine nrm_seq ?_
                refine tri_cond_t rfl ?_
                refine tri_seq ?_
                refine tri_region ?_
                refine seq_pure (pure_assign rfl) rfl rfl ?_
                refine seq_done ?_
                refine nrm_seq ?_
                refine tri_ret ?_
                refine ret_block ?_
                refine ret_seq ?_
                refine ret_fin1 (res_tmp rfl) ?_
                exact ⟨rfl, by (cases R with | false => rfl | true => (exfalso; obtain ⟨i1, i2, i3, i4, i5, i6, i7, i8, i9⟩ := hi.1 rfl; first | omega | (have j := i2 (by omega); simp_all; done) | (have j := i3 (by omega); simp_all; done) | (have j := i4 (by omega); simp_all; done) | (have j := i5 (by omega); simp_all; done) | (have j := i6 (by omega); simp_all; done) | (have j := i7 (by omega); simp_all; done) | (have j := i8 (by omega); simp_all; done) | (have j := i9 (by omega); simp_all; done))), rfl⟩
              · refine seq_pure (pure_pick_t rfl rfl) rfl rfl ?_
                refine seq_pure (pure_assign rfl) rfl rfl ?_
                refine seq_done ?_
                refine nrm_seq ?_
                refine tri_cond_f rfl ?_
                refine tri_region ?_
                refine seq_pure (pure_fieldAddr0 rfl) rfl rfl ?_
                refine seq_load (load_bs rfl rfl (by repeat (first | exact List.Mem.head _ | apply List.Mem.tail)) (by rfl)) rfl rfl ?_
                refine seq_pure (pure_move rfl) rfl rfl ?_
                refine seq_valb rfl (within_fn _ _ _ _) rfl rfl (fun h1131 => ?_) (fun h1131 => ?_)
                · refine seq_pure (pure_not_t rfl) rfl rfl ?_
                  refine seq_pure (pure_assign rfl) rfl rfl ?_
                  refine seq_done ?_
                  refine nrm_seq ?_
                  refine tri_cond_f rfl ?_
                  refine tri_seq ?_
                  refine tri_seq ?_
                  refine tri_region ?_
                  refine seq_pure (pure_move rfl) rfl rfl ?_
                  refine seq_pure (pure_move rfl) rfl rfl ?_
                  refine seq_skip rfl rfl ?_
                  refine seq_skip rfl rfl ?_
                  refine seq_skip rfl rfl ?_
                  refine seq_skip rfl rfl ?_
                  refine seq_pure (pure_pick_f rfl rfl) rfl rfl ?_
                  refine seq_pure (pure_assign rfl) rfl rfl ?_
                  refine seq_done ?_
                  refine nrm_seq ?_
                  refine tri_cond_f rfl ?_
                  refine tri_region ?_
                  refine seq_pure (pure_move rfl) rfl rfl ?_
                  refine seq_pure (pure_not_f rfl) rfl rfl ?_
                  refine seq_pure (pure_move rfl) rfl rfl ?_
                  refine seq_pure (pure_fieldAddr0 rfl) rfl rfl ?_
                  refine seq_load (load_ba rfl rfl (by repeat (first | exact List.Mem.head _ | apply List.Mem.tail)) (by rfl)) rfl rfl ?_
                  refine seq_valb rfl (o4) rfl rfl (fun h1157 => ?_) (fun h1157 => ?_)
                  · refine seq_pure (pure_not_t rfl) rfl rfl ?_
                    refine seq_pure (pure_pick_t rfl rfl) rfl rfl ?_
                    refine seq_pure (pure_assign rfl) rfl rfl ?_
                    refine seq_done ?_
                    refine nrm_seq ?_
                    refine tri_cond_f rfl ?_
                    refine tri_seq ?_
                    refine tri_seq ?_
                    refine tri_region ?_
                    refine seq_pure (pure_move rfl) rfl rfl ?_
                    refine seq_pure (pure_move rfl) rfl rfl ?_
                    refine seq_skip rfl rfl ?_
                    refine seq_skip rfl rfl ?_
                    refine seq_skip rfl rfl ?_
                    refine seq_skip rfl rfl ?_
                    refine seq_skip rfl rfl ?_
                    refine seq_skip rfl rfl ?_
                    refine seq_skip rfl rfl ?_
                    refine seq_skip rfl rfl ?_
                    refine seq_skip rfl rfl ?_
                    refine seq_skip rfl rfl ?_
                    refine seq_skip rfl rfl ?_
                    refine seq_skip rfl rfl ?_
                    refine seq_pure (pure_pick_f rfl rfl) rfl rfl ?_
                    refine seq_pure (pure_assign rfl) rfl rfl ?_
                    refine seq_done ?_
                    refine nrm_seq ?_
                    refine tri_cond_f rfl ?_
                    refine tri_region ?_
                    refine seq_pure (pure_move rfl) rfl rfl ?_
                    refine seq_pure (pure_not_f rfl) rfl rfl ?_
                    refine seq_pure (pure_move rfl) rfl rfl ?_
                    refine seq_pure (pure_fieldAddr0 rfl) rfl rfl ?_
                    refine seq_load (load_ba rfl rfl (by repeat (first | exact List.Mem.head _ | apply List.Mem.tail)) (by rfl)) rfl rfl ?_
                    refine seq_valb rfl (o7) rfl rfl (fun h1192 => ?_) (fun h1192 => ?_)
                    · refine seq_pure (pure_not_t rfl) rfl rfl ?_
                      refine seq_pure (pure_move rfl) rfl rfl ?_
                      refine seq_pure (pure_fieldAddr0 rfl) rfl rfl ?_
                      refine seq_load (load_bs rfl rfl (by repeat (first | exact List.Mem.head _ | apply List.Mem.tail)) (by rfl)) rfl rfl ?_
                      refine seq_bool (pure_neq rfl rfl) rfl rfl (fun h1197 => ?_) (fun h1197 => ?_)
                      · refine seq_pure (pure_pick_f rfl rfl) rfl rfl ?_
                        refine seq_pure (pure_pick_t rfl rfl) rfl rfl ?_
                        refine seq_pure (pure_assign rfl) rfl rfl ?_
                        refine seq_done ?_
                        refine nrm_seq ?_
                        refine tri_cond_t rfl ?_
                        refine tri_seq ?_
                        refine tri_region ?_
                        refine seq_pure (pure_assign rfl) rfl rfl ?_
                        refine seq_done ?_
                        refine nrm_seq ?_
                        refine tri_ret ?_
                        refine ret_block ?_
                        refine ret_seq ?_
                        refine ret_fin1 (res_tmp rfl) ?_
                        exact ⟨rfl, by (cases R with | false => rfl | true => (exfalso; obtain ⟨i1, i2, i3, i4, i5, i6, i7, i8, i9⟩ := hi.1 rfl; first | omega | (have j := i2 (by omega); simp_all; done) | (have j := i3 (by omega); simp_all; done) | (have j := i4 (by omega); simp_all; done) | (have j := i5 (by omega); simp_all; done) | (have j := i6 (by omega); simp_all; done) | (have j := i7 (by omega); simp_all; done) | (have j := i8 (by omega); simp_all; done) | (have j := i9 (by omega); simp_all; done))), rfl⟩
                      · refine seq_pure (pure_pick_f rfl rfl) rfl rfl ?_
                        refine seq_pure (pure_pick_t rfl rfl) rfl rfl ?_
                        refine seq_pure (pure_assign rfl) rfl rfl ?_
                        refine seq_done ?_
                        refine nrm_seq ?_
                        refine tri_cond_f rfl ?_
                        refine tri_skip ?_
                        refine nrm_block ?_
                        refine nrm_seq ?_
                        refine tri_seq ?_
                        refine tri_region ?_
                        refine seq_pure (pure_assign rfl) rfl rfl ?_
                        refine seq_done ?_
                        refine nrm_seq ?_
                        refine tri_ret ?_
                        refine ret_fin1 (res_tmp rfl) ?_
                        exact ⟨rfl, by rw [hi.2 ⟨by omega, fun _ => by (first | assumption | (exfalso; omega) | exact Classical.not_not.1 (by assumption)), fun _ => by (first | assumption | (exfalso; omega) | exact Classical.not_not.1 (by assumption)), fun _ => by (first | assumption | (exfalso; omega) | exact Classical.not_not.1 (by assumption)), fun _ => by (first | assumption | (exfalso; omega) | exact Classical.not_not.1 (by assumption)), fun _ => by (first | assumption | (exfalso; omega) | exact Classical.not_not.1 (by assumption)), fun _ => by (first | assumption | (exfalso; omega) | exact Classical.not_not.1 (by assumption)), fun _ => ⟨by (first | assumption | (exfalso; omega)), by (first | assumption | (exfalso; omega))⟩, fun _ => ⟨by (first | assumption | (exfalso; omega)), by (first | assumption | omega)⟩⟩], rfl⟩
                    · refine seq_pure (pure_not_f rfl) rfl rfl ?_
                      refine seq_pure (pure_move rfl) rfl rfl ?_
                      refine seq_skip rfl rfl ?_
                      refine seq_skip rfl rfl ?_
                      refine seq_skip rfl rfl ?_
                      refine seq_pure (pure_pick_t rfl rfl) rfl rfl ?_
                      refine seq_pure (pure_pick_t rfl rfl) rfl rfl ?_
                      refine seq_pure (pure_assign rfl) rfl rfl ?_
                      refine seq_done ?_
                      refine nrm_seq ?_
                      refine tri_cond_t rfl ?_
                      refine tri_seq ?_
                      refine tri_region ?_
                      refine seq_pure (pure_assign rfl) rfl rfl ?_
                      refine seq_done ?_
                      refine nrm_seq ?_
                      refine tri_ret ?_
                      refine ret_block ?_
                      refine ret_seq ?_
                      refine ret_fin1 (res_tmp rfl) ?_
                      exact ⟨rfl, by (cases R with | false => rfl | true => (exfalso; obtain ⟨i1, i2, i3, i4, i5, i6, i7, i8, i9⟩ := hi.1 rfl; first | omega | (have j := i2 (by omega); simp_all; done) | (have j := i3 (by omega); simp_all; done) | (have j := i4 (by omega); simp_all; done) | (have j := i5 (by omega); simp_all; done) | (have j := i6 (by omega); simp_all; done) | (have j := i7 (by omega); simp_all; done) | (have j := i8 (by omega); simp_all; done) | (have j := i9 (by omega); simp_all; done))), rfl⟩
                  · refine seq_pure (pure_not_f rfl) rfl rfl ?_
                    refine seq_pure (pure_pick_t rfl rfl) rfl rfl ?_
                    refine seq_pure (pure_assign rfl) rfl rfl ?_
                    refine seq_done ?_
                    refine nrm_seq ?_
                    refine tri_cond_t rfl ?_
                    refine tri_seq ?_
                    refine tri_region ?_
                    refine seq_pure (pure_assign rfl) rfl rfl ?_
                    refine seq_done ?_
                    refine nrm_seq ?_
                    refine tri_ret ?_
                    refine ret_block ?_
                    refine ret_seq ?_
                    refine ret_fin1 (res_tmp rfl) ?_
                    exact ⟨rfl, by (cases R with | false => rfl | true => (exfalso; obtain ⟨i1, i2, i3, i4, i5, i6, i7, i8, i9⟩ := hi.1 rfl; first | omega | (have j := i2 (by omega); simp_all; done) | (have j := i3 (by omega); simp_all; done) | (have j := i4 (by omega); simp_all; done) | (have j := i5 (by omega); simp_all; done) | (have j := i6 (by omega); simp_all; done) | (have j := i7 (by omega); simp_all; done) | (have j := i8 (by omega); simp_all; done) | (have j := i9 (by omega); simp_all; done))), rfl⟩
                · refine seq_pure (pure_not_f rfl) rfl rfl ?_
                  refine seq_pure (pure_assign rfl) rfl rfl ?_
                  refine seq_done ?_
                  refine nrm_seq ?_
                  refine tri_cond_t rfl ?_
                  refine tri_seq ?_
                  refine tri_region ?_
                  refine seq_pure (pure_assign rfl) rfl rfl ?_
                  refine seq_done ?_
                  refine nrm_seq ?_
                  refine tri_ret ?_
                  refine ret_block ?_
                  refine ret_seq ?_
                  refine ret_fin1 (res_tmp rfl) ?_
                  exact ⟨rfl, by (cases R with | false => rfl | true => (exfalso; obtain ⟨i1, i2, i3, i4, i5, i6, i7, i8, i9⟩ := hi.1 rfl; first | omega | (have j := i2 (by omega); simp_all; done) | (have j := i3 (by omega); simp_all; done) | (have j := i4 (by omega); simp_all; done) | (have j := i5 (by omega); simp_all; done) | (have j := i6 (by omega); simp_all; done) | (have j := i7 (by omega); simp_all; done) | (have j := i8 (by omega); simp_all; done) | (have j := i9 (by omega); simp_all; done))), rfl⟩
            · refine seq_done ?_
              refine nrm_seq ?_
              refine tri_cond_f rfl ?_
              refine tri_skip ?_
              refine nrm_seq ?_
              refine tri_seq ?_
              refine tri_block ?_
              refine tri_seq ?_
              refine tri_seq ?_
              refine tri_region ?_
              refine seq_pure (pure_move rfl) rfl rfl ?_
              refine seq_pure (pure_move rfl) rfl rfl ?_
              refine seq_skip rfl rfl ?_
              refine seq_skip rfl rfl ?_
              refine seq_skip rfl rfl ?_
              refine seq_skip rfl rfl ?_
              refine seq_pure (pure_pick_f rfl rfl) rfl rfl ?_
              refine seq_pure (pure_assign rfl) rfl rfl ?_
              refine seq_done ?_
              refine nrm_seq ?_
              refine tri_cond_f rfl ?_
              refine tri_seq ?_
              refine tri_region ?_
              refine seq_pure (pure_move rfl) rfl rfl ?_
              refine seq_pure (pure_not_f rfl) rfl rfl ?_
              refine seq_pure (pure_move rfl) rfl rfl ?_
              refine seq_pure (pure_fieldAddr0 rfl) rfl rfl ?_
              refine seq_load (load_bs rfl rfl (by repeat (first | exact List.Mem.head _ | apply List.Mem.tail)) (by rfl)) rfl rfl ?_
              refine seq_bool (pure_sneq rfl rfl) rfl rfl (fun h1311 => ?_) (fun h1311 => ?_)
              · refine seq_pure (pure_pick_t rfl rfl) rfl rfl ?_
                refine seq_pure (pure_assign rfl) rfl rfl ?_
                refine seq_done ?_
                refine nrm_seq ?_
                refine tri_cond_t rfl ?_
                refine tri_skip ?_
                refine nrm_seq ?_
                refine tri_cond_t rfl ?_
                refine tri_seq ?_
                refine tri_region ?_
                refine seq_pure (pure_assign rfl) rfl rfl ?_
                refine seq_done ?_
                refine nrm_seq ?_
                refine tri_ret ?_
                refine ret_block ?_
                refine ret_seq ?_
                refine ret_fin1 (res_tmp rfl) ?_
                exact ⟨rfl, by (cases R with | false => rfl | true => (exfalso; obtain ⟨i1, i2, i3, i4, i5, i6, i7, i8, i9⟩ := hi.1 rfl; first | omega | (have j := i2 (by omega); simp_all; done) | (have j := i3 (by omega); simp_all; done) | (have j := i4 (by omega); simp_all; done) | (have j := i5 (by omega); simp_all; done) | (have j := i6 (by omega); simp_all; done) | (have j := i7 (by omega); simp_all; done) | (have j := i8 (by omega); simp_all; done) | (have j := i9 (by omega); simp_all; done))), rfl⟩
              · refine seq_pure (pure_pick_t rfl rfl) rfl rfl ?_
                refine seq_pure (pure_assign rfl) rfl rfl ?_
                refine seq_done ?_
                refine nrm_seq ?_
                refine tri_cond_f rfl ?_
                refine tri_region ?_
                refine seq_pure (pure_fieldAddr0 rfl) rfl rfl ?_
                refine seq_load (load_bs rfl rfl (by repeat (first | exact List.Mem.head _ | apply List.Mem.tail)) (by rfl)) rfl rfl ?_
                refine seq_pure (pure_move rfl) rfl rfl ?_
                refine seq_valb rfl (within_fn _ _ _ _) rfl rfl (fun h1339 => ?_) (fun h1339 => ?_)
                · refine seq_pure (pure_not_t rfl) rfl rfl ?_
                  refine seq_pure (pure_assign rfl) rfl rfl ?_
                  refine seq_done ?_
                  refine nrm_seq ?_
                  refine tri_cond_f rfl ?_
                  refine tri_seq ?_
                  refine tri_seq ?_
                  refine tri_region ?_
                  refine seq_pure (pure_move rfl) rfl rfl ?_
                  refine seq_pure (pure_move rfl) rfl rfl ?_
                  refine seq_skip rfl rfl ?_
                  refine seq_skip rfl rfl ?_
                  refine seq_skip rfl rfl ?_
                  refine seq_skip rfl rfl ?_
                  refine seq_pure (pure_pick_f rfl rfl) rfl rfl ?_
                  refine seq_pure (pure_assign rfl) rfl rfl ?_
                  refine seq_done ?_
                  refine nrm_seq ?_
                  refine tri_cond_f rfl ?_
                  refine tri_region ?_
                  refine seq_pure (pure_move rfl) rfl rfl ?_
                  refine seq_pure (pure_not_f rfl) rfl rfl ?_
                  refine seq_pure (pure_move rfl) rfl rfl ?_
                  refine seq_pure (pure_fieldAddr0 rfl) rfl rfl ?_
                  refine seq_load (load_ba rfl rfl (by repeat (first | exact List.Mem.head _ | apply List.Mem.tail)) (by rfl)) rfl rfl ?_
                  refine seq_valb rfl (o4) rfl rfl (fun h1365 => ?_) (fun h1365 => ?_)
                  · refine seq_pure (pure_not_t rfl) rfl rfl ?_
                    refine seq_pure (pure_pick_t rfl rfl) rfl rfl ?_
                    refine seq_pure (pure_assign rfl) rfl rfl ?_
                    refine seq_done ?_
                    refine nrm_seq ?_
                    refine tri_cond_f rfl ?_
                    refine tri_seq ?_
                    refine tri_seq ?_
                    refine tri_region ?_
                    refine seq_pure (pure_move rfl) rfl rfl ?_
                    refine seq_pure (pure_move rfl) rfl rfl ?_
                    refine seq_skip rfl rfl ?_
                    refine seq_skip rfl rfl ?_
                    refine seq_skip rfl rfl ?_
                    refine seq_skip rfl rfl ?_
                    refine seq_skip rfl rfl ?_
                    refine seq_skip rfl rfl ?_
                    refine seq_skip rfl rfl ?_
                    refine seq_skip rfl rfl ?_
                    refine seq_skip rfl rfl ?_
                    refine seq_skip rfl rfl ?_
                    refine seq_skip rfl rfl ?_
                    refine seq_skip rfl rfl ?_
                    refine seq_pure (pure_pick_f rfl rfl) rfl rfl ?_
                    refine seq_pure (pure_assign rfl) rfl rfl ?_
                    refine seq_done ?_
                    refine nrm_seq ?_
                    refine tri_cond_f rfl ?_
                    refine tri_region ?_
                    refine seq_pure (pure_move rfl) rfl rfl ?_
                    refine seq_pure (pure_not_f rfl) rfl rfl ?_
                    refine seq_pure (pure_move rfl) rfl rfl ?_
                    refine seq_pure (pure_fieldAddr0 rfl) rfl rfl ?_
                    refine seq_load (load_ba rfl rfl (by repeat (first | exact List.Mem.head _ | apply List.Mem.tail)) (by rfl)) rfl rfl ?_
                    refine seq_valb rfl (o7) rfl rfl (fun h1400 => ?_) (fun h1400 => ?_)
                    · refine seq_pure (pure_not_t rfl) rfl rfl ?_
                      refine seq_pure (pure_move rfl) rfl rfl ?_
                      refine seq_pure (pure_fieldAddr0 rfl) rfl rfl ?_
                      refine seq_load (load_bs rfl rfl (by repeat (first | exact List.Mem.head _ | apply List.Mem.tail)) (by rfl)) rfl rfl ?_
                      refine seq_bool (pure_neq rfl rfl) rfl rfl (fun h1405 => ?_) (fun h1405 => ?_)
                      · refine seq_pure (pure_pick_f rfl rfl) rfl rfl ?_
                        refine seq_pure (pure_pick_t rfl rfl) rfl rfl ?_
                        refine seq_pure (pure_assign rfl) rfl rfl ?_
                        refine seq_done ?_
                        refine nrm_seq ?_
                        refine tri_cond_t rfl ?_
                        refine tri_seq ?_
                        refine tri_region ?_
                        refine seq_pure (pure_assign rfl) rfl rfl ?_
                        refine seq_done ?_
                        refine nrm_seq ?_
                        refine tri_ret ?_
                        refine ret_block ?_
                        refine ret_seq ?_
                        refine ret_fin1 (res_tmp rfl) ?_
                        exact ⟨rfl, by (cases R with | false => rfl | true => (exfalso; obtain ⟨i1, i2, i3, i4, i5, i6, i7, i8, i9⟩ := hi.1 rfl; first | omega | (have j := i2 (by omega); simp_all; done) | (have j := i3 (by omega); simp_all; done) | (have j := i4 (by omega); simp_all; done) | (have j := i5 (by omega); simp_all; done) | (have j := i6 (by omega); simp_all; done) | (have j := i7 (by omega); simp_all; done) | (have j := i8 (by omega); simp_all; done) | (have j := i9 (by omega); simp_all; done))), rfl⟩
                      · refine seq_pure (pure_pick_f rfl rfl) rfl rfl ?_
                        refine seq_pure (pure_pick_t rfl rfl) rfl rfl ?_
                        refine seq_pure (pure_assign rfl) rfl rfl ?_
                        refine seq_done ?_
                        refine nrm_seq ?_
                        refine tri_cond_f rfl ?_
                        refine tri_skip ?_
                        refine nrm_block ?_
                        refine nrm_seq ?_
                        refine tri_seq ?_
                        refine tri_region ?_
                        refine seq_pure (pure_assign rfl) rfl rfl ?_
                        refine seq_done ?_
                        refine nrm_seq ?_
                        refine tri_ret ?_
                        refine ret_fin1 (res_tmp rfl) ?_
                        exact ⟨rfl, by rw [hi.2 ⟨by omega, fun _ => by (first | assumption | (exfalso; omega) | exact Classical.not_not.1 (by assumption)), fun _ => by (first | assumption | (exfalso; omega) | exact Classical.not_not.1 (by assumption)), fun _ => by (first | assumption | (exfalso; omega) | exact Classical.not_not.1 (by assumption)), fun _ => by (first | assumption | (exfalso; omega) | exact Classical.not_not.1 (by assumption)), fun _ => by (first | assumption | (exfalso; omega) | exact Classical.not_not.1 (by assumption)), fun _ => by (first | assumption | (exfalso; omega) | exact Classical.not_not.1 (by assumption)), fun _ => ⟨by (first | assumption | (exfalso; omega)), by (first | assumption | (exfalso; omega))⟩, fun _ => ⟨by (first | assumption | (exfalso; omega)), by (first | assumption | omega)⟩⟩], rfl⟩
                    · refine seq_pure (pure_not_f rfl) rfl rfl ?_
                      refine seq_pure (pure_move rfl) rfl rfl ?_
                      refine seq_skip rfl rfl ?_
                      refine seq_skip rfl rfl ?_
                      refine seq_skip rfl rfl ?_
                      refine seq_pure (pure_pick_t rfl rfl) rfl rfl ?_
                      refine seq_pure (pure_pick_t rfl rfl) rfl rfl ?_
                      refine seq_pure (pure_assign rfl) rfl rfl ?_
                      refine seq_done ?_
                      refine nrm_seq ?_
                      refine tri_cond_t rfl ?_
                      refine tri_seq ?_
                      refine tri_region ?_
                      refine seq_pure (pure_assign rfl) rfl rfl ?_
                      refine seq_done ?_
                      refine nrm_seq ?_
                      refine tri_ret ?_
                      refine ret_block ?_
                      refine ret_seq ?_
                      refine ret_fin1 (res_tmp rfl) ?_
                      exact ⟨rfl, by (cases R with | false => rfl | true => (exfalso; obtain ⟨i1, i2, i3, i4, i5, i6, i7, i8, i9⟩ := hi.1 rfl; first | omega | (have j := i2 (by omega); simp_all; done) | (have j := i3 (by omega); simp_all; done) | (have j := i4 (by omega); simp_all; done) | (have j := i5 (by omega); simp_all; done) | (have j := i6 (by omega); simp_all; done) | (have j := i7 (by omega); simp_all; done) | (have j := i8 (by omega); simp_all; done) | (have j := i9 (by omega); simp_all; done))), rfl⟩
                  · refine seq_pure (pure_not_f rfl) rfl rfl ?_
                    refine seq_pure (pure_pick_t rfl rfl) rfl rfl ?_
                    refine seq_pure (pure_assign rfl) rfl rfl ?_
                    refine seq_done ?_
                    refine nrm_seq ?_
                    refine tri_cond_t rfl ?_
                    refine tri_seq ?_
                    refine tri_region ?_
                    refine seq_pure (pure_assign rfl) rfl rfl ?_
                    refine seq_done ?_
                    refine nrm_seq ?_
                    refine tri_ret ?_
                    refine ret_block ?_
                    refine ret_seq ?_
                    refine ret_fin1 (res_tmp rfl) ?_
                    exact ⟨rfl, by (cases R with | false => rfl | true => (exfalso; obtain ⟨i1, i2, i3, i4, i5, i6, i7, i8, i9⟩ := hi.1 rfl; first | omega | (have j := i2 (by omega); simp_all; done) | (have j := i3 (by omega); simp_all; done) | (have j := i4 (by omega); simp_all; done) | (have j := i5 (by omega); simp_all; done) | (have j := i6 (by omega); simp_all; done) | (have j := i7 (by omega); simp_all; done) | (have j := i8 (by omega); simp_all; done) | (have j := i9 (by omega); simp_all; done))), rfl⟩
                · refine seq_pure (pure_not_f rfl) rfl rfl ?_
                  refine seq_pure (pure_assign rfl) rfl rfl ?_
                  refine seq_done ?_
                  refine nrm_seq ?_
                  refine tri_cond_t rfl ?_
                  refine tri_seq ?_
                  refine tri_region ?_
                  refine seq_pure (pure_assign rfl) rfl rfl ?_
                  refine seq_done ?_
                  refine nrm_seq ?_
                  refine tri_ret ?_
                  refine ret_block ?_
                  refine ret_seq ?_
                  refine ret_fin1 (res_tmp rfl) ?_
                  exact ⟨rfl, by (cases R with | false => rfl | true => (exfalso; obtain ⟨i1, i2, i3, i4, i5, i6, i7, i8, i9⟩ := hi.1 rfl; first | omega | (have j := i2 (by omega); simp_all; done) | (have j := i3 (by omega); simp_all; done) | (have j := i4 (by omega); simp_all; done) | (have j := i5 (by omega); simp_all; done) | (have j := i6 (by omega); simp_all; done) | (have j := i7 (by omega); simp_all; done) | (have j := i8 (by omega); simp_all; done) | (have j := i9 (by omega); simp_all; done))), rfl⟩
end Gw
end Go.Proofs.Ytlefgfdhlblahaa
namespace Go.Proofs.Ytlefgfdhlblahaa
open Go Go.RowKit
namespace Gw
set_option maxRecDepth 100000 in
theorem scan_fn (M D N : Int) (hM : 0 ≤ M ∧ M ≤ 1000) (hD : 0 ≤ D ∧ D ≤ 1000) (bc : Nat) : ∀ (t : Tm) (deep c : Int) (G : IM) (cells : List Value), 0 ≤ deep ∧ deep ≤ D + 1 → 0 ≤ c ∧ c ≤ M → RTm G t cells →
    Fn Try.prog 44 [.agg ⟨cells⟩, .int .i64 deep, .int .i64 M, .int .i64 D, .int .i64 N, .pointer (some ⟨bc, 0, none⟩)] [.blk bc [.int .i64 c]] G
      (ValO (.bool (mScan M D N t deep c).1) [.blk bc [.int .i64 (mScan M D N t deep c).2]] G) := by
  refine Tm.ind fun k nm num ty fr lb ks ih deep c G cells hd hc hr => ?_
  have hno := nodeOk_fn k nm num ty fr lb ks G cells hr
  obtain ⟨tk, tks⟩ := ty
  obtain ⟨fk, fks⟩ := fr
  obtain ⟨pt, ct, pf, cf, p, cp, es, rfl, hk, hnum, hlb, hty, hfr, hsl, hkl⟩ := hr.open9
  have hn := hsl.le
  obtain ⟨R, hR⟩ : ∃ R, tmNode k nm num (.mk tk tks) (.mk fk fks) lb ks.length = R := ⟨_, rfl⟩
  rw [hR] at hno
  refine fn_enter Try.func44 rfl Try.ntmps44 Try.results44 rfl ?_
  intro w0
  refine tri_seq ?_
  refine tri_region ?_
  (refine seq_step (step_box_a rfl rfl) rfl ?_; rintro _ ⟨b3, rfl⟩)
  refine seq_pure (pure_assign rfl) rfl rfl ?_
  refine seq_done ?_
  refine nrm_seq ?_
  refine tri_seq ?_
  refine tri_region ?_
  refine seq_pure (pure_move rfl) rfl rfl ?_
  refine seq_pure (pure_nilCheck rfl) rfl rfl ?_
  refine seq_load (load_bs rfl rfl (by repeat (first | exact List.Mem.head _ | apply List.Mem.tail)) (by rfl)) rfl rfl ?_
  refine seq_pure (pure_add rfl rfl (by omega) (by omega)) rfl rfl ?_
  refine seq_pure (pure_nilCheck rfl) rfl rfl ?_
  refine seq_store rfl rfl rfl rfl rfl rfl (by repeat (first | exact Sw.here | apply Sw.there)) (by rfl) ?_
  refine seq_done ?_
  refine nrm_seq ?_
  refine tri_seq ?_
  refine tri_seq ?_
  refine tri_region ?_
  refine seq_pure (pure_move rfl) rfl rfl ?_
  refine seq_pure (pure_nilCheck rfl) rfl rfl ?_
  refine seq_load (load_bs rfl rfl (by repeat (first | exact List.Mem.head _ | apply List.Mem.tail)) (by rfl)) rfl rfl ?_
  refine seq_pure (pure_move rfl) rfl rfl ?_
  refine seq_bool (pure_gtr rfl rfl) rfl rfl (fun h24 => ?_) (fun h24 => ?_)
  · refine seq_pure (pure_move rfl) rfl rfl ?_
    refine seq_skip rfl rfl ?_
    refine seq_skip rfl rfl ?_
    refine seq_skip rfl rfl ?_
    refine seq_pure (pure_pick_t rfl rfl) rfl rfl ?_
    refine seq_pure (pure_move rfl) rfl rfl ?_
    refine seq_skip rfl rfl ?_
    refine seq_skip rfl rfl ?_
    refine seq_skip rfl rfl ?_
    refine seq_skip rfl rfl ?_
    refine seq_pure (pure_pick_t rfl rfl) rfl rfl ?_
    refine seq_pure (pure_move rfl) rfl rfl ?_
    refine seq_skip rfl rfl ?_
    refine seq_skip rfl rfl ?_
    refine seq_skip rfl rfl ?_
    refine seq_pure (pure_pick_t rfl rfl) rfl rfl ?_
    refine seq_done ?_
    refine nrm_seq ?_
    refine tri_cond_t rfl ?_
    refine tri_seq ?_
    refine tri_region ?_
    refine seq_pure (pure_assign rfl) rfl rfl ?_
    refine seq_done ?_
    refine nrm_seq ?_
    refine tri_ret ?_
    refine ret_seq ?_
    refine ret_own1 (outs := [.blk bc [.int .i64 _]]) (res_tmp rfl) (SubH.cons (by repeat (first | exact Pk.here | apply Pk.there)) SubH.nil) ?_
    (rw [mScan_no (by rw [hR]; first | omega | exact Or.inr (Or.inr (Or.inr (by assumption)))) ]; exact ⟨rfl, rfl, rfl⟩)
  · refine seq_pure (pure_move rfl) rfl rfl ?_
    refine seq_pure (pure_move rfl) rfl rfl ?_
    refine seq_pure (pure_move rfl) rfl rfl ?_
    refine seq_bool (pure_gtr rfl rfl) rfl rfl (fun h56 => ?_) (fun h56 => ?_)
    · refine seq_pure (pure_pick_f rfl rfl) rfl rfl ?_
      refine seq_pure (pure_move rfl) rfl rfl ?_
      refine seq_skip rfl rfl ?_
      refine seq_skip rfl rfl ?_
      refine seq_skip rfl rfl ?_
      refine seq_skip rfl rfl ?_
      refine seq_pure (pure_pick_t rfl rfl) rfl rfl ?_
      refine seq_pure (pure_move rfl) rfl rfl ?_
      refine seq_skip rfl rfl ?_
      refine seq_skip rfl rfl ?_
      refine seq_skip rfl rfl ?_
      refine seq_pure (pure_pick_t rfl rfl) rfl rfl ?_
      refine seq_done ?_
      refine nrm_seq ?_
      refine tri_cond_t rfl ?_
      refine tri_seq ?_
      refine tri_region ?_
      refine seq_pure (pure_assign rfl) rfl rfl ?_
      refine seq_done ?_
      refine nrm_seq ?_
      refine tri_ret ?_
      refine ret_seq ?_
      refine ret_own1 (outs := [.blk bc [.int .i64 _]]) (res_tmp rfl) (SubH.cons (by repeat (first | exact Pk.here | apply Pk.there)) SubH.nil) ?_
      (rw [mScan_no (by rw [hR]; first | omega | exact Or.inr (Or.inr (Or.inr (by assumption)))) ]; exact ⟨rfl, rfl, rfl⟩)
    · refine seq_pure (pure_pick_f rfl rfl) rfl rfl ?_
      refine seq_pure (pure_move rfl) rfl rfl ?_
      refine seq_pure (pure_fieldAddr0 rfl) rfl rfl ?_
      refine seq_load (load_bs rfl rfl (by repeat (first | exact List.Mem.head _ | apply List.Mem.tail)) (by rfl)) rfl rfl ?_
      refine seq_pure (pure_move rfl) rfl rfl ?_
      refine seq_bool (pure_eql rfl rfl) rfl rfl (fun h86 => ?_) (fun h86 => ?_)
      · refine seq_pure (pure_pick_f rfl rfl) rfl rfl ?_
        refine seq_pure (pure_move rfl) rfl rfl ?_
        refine seq_skip rfl rfl ?_
        refine seq_skip rfl rfl ?_
        refine seq_skip rfl rfl ?_
        refine seq_pure (pure_pick_t rfl rfl) rfl rfl ?_
        refine seq_done ?_
        refine nrm_seq ?_
        refine tri_cond_t rfl ?_
        refine tri_seq ?_
        refine tri_region ?_
        refine seq_pure (pure_assign rfl) rfl rfl ?_
        refine seq_done ?_
        refine nrm_seq ?_
        refine tri_ret ?_
        refine ret_seq ?_
        refine ret_own1 (outs := [.blk bc [.int .i64 _]]) (res_tmp rfl) (SubH.cons (by repeat (first | exact Pk.here | apply Pk.there)) SubH.nil) ?_
        (rw [mScan_no (by rw [hR]; first | omega | exact Or.inr (Or.inr (Or.inr (by assumption)))) ]; exact ⟨rfl, rfl, rfl⟩)
      · refine seq_pure (pure_pick_f rfl rfl) rfl rfl ?_
        refine seq_pure (pure_move rfl) rfl rfl ?_
        refine seq_load (load_ba rfl rfl (by repeat (first | exact List.Mem.head _ | apply List.Mem.tail)) (by rfl)) rfl rfl ?_
        refine seq_valb rfl (hno) rfl rfl (fun h108 => ?_) (fun h108 => ?_)
        · refine seq_pure (pure_not_t rfl) rfl rfl ?_
          refine seq_pure (pure_pick_f rfl rfl) rfl rfl ?_
          refine seq_done ?_
          refine nrm_seq ?_
          refine tri_cond_f rfl ?_
          refine tri_skip ?_
          refine nrm_seq ?_
          refine tri_seq ?_
          refine tri_seq ?_
          refine tri_region ?_
          refine seq_pure (pure_fieldAddr0 rfl) rfl rfl ?_
          refine seq_load (load_bs rfl rfl (by repeat (first | exact List.Mem.head _ | apply List.Mem.tail)) (by rfl)) rfl rfl ?_
          refine seq_pure (pure_len rfl rfl) rfl rfl ?_
          refine seq_pure (pure_move rfl) rfl rfl ?_
          refine seq_done ?_
          refine nrm_seq ?_
          refine tri_block ?_
          (have hmk := mScan_go (M := M) (D := D) (N := N) (deep := deep) (c := c) (by omega) (hR.trans (by assumption)); refine tri_loopN (fun (x : Nat × Int) => ⟨[(44, .int .i64 x.1), (43, .int .i64 ks.length), (42, .slice p ks.length cp), (5, .pointer (some ⟨bc, 0, none⟩)), (4, .int .i64 N), (3, .int .i64 D), (2, .int .i64 M), (1, .int .i64 deep)], [.blk bc [.int .i64 x.2]], G⟩) (fun x => x.1 ≤ ks.length ∧ 0 ≤ x.2 ∧ x.2 ≤ M ∧ mScanL M D N ks (deep + 1) (c + 1) = mScanL M D N (ks.drop x.1) (deep + 1) x.2) (fun x => ks.length - x.1) (0, c + 1) ?_ ?_ ?_)
          · (simp only [flat_snoc]; exact sub_mk (by repeat (first | exact SubE.nil | refine SubE.cons rfl ?_)) (by repeat (first | exact SubH.refl | exact SubH.nil | refine SubH.cons (by repeat (first | exact Pk.here | apply Pk.there)) ?_ | apply SubH.drop)))
          · exact ⟨by simp, by simp; omega, by simp; omega, by simp⟩
          · (rintro ⟨i, ci⟩ ⟨hi, hc0, hc1, hst⟩; simp only [] at hi hc0 hc1 hst ⊢)
            refine tri_seq ?_
            refine tri_region ?_
            refine seq_bool (pure_lss rfl rfl) rfl rfl (fun h132 => ?_) (fun h132 => ?_)
            · refine seq_done ?_
              refine nrm_seq ?_
              refine tri_seq ?_
              refine tri_cond_t rfl ?_
              refine tri_skip ?_
              refine nrm_seq ?_
              refine tri_seq ?_
              refine tri_block ?_
              refine tri_seq ?_
              refine tri_region ?_
              (obtain ⟨b, o, e, rfl, hl, hat, hre, hgb⟩ := hsl.kidTm hkl (i := i) (by omega) (by omega); have hone := hre.one; have hle := mScan_le M D N ks[i] (deep + 1) ci hc0 hc1; refine seq_pure (pure_indexAddrN rfl rfl rfl (by omega)) rfl rfl ?_)
              refine seq_load (load_a rfl rfl (hat _) hl) rfl rfl ?_
              (refine seq_step (step_alloc rfl) rfl ?_; rintro _ ⟨b145, rfl⟩)
              refine seq_store rfl rfl rfl (by assumption) (by assumption) rfl (by repeat (first | exact Sw.here | apply Sw.there)) (by exact upd_all (by symm; assumption)) ?_
              refine seq_done ?_
              refine nrm_seq ?_
              refine tri_seq ?_
              refine tri_region ?_
              refine seq_load (load_a rfl rfl (at_blk_all (by repeat (first | exact List.Mem.head _ | apply List.Mem.tail))) (by assumption)) rfl rfl ?_
              refine seq_pure (pure_move rfl) rfl rfl ?_
              refine seq_pure (pure_add rfl rfl (by omega) (by omega)) rfl rfl ?_
              refine seq_pure (pure_move rfl) rfl rfl ?_
              refine seq_pure (pure_move rfl) rfl rfl ?_
              refine seq_pure (pure_move rfl) rfl rfl ?_
              refine seq_pure (pure_move rfl) rfl rfl ?_
              refine seq_valbx rfl (ih ks[i] (List.getElem_mem _) (deep + 1) ci G e (by omega) (by omega) hre) (Pk.perm (by repeat (first | exact Pk.here | apply Pk.there))) rfl rfl (fun h158 => ?_) (fun h158 => ?_)
              · refine seq_pure (pure_not_t rfl) rfl rfl ?_
                refine seq_done ?_
                refine nrm_seq ?_
                refine tri_cond_f rfl ?_
                refine tri_skip ?_
                refine nrm_block ?_
                refine nrm_seq ?_
                refine tri_region ?_
                refine seq_pure (pure_add rfl rfl (by omega) (by omega)) rfl rfl ?_
                refine seq_pure (pure_move rfl) rfl rfl ?_
                refine seq_done ?_
                refine nrm_loopN (i + 1, (mScan M D N ks[i] (deep + 1) ci).2) ?_ ?_ ?_
                · (simp only [flat_snoc]; exact sub_mk (by repeat (first | exact SubE.nil | refine SubE.cons rfl ?_)) (by repeat (first | exact SubH.refl | exact SubH.nil | refine SubH.cons (by repeat (first | exact Pk.here | apply Pk.there)) ?_ | apply SubH.drop)))
                · exact ⟨by omega, by omega, hle.2.2 (by assumption), by rw [hst, mScanL_t (by omega) (by assumption)]⟩
                · (show ks.length - (i + 1) < ks.length - i; omega)
              · refine seq_pure (pure_not_f rfl) rfl rfl ?_
                refine seq_done ?_
                refine nrm_seq ?_
                refine tri_cond_t rfl ?_
                refine tri_seq ?_
                refine tri_region ?_
                refine seq_pure (pure_assign rfl) rfl rfl ?_
                refine seq_done ?_
                refine nrm_seq ?_
                refine tri_ret ?_
                refine ret_block ?_
                refine ret_seq ?_
                refine ret_loopN ?_
                refine ret_block ?_
                refine ret_seq ?_
                refine ret_own1 (outs := [.blk bc [.int .i64 _]]) (res_tmp rfl) (SubH.cons (by repeat (first | exact Pk.here | apply Pk.there)) SubH.nil) ?_
                (rw [hmk, hst, mScanL_f (by omega) (by assumption)]; exact ⟨rfl, rfl, rfl⟩)
            · refine seq_done ?_
              refine nrm_seq ?_
              refine tri_seq ?_
              refine tri_cond_f rfl ?_
              refine tri_exit ?_
              refine ext_seq ?_
              refine ext_loopN ?_
              refine ext_block_eq ?_
              refine nrm_seq ?_
              refine tri_seq ?_
              refine tri_region ?_
              refine seq_pure (pure_assign rfl) rfl rfl ?_
              refine seq_done ?_
              refine nrm_seq ?_
              refine tri_ret ?_
              refine ret_own1 (outs := [.blk bc [.int .i64 _]]) (res_tmp rfl) (SubH.cons (by repeat (first | exact Pk.here | apply Pk.there)) SubH.nil) ?_
              (rw [hmk, hst, mScanL_end (by omega)]; exact ⟨rfl, rfl, rfl⟩)
        · refine seq_pure (pure_not_f rfl) rfl rfl ?_
          refine seq_pure (pure_pick_f rfl rfl) rfl rfl ?_
          refine seq_done ?_
          refine nrm_seq ?_
          refine tri_cond_t rfl ?_
          refine tri_seq ?_
          refine tri_region ?_
          refine seq_pure (pure_assign rfl) rfl rfl ?_
          refine seq_done ?_
          refine nrm_seq ?_
          refine tri_ret ?_
          refine ret_seq ?_
          refine ret_own1 (outs := [.blk bc [.int .i64 _]]) (res_tmp rfl) (SubH.cons (by repeat (first | exact Pk.here | apply Pk.there)) SubH.nil) ?_
          (rw [mScan_no (by rw [hR]; first | omega | exact Or.inr (Or.inr (Or.inr (by assumption)))) ]; exact ⟨rfl, rfl, rfl⟩)
set_option maxRecDepth 100000 in
theorem castValid_fn (t : Tm) (G : IM) (cells : List Value) (hr : RTm G t cells) : Fn Try.prog 36 [.agg ⟨cells⟩] [] G (Val (.bool (castValid t)) G) := by
  have hl := hr.len
  refine fn_enter Try.func36 rfl Try.ntmps36 Try.results36 rfl ?_
  intro w0
  refine tri_seq ?_
  refine tri_region ?_
  (refine seq_step (step_box_a rfl rfl) rfl ?_; rintro _ ⟨b3, rfl⟩)
  refine seq_pure (pure_assign rfl) rfl rfl ?_
  refine seq_done ?_
  refine nrm_seq ?_
  refine tri_seq ?_
  refine tri_region ?_
  (refine seq_step (step_alloc rfl) rfl ?_; rintro _ ⟨b9, rfl⟩)
  refine seq_store rfl rfl rfl rfl rfl rfl (by repeat (first | exact Sw.here | apply Sw.there)) (by rfl) ?_
  refine seq_done ?_
  refine nrm_seq ?_
  refine tri_seq ?_
  refine tri_region ?_
  refine seq_load (load_a rfl rfl (at_blk_all (by repeat (first | exact List.Mem.head _ | apply List.Mem.tail))) (by assumption)) rfl rfl ?_
  refine seq_valx rfl (scan_fn 200 40 13 (by omega) (by omega) _ t 1 0 G cells (by omega) (by omega) hr) perm_all rfl rfl ?_
  refine seq_pure (pure_assign rfl) rfl rfl ?_
  refine seq_done ?_
  refine nrm_seq ?_
  refine tri_ret ?_
  refine ret_fin1 (res_tmp rfl) ?_
  exact ⟨rfl, rfl, rfl⟩
set_option maxRecDepth 100000 in
theorem termValid_fn (t : Tm) (G : IM) (cells : List Value) (hr : RTm G t cells) : Fn Try.prog 13 [.agg ⟨cells⟩] [] G (Val (.bool (termValid t)) G) := by
  have hl := hr.len
  refine fn_enter Try.func13 rfl Try.ntmps13 Try.results13 rfl ?_
  intro w0
  refine tri_seq ?_
  refine tri_region ?_
  (refine seq_step (step_box_a rfl rfl) rfl ?_; rintro _ ⟨b3, rfl⟩)
  refine seq_pure (pure_assign rfl) rfl rfl ?_
  refine seq_done ?_
  refine nrm_seq ?_
  refine tri_seq ?_
  refine tri_region ?_
  (refine seq_step (step_alloc rfl) rfl ?_; rintro _ ⟨b9, rfl⟩)
  refine seq_store rfl rfl rfl rfl rfl rfl (by repeat (first | exact Sw.here | apply Sw.there)) (by rfl) ?_
  refine seq_done ?_
  refine nrm_seq ?_
  refine tri_seq ?_
  refine tri_region ?_
  refine seq_load (load_a rfl rfl (at_blk_all (by repeat (first | exact List.Mem.head _ | apply List.Mem.tail))) (by assumption)) rfl rfl ?_
  refine seq_valx rfl (scan_fn 30 12 14 (by omega) (by omega) _ t 1 0 G cells (by omega) (by omega) hr) perm_all rfl rfl ?_
  refine seq_pure (pure_assign rfl) rfl rfl ?_
  refine seq_done ?_
  refine nrm_seq ?_
  refine tri_ret ?_
  refine ret_fin1 (res_tmp rfl) ?_
  exact ⟨rfl, rfl, rfl⟩
end Gw
end Go.Proofs.Ytlefgfdhlblahaa
namespace Go.Proofs.Ytlefgfdhlblahaa
open Go Go.RowKit
namespace Gw
set_option maxRecDepth 100000 in
theorem l1Kids_fn (k : Int) (G : IM) : Fn Try.prog 136 [.int .i64 k] [] G (Val (.int .i64 (tyOps k)) G) := by
  refine fn_enter Try.func136 rfl Try.ntmps136 Try.results136 rfl ?_
  intro w0
  refine tri_seq ?_
  refine tri_region ?_
  refine seq_pure (pure_assign rfl) rfl rfl ?_
  refine seq_done ?_
  refine nrm_seq ?_
  refine tri_seq ?_
  refine tri_seq ?_
  refine tri_region ?_
  refine seq_pure (pure_move rfl) rfl rfl ?_
  refine seq_done ?_
  refine nrm_seq ?_
  refine tri_block ?_
  refine tri_seq ?_
  refine tri_seq ?_
  refine tri_region ?_
  refine seq_bool (pure_eql rfl rfl) rfl rfl (fun h16 => ?_) (fun h16 => ?_)
  · refine seq_pure (pure_assign rfl) rfl rfl ?_
    refine seq_done ?_
    refine nrm_seq ?_
    refine tri_cond_t rfl ?_
    refine tri_skip ?_
    refine nrm_seq ?_
    refine tri_cond_t rfl ?_
    refine tri_seq ?_
    refine tri_region ?_
    refine seq_pure (pure_assign rfl) rfl rfl ?_
    refine seq_done ?_
    refine nrm_seq ?_
    refine tri_ret ?_
    refine ret_block ?_
    refine ret_seq ?_
    refine ret_fin1 (res_tmp rfl) ?_
    exact ⟨rfl, by (first | rw [(tyOps_spec k).1 (by omega)] | rw [(tyOps_spec k).2.1 (by omega)] | rw [(tyOps_spec k).2.2 (by omega) (by omega) (by omega) (by omega) (by omega)]), rfl⟩
  · refine seq_pure (pure_assign rfl) rfl rfl ?_
    refine seq_done ?_
    refine nrm_seq ?_
    refine tri_cond_f rfl ?_
    refine tri_seq ?_
    refine tri_region ?_
    refine seq_bool (pure_eql rfl rfl) rfl rfl (fun h40 => ?_) (fun h40 => ?_)
    · refine seq_pure (pure_assign rfl) rfl rfl ?_
      refine seq_done ?_
      refine nrm_seq ?_
      refine tri_cond_t rfl ?_
      refine tri_skip ?_
      refine nrm_seq ?_
      refine tri_cond_t rfl ?_
      refine tri_seq ?_
      refine tri_region ?_
      refine seq_pure (pure_assign rfl) rfl rfl ?_
      refine seq_done ?_
      refine nrm_seq ?_
      refine tri_ret ?_
      refine ret_block ?_
      refine ret_seq ?_
      refine ret_fin1 (res_tmp rfl) ?_
      exact ⟨rfl, by (first | rw [(tyOps_spec k).1 (by omega)] | rw [(tyOps_spec k).2.1 (by omega)] | rw [(tyOps_spec k).2.2 (by omega) (by omega) (by omega) (by omega) (by omega)]), rfl⟩
    · refine seq_pure (pure_assign rfl) rfl rfl ?_
      refine seq_done ?_
      refine nrm_seq ?_
      refine tri_cond_f rfl ?_
      refine tri_region ?_
      refine seq_bool (pure_eql rfl rfl) rfl rfl (fun h63 => ?_) (fun h63 => ?_)
      · refine seq_pure (pure_assign rfl) rfl rfl ?_
        refine seq_done ?_
        refine nrm_seq ?_
        refine tri_cond_t rfl ?_
        refine tri_seq ?_
        refine tri_region ?_
        refine seq_pure (pure_assign rfl) rfl rfl ?_
        refine seq_done ?_
        refine nrm_seq ?_
        refine tri_ret ?_
        refine ret_block ?_
        refine ret_seq ?_
        refine ret_fin1 (res_tmp rfl) ?_
        exact ⟨rfl, by (first | rw [(tyOps_spec k).1 (by omega)] | rw [(tyOps_spec k).2.1 (by omega)] | rw [(tyOps_spec k).2.2 (by omega) (by omega) (by omega) (by omega) (by omega)]), rfl⟩
      · refine seq_pure (pure_assign rfl) rfl rfl ?_
        refine seq_done ?_
        refine nrm_seq ?_
        refine tri_cond_f rfl ?_
        refine tri_seq ?_
        refine tri_seq ?_
        refine tri_region ?_
        refine seq_bool (pure_eql rfl rfl) rfl rfl (fun h85 => ?_) (fun h85 => ?_)
        · refine seq_pure (pure_assign rfl) rfl rfl ?_
          refine seq_done ?_
          refine nrm_seq ?_
          refine tri_cond_t rfl ?_
          refine tri_skip ?_
          refine nrm_seq ?_
          refine tri_cond_t rfl ?_
          refine tri_seq ?_
          refine tri_region ?_
          refine seq_pure (pure_assign rfl) rfl rfl ?_
          refine seq_done ?_
          refine nrm_seq ?_
          refine tri_ret ?_
          refine ret_block ?_
          refine ret_seq ?_
          refine ret_fin1 (res_tmp rfl) ?_
          exact ⟨rfl, by (first | rw [(tyOps_spec k).1 (by omega)] | rw [(tyOps_spec k).2.1 (by omega)] | rw [(tyOps_spec k).2.2 (by omega) (by omega) (by omega) (by omega) (by omega)]), rfl⟩
        · refine seq_pure (pure_assign rfl) rfl rfl ?_
          refine seq_done ?_
          refine nrm_seq ?_
          refine tri_cond_f rfl ?_
          refine tri_region ?_
          refine seq_bool (pure_eql rfl rfl) rfl rfl (fun h108 => ?_) (fun h108 => ?_)
          · refine seq_pure (pure_assign rfl) rfl rfl ?_
            refine seq_done ?_
            refine nrm_seq ?_
            refine tri_cond_t rfl ?_
            refine tri_seq ?_
            refine tri_region ?_
            refine seq_pure (pure_assign rfl) rfl rfl ?_
            refine seq_done ?_
            refine nrm_seq ?_
            refine tri_ret ?_
            refine ret_block ?_
            refine ret_seq ?_
            refine ret_fin1 (res_tmp rfl) ?_
            exact ⟨rfl, by (first | rw [(tyOps_spec k).1 (by omega)] | rw [(tyOps_spec k).2.1 (by omega)] | rw [(tyOps_spec k).2.2 (by omega) (by omega) (by omega) (by omega) (by omega)]), rfl⟩
          · refine seq_pure (pure_assign rfl) rfl rfl ?_
            refine seq_done ?_
            refine nrm_seq ?_
            refine tri_cond_f rfl ?_
            refine tri_skip ?_
            refine nrm_block ?_
            refine nrm_seq ?_
            refine tri_seq ?_
            refine tri_region ?_
            refine seq_pure (pure_assign rfl) rfl rfl ?_
            refine seq_done ?_
            refine nrm_seq ?_
            refine tri_ret ?_
            refine ret_fin1 (res_tmp rfl) ?_
            exact ⟨rfl, by (first | rw [(tyOps_spec k).1 (by omega)] | rw [(tyOps_spec k).2.1 (by omega)] | rw [(tyOps_spec k).2.2 (by omega) (by omega) (by omega) (by omega) (by omega)]), rfl⟩
set_option maxRecDepth 100000 in
theorem l2Kids_fn (k : Int) (G : IM) : Fn Try.prog 105 [.int .i64 k] [] G (Val (.int .i64 (tmOps k)) G) := by
  refine fn_enter Try.func105 rfl Try.ntmps105 Try.results105 rfl ?_
  intro w0
  refine tri_seq ?_
  refine tri_region ?_
  refine seq_pure (pure_assign rfl) rfl rfl ?_
  refine seq_done ?_
  refine nrm_seq ?_
  refine tri_seq ?_
  refine tri_seq ?_
  refine tri_region ?_
  refine seq_pure (pure_move rfl) rfl rfl ?_
  refine seq_done ?_
  refine nrm_seq ?_
  refine tri_block ?_
  refine tri_seq ?_
  refine tri_seq ?_
  refine tri_region ?_
  refine seq_bool (pure_eql rfl rfl) rfl rfl (fun h16 => ?_) (fun h16 => ?_)
  · refine seq_pure (pure_assign rfl) rfl rfl ?_
    refine seq_done ?_
    refine nrm_seq ?_
    refine tri_cond_t rfl ?_
    refine tri_skip ?_
    refine nrm_seq ?_
    refine tri_cond_t rfl ?_
    refine tri_seq ?_
    refine tri_region ?_
    refine seq_pure (pure_assign rfl) rfl rfl ?_
    refine seq_done ?_
    refine nrm_seq ?_
    refine tri_ret ?_
    refine ret_block ?_
    refine ret_seq ?_
    refine ret_fin1 (res_tmp rfl) ?_
    exact ⟨rfl, by (unfold tmOps; first | rw [if_pos (by omega)] | rw [if_neg (by omega), if_pos (by omega)] | rw [if_neg (by omega), if_neg (by omega), if_pos (by omega)] | rw [if_neg (by omega), if_neg (by omega), if_neg (by omega), if_pos (by omega)] | rw [if_neg (by omega), if_neg (by omega), if_neg (by omega), if_neg (by omega)]), rfl⟩
  · refine seq_pure (pure_assign rfl) rfl rfl ?_
    refine seq_done ?_
    refine nrm_seq ?_
    refine tri_cond_f rfl ?_
    refine tri_seq ?_
    refine tri_region ?_
    refine seq_bool (pure_eql rfl rfl) rfl rfl (fun h40 => ?_) (fun h40 => ?_)
    · refine seq_pure (pure_assign rfl) rfl rfl ?_
      refine seq_done ?_
      refine nrm_seq ?_
      refine tri_cond_t rfl ?_
      refine tri_skip ?_
      refine nrm_seq ?_
      refine tri_cond_t rfl ?_
      refine tri_seq ?_
      refine tri_region ?_
      refine seq_pure (pure_assign rfl) rfl rfl ?_
      refine seq_done ?_
      refine nrm_seq ?_
      refine tri_ret ?_
      refine ret_block ?_
      refine ret_seq ?_
      refine ret_fin1 (res_tmp rfl) ?_
      exact ⟨rfl, by (unfold tmOps; first | rw [if_pos (by omega)] | rw [if_neg (by omega), if_pos (by omega)] | rw [if_neg (by omega), if_neg (by omega), if_pos (by omega)] | rw [if_neg (by omega), if_neg (by omega), if_neg (by omega), if_pos (by omega)] | rw [if_neg (by omega), if_neg (by omega), if_neg (by omega), if_neg (by omega)]), rfl⟩
    · refine seq_pure (pure_assign rfl) rfl rfl ?_
      refine seq_done ?_
      refine nrm_seq ?_
      refine tri_cond_f rfl ?_
      refine tri_seq ?_
      refine tri_region ?_
      refine seq_bool (pure_eql rfl rfl) rfl rfl (fun h64 => ?_) (fun h64 => ?_)
      · refine seq_pure (pure_assign rfl) rfl rfl ?_
        refine seq_done ?_
        refine nrm_seq ?_
        refine tri_cond_t rfl ?_
        refine tri_skip ?_
        refine nrm_seq ?_
        refine tri_cond_t rfl ?_
        refine tri_seq ?_
        refine tri_region ?_
        refine seq_pure (pure_assign rfl) rfl rfl ?_
        refine seq_done ?_
        refine nrm_seq ?_
        refine tri_ret ?_
        refine ret_block ?_
        refine ret_seq ?_
        refine ret_fin1 (res_tmp rfl) ?_
        exact ⟨rfl, by (unfold tmOps; first | rw [if_pos (by omega)] | rw [if_neg (by omega), if_pos (by omega)] | rw [if_neg (by omega), if_neg (by omega), if_pos (by omega)] | rw [if_neg (by omega), if_neg (by omega), if_neg (by omega), if_pos (by omega)] | rw [if_neg (by omega), if_neg (by omega), if_neg (by omega), if_neg (by omega)]), rfl⟩
      · refine seq_pure (pure_assign rfl) rfl rfl ?_
        refine seq_done ?_
        refine nrm_seq ?_
        refine tri_cond_f rfl ?_
        refine tri_region ?_
        refine seq_bool (pure_eql rfl rfl) rfl rfl (fun h87 => ?_) (fun h87 => ?_)
        · refine seq_pure (pure_assign rfl) rfl rfl ?_
          refine seq_done ?_
          refine nrm_seq ?_
          refine tri_cond_t rfl ?_
          refine tri_seq ?_
          refine tri_region ?_
          refine seq_pure (pure_assign rfl) rfl rfl ?_
          refine seq_done ?_
          refine nrm_seq ?_
          refine tri_ret ?_
          refine ret_block ?_
          refine ret_seq ?_
          refine ret_fin1 (res_tmp rfl) ?_
          exact ⟨rfl, by (unfold tmOps; first | rw [if_pos (by omega)] | rw [if_neg (by omega), if_pos (by omega)] | rw [if_neg (by omega), if_neg (by omega), if_pos (by omega)] | rw [if_neg (by omega), if_neg (by omega), if_neg (by omega), if_pos (by omega)] | rw [if_neg (by omega), if_neg (by omega), if_neg (by omega), if_neg (by omega)]), rfl⟩
        · refine seq_pure (pure_assign rfl) rfl rfl ?_
          refine seq_done ?_
          refine nrm_seq ?_
          refine tri_cond_f rfl ?_
          refine tri_seq ?_
          refine tri_seq ?_
          refine tri_region ?_
          refine seq_bool (pure_eql rfl rfl) rfl rfl (fun h109 => ?_) (fun h109 => ?_)
          · refine seq_pure (pure_assign rfl) rfl rfl ?_
            refine seq_done ?_
            refine nrm_seq ?_
            refine tri_cond_t rfl ?_
            refine tri_skip ?_
            refine nrm_seq ?_
            refine tri_cond_t rfl ?_
            refine tri_seq ?_
            refine tri_region ?_
            refine seq_pure (pure_assign rfl) rfl rfl ?_
            refine seq_done ?_
            refine nrm_seq ?_
            refine tri_ret ?_
            refine ret_block ?_
            refine ret_seq ?_
            refine ret_fin1 (res_tmp rfl) ?_
            exact ⟨rfl, by (unfold tmOps; first | rw [if_pos (by omega)] | rw [if_neg (by omega), if_pos (by omega)] | rw [if_neg (by omega), if_neg (by omega), if_pos (by omega)] | rw [if_neg (by omega), if_neg (by omega), if_neg (by omega), if_pos (by omega)] | rw [if_neg (by omega), if_neg (by omega), if_neg (by omega), if_neg (by omega)]), rfl⟩
          · refine seq_pure (pure_assign rfl) rfl rfl ?_
            refine seq_done ?_
            refine nrm_seq ?_
            refine tri_cond_f rfl ?_
            refine tri_seq ?_
            refine tri_region ?_
            refine seq_bool (pure_eql rfl rfl) rfl rfl (fun h133 => ?_) (fun h133 => ?_)
            · refine seq_pure (pure_assign rfl) rfl rfl ?_
              refine seq_done ?_
              refine nrm_seq ?_
              refine tri_cond_t rfl ?_
              refine tri_skip ?_
              refine nrm_seq ?_
              refine tri_cond_t rfl ?_
              refine tri_seq ?_
              refine tri_region ?_
              refine seq_pure (pure_assign rfl) rfl rfl ?_
              refine seq_done ?_
              refine nrm_seq ?_
              refine tri_ret ?_
              refine ret_block ?_
              refine ret_seq ?_
              refine ret_fin1 (res_tmp rfl) ?_
              exact ⟨rfl, by (unfold tmOps; first | rw [if_pos (by omega)] | rw [if_neg (by omega), if_pos (by omega)] | rw [if_neg (by omega), if_neg (by omega), if_pos (by omega)] | rw [if_neg (by omega), if_neg (by omega), if_neg (by omega), if_pos (by omega)] | rw [if_neg (by omega), if_neg (by omega), if_neg (by omega), if_neg (by omega)]), rfl⟩
            · refine seq_pure (pure_assign rfl) rfl rfl ?_
              refine seq_done ?_
              refine nrm_seq ?_
              refine tri_cond_f rfl ?_
              refine tri_seq ?_
              refine tri_region ?_
              refine seq_bool (pure_eql rfl rfl) rfl rfl (fun h157 => ?_) (fun h157 => ?_)
              · refine seq_pure (pure_assign rfl) rfl rfl ?_
                refine seq_done ?_
                refine nrm_seq ?_
                refine tri_cond_t rfl ?_
                refine tri_skip ?_
                refine nrm_seq ?_
                refine tri_cond_t rfl ?_
                refine tri_seq ?_
                refine tri_region ?_
                refine seq_pure (pure_assign rfl) rfl rfl ?_
                refine seq_done ?_
                refine nrm_seq ?_
                refine tri_ret ?_
                refine ret_block ?_
                refine ret_seq ?_
                refine ret_fin1 (res_tmp rfl) ?_
                exact ⟨rfl, by (unfold tmOps; first | rw [if_pos (by omega)] | rw [if_neg (by omega), if_pos (by omega)] | rw [if_neg (by omega), if_neg (by omega), if_pos (by omega)] | rw [if_neg (by omega), if_neg (by omega), if_neg (by omega), if_pos (by omega)] | rw [if_neg (by omega), if_neg (by omega), if_neg (by omega), if_neg (by omega)]), rfl⟩
              · refine seq_pure (pure_assign rfl) rfl rfl ?_
                refine seq_done ?_
                refine nrm_seq ?_
                refine tri_cond_f rfl ?_
                refine tri_seq ?_
                refine tri_region ?_
                refine seq_bool (pure_eql rfl rfl) rfl rfl (fun h181 => ?_) (fun h181 => ?_)
                · refine seq_pure (pure_assign rfl) rfl rfl ?_
                  refine seq_done ?_
                  refine nrm_seq ?_
                  refine tri_cond_t rfl ?_
                  refine tri_skip ?_
                  refine nrm_seq ?_
                  refine tri_cond_t rfl ?_
                  refine tri_seq ?_
                  refine tri_region ?_
                  refine seq_pure (pure_assign rfl) rfl rfl ?_
                  refine seq_done ?_
                  refine nrm_seq ?_
                  refine tri_ret ?_
                  refine ret_block ?_
                  refine ret_seq ?_
                  refine ret_fin1 (res_tmp rfl) ?_
                  exact ⟨rfl, by (unfold tmOps; first | rw [if_pos (by omega)] | rw [if_neg (by omega), if_pos (by omega)] | rw [if_neg (by omega), if_neg (by omega), if_pos (by omega)] | rw [if_neg (by omega), if_neg (by omega), if_neg (by omega), if_pos (by omega)] | rw [if_neg (by omega), if_neg (by omega), if_neg (by omega), if_neg (by omega)]), rfl⟩
                · refine seq_pure (pure_assign rfl) rfl rfl ?_
                  refine seq_done ?_
                  refine nrm_seq ?_
                  refine tri_cond_f rfl ?_
                  refine tri_region ?_
                  refine seq_bool (pure_eql rfl rfl) rfl rfl (fun h204 => ?_) (fun h204 => ?_)
                  · refine seq_pure (pure_assign rfl) rfl rfl ?_
                    refine seq_done ?_
                    refine nrm_seq ?_
                    refine tri_cond_t rfl ?_
                    refine tri_seq ?_
                    refine tri_region ?_
                    refine seq_pure (pure_assign rfl) rfl rfl ?_
                    refine seq_done ?_
                    refine nrm_seq ?_
                    refine tri_ret ?_
                    refine ret_block ?_
                    refine ret_seq ?_
                    refine ret_fin1 (res_tmp rfl) ?_
                    exact ⟨rfl, by (unfold tmOps; first | rw [if_pos (by omega)] | rw [if_neg (by omega), if_pos (by omega)] | rw [if_neg (by omega), if_neg (by omega), if_pos (by omega)] | rw [if_neg (by omega), if_neg (by omega), if_neg (by omega), if_pos (by omega)] | rw [if_neg (by omega), if_neg (by omega), if_neg (by omega), if_neg (by omega)]), rfl⟩
                  · refine seq_pure (pure_assign rfl) rfl rfl ?_
                    refine seq_done ?_
                    refine nrm_seq ?_
                    refine tri_cond_f rfl ?_
                    refine tri_seq ?_
                    refine tri_seq ?_
                    refine tri_region ?_
                    refine seq_bool (pure_eql rfl rfl) rfl rfl (fun h226 => ?_) (fun h226 => ?_)
                    · refine seq_pure (pure_assign rfl) rfl rfl ?_
                      refine seq_done ?_
                      refine nrm_seq ?_
                      refine tri_cond_t rfl ?_
                      refine tri_skip ?_
                      refine nrm_seq ?_
                      refine tri_cond_t rfl ?_
                      refine tri_seq ?_
                      refine tri_region ?_
                      refine seq_pure (pure_assign rfl) rfl rfl ?_
                      refine seq_done ?_
                      refine nrm_seq ?_
                      refine tri_ret ?_
                      refine ret_block ?_
                      refine ret_seq ?_
                      refine ret_fin1 (res_tmp rfl) ?_
                      exact ⟨rfl, by (unfold tmOps; first | rw [if_pos (by omega)] | rw [if_neg (by omega), if_pos (by omega)] | rw [if_neg (by omega), if_neg (by omega), if_pos (by omega)] | rw [if_neg (by omega), if_neg (by omega), if_neg (by omega), if_pos (by omega)] | rw [if_neg (by omega), if_neg (by omega), if_neg (by omega), if_neg (by omega)]), rfl⟩
                    · refine seq_pure (pure_assign rfl) rfl rfl ?_
                      refine seq_done ?_
                      refine nrm_seq ?_
                      refine tri_cond_f rfl ?_
                      refine tri_seq ?_
                      refine tri_region ?_
                      refine seq_bool (pure_eql rfl rfl) rfl rfl (fun h250 => ?_) (fun h250 => ?_)
                      · refine seq_pure (pure_assign rfl) rfl rfl ?_
                        refine seq_done ?_
                        refine nrm_seq ?_
                        refine tri_cond_t rfl ?_
                        refine tri_skip ?_
                        refine nrm_seq ?_
                        refine tri_cond_t rfl ?_
                        refine tri_seq ?_
                        refine tri_region ?_
                        refine seq_pure (pure_assign rfl) rfl rfl ?_
                        refine seq_done ?_
                        refine nrm_seq ?_
                        refine tri_ret ?_
                        refine ret_block ?_
                        refine ret_seq ?_
                        refine ret_fin1 (res_tmp rfl) ?_
                        exact ⟨rfl, by (unfold tmOps; first | rw [if_pos (by omega)] | rw [if_neg (by omega), if_pos (by omega)] | rw [if_neg (by omega), if_neg (by omega), if_pos (by omega)] | rw [if_neg (by omega), if_neg (by omega), if_neg (by omega), if_pos (by omega)] | rw [if_neg (by omega), if_neg (by omega), if_neg (by omega), if_neg (by omega)]), rfl⟩
                      · refine seq_pure (pure_assign rfl) rfl rfl ?_
                        refine seq_done ?_
                        refine nrm_seq ?_
                        refine tri_cond_f rfl ?_
                        refine tri_seq ?_
                        refine tri_region ?_
                        refine seq_bool (pure_eql rfl rfl) rfl rfl (fun h274 => ?_) (fun h274 => ?_)
                        · refine seq_pure (pure_assign rfl) rfl rfl ?_
                          refine seq_done ?_
                          refine nrm_seq ?_
                          refine tri_cond_t rfl ?_
                          refine tri_skip ?_
                          refine nrm_seq ?_
                          refine tri_cond_t rfl ?_
                          refine tri_seq ?_
                          refine tri_region ?_
                          refine seq_pure (pure_assign rfl) rfl rfl ?_
                          refine seq_done ?_
                          refine nrm_seq ?_
                          refine tri_ret ?_
                          refine ret_block ?_
                          refine ret_seq ?_
                          refine ret_fin1 (res_tmp rfl) ?_
                          exact ⟨rfl, by (unfold tmOps; first | rw [if_pos (by omega)] | rw [if_neg (by omega), if_pos (by omega)] | rw [if_neg (by omega), if_neg (by omega), if_pos (by omega)] | rw [if_neg (by omega), if_neg (by omega), if_neg (by omega), if_pos (by omega)] | rw [if_neg (by omega), if_neg (by omega), if_neg (by omega), if_neg (by omega)]), rfl⟩
                        · refine seq_pure (pure_assign rfl) rfl rfl ?_
                          refine seq_done ?_
                          refine nrm_seq ?_
                          refine tri_cond_f rfl ?_
                          refine tri_region ?_
                          refine seq_bool (pure_eql rfl rfl) rfl rfl (fun h297 => ?_) (fun h297 => ?_)
                          · refine seq_pure (pure_assign rfl) rfl rfl ?_
                            refine seq_done ?_
                            refine nrm_seq ?_
                            refine tri_cond_t rfl ?_
                            refine tri_seq ?_
                            refine tri_region ?_
                            refine seq_pure (pure_assign rfl) rfl rfl ?_
                            refine seq_done ?_
                            refine nrm_seq ?_
                            refine tri_ret ?_
                            refine ret_block ?_
                            refine ret_seq ?_
                            refine ret_fin1 (res_tmp rfl) ?_
                            exact ⟨rfl, by (unfold tmOps; first | rw [if_pos (by omega)] | rw [if_neg (by omega), if_pos (by omega)] | rw [if_neg (by omega), if_neg (by omega), if_pos (by omega)] | rw [if_neg (by omega), if_neg (by omega), if_neg (by omega), if_pos (by omega)] | rw [if_neg (by omega), if_neg (by omega), if_neg (by omega), if_neg (by omega)]), rfl⟩
                          · refine seq_pure (pure_assign rfl) rfl rfl ?_
                            refine seq_done ?_
                            refine nrm_seq ?_
                            refine tri_cond_f rfl ?_
                            refine tri_seq ?_
                            refine tri_region ?_
                            refine seq_bool (pure_eql rfl rfl) rfl rfl (fun h318 => ?_) (fun h318 => ?_)
                            · refine seq_pure (pure_assign rfl) rfl rfl ?_
                              refine seq_done ?_
                              refine nrm_seq ?_
                              refine tri_cond_t rfl ?_
                              refine tri_seq ?_
                              refine tri_region ?_
                              refine seq_pure (pure_assign rfl) rfl rfl ?_
                              refine seq_done ?_
                              refine nrm_seq ?_
                              refine tri_ret ?_
                              refine ret_block ?_
                              refine ret_seq ?_
                              refine ret_fin1 (res_tmp rfl) ?_
                              exact ⟨rfl, by (unfold tmOps; first | rw [if_pos (by omega)] | rw [if_neg (by omega), if_pos (by omega)] | rw [if_neg (by omega), if_neg (by omega), if_pos (by omega)] | rw [if_neg (by omega), if_neg (by omega), if_neg (by omega), if_pos (by omega)] | rw [if_neg (by omega), if_neg (by omega), if_neg (by omega), if_neg (by omega)]), rfl⟩
                            · refine seq_pure (pure_assign rfl) rfl rfl ?_
                              refine seq_done ?_
                              refine nrm_seq ?_
                              refine tri_cond_f rfl ?_
                              refine tri_skip ?_
                              refine nrm_block ?_
                              refine nrm_seq ?_
                              refine tri_seq ?_
                              refine tri_region ?_
                              refine seq_pure (pure_assign rfl) rfl rfl ?_
                              refine seq_done ?_
                              refine nrm_seq ?_
                              refine tri_ret ?_
                              refine ret_fin1 (res_tmp rfl) ?_
                              exact ⟨rfl, by (unfold tmOps; first | rw [if_pos (by omega)] | rw [if_neg (by omega), if_pos (by omega)] | rw [if_neg (by omega), if_neg (by omega), if_pos (by omega)] | rw [if_neg (by omega), if_neg (by omega), if_neg (by omega), if_pos (by omega)] | rw [if_neg (by omega), if_neg (by omega), if_neg (by omega), if_neg (by omega)]), rfl⟩
set_option maxRecDepth 100000 in
theorem l2Name_fn (s : ByteArray) (G : IM) : Fn Try.prog 121 [.string s] [] G (Val (.bool (nameOk s)) G) := by
  refine fn_enter Try.func121 rfl Try.ntmps121 Try.results121 rfl ?_
  intro w0
  refine tri_seq ?_
  refine tri_region ?_
  refine seq_pure (pure_assign rfl) rfl rfl ?_
  refine seq_done ?_
  refine nrm_seq ?_
  refine tri_seq ?_
  refine tri_region ?_
  refine seq_pure (pure_move rfl) rfl rfl ?_
  refine seq_pure (pure_len_str rfl rfl) rfl rfl ?_
  refine seq_bool (pure_eql rfl rfl) rfl rfl (fun h10 => ?_) (fun h10 => ?_)
  · refine seq_pure (pure_move rfl) rfl rfl ?_
    refine seq_pure (pure_move rfl) rfl rfl ?_
    refine seq_pure (pure_sindex rfl rfl rfl (by omega) (ba_get (by omega))) rfl rfl ?_
    refine seq_bool (pure_geq rfl rfl) rfl rfl (fun h14 => ?_) (fun h14 => ?_)
    · refine seq_pure (pure_pick_t rfl rfl) rfl rfl ?_
      refine seq_pure (pure_move rfl) rfl rfl ?_
      refine seq_pure (pure_move rfl) rfl rfl ?_
      refine seq_pure (pure_sindex rfl rfl rfl (by omega) (ba_get (by omega))) rfl rfl ?_
      refine seq_bool (pure_leq rfl rfl) rfl rfl (fun h19 => ?_) (fun h19 => ?_)
      · refine seq_pure (pure_pick_t rfl rfl) rfl rfl ?_
        refine seq_pure (pure_assign rfl) rfl rfl ?_
        refine seq_done ?_
        refine nrm_seq ?_
        refine tri_ret ?_
        refine ret_fin1 (res_tmp rfl) ?_
        exact ⟨rfl, by simp only [nameOk]; (try simp only [Int.toNat_zero] at *); (first | rw [decide_eq_true (by omega)] | rw [decide_eq_false (by omega)]), rfl⟩
      · refine seq_pure (pure_pick_t rfl rfl) rfl rfl ?_
        refine seq_pure (pure_assign rfl) rfl rfl ?_
        refine seq_done ?_
        refine nrm_seq ?_
        refine tri_ret ?_
        refine ret_fin1 (res_tmp rfl) ?_
        exact ⟨rfl, by simp only [nameOk]; (try simp only [Int.toNat_zero] at *); (first | rw [decide_eq_true (by omega)] | rw [decide_eq_false (by omega)]), rfl⟩
    · refine seq_pure (pure_pick_t rfl rfl) rfl rfl ?_
      refine seq_pure (pure_move rfl) rfl rfl ?_
      refine seq_skip rfl rfl ?_
      refine seq_skip rfl rfl ?_
      refine seq_skip rfl rfl ?_
      refine seq_pure (pure_pick_f rfl rfl) rfl rfl ?_
      refine seq_pure (pure_assign rfl) rfl rfl ?_
      refine seq_done ?_
      refine nrm_seq ?_
      refine tri_ret ?_
      refine ret_fin1 (res_tmp rfl) ?_
      exact ⟨rfl, by simp only [nameOk]; (try simp only [Int.toNat_zero] at *); (first | rw [decide_eq_true (by omega)] | rw [decide_eq_false (by omega)]), rfl⟩
  · refine seq_pure (pure_move rfl) rfl rfl ?_
    refine seq_skip rfl rfl ?_
    refine seq_skip rfl rfl ?_
    refine seq_skip rfl rfl ?_
    refine seq_pure (pure_pick_f rfl rfl) rfl rfl ?_
    refine seq_pure (pure_move rfl) rfl rfl ?_
    refine seq_skip rfl rfl ?_
    refine seq_skip rfl rfl ?_
    refine seq_skip rfl rfl ?_
    refine seq_pure (pure_pick_f rfl rfl) rfl rfl ?_
    refine seq_pure (pure_assign rfl) rfl rfl ?_
    refine seq_done ?_
    refine nrm_seq ?_
    refine tri_ret ?_
    refine ret_fin1 (res_tmp rfl) ?_
    exact ⟨rfl, by simp only [nameOk]; (try simp only [Int.toNat_zero] at *); (first | rw [decide_eq_true (by omega)] | rw [decide_eq_false (by omega)]), rfl⟩
set_option maxRecDepth 100000 in
theorem l2None_fn (t : Ty) (G : IM) (cells : List Value) (hr : RTy G t cells) : Fn Try.prog 123 [.agg ⟨cells⟩] [] G (Val (.bool (tNone t)) G) := by
  obtain ⟨p, c, es, rfl, hk, hsl, hkl⟩ := hr.open
  refine fn_enter Try.func123 rfl Try.ntmps123 Try.results123 rfl ?_
  intro w0
  refine tri_seq ?_
  refine tri_region ?_
  (refine seq_step (step_box_a rfl rfl) rfl ?_; rintro _ ⟨b3, rfl⟩)
  refine seq_pure (pure_assign rfl) rfl rfl ?_
  refine seq_done ?_
  refine nrm_seq ?_
  refine tri_seq ?_
  refine tri_region ?_
  refine seq_pure (pure_fieldAddr0 rfl) rfl rfl ?_
  refine seq_load (load_bs rfl rfl (by repeat (first | exact List.Mem.head _ | apply List.Mem.tail)) (by rfl)) rfl rfl ?_
  refine seq_bool (pure_eql rfl rfl) rfl rfl (fun h11 => ?_) (fun h11 => ?_)
  · refine seq_pure (pure_move rfl) rfl rfl ?_
    refine seq_pure (pure_fieldAddr0 rfl) rfl rfl ?_
    refine seq_load (load_bs rfl rfl (by repeat (first | exact List.Mem.head _ | apply List.Mem.tail)) (by rfl)) rfl rfl ?_
    refine seq_pure (pure_len rfl rfl) rfl rfl ?_
    refine seq_bool (pure_eql rfl rfl) rfl rfl (fun h16 => ?_) (fun h16 => ?_)
    · refine seq_pure (pure_pick_t rfl rfl) rfl rfl ?_
      refine seq_pure (pure_assign rfl) rfl rfl ?_
      refine seq_done ?_
      refine nrm_seq ?_
      refine tri_ret ?_
      refine ret_fin1 (res_tmp rfl) ?_
      exact ⟨rfl, by simp only [tNone]; (first | rw [decide_eq_true (by omega)] | rw [decide_eq_false (by omega)]), rfl⟩
    · refine seq_pure (pure_pick_t rfl rfl) rfl rfl ?_
      refine seq_pure (pure_assign rfl) rfl rfl ?_
      refine seq_done ?_
      refine nrm_seq ?_
      refine tri_ret ?_
      refine ret_fin1 (res_tmp rfl) ?_
      exact ⟨rfl, by simp only [tNone]; (first | rw [decide_eq_true (by omega)] | rw [decide_eq_false (by omega)]), rfl⟩
  · refine seq_pure (pure_move rfl) rfl rfl ?_
    refine seq_skip rfl rfl ?_
    refine seq_skip rfl rfl ?_
    refine seq_skip rfl rfl ?_
    refine seq_skip rfl rfl ?_
    refine seq_pure (pure_pick_f rfl rfl) rfl rfl ?_
    refine seq_pure (pure_assign rfl) rfl rfl ?_
    refine seq_done ?_
    refine nrm_seq ?_
    refine tri_ret ?_
    refine ret_fin1 (res_tmp rfl) ?_
    exact ⟨rfl, by simp only [tNone]; (first | rw [decide_eq_true (by omega)] | rw [decide_eq_false (by omega)]), rfl⟩
/-- The absolute value of a label, 0 for what is no label's size. -/
def absLb (n : Int) : Int := if n < -99 ∨ n > 99 then 0 else if n < 0 then -n else n
set_option maxRecDepth 100000 in
theorem l1Abs_fn (n : Int) (G : IM) : Fn Try.prog 124 [.int .i64 n] [] G (Val (.int .i64 (absLb n)) G) := by
  refine fn_enter Try.func124 rfl Try.ntmps124 Try.results124 rfl ?_
  intro w0
  refine tri_seq ?_
  refine tri_region ?_
  refine seq_pure (pure_assign rfl) rfl rfl ?_
  refine seq_done ?_
  refine nrm_seq ?_
  refine tri_seq ?_
  refine tri_seq ?_
  refine tri_region ?_
  refine seq_pure (pure_move rfl) rfl rfl ?_
  refine seq_bool (pure_lss rfl rfl) rfl rfl (fun h10 => ?_) (fun h10 => ?_)
  · refine seq_pure (pure_move rfl) rfl rfl ?_
    refine seq_skip rfl rfl ?_
    refine seq_skip rfl rfl ?_
    refine seq_pure (pure_pick_t rfl rfl) rfl rfl ?_
    refine seq_done ?_
    refine nrm_seq ?_
    refine tri_cond_t rfl ?_
    refine tri_seq ?_
    refine tri_region ?_
    refine seq_pure (pure_assign rfl) rfl rfl ?_
    refine seq_done ?_
    refine nrm_seq ?_
    refine tri_ret ?_
    refine ret_seq ?_
    refine ret_fin1 (res_tmp rfl) ?_
    exact ⟨rfl, by (unfold absLb; first | rw [if_pos (by omega)] | rw [if_neg (by omega), if_pos (by omega)] | rw [if_neg (by omega), if_neg (by omega)]), rfl⟩
  · refine seq_pure (pure_move rfl) rfl rfl ?_
    refine seq_pure (pure_move rfl) rfl rfl ?_
    refine seq_bool (pure_gtr rfl rfl) rfl rfl (fun h29 => ?_) (fun h29 => ?_)
    · refine seq_pure (pure_pick_f rfl rfl) rfl rfl ?_
      refine seq_done ?_
      refine nrm_seq ?_
      refine tri_cond_t rfl ?_
      refine tri_seq ?_
      refine tri_region ?_
      refine seq_pure (pure_assign rfl) rfl rfl ?_
      refine seq_done ?_
      refine nrm_seq ?_
      refine tri_ret ?_
      refine ret_seq ?_
      refine ret_fin1 (res_tmp rfl) ?_
      exact ⟨rfl, by (unfold absLb; first | rw [if_pos (by omega)] | rw [if_neg (by omega), if_pos (by omega)] | rw [if_neg (by omega), if_neg (by omega)]), rfl⟩
    · refine seq_pure (pure_pick_f rfl rfl) rfl rfl ?_
      refine seq_done ?_
      refine nrm_seq ?_
      refine tri_cond_f rfl ?_
      refine tri_skip ?_
      refine nrm_seq ?_
      refine tri_seq ?_
      refine tri_seq ?_
      refine tri_region ?_
      refine seq_pure (pure_move rfl) rfl rfl ?_
      refine seq_bool (pure_lss rfl rfl) rfl rfl (fun h53 => ?_) (fun h53 => ?_)
      · refine seq_done ?_
        refine nrm_seq ?_
        refine tri_cond_t rfl ?_
        refine tri_seq ?_
        refine tri_region ?_
        refine seq_pure (pure_move rfl) rfl rfl ?_
        refine seq_pure (pure_neg rfl (by omega) (by omega)) rfl rfl ?_
        refine seq_pure (pure_assign rfl) rfl rfl ?_
        refine seq_done ?_
        refine nrm_seq ?_
        refine tri_ret ?_
        refine ret_seq ?_
        refine ret_fin1 (res_tmp rfl) ?_
        exact ⟨rfl, by (unfold absLb; first | rw [if_pos (by omega)] | rw [if_neg (by omega), if_pos (by omega)] | rw [if_neg (by omega), if_neg (by omega)]), rfl⟩
      · refine seq_done ?_
        refine nrm_seq ?_
        refine tri_cond_f rfl ?_
        refine tri_skip ?_
        refine nrm_seq ?_
        refine tri_seq ?_
        refine tri_region ?_
        refine seq_pure (pure_move rfl) rfl rfl ?_
        refine seq_pure (pure_assign rfl) rfl rfl ?_
        refine seq_done ?_
        refine nrm_seq ?_
        refine tri_ret ?_
        refine ret_fin1 (res_tmp rfl) ?_
        exact ⟨rfl, by (unfold absLb; first | rw [if_pos (by omega)] | rw [if_neg (by omega), if_pos (by omega)] | rw [if_neg (by omega), if_neg (by omega)]), rfl⟩
end Gw
end Go.Proofs.Ytlefgfdhlblahaa
namespace Go.Proofs.Ytlefgfdhlblahaa
open Go Go.RowKit
namespace Gw
theorem Sw.same {hp hp' : List Ent} {e : Ent} (h : Sw hp e e hp') : hp' = hp := by
  generalize he : e = e' at h
  have : ∀ {hp e e' hp'}, Sw hp e e' hp' → e = e' → hp' = hp := by
    intro hp e e' hp' h
    induction h with
    | here => rintro rfl; rfl
    | there _ ih => intro he; rw [ih he]
  subst he
  exact this h rfl
section
variable {P : Program} {Γ : Ctx} {env : Env} {hp : List Ent} {G : IM} {ty : TypeId}
theorem step_appendSl {d : Nat} {x y : Operand} {t el : TypeId} {i : TyR} {sz by' : Nat} {zs : List Value} [hI : TyI P t i] {ie : TyR} [hEl : TyI P el ie] (hd' : i.desc = .slice el) [hE : TySz P el sz by' zs] {p q : Option Addr} {c n m c2 : Nat} {cs news : List Value} {hp' : Option Addr → Nat → List Ent}
    (hd : Nat.blt d Γ.n = true) (hx : evo env x = some (.slice p n c)) (hy : evo env y = some (.slice q m c2)) (hsz : Nat.blt 0 sz = true)
    (hm : ∀ p' c', Sw hp (.slc p c el sz n cs) (.slc p' c' el sz (n + m) (cs ++ news)) (hp' p' c'))
    (hS : Sl G q m c2 sz news) (h1 : ∀ u ∈ news, u.oneCell' = true) (hc : n ≤ c)
    (h63 : n + m ≤ maxLen) (hb : (n + m) * by' ≤ 140737488355328) :
    StepOp P Γ ⟨env, hp, G⟩ (some d) (.call ⟨.builtin .append, ⟨[x, y]⟩, ⟨[t, t]⟩⟩) ty (vfp p) (fun σ' => ∃ p' c', σ' = ⟨(d, .slice p' (n + m) c') :: env, hp' p' c', G⟩) := by
  obtain ⟨hl, _, _, hat⟩ := hS
  rcases Nat.eq_zero_or_pos m with rfl | hm0
  · obtain rfl : news = [] := List.length_eq_zero_iff.1 (by omega)
    have hpu := pure_append0 (P := P) (Γ := Γ) (hp := hp) (G := G) (ty := ty) (t := t) (el := el) hd' hx hy hc
    refine ⟨fun a w hs pos af gd Q next hn => ?_⟩
    simp only [Oper.wp, hpu.run a w hs, Oper.upon]
    refine hn _ _ _ (hs.put d _ (by simpa using hd) hs.res) (Ext.refl _ _) ⟨p, c, ?_⟩
    have h0 := hm p c
    simp only [Nat.add_zero, List.append_nil] at h0 ⊢
    rw [h0.same]
  · obtain ⟨b, o, full, rfl, hg, hv⟩ := hat.resolve_left (by omega)
    exact step_append hd' hd hx hy hsz hm (at_im hg hv) hl h1 h63 hb
variable {K : Po} {ops : Array Oper} {rest : List Oper} {pos : String} {af : Array Edge} {gd : Option (Nat × Bool)}
theorem seq_appendSl {d : Nat} {x y : Operand} {t el : TypeId} {i : TyR} {sz by' : Nat} {zs : List Value} [hI : TyI P t i] {ie : TyR} [hEl : TyI P el ie] [hE : TySz P el sz by' zs] {p q : Option Addr} {c n m c2 : Nat} {cs news : List Value} {hp' : Option Addr → Nat → List Ent}
    (hd' : i.desc = .slice el) (hd : Nat.blt d Γ.n = true) (hx : evo env x = some (.slice p n c)) (hy : evo env y = some (.slice q m c2)) (hsz : Nat.blt 0 sz = true)
    (hm : ∀ p' c', Sw hp (.slc p c el sz n cs) (.slc p' c' el sz (n + m) (cs ++ news)) (hp' p' c'))
    (hS : Sl G q m c2 sz news) (h1 : ∀ u ∈ news, u.oneCell' = true) (hc : n ≤ c)
    (h63 : n + m ≤ maxLen) (hb : (n + m) * by' ≤ 140737488355328) (hw : wantG ops env gd = some true)
    (k : ∀ p' c', TriL P Γ ops rest K ⟨(d, .slice p' (n + m) c') :: env, hp' p' c', G⟩) : TriL P Γ ops (⟨some d, .call ⟨.builtin .append, ⟨[x, y]⟩, ⟨[t, t]⟩⟩, ty, pos, af, gd⟩ :: rest) K ⟨env, hp, G⟩ :=
  seq_step (step_appendSl hd' hd hx hy hsz hm hS h1 hc h63 hb) hw (by rintro _ ⟨p', c', rfl⟩; exact k p' c')
theorem one_appendSl {H : List (Nat × Nat)} {fuel : Nat} {listed listed' : List Bool} {j d : Nat} {cs : List Value} {x y : Operand} {t el : TypeId} {i : TyR} {sz by' : Nat} {zs : List Value} [hI : TyI P t i] {ie : TyR} [hEl : TyI P el ie] [hE : TySz P el sz by' zs] {p q : Option Addr} {c n m c2 : Nat} {news : List Value} {hp' : Option Addr → Nat → List Ent} {H' : List (Nat × Nat)}
    (hi : ops[j]? = some ⟨some d, .call ⟨.builtin .append, ⟨[x, y]⟩, ⟨[t, t]⟩⟩, ty, pos, af, gd⟩) (hd' : i.desc = .slice el)
    (hd : Nat.blt d Γ.n = true) (hx : evo env x = some (.slice p n c)) (hy : evo env y = some (.slice q m c2)) (hsz : Nat.blt 0 sz = true)
    (hm : ∀ p' c', Sw hp (.slc p c el sz n cs) (.slc p' c' el sz (n + m) (cs ++ news)) (hp' p' c'))
    (hS : Sl G q m c2 sz news) (h1 : ∀ u ∈ news, u.oneCell' = true) (hc : n ≤ c)
    (h63 : n + m ≤ maxLen) (hb : (n + m) * by' ≤ 140737488355328) (hw : wantG ops env gd = some true) (hl : listed.set j true = listed')
    (hok : HmOk ops j hp G (.slc p c el sz n cs) H H')
    (k : ∀ p' c', AnyL P Γ ops K H' fuel listed' ⟨(d, .slice p' (n + m) c') :: env, hp' p' c', G⟩) : One P Γ ops K H fuel listed j ⟨env, hp, G⟩ :=
  one_stepM hi (step_appendSl hd' hd hx hy hsz hm hS h1 hc h63 hb) hw hl (fun _ _ hs => hok.spec hs) hok.filter (by rintro _ ⟨p', c', rfl⟩; exact k p' c')
/-- The callee is handed an own entry; what it hands back comes in its place. -/
theorem one_take {H H' : List (Nat × Nat)} {fuel : Nat} {listed listed' : List Bool} {j d : Nat} {f : FuncId} [hF : FunI P f] {xs : List Operand} {ats : Array TypeId} {vs : List Value} {e : Ent} {rst : List Ent} {post : IM → Value → List Ent → Prop}
    (hi : ops[j]? = some ⟨some d, .call ⟨.value (.func f), ⟨xs⟩, ats⟩, ty, pos, af, gd⟩) (hx : evl env xs = some vs) (h : Fn P f vs [e] G post) (hp' : hp.Perm ([e] ++ rst)) (hw : wantG ops env gd = some true) (hd : Nat.blt d Γ.n = true) (hl : listed.set j true = listed')
    (hok : HmOk ops j hp G e H H')
    (k : ∀ v G' outs, IMle G G' → post G' v outs → AnyL P Γ ops K H' fuel listed' ⟨(d, v) :: env, outs ++ rst, G'⟩) : One P Γ ops K H fuel listed j ⟨env, hp, G⟩ :=
  one_stepM hi (step_call_own hx h hp' hd) hw hl (fun _ _ hs => by simpa [Fp] using hok.spec hs) hok.filter (by rintro _ ⟨v, G', outs, rfl, hle, hq⟩; exact k v G' outs hle hq)
end
end Gw
end Go.Proofs.Ytlefgfdhlblahaa
namespace Go.Proofs.Ytlefgfdhlblahaa
open Go Go.RowKit
namespace Gw

abbrev Blks := List (Nat × List Value)

/- Types: each slice in a block of the call's own. -/
mutual
def OTy : Ty → List Value → Blks → Prop
  | .mk k ks, cells, bs => ∃ p c, cells = [.int .i64 k, .slice p ks.length c] ∧ I64 k ∧ ks.length ≤ c ∧ c ≤ maxLen ∧ ((ks = [] ∧ bs = []) ∨ ∃ b A C es r, p = some ⟨b, A.length, none⟩ ∧ bs = (b, A ++ (es.flatten ++ C)) :: r ∧ OTyL ks es r)
def OTyL : List Ty → List (List Value) → Blks → Prop
  | [], es, bs => es = [] ∧ bs = []
  | t :: ts, es, bs => ∃ e e' r1 r2, es = e :: e' ∧ bs = r1 ++ r2 ∧ OTy t e r1 ∧ OTyL ts e' r2
end
def OTyS (ks : List Ty) (p : Option Addr) (c : Nat) (bs : Blks) : Prop :=
  ks.length ≤ c ∧ c ≤ maxLen ∧ ((ks = [] ∧ bs = []) ∨ ∃ b A C es r, p = some ⟨b, A.length, none⟩ ∧ bs = (b, A ++ (es.flatten ++ C)) :: r ∧ OTyL ks es r)
theorem OTy.open {t : Ty} {cells : List Value} {bs : Blks} (h : OTy t cells bs) : ∃ p c, cells = [.int .i64 t.k, .slice p t.ks.length c] ∧ I64 t.k ∧ OTyS t.ks p c bs := by
  cases t
  simp only [OTy] at h
  obtain ⟨p, c, h1, h2, h3, h4, h5⟩ := h
  exact ⟨p, c, h1, h2, h3, h4, h5⟩
theorem OTyS.ty {k : Int} {ks : List Ty} {p : Option Addr} {c : Nat} {bs : Blks} (h : OTyS ks p c bs) (hk : I64 k) : OTy (.mk k ks) [.int .i64 k, .slice p ks.length c] bs := by
  simp only [OTy]
  exact ⟨p, c, rfl, hk, h.1, h.2.1, h.2.2⟩
theorem OTy.len {t : Ty} {cells : List Value} {bs : Blks} (h : OTy t cells bs) : cells.length = 2 := by
  obtain ⟨_, _, rfl, _⟩ := h.open; rfl
theorem OTyL.len : ∀ {ts : List Ty} {es : List (List Value)} {bs : Blks}, OTyL ts es bs → es.length = ts.length
  | [], es, bs, h => by simp only [OTyL] at h; rw [h.1]; rfl
  | t :: ts, es, bs, h => by
    simp only [OTyL] at h
    obtain ⟨e, e', r1, r2, rfl, rfl, h1, h2⟩ := h
    simp [OTyL.len h2]
theorem OTyL.all : ∀ {ts : List Ty} {es : List (List Value)} {bs : Blks}, OTyL ts es bs → ∀ e ∈ es, e.length = 2
  | [], es, bs, h => by simp only [OTyL] at h; rw [h.1]; simp
  | t :: ts, es, bs, h => by
    simp only [OTyL] at h
    obtain ⟨e, e', r1, r2, rfl, rfl, h1, h2⟩ := h
    intro x hx
    rcases List.mem_cons.1 hx with rfl | hx
    · exact h1.len
    · exact OTyL.all h2 x hx
theorem OTyL.snoc : ∀ {ts : List Ty} {es : List (List Value)} {bs : Blks} {t : Ty} {e : List Value} {r : Blks}, OTyL ts es bs → OTy t e r → OTyL (ts ++ [t]) (es ++ [e]) (bs ++ r)
  | [], es, bs, t, e, r, h, h2 => by
    simp only [OTyL] at h
    obtain ⟨rfl, rfl⟩ := h
    simp only [List.nil_append, OTyL]
    exact ⟨e, [], r, [], rfl, by simp, h2, rfl, rfl⟩
  | t' :: ts, es, bs, t, e, r, h, h2 => by
    simp only [OTyL] at h
    obtain ⟨a, a', r1, r2, rfl, rfl, h3, h4⟩ := h
    simp only [List.cons_append, OTyL]
    exact ⟨a, a' ++ [e], r1, r2 ++ r, rfl, by rw [List.append_assoc], h3, OTyL.snoc h4 h2⟩
theorem OTyL.cons {t : Ty} {ts : List Ty} {es : List (List Value)} {bs : Blks} (h : OTyL (t :: ts) es bs) : ∃ p c e' r1 r2, es = [.int .i64 t.k, .slice p t.ks.length c] :: e' ∧ bs = r1 ++ r2 ∧ OTyS t.ks p c r1 ∧ OTyL ts e' r2 := by
  simp only [OTyL] at h
  obtain ⟨e, e', r1, r2, rfl, rfl, h3, h4⟩ := h
  obtain ⟨p, c, rfl, _, h5⟩ := h3.open
  exact ⟨p, c, e', r1, r2, rfl, rfl, h5, h4⟩

/- Terms. -/
mutual
def OTm : Tm → List Value → Blks → Prop
  | .mk k nm num ty fr lb ks, cells, bs => ∃ tc fc p c bt bf bk, cells = [.int .i64 k, .string nm, .int .i64 num] ++ tc ++ fc ++ [.int .i64 lb, .slice p ks.length c] ∧ I64 k ∧ I64 num ∧ I64 lb ∧ OTy ty tc bt ∧ OTy fr fc bf ∧
      ks.length ≤ c ∧ c ≤ maxLen ∧ ((ks = [] ∧ bk = []) ∨ ∃ b A C es r, p = some ⟨b, A.length, none⟩ ∧ bk = (b, A ++ (es.flatten ++ C)) :: r ∧ OTmL ks es r) ∧ bs = bt ++ (bf ++ bk)
def OTmL : List Tm → List (List Value) → Blks → Prop
  | [], es, bs => es = [] ∧ bs = []
  | t :: ts, es, bs => ∃ e e' r1 r2, es = e :: e' ∧ bs = r1 ++ r2 ∧ OTm t e r1 ∧ OTmL ts e' r2
end
def OTmS (ks : List Tm) (p : Option Addr) (c : Nat) (bs : Blks) : Prop :=
  ks.length ≤ c ∧ c ≤ maxLen ∧ ((ks = [] ∧ bs = []) ∨ ∃ b A C es r, p = some ⟨b, A.length, none⟩ ∧ bs = (b, A ++ (es.flatten ++ C)) :: r ∧ OTmL ks es r)
theorem OTm.open {t : Tm} {cells : List Value} {bs : Blks} (h : OTm t cells bs) : ∃ pt ct pf cf p c bt bf bk,
    cells = [.int .i64 t.k, .string t.nm, .int .i64 t.num, .int .i64 t.ty.k, .slice pt t.ty.ks.length ct, .int .i64 t.fr.k, .slice pf t.fr.ks.length cf, .int .i64 t.lb, .slice p t.ks.length c] ∧
    OTyS t.ty.ks pt ct bt ∧ OTyS t.fr.ks pf cf bf ∧ OTmS t.ks p c bk ∧ bs = bt ++ (bf ++ bk) := by
  cases t
  simp only [OTm] at h
  obtain ⟨tc, fc, p, c, bt, bf, bk, h1, _, _, _, h5, h6, h7, h8, h9, h10⟩ := h
  obtain ⟨pt, ct, rfl, _, ht⟩ := h5.open
  obtain ⟨pf, cf, rfl, _, hf⟩ := h6.open
  exact ⟨pt, ct, pf, cf, p, c, bt, bf, bk, h1, ht, hf, ⟨h7, h8, h9⟩, h10⟩
theorem OTm.mk {k : Int} {nm : ByteArray} {num tk fk lb : Int} {tks fks : List Ty} {ks : List Tm} {pt pf p : Option Addr} {ct cf c : Nat} {bt bf bk : Blks} (hk : I64 k) (hn : I64 num) (htk : I64 tk) (hfk : I64 fk) (hlb : I64 lb)
    (ht : OTyS tks pt ct bt) (hf : OTyS fks pf cf bf) (h : OTmS ks p c bk) :
    OTm (.mk k nm num (.mk tk tks) (.mk fk fks) lb ks) [.int .i64 k, .string nm, .int .i64 num, .int .i64 tk, .slice pt tks.length ct, .int .i64 fk, .slice pf fks.length cf, .int .i64 lb, .slice p ks.length c] (bt ++ (bf ++ bk)) := by
  simp only [OTm]
  exact ⟨_, _, p, c, bt, bf, bk, rfl, hk, hn, hlb, ht.ty htk, hf.ty hfk, h.1, h.2.1, h.2.2, rfl⟩
theorem OTm.len {t : Tm} {cells : List Value} {bs : Blks} (h : OTm t cells bs) : cells.length = 9 := by
  obtain ⟨_, _, _, _, _, _, _, _, _, rfl, _⟩ := h.open; rfl
theorem OTmL.len : ∀ {ts : List Tm} {es : List (List Value)} {bs : Blks}, OTmL ts es bs → es.length = ts.length
  | [], es, bs, h => by simp only [OTmL] at h; rw [h.1]; rfl
  | t :: ts, es, bs, h => by
    simp only [OTmL] at h
    obtain ⟨e, e', r1, r2, rfl, rfl, h1, h2⟩ := h
    simp [OTmL.len h2]
theorem OTmL.all : ∀ {ts : List Tm} {es : List (List Value)} {bs : Blks}, OTmL ts es bs → ∀ e ∈ es, e.length = 9
  | [], es, bs, h => by simp only [OTmL] at h; rw [h.1]; simp
  | t :: ts, es, bs, h => by
    simp only [OTmL] at h
    obtain ⟨e, e', r1, r2, rfl, rfl, h1, h2⟩ := h
    intro x hx
    rcases List.mem_cons.1 hx with rfl | hx
    · exact h1.len
    · exact OTmL.all h2 x hx
theorem OTmL.snoc : ∀ {ts : List Tm} {es : List (List Value)} {bs : Blks} {t : Tm} {e : List Value} {r : Blks}, OTmL ts es bs → OTm t e r → OTmL (ts ++ [t]) (es ++ [e]) (bs ++ r)
  | [], es, bs, t, e, r, h, h2 => by
    simp only [OTmL] at h
    obtain ⟨rfl, rfl⟩ := h
    simp only [List.nil_append, OTmL]
    exact ⟨e, [], r, [], rfl, by simp, h2, rfl, rfl⟩
  | t' :: ts, es, bs, t, e, r, h, h2 => by
    simp only [OTmL] at h
    obtain ⟨a, a', r1, r2, rfl, rfl, h3, h4⟩ := h
    simp only [List.cons_append, OTmL]
    exact ⟨a, a' ++ [e], r1, r2 ++ r, rfl, by rw [List.append_assoc], h3, OTmL.snoc h4 h2⟩
theorem OTmL.cons {t : Tm} {ts : List Tm} {es : List (List Value)} {bs : Blks} (h : OTmL (t :: ts) es bs) : ∃ e e' r1 r2, es = e :: e' ∧ bs = r1 ++ r2 ∧ OTm t e r1 ∧ OTmL ts e' r2 := by
  simpa only [OTmL] using h

/- How many marks are written, and what the data are then. -/
mutual
def cntTy : Ty → Int
  | .mk _ ks => 1 + cntTyL ks
def cntTyL : List Ty → Int
  | [] => 0
  | t :: ts => cntTy t + cntTyL ts
end
mutual
def mkTy : Ty → Int → Ty
  | .mk _ ks, k => .mk k (mkTyL ks (k + 1))
def mkTyL : List Ty → Int → List Ty
  | [], _ => []
  | t :: ts, k => mkTy t k :: mkTyL ts (k + cntTy t)
end
mutual
def cntTm : Tm → Int
  | .mk _ _ _ ty fr _ ks => 6 + cntTyL ty.ks + cntTyL fr.ks + cntTmL ks
def cntTmL : List Tm → Int
  | [] => 0
  | t :: ts => cntTm t + cntTmL ts
end
mutual
def mkTm : Tm → Int → Tm
  | .mk _ _ _ ty fr _ ks, k => .mk k (mText (k + 1).toNat) (k + 1 + 1) (.mk (k + 1 + 1 + 1) (mkTyL ty.ks (k + 1 + 1 + 1 + 1))) (.mk (k + 1 + 1 + 1 + 1 + cntTyL ty.ks) (mkTyL fr.ks (k + 1 + 1 + 1 + 1 + cntTyL ty.ks + 1))) (k + 1 + 1 + 1 + 1 + cntTyL ty.ks + 1 + cntTyL fr.ks) (mkTmL ks (k + 1 + 1 + 1 + 1 + cntTyL ty.ks + 1 + cntTyL fr.ks + 1))
def mkTmL : List Tm → Int → List Tm
  | [], _ => []
  | t :: ts, k => mkTm t k :: mkTmL ts (k + cntTm t)
end
mutual
theorem cntTy_pos : ∀ t : Ty, 1 ≤ cntTy t
  | .mk _ ks => by have := cntTyL_nn ks; rw [cntTy]; omega
theorem cntTyL_nn : ∀ ts : List Ty, 0 ≤ cntTyL ts
  | [] => by rw [cntTyL]; omega
  | t :: ts => by have := cntTy_pos t; have := cntTyL_nn ts; rw [cntTyL]; omega
end
mutual
theorem cntTm_pos : ∀ t : Tm, 6 ≤ cntTm t
  | .mk _ _ _ ty fr _ ks => by have := cntTmL_nn ks; have := cntTyL_nn ty.ks; have := cntTyL_nn fr.ks; rw [cntTm]; omega
theorem cntTmL_nn : ∀ ts : List Tm, 0 ≤ cntTmL ts
  | [] => by rw [cntTmL]; omega
  | t :: ts => by have := cntTm_pos t; have := cntTmL_nn ts; rw [cntTmL]; omega
end
theorem cntTyL_append : ∀ a b : List Ty, cntTyL (a ++ b) = cntTyL a + cntTyL b
  | [], b => by simp [cntTyL]
  | t :: a, b => by rw [List.cons_append, cntTyL, cntTyL, cntTyL_append a b]; omega
theorem cntTmL_append : ∀ a b : List Tm, cntTmL (a ++ b) = cntTmL a + cntTmL b
  | [], b => by simp [cntTmL]
  | t :: a, b => by rw [List.cons_append, cntTmL, cntTmL, cntTmL_append a b]; omega
theorem cntTyL_succ {ks : List Ty} {i : Nat} (hi : i < ks.length) : cntTyL (ks.take (i + 1)) = cntTyL (ks.take i) + cntTy ks[i] := by
  rw [List.take_succ_eq_append_getElem hi, cntTyL_append, cntTyL, cntTyL]; omega
theorem cntTmL_succ {ks : List Tm} {i : Nat} (hi : i < ks.length) : cntTmL (ks.take (i + 1)) = cntTmL (ks.take i) + cntTm ks[i] := by
  rw [List.take_succ_eq_append_getElem hi, cntTmL_append, cntTmL, cntTmL]; omega
theorem cntTyL_take (ks : List Ty) (i : Nat) : cntTyL (ks.take i) ≤ cntTyL ks := by
  have h := cntTyL_append (ks.take i) (ks.drop i)
  rw [List.take_append_drop] at h
  have := cntTyL_nn (ks.drop i); omega
theorem cntTmL_take (ks : List Tm) (i : Nat) : cntTmL (ks.take i) ≤ cntTmL ks := by
  have h := cntTmL_append (ks.take i) (ks.drop i)
  rw [List.take_append_drop] at h
  have := cntTmL_nn (ks.drop i); omega
theorem cntTy_eq (t : Ty) : cntTy t = 1 + cntTyL t.ks := by cases t; rw [cntTy]; rfl
theorem cntTm_eq (t : Tm) : cntTm t = 6 + cntTyL t.ty.ks + cntTyL t.fr.ks + cntTmL t.ks := by cases t; rw [cntTm]; rfl
theorem mkTyL_snoc : ∀ (ts : List Ty) (t : Ty) (k : Int), mkTyL (ts ++ [t]) k = mkTyL ts k ++ [mkTy t (k + cntTyL ts)]
  | [], t, k => by simp [mkTyL, cntTyL]
  | t' :: ts, t, k => by rw [List.cons_append, mkTyL, mkTyL_snoc ts t, mkTyL, cntTyL, List.cons_append, Int.add_assoc]
theorem mkTmL_snoc : ∀ (ts : List Tm) (t : Tm) (k : Int), mkTmL (ts ++ [t]) k = mkTmL ts k ++ [mkTm t (k + cntTmL ts)]
  | [], t, k => by simp [mkTmL, cntTmL]
  | t' :: ts, t, k => by rw [List.cons_append, mkTmL, mkTmL_snoc ts t, mkTmL, cntTmL, List.cons_append, Int.add_assoc]
theorem mkTyL_take {ks : List Ty} {i : Nat} (hi : i < ks.length) (k : Int) : mkTyL (ks.take (i + 1)) k = mkTyL (ks.take i) k ++ [mkTy ks[i] (k + cntTyL (ks.take i))] := by
  rw [List.take_succ_eq_append_getElem hi, mkTyL_snoc]
theorem mkTmL_take {ks : List Tm} {i : Nat} (hi : i < ks.length) (k : Int) : mkTmL (ks.take (i + 1)) k = mkTmL (ks.take i) k ++ [mkTm ks[i] (k + cntTmL (ks.take i))] := by
  rw [List.take_succ_eq_append_getElem hi, mkTmL_snoc]
theorem mkTyL_len : ∀ (ts : List Ty) (k : Int), (mkTyL ts k).length = ts.length
  | [], k => rfl
  | t :: ts, k => by rw [mkTyL, List.length_cons, mkTyL_len ts, List.length_cons]
theorem mkTmL_len : ∀ (ts : List Tm) (k : Int), (mkTmL ts k).length = ts.length
  | [], k => rfl
  | t :: ts, k => by rw [mkTmL, List.length_cons, mkTmL_len ts, List.length_cons]
theorem mkTy_eq (t : Ty) (k : Int) : mkTy t k = .mk k (mkTyL t.ks (k + 1)) := by cases t; rw [mkTy]; rfl
theorem mkTm_eq (t : Tm) (k : Int) : mkTm t k = .mk k (mText (k + 1).toNat) (k + 1 + 1) (.mk (k + 1 + 1 + 1) (mkTyL t.ty.ks (k + 1 + 1 + 1 + 1))) (.mk (k + 1 + 1 + 1 + 1 + cntTyL t.ty.ks) (mkTyL t.fr.ks (k + 1 + 1 + 1 + 1 + cntTyL t.ty.ks + 1))) (k + 1 + 1 + 1 + 1 + cntTyL t.ty.ks + 1 + cntTyL t.fr.ks) (mkTmL t.ks (k + 1 + 1 + 1 + 1 + cntTyL t.ty.ks + 1 + cntTyL t.fr.ks + 1)) := by cases t; rw [mkTm]; rfl

/- One element of a block. -/
theorem upd_in : ∀ {X e e' Y vs : List Value} {o : Nat}, upd e o vs = some e' → upd (X ++ (e ++ Y)) (X.length + o) vs = some (X ++ (e' ++ Y))
  | [], e, e', Y, vs, o, h => by
    obtain ⟨h1, h2⟩ := upd_spec h
    simp only [List.nil_append, List.length_nil, Nat.zero_add]
    have := upd_at (A := e.take o) (B := (e.drop o).take vs.length) (C := (e.drop o).drop vs.length ++ Y) (V := vs) (o := o) (by simp; omega) (by simp; omega)
    rw [show e.take o ++ ((e.drop o).take vs.length ++ ((e.drop o).drop vs.length ++ Y)) = e ++ Y from by
      rw [← List.append_assoc ((e.drop o).take vs.length), List.take_append_drop, ← List.append_assoc, List.take_append_drop]] at this
    rw [this, h1, List.drop_drop]
    simp
  | x :: X, e, e', Y, vs, o, h => by
    have := upd_in (X := X) (Y := Y) h
    rw [List.length_cons, show X.length + 1 + o = (X.length + o) + 1 by omega]
    simp only [List.cons_append, upd, this]
theorem upd_el {A : List Value} {D : List (List Value)} {e e' R vs : List Value} {i sz off : Nat} (hD : D.length = i) (ha : ∀ x ∈ D, x.length = sz) (he : upd e off vs = some e') :
    upd (A ++ (D.flatten ++ (e ++ R))) (A.length + i * sz + off) vs = some (A ++ (D.flatten ++ (e' ++ R))) := by
  have := upd_in (X := A ++ D.flatten) (Y := R) he
  rw [List.length_append, flat_len ha, hD, List.append_assoc, List.append_assoc] at this
  exact this
theorem get_el {A : List Value} {D : List (List Value)} {e R : List Value} {i sz off : Nat} {v : Value} (hD : D.length = i) (ha : ∀ x ∈ D, x.length = sz) (he : e[off]? = some v) :
    (A ++ (D.flatten ++ (e ++ R)))[A.length + i * sz + off]? = some v := by
  have hlt : off < e.length := (List.getElem?_eq_some_iff.1 he).1
  have hf := flat_len ha
  rw [hD] at hf
  rw [List.getElem?_append, if_neg (by omega), List.getElem?_append, if_neg (by omega), List.getElem?_append, if_pos (by omega)]
  rw [show A.length + i * sz + off - A.length - D.flatten.length = off by omega]
  exact he
theorem at_el {hp : List Ent} {G : IM} {b : Nat} {A : List Value} {D : List (List Value)} {e R : List Value} {i sz off : Nat} {v : Value} (hm : Ent.blk b (A ++ (D.flatten ++ (e ++ R))) ∈ hp) (hD : D.length = i) (ha : ∀ x ∈ D, x.length = sz) (he : e[off]? = some v) :
    At hp G b (A.length + i * sz + off) [v] := at_blk_s hm (get_el hD ha he)

section lend
variable {P : Program} {Γ : Ctx} {env : Env} {hp : List Ent} {G : IM} {K : Po} {ops : Array Oper} {rest : List Oper} {ty : TypeId} {pos : String} {af : Array Edge} {gd : Option (Nat × Bool)}
/-- A call that is lent blocks, gives a value and hands blocks back. -/
def Lent (v0 : Value) (G : IM) (Φ : Blks → Prop) : IM → Value → List Ent → Prop := fun G' v outs => G' = G ∧ v = v0 ∧ ∃ bs', outs = blks bs' ∧ Φ bs'
theorem perm_lend (x : Ent) (r0 r1 r2 : Blks) : (x :: blks (r0 ++ (r1 ++ r2))).Perm (blks r1 ++ (x :: blks (r0 ++ r2))) := by
  simp only [blks_append]
  refine List.Perm.trans ?_ List.perm_middle.symm
  refine List.Perm.cons x ?_
  rw [← List.append_assoc, ← List.append_assoc]
  exact List.Perm.append_right _ List.perm_append_comm
theorem seq_lend {d : Nat} {f : FuncId} [hF : FunI P f] {xs : List Operand} {ats : Array TypeId} {vs : List Value} {v0 : Value} {Φ : Blks → Prop} {x : Ent} {R r0 r1 r2 : Blks}
    (hx : evl env xs = some vs) (h : Fn P f vs (blks r1) G (Lent v0 G Φ)) (hR : R = r0 ++ (r1 ++ r2)) (hw : wantG ops env gd = some true) (hd : Nat.blt d Γ.n = true)
    (k : ∀ r1', Φ r1' → TriL P Γ ops rest K ⟨(d, v0) :: env, x :: blks (r0 ++ (r1' ++ r2)), G⟩) : TriL P Γ ops (⟨some d, .call ⟨.value (.func f), ⟨xs⟩, ats⟩, ty, pos, af, gd⟩ :: rest) K ⟨env, x :: blks R, G⟩ := by
  subst hR
  refine seq_step (step_call_own hx h (perm_lend x r0 r1 r2) hd) hw ?_
  rintro _ ⟨v, G', outs, rfl, _, rfl, rfl, r1', rfl, hΦ⟩
  exact triL_perm (perm_lend x r0 r1' r2).symm (k r1' hΦ)
theorem res_tmp' {t : Nat} {v : Value} {P : Program} {Γ : Ctx} {env : Env} {hp : List Ent} {G : IM} (h : look env t = some v) : ResOne P Γ ⟨env, hp, G⟩ (.tmp t) v := res_tmp h
end lend
end Gw
end Go.Proofs.Ytlefgfdhlblahaa
