/-
  The scans of types: typeScan, TypeValid, consistent, Consistent.
-/
import Derived.Test.YtlefgfdhlblahaaTypes
namespace Go.Proofs.Ytlefgfdhlblahaa
open Go Go.RowKit
namespace Gw
set_option maxRecDepth 100000 in
theorem typeScan_1 (G : IM) (e : List Value) (d : Int) (b : Bool) (bd : Nat) (hl : e.length = 2) (hd : 0 ≤ d ∧ d ≤ 5) (h : Fn Try.prog 125 [.agg ⟨e⟩, .int .i64 (d + 1)] [] G (Val (.bool b) G)) :
    Fn Try.prog 139 [.agg ⟨e⟩, .pointer (some ⟨bd, 0, none⟩)] [.blk bd [.int .i64 d]] G (ValO (.bool (!b)) [.blk bd [.int .i64 d]] G) := by
  refine fn_enter Try.func139 rfl Try.ntmps139 Try.results139 rfl ?_
  intro w0
  refine tri_seq ?_
  refine tri_region ?_
  (refine seq_step (step_box_a rfl rfl) rfl ?_; rintro _ ⟨b3, rfl⟩)
  refine seq_pure (pure_assign rfl) rfl rfl ?_
  refine seq_done ?_
  refine nrm_seq ?_
  refine tri_seq ?_
  refine tri_region ?_
  refine seq_load (load_a rfl rfl (at_blk_all (by repeat (first | exact List.Mem.head _ | apply List.Mem.tail))) (by assumption)) rfl rfl ?_
  refine seq_load (load_bs rfl rfl (by repeat (first | exact List.Mem.head _ | apply List.Mem.tail)) (by rfl)) rfl rfl ?_
  refine seq_pure (pure_add rfl rfl (by omega) (by omega)) rfl rfl ?_
  refine seq_valb rfl (h) rfl rfl (fun h12 => ?_) (fun h12 => ?_)
  · refine seq_pure (pure_not_t rfl) rfl rfl ?_
    refine seq_pure (pure_assign rfl) rfl rfl ?_
    refine seq_done ?_
    refine nrm_seq ?_
    refine tri_ret ?_
    refine ret_own1 (res_tmp rfl) (SubH.cons (Pk.there Pk.here) SubH.nil) ?_
    exact ⟨rfl, by simp [*], rfl⟩
  · refine seq_pure (pure_not_f rfl) rfl rfl ?_
    refine seq_pure (pure_assign rfl) rfl rfl ?_
    refine seq_done ?_
    refine nrm_seq ?_
    refine tri_ret ?_
    refine ret_own1 (res_tmp rfl) (SubH.cons (Pk.there Pk.here) SubH.nil) ?_
    exact ⟨rfl, by simp [*], rfl⟩
set_option maxRecDepth 100000 in
theorem typeScan_fn : ∀ (t : Ty) (d : Int) (G : IM) (cells : List Value), 0 ≤ d ∧ d ≤ 5 → RTy G t cells →
    Fn Try.prog 125 [.agg ⟨cells⟩, .int .i64 d] [] G (Val (.bool (tScan t d)) G) := by
  refine Ty.ind fun k ks ih d G cells hd hr => ?_
  obtain ⟨p, c, es, rfl, hk, hsl, hkl⟩ := hr.open
  simp only [Ty.k, Ty.ks] at hk hsl hkl ⊢
  have hn := hsl.le
  obtain ⟨A, hA⟩ : ∃ A, ks.all (tScan · (d + 1)) = A := ⟨_, rfl⟩
  refine fn_enter Try.func125 rfl Try.ntmps125 Try.results125 rfl ?_
  intro w0
  refine tri_seq ?_
  refine tri_region ?_
  (refine seq_step (step_box_a rfl rfl) rfl ?_; rintro _ ⟨b3, rfl⟩)
  (refine seq_step (step_box_s rfl rfl rfl) rfl ?_; rintro _ ⟨b4, rfl⟩)
  refine seq_pure (pure_assign rfl) rfl rfl ?_
  refine seq_done ?_
  refine nrm_seq ?_
  refine tri_seq ?_
  refine tri_region ?_
  refine seq_pure (pure_assign rfl) rfl rfl ?_
  refine seq_done ?_
  refine nrm_seq ?_
  refine tri_seq ?_
  refine tri_seq ?_
  refine tri_region ?_
  refine seq_pure (pure_fieldAddr0 rfl) rfl rfl ?_
  refine seq_load (load_bs rfl rfl (by repeat (first | exact List.Mem.head _ | apply List.Mem.tail)) (by rfl)) rfl rfl ?_
  refine seq_done ?_
  refine nrm_seq ?_
  refine tri_block ?_
  refine tri_seq ?_
  refine tri_seq ?_
  refine tri_region ?_
  refine seq_bool (pure_eql rfl rfl) rfl rfl (fun h24 => ?_) (fun h24 => ?_)
  · refine seq_pure (pure_assign rfl) rfl rfl ?_
    refine seq_done ?_
    refine nrm_seq ?_
    refine tri_cond_t rfl ?_
    refine tri_skip ?_
    refine nrm_seq ?_
    refine tri_cond_t rfl ?_
    refine tri_region ?_
    refine seq_pure (pure_assign rfl) rfl rfl ?_
    refine seq_done ?_
    refine nrm_block ?_
    refine nrm_seq ?_
    refine tri_seq ?_
    refine tri_region ?_
    refine seq_load (load_bs rfl rfl (by repeat (first | exact List.Mem.head _ | apply List.Mem.tail)) (by rfl)) rfl rfl ?_
    refine seq_bool (pure_leq rfl rfl) rfl rfl (fun h40 => ?_) (fun h40 => ?_)
    · refine seq_pure (pure_move rfl) rfl rfl ?_
      refine seq_pure (pure_move rfl) rfl rfl ?_
      refine seq_pure (pure_fieldAddr0 rfl) rfl rfl ?_
      refine seq_load (load_bs rfl rfl (by repeat (first | exact List.Mem.head _ | apply List.Mem.tail)) (by rfl)) rfl rfl ?_
      refine seq_pure (pure_len rfl rfl) rfl rfl ?_
      refine seq_bool (pure_eql rfl rfl) rfl rfl (fun h46 => ?_) (fun h46 => ?_)
      · refine seq_pure (pure_pick_t rfl rfl) rfl rfl ?_
        refine seq_pure (pure_move rfl) rfl rfl ?_
        refine seq_pure (pure_fieldAddr0 rfl) rfl rfl ?_
        refine seq_load (load_bs rfl rfl (by repeat (first | exact List.Mem.head _ | apply List.Mem.tail)) (by rfl)) rfl rfl ?_
        refine seq_pure (pure_makeFunc rfl rfl) rfl rfl ?_
        refine seq_valbo rfl (containsNot_Type _ _ _ _ _ hsl _ [] _ [.blk b4 [.int .i64 d]] (tScan · (d + 1)) ks rfl hA (fun i e he => typeScan_1 _ _ _ _ _ (hsl.all e (List.mem_of_getElem? he)) hd (ih _ (hkl.inv he ty0).1 _ _ _ (by omega) (hkl.inv he ty0).2))) perm_all rfl rfl (fun h52 => ?_) (fun h52 => ?_)
        · simp only [Bool.not_eq_true', Bool.not_eq_false'] at h52
          refine seq_pure (pure_not_t rfl) rfl rfl ?_
          refine seq_pure (pure_pick_t rfl rfl) rfl rfl ?_
          refine seq_pure (pure_assign rfl) rfl rfl ?_
          refine seq_done ?_
          refine nrm_seq ?_
          refine tri_ret ?_
          refine ret_fin1 (res_tmp rfl) ?_
          exact ⟨rfl, by (rw [tScan, tScanL_all, hA]; have := tyOps_spec k; first | (rw [decide_eq_true (by omega), decide_eq_true (by omega)]; simp only [*]; done) | (rw [decide_eq_true (by omega), decide_eq_true (by omega)]; simp only [*]; rfl) | (rw [decide_eq_false (by omega)]; rfl) | (rw [decide_eq_true (by omega), decide_eq_false (by omega)]; rfl)), rfl⟩
        · simp only [Bool.not_eq_true', Bool.not_eq_false'] at h52
          refine seq_pure (pure_not_f rfl) rfl rfl ?_
          refine seq_pure (pure_pick_t rfl rfl) rfl rfl ?_
          refine seq_pure (pure_assign rfl) rfl rfl ?_
          refine seq_done ?_
          refine nrm_seq ?_
          refine tri_ret ?_
          refine ret_fin1 (res_tmp rfl) ?_
          exact ⟨rfl, by (rw [tScan, tScanL_all, hA]; have := tyOps_spec k; first | (rw [decide_eq_true (by omega), decide_eq_true (by omega)]; simp only [*]; done) | (rw [decide_eq_true (by omega), decide_eq_true (by omega)]; simp only [*]; rfl) | (rw [decide_eq_false (by omega)]; rfl) | (rw [decide_eq_true (by omega), decide_eq_false (by omega)]; rfl)), rfl⟩
      · refine seq_pure (pure_pick_t rfl rfl) rfl rfl ?_
        refine seq_pure (pure_move rfl) rfl rfl ?_
        refine seq_skip rfl rfl ?_
        refine seq_skip rfl rfl ?_
        refine seq_skip rfl rfl ?_
        refine seq_skip rfl rfl ?_
        refine seq_skip rfl rfl ?_
        refine seq_pure (pure_pick_f rfl rfl) rfl rfl ?_
        refine seq_pure (pure_assign rfl) rfl rfl ?_
        refine seq_done ?_
        refine nrm_seq ?_
        refine tri_ret ?_
        refine ret_fin1 (res_tmp rfl) ?_
        exact ⟨rfl, by (rw [tScan, tScanL_all, hA]; have := tyOps_spec k; first | (rw [decide_eq_true (by omega), decide_eq_true (by omega)]; simp only [*]; done) | (rw [decide_eq_true (by omega), decide_eq_true (by omega)]; simp only [*]; rfl) | (rw [decide_eq_false (by omega)]; rfl) | (rw [decide_eq_true (by omega), decide_eq_false (by omega)]; rfl)), rfl⟩
    · refine seq_pure (pure_move rfl) rfl rfl ?_
      refine seq_skip rfl rfl ?_
      refine seq_skip rfl rfl ?_
      refine seq_skip rfl rfl ?_
      refine seq_skip rfl rfl ?_
      refine seq_skip rfl rfl ?_
      refine seq_pure (pure_pick_f rfl rfl) rfl rfl ?_
      refine seq_pure (pure_move rfl) rfl rfl ?_
      refine seq_skip rfl rfl ?_
      refine seq_skip rfl rfl ?_
      refine seq_skip rfl rfl ?_
      refine seq_skip rfl rfl ?_
      refine seq_skip rfl rfl ?_
      refine seq_pure (pure_pick_f rfl rfl) rfl rfl ?_
      refine seq_pure (pure_assign rfl) rfl rfl ?_
      refine seq_done ?_
      refine nrm_seq ?_
      refine tri_ret ?_
      refine ret_fin1 (res_tmp rfl) ?_
      exact ⟨rfl, by (rw [tScan, tScanL_all, hA]; have := tyOps_spec k; first | (rw [decide_eq_true (by omega), decide_eq_true (by omega)]; simp only [*]; done) | (rw [decide_eq_true (by omega), decide_eq_true (by omega)]; simp only [*]; rfl) | (rw [decide_eq_false (by omega)]; rfl) | (rw [decide_eq_true (by omega), decide_eq_false (by omega)]; rfl)), rfl⟩
  · refine seq_pure (pure_assign rfl) rfl rfl ?_
    refine seq_done ?_
    refine nrm_seq ?_
    refine tri_cond_f rfl ?_
    refine tri_seq ?_
    refine tri_region ?_
    refine seq_bool (pure_eql rfl rfl) rfl rfl (fun h109 => ?_) (fun h109 => ?_)
    · refine seq_pure (pure_assign rfl) rfl rfl ?_
      refine seq_done ?_
      refine nrm_seq ?_
      refine tri_cond_t rfl ?_
      refine tri_skip ?_
      refine nrm_seq ?_
      refine tri_cond_t rfl ?_
      refine tri_region ?_
      refine seq_pure (pure_assign rfl) rfl rfl ?_
      refine seq_done ?_
      refine nrm_block ?_
      refine nrm_seq ?_
      refine tri_seq ?_
      refine tri_region ?_
      refine seq_load (load_bs rfl rfl (by repeat (first | exact List.Mem.head _ | apply List.Mem.tail)) (by rfl)) rfl rfl ?_
      refine seq_bool (pure_leq rfl rfl) rfl rfl (fun h125 => ?_) (fun h125 => ?_)
      · refine seq_pure (pure_move rfl) rfl rfl ?_
        refine seq_pure (pure_move rfl) rfl rfl ?_
        refine seq_pure (pure_fieldAddr0 rfl) rfl rfl ?_
        refine seq_load (load_bs rfl rfl (by repeat (first | exact List.Mem.head _ | apply List.Mem.tail)) (by rfl)) rfl rfl ?_
        refine seq_pure (pure_len rfl rfl) rfl rfl ?_
        refine seq_bool (pure_eql rfl rfl) rfl rfl (fun h131 => ?_) (fun h131 => ?_)
        · refine seq_pure (pure_pick_t rfl rfl) rfl rfl ?_
          refine seq_pure (pure_move rfl) rfl rfl ?_
          refine seq_pure (pure_fieldAddr0 rfl) rfl rfl ?_
          refine seq_load (load_bs rfl rfl (by repeat (first | exact List.Mem.head _ | apply List.Mem.tail)) (by rfl)) rfl rfl ?_
          refine seq_pure (pure_makeFunc rfl rfl) rfl rfl ?_
          refine seq_valbo rfl (containsNot_Type _ _ _ _ _ hsl _ [] _ [.blk b4 [.int .i64 d]] (tScan · (d + 1)) ks rfl hA (fun i e he => typeScan_1 _ _ _ _ _ (hsl.all e (List.mem_of_getElem? he)) hd (ih _ (hkl.inv he ty0).1 _ _ _ (by omega) (hkl.inv he ty0).2))) perm_all rfl rfl (fun h137 => ?_) (fun h137 => ?_)
          · simp only [Bool.not_eq_true', Bool.not_eq_false'] at h137
            refine seq_pure (pure_not_t rfl) rfl rfl ?_
            refine seq_pure (pure_pick_t rfl rfl) rfl rfl ?_
            refine seq_pure (pure_assign rfl) rfl rfl ?_
            refine seq_done ?_
            refine nrm_seq ?_
            refine tri_ret ?_
            refine ret_fin1 (res_tmp rfl) ?_
            exact ⟨rfl, by (rw [tScan, tScanL_all, hA]; have := tyOps_spec k; first | (rw [decide_eq_true (by omega), decide_eq_true (by omega)]; simp only [*]; done) | (rw [decide_eq_true (by omega), decide_eq_true (by omega)]; simp only [*]; rfl) | (rw [decide_eq_false (by omega)]; rfl) | (rw [decide_eq_true (by omega), decide_eq_false (by omega)]; rfl)), rfl⟩
          · simp only [Bool.not_eq_true', Bool.not_eq_false'] at h137
            refine seq_pure (pure_not_f rfl) rfl rfl ?_
            refine seq_pure (pure_pick_t rfl rfl) rfl rfl ?_
            refine seq_pure (pure_assign rfl) rfl rfl ?_
            refine seq_done ?_
            refine nrm_seq ?_
            refine tri_ret ?_
            refine ret_fin1 (res_tmp rfl) ?_
            exact ⟨rfl, by (rw [tScan, tScanL_all, hA]; have := tyOps_spec k; first | (rw [decide_eq_true (by omega), decide_eq_true (by omega)]; simp only [*]; done) | (rw [decide_eq_true (by omega), decide_eq_true (by omega)]; simp only [*]; rfl) | (rw [decide_eq_false (by omega)]; rfl) | (rw [decide_eq_true (by omega), decide_eq_false (by omega)]; rfl)), rfl⟩
        · refine seq_pure (pure_pick_t rfl rfl) rfl rfl ?_
          refine seq_pure (pure_move rfl) rfl rfl ?_
          refine seq_skip rfl rfl ?_
          refine seq_skip rfl rfl ?_
          refine seq_skip rfl rfl ?_
          refine seq_skip rfl rfl ?_
          refine seq_skip rfl rfl ?_
          refine seq_pure (pure_pick_f rfl rfl) rfl rfl ?_
          refine seq_pure (pure_assign rfl) rfl rfl ?_
          refine seq_done ?_
          refine nrm_seq ?_
          refine tri_ret ?_
          refine ret_fin1 (res_tmp rfl) ?_
          exact ⟨rfl, by (rw [tScan, tScanL_all, hA]; have := tyOps_spec k; first | (rw [decide_eq_true (by omega), decide_eq_true (by omega)]; simp only [*]; done) | (rw [decide_eq_true (by omega), decide_eq_true (by omega)]; simp only [*]; rfl) | (rw [decide_eq_false (by omega)]; rfl) | (rw [decide_eq_true (by omega), decide_eq_false (by omega)]; rfl)), rfl⟩
      · refine seq_pure (pure_move rfl) rfl rfl ?_
        refine seq_skip rfl rfl ?_
        refine seq_skip rfl rfl ?_
        refine seq_skip rfl rfl ?_
        refine seq_skip rfl rfl ?_
        refine seq_skip rfl rfl ?_
        refine seq_pure (pure_pick_f rfl rfl) rfl rfl ?_
        refine seq_pure (pure_move rfl) rfl rfl ?_
        refine seq_skip rfl rfl ?_
        refine seq_skip rfl rfl ?_
        refine seq_skip rfl rfl ?_
        refine seq_skip rfl rfl ?_
        refine seq_skip rfl rfl ?_
        refine seq_pure (pure_pick_f rfl rfl) rfl rfl ?_
        refine seq_pure (pure_assign rfl) rfl rfl ?_
        refine seq_done ?_
        refine nrm_seq ?_
        refine tri_ret ?_
        refine ret_fin1 (res_tmp rfl) ?_
        exact ⟨rfl, by (rw [tScan, tScanL_all, hA]; have := tyOps_spec k; first | (rw [decide_eq_true (by omega), decide_eq_true (by omega)]; simp only [*]; done) | (rw [decide_eq_true (by omega), decide_eq_true (by omega)]; simp only [*]; rfl) | (rw [decide_eq_false (by omega)]; rfl) | (rw [decide_eq_true (by omega), decide_eq_false (by omega)]; rfl)), rfl⟩
    · refine seq_pure (pure_assign rfl) rfl rfl ?_
      refine seq_done ?_
      refine nrm_seq ?_
      refine tri_cond_f rfl ?_
      refine tri_region ?_
      refine seq_bool (pure_eql rfl rfl) rfl rfl (fun h193 => ?_) (fun h193 => ?_)
      · refine seq_pure (pure_assign rfl) rfl rfl ?_
        refine seq_done ?_
        refine nrm_seq ?_
        refine tri_cond_t rfl ?_
        refine tri_region ?_
        refine seq_pure (pure_assign rfl) rfl rfl ?_
        refine seq_done ?_
        refine nrm_block ?_
        refine nrm_seq ?_
        refine tri_seq ?_
        refine tri_region ?_
        refine seq_load (load_bs rfl rfl (by repeat (first | exact List.Mem.head _ | apply List.Mem.tail)) (by rfl)) rfl rfl ?_
        refine seq_bool (pure_leq rfl rfl) rfl rfl (fun h206 => ?_) (fun h206 => ?_)
        · refine seq_pure (pure_move rfl) rfl rfl ?_
          refine seq_pure (pure_move rfl) rfl rfl ?_
          refine seq_pure (pure_fieldAddr0 rfl) rfl rfl ?_
          refine seq_load (load_bs rfl rfl (by repeat (first | exact List.Mem.head _ | apply List.Mem.tail)) (by rfl)) rfl rfl ?_
          refine seq_pure (pure_len rfl rfl) rfl rfl ?_
          refine seq_bool (pure_eql rfl rfl) rfl rfl (fun h212 => ?_) (fun h212 => ?_)
          · refine seq_pure (pure_pick_t rfl rfl) rfl rfl ?_
            refine seq_pure (pure_move rfl) rfl rfl ?_
            refine seq_pure (pure_fieldAddr0 rfl) rfl rfl ?_
            refine seq_load (load_bs rfl rfl (by repeat (first | exact List.Mem.head _ | apply List.Mem.tail)) (by rfl)) rfl rfl ?_
            refine seq_pure (pure_makeFunc rfl rfl) rfl rfl ?_
            refine seq_valbo rfl (containsNot_Type _ _ _ _ _ hsl _ [] _ [.blk b4 [.int .i64 d]] (tScan · (d + 1)) ks rfl hA (fun i e he => typeScan_1 _ _ _ _ _ (hsl.all e (List.mem_of_getElem? he)) hd (ih _ (hkl.inv he ty0).1 _ _ _ (by omega) (hkl.inv he ty0).2))) perm_all rfl rfl (fun h218 => ?_) (fun h218 => ?_)
            · simp only [Bool.not_eq_true', Bool.not_eq_false'] at h218
              refine seq_pure (pure_not_t rfl) rfl rfl ?_
              refine seq_pure (pure_pick_t rfl rfl) rfl rfl ?_
              refine seq_pure (pure_assign rfl) rfl rfl ?_
              refine seq_done ?_
              refine nrm_seq ?_
              refine tri_ret ?_
              refine ret_fin1 (res_tmp rfl) ?_
              exact ⟨rfl, by (rw [tScan, tScanL_all, hA]; have := tyOps_spec k; first | (rw [decide_eq_true (by omega), decide_eq_true (by omega)]; simp only [*]; done) | (rw [decide_eq_true (by omega), decide_eq_true (by omega)]; simp only [*]; rfl) | (rw [decide_eq_false (by omega)]; rfl) | (rw [decide_eq_true (by omega), decide_eq_false (by omega)]; rfl)), rfl⟩
            · simp only [Bool.not_eq_true', Bool.not_eq_false'] at h218
              refine seq_pure (pure_not_f rfl) rfl rfl ?_
              refine seq_pure (pure_pick_t rfl rfl) rfl rfl ?_
              refine seq_pure (pure_assign rfl) rfl rfl ?_
              refine seq_done ?_
              refine nrm_seq ?_
              refine tri_ret ?_
              refine ret_fin1 (res_tmp rfl) ?_
              exact ⟨rfl, by (rw [tScan, tScanL_all, hA]; have := tyOps_spec k; first | (rw [decide_eq_true (by omega), decide_eq_true (by omega)]; simp only [*]; done) | (rw [decide_eq_true (by omega), decide_eq_true (by omega)]; simp only [*]; rfl) | (rw [decide_eq_false (by omega)]; rfl) | (rw [decide_eq_true (by omega), decide_eq_false (by omega)]; rfl)), rfl⟩
          · refine seq_pure (pure_pick_t rfl rfl) rfl rfl ?_
            refine seq_pure (pure_move rfl) rfl rfl ?_
            refine seq_skip rfl rfl ?_
            refine seq_skip rfl rfl ?_
            refine seq_skip rfl rfl ?_
            refine seq_skip rfl rfl ?_
            refine seq_skip rfl rfl ?_
            refine seq_pure (pure_pick_f rfl rfl) rfl rfl ?_
            refine seq_pure (pure_assign rfl) rfl rfl ?_
            refine seq_done ?_
            refine nrm_seq ?_
            refine tri_ret ?_
            refine ret_fin1 (res_tmp rfl) ?_
            exact ⟨rfl, by (rw [tScan, tScanL_all, hA]; have := tyOps_spec k; first | (rw [decide_eq_true (by omega), decide_eq_true (by omega)]; simp only [*]; done) | (rw [decide_eq_true (by omega), decide_eq_true (by omega)]; simp only [*]; rfl) | (rw [decide_eq_false (by omega)]; rfl) | (rw [decide_eq_true (by omega), decide_eq_false (by omega)]; rfl)), rfl⟩
        · refine seq_pure (pure_move rfl) rfl rfl ?_
          refine seq_skip rfl rfl ?_
          refine seq_skip rfl rfl ?_
          refine seq_skip rfl rfl ?_
          refine seq_skip rfl rfl ?_
          refine seq_skip rfl rfl ?_
          refine seq_pure (pure_pick_f rfl rfl) rfl rfl ?_
          refine seq_pure (pure_move rfl) rfl rfl ?_
          refine seq_skip rfl rfl ?_
          refine seq_skip rfl rfl ?_
          refine seq_skip rfl rfl ?_
          refine seq_skip rfl rfl ?_
          refine seq_skip rfl rfl ?_
          refine seq_pure (pure_pick_f rfl rfl) rfl rfl ?_
          refine seq_pure (pure_assign rfl) rfl rfl ?_
          refine seq_done ?_
          refine nrm_seq ?_
          refine tri_ret ?_
          refine ret_fin1 (res_tmp rfl) ?_
          exact ⟨rfl, by (rw [tScan, tScanL_all, hA]; have := tyOps_spec k; first | (rw [decide_eq_true (by omega), decide_eq_true (by omega)]; simp only [*]; done) | (rw [decide_eq_true (by omega), decide_eq_true (by omega)]; simp only [*]; rfl) | (rw [decide_eq_false (by omega)]; rfl) | (rw [decide_eq_true (by omega), decide_eq_false (by omega)]; rfl)), rfl⟩
      · refine seq_pure (pure_assign rfl) rfl rfl ?_
        refine seq_done ?_
        refine nrm_seq ?_
        refine tri_cond_f rfl ?_
        refine tri_seq ?_
        refine tri_seq ?_
        refine tri_region ?_
        refine seq_bool (pure_eql rfl rfl) rfl rfl (fun h276 => ?_) (fun h276 => ?_)
        · refine seq_pure (pure_assign rfl) rfl rfl ?_
          refine seq_done ?_
          refine nrm_seq ?_
          refine tri_cond_t rfl ?_
          refine tri_skip ?_
          refine nrm_seq ?_
          refine tri_cond_t rfl ?_
          refine tri_region ?_
          refine seq_pure (pure_assign rfl) rfl rfl ?_
          refine seq_done ?_
          refine nrm_block ?_
          refine nrm_seq ?_
          refine tri_seq ?_
          refine tri_region ?_
          refine seq_load (load_bs rfl rfl (by repeat (first | exact List.Mem.head _ | apply List.Mem.tail)) (by rfl)) rfl rfl ?_
          refine seq_bool (pure_leq rfl rfl) rfl rfl (fun h292 => ?_) (fun h292 => ?_)
          · refine seq_pure (pure_move rfl) rfl rfl ?_
            refine seq_pure (pure_move rfl) rfl rfl ?_
            refine seq_pure (pure_fieldAddr0 rfl) rfl rfl ?_
            refine seq_load (load_bs rfl rfl (by repeat (first | exact List.Mem.head _ | apply List.Mem.tail)) (by rfl)) rfl rfl ?_
            refine seq_pure (pure_len rfl rfl) rfl rfl ?_
            refine seq_bool (pure_eql rfl rfl) rfl rfl (fun h298 => ?_) (fun h298 => ?_)
            · refine seq_pure (pure_pick_t rfl rfl) rfl rfl ?_
              refine seq_pure (pure_move rfl) rfl rfl ?_
              refine seq_pure (pure_fieldAddr0 rfl) rfl rfl ?_
              refine seq_load (load_bs rfl rfl (by repeat (first | exact List.Mem.head _ | apply List.Mem.tail)) (by rfl)) rfl rfl ?_
              refine seq_pure (pure_makeFunc rfl rfl) rfl rfl ?_
              refine seq_valbo rfl (containsNot_Type _ _ _ _ _ hsl _ [] _ [.blk b4 [.int .i64 d]] (tScan · (d + 1)) ks rfl hA (fun i e he => typeScan_1 _ _ _ _ _ (hsl.all e (List.mem_of_getElem? he)) hd (ih _ (hkl.inv he ty0).1 _ _ _ (by omega) (hkl.inv he ty0).2))) perm_all rfl rfl (fun h304 => ?_) (fun h304 => ?_)
              · simp only [Bool.not_eq_true', Bool.not_eq_false'] at h304
                refine seq_pure (pure_not_t rfl) rfl rfl ?_
                refine seq_pure (pure_pick_t rfl rfl) rfl rfl ?_
                refine seq_pure (pure_assign rfl) rfl rfl ?_
                refine seq_done ?_
                refine nrm_seq ?_
                refine tri_ret ?_
                refine ret_fin1 (res_tmp rfl) ?_
                exact ⟨rfl, by (rw [tScan, tScanL_all, hA]; have := tyOps_spec k; first | (rw [decide_eq_true (by omega), decide_eq_true (by omega)]; simp only [*]; done) | (rw [decide_eq_true (by omega), decide_eq_true (by omega)]; simp only [*]; rfl) | (rw [decide_eq_false (by omega)]; rfl) | (rw [decide_eq_true (by omega), decide_eq_false (by omega)]; rfl)), rfl⟩
              · simp only [Bool.not_eq_true', Bool.not_eq_false'] at h304
                refine seq_pure (pure_not_f rfl) rfl rfl ?_
                refine seq_pure (pure_pick_t rfl rfl) rfl rfl ?_
                refine seq_pure (pure_assign rfl) rfl rfl ?_
                refine seq_done ?_
                refine nrm_seq ?_
                refine tri_ret ?_
                refine ret_fin1 (res_tmp rfl) ?_
                exact ⟨rfl, by (rw [tScan, tScanL_all, hA]; have := tyOps_spec k; first | (rw [decide_eq_true (by omega), decide_eq_true (by omega)]; simp only [*]; done) | (rw [decide_eq_true (by omega), decide_eq_true (by omega)]; simp only [*]; rfl) | (rw [decide_eq_false (by omega)]; rfl) | (rw [decide_eq_true (by omega), decide_eq_false (by omega)]; rfl)), rfl⟩
            · refine seq_pure (pure_pick_t rfl rfl) rfl rfl ?_
              refine seq_pure (pure_move rfl) rfl rfl ?_
              refine seq_skip rfl rfl ?_
              refine seq_skip rfl rfl ?_
              refine seq_skip rfl rfl ?_
              refine seq_skip rfl rfl ?_
              refine seq_skip rfl rfl ?_
              refine seq_pure (pure_pick_f rfl rfl) rfl rfl ?_
              refine seq_pure (pure_assign rfl) rfl rfl ?_
              refine seq_done ?_
              refine nrm_seq ?_
              refine tri_ret ?_
              refine ret_fin1 (res_tmp rfl) ?_
              exact ⟨rfl, by (rw [tScan, tScanL_all, hA]; have := tyOps_spec k; first | (rw [decide_eq_true (by omega), decide_eq_true (by omega)]; simp only [*]; done) | (rw [decide_eq_true (by omega), decide_eq_true (by omega)]; simp only [*]; rfl) | (rw [decide_eq_false (by omega)]; rfl) | (rw [decide_eq_true (by omega), decide_eq_false (by omega)]; rfl)), rfl⟩
          · refine seq_pure (pure_move rfl) rfl rfl ?_
            refine seq_skip rfl rfl ?_
            refine seq_skip rfl rfl ?_
            refine seq_skip rfl rfl ?_
            refine seq_skip rfl rfl ?_
            refine seq_skip rfl rfl ?_
            refine seq_pure (pure_pick_f rfl rfl) rfl rfl ?_
            refine seq_pure (pure_move rfl) rfl rfl ?_
            refine seq_skip rfl rfl ?_
            refine seq_skip rfl rfl ?_
            refine seq_skip rfl rfl ?_
            refine seq_skip rfl rfl ?_
            refine seq_skip rfl rfl ?_
            refine seq_pure (pure_pick_f rfl rfl) rfl rfl ?_
            refine seq_pure (pure_assign rfl) rfl rfl ?_
            refine seq_done ?_
            refine nrm_seq ?_
            refine tri_ret ?_
            refine ret_fin1 (res_tmp rfl) ?_
            exact ⟨rfl, by (rw [tScan, tScanL_all, hA]; have := tyOps_spec k; first | (rw [decide_eq_true (by omega), decide_eq_true (by omega)]; simp only [*]; done) | (rw [decide_eq_true (by omega), decide_eq_true (by omega)]; simp only [*]; rfl) | (rw [decide_eq_false (by omega)]; rfl) | (rw [decide_eq_true (by omega), decide_eq_false (by omega)]; rfl)), rfl⟩
        · refine seq_pure (pure_assign rfl) rfl rfl ?_
          refine seq_done ?_
          refine nrm_seq ?_
          refine tri_cond_f rfl ?_
          refine tri_region ?_
          refine seq_bool (pure_eql rfl rfl) rfl rfl (fun h360 => ?_) (fun h360 => ?_)
          · refine seq_pure (pure_assign rfl) rfl rfl ?_
            refine seq_done ?_
            refine nrm_seq ?_
            refine tri_cond_t rfl ?_
            refine tri_region ?_
            refine seq_pure (pure_assign rfl) rfl rfl ?_
            refine seq_done ?_
            refine nrm_block ?_
            refine nrm_seq ?_
            refine tri_seq ?_
            refine tri_region ?_
            refine seq_load (load_bs rfl rfl (by repeat (first | exact List.Mem.head _ | apply List.Mem.tail)) (by rfl)) rfl rfl ?_
            refine seq_bool (pure_leq rfl rfl) rfl rfl (fun h373 => ?_) (fun h373 => ?_)
            · refine seq_pure (pure_move rfl) rfl rfl ?_
              refine seq_pure (pure_move rfl) rfl rfl ?_
              refine seq_pure (pure_fieldAddr0 rfl) rfl rfl ?_
              refine seq_load (load_bs rfl rfl (by repeat (first | exact List.Mem.head _ | apply List.Mem.tail)) (by rfl)) rfl rfl ?_
              refine seq_pure (pure_len rfl rfl) rfl rfl ?_
              refine seq_bool (pure_eql rfl rfl) rfl rfl (fun h379 => ?_) (fun h379 => ?_)
              · refine seq_pure (pure_pick_t rfl rfl) rfl rfl ?_
                refine seq_pure (pure_move rfl) rfl rfl ?_
                refine seq_pure (pure_fieldAddr0 rfl) rfl rfl ?_
                refine seq_load (load_bs rfl rfl (by repeat (first | exact List.Mem.head _ | apply List.Mem.tail)) (by rfl)) rfl rfl ?_
                refine seq_pure (pure_makeFunc rfl rfl) rfl rfl ?_
                refine seq_valbo rfl (containsNot_Type _ _ _ _ _ hsl _ [] _ [.blk b4 [.int .i64 d]] (tScan · (d + 1)) ks rfl hA (fun i e he => typeScan_1 _ _ _ _ _ (hsl.all e (List.mem_of_getElem? he)) hd (ih _ (hkl.inv he ty0).1 _ _ _ (by omega) (hkl.inv he ty0).2))) perm_all rfl rfl (fun h385 => ?_) (fun h385 => ?_)
                · simp only [Bool.not_eq_true', Bool.not_eq_false'] at h385
                  refine seq_pure (pure_not_t rfl) rfl rfl ?_
                  refine seq_pure (pure_pick_t rfl rfl) rfl rfl ?_
                  refine seq_pure (pure_assign rfl) rfl rfl ?_
                  refine seq_done ?_
                  refine nrm_seq ?_
                  refine tri_ret ?_
                  refine ret_fin1 (res_tmp rfl) ?_
                  exact ⟨rfl, by (rw [tScan, tScanL_all, hA]; have := tyOps_spec k; first | (rw [decide_eq_true (by omega), decide_eq_true (by omega)]; simp only [*]; done) | (rw [decide_eq_true (by omega), decide_eq_true (by omega)]; simp only [*]; rfl) | (rw [decide_eq_false (by omega)]; rfl) | (rw [decide_eq_true (by omega), decide_eq_false (by omega)]; rfl)), rfl⟩
                · simp only [Bool.not_eq_true', Bool.not_eq_false'] at h385
                  refine seq_pure (pure_not_f rfl) rfl rfl ?_
                  refine seq_pure (pure_pick_t rfl rfl) rfl rfl ?_
                  refine seq_pure (pure_assign rfl) rfl rfl ?_
                  refine seq_done ?_
                  refine nrm_seq ?_
                  refine tri_ret ?_
                  refine ret_fin1 (res_tmp rfl) ?_
                  exact ⟨rfl, by (rw [tScan, tScanL_all, hA]; have := tyOps_spec k; first | (rw [decide_eq_true (by omega), decide_eq_true (by omega)]; simp only [*]; done) | (rw [decide_eq_true (by omega), decide_eq_true (by omega)]; simp only [*]; rfl) | (rw [decide_eq_false (by omega)]; rfl) | (rw [decide_eq_true (by omega), decide_eq_false (by omega)]; rfl)), rfl⟩
              · refine seq_pure (pure_pick_t rfl rfl) rfl rfl ?_
                refine seq_pure (pure_move rfl) rfl rfl ?_
                refine seq_skip rfl rfl ?_
                refine seq_skip rfl rfl ?_
                refine seq_skip rfl rfl ?_
                refine seq_skip rfl rfl ?_
                refine seq_skip rfl rfl ?_
                refine seq_pure (pure_pick_f rfl rfl) rfl rfl ?_
                refine seq_pure (pure_assign rfl) rfl rfl ?_
                refine seq_done ?_
                refine nrm_seq ?_
                refine tri_ret ?_
                refine ret_fin1 (res_tmp rfl) ?_
                exact ⟨rfl, by (rw [tScan, tScanL_all, hA]; have := tyOps_spec k; first | (rw [decide_eq_true (by omega), decide_eq_true (by omega)]; simp only [*]; done) | (rw [decide_eq_true (by omega), decide_eq_true (by omega)]; simp only [*]; rfl) | (rw [decide_eq_false (by omega)]; rfl) | (rw [decide_eq_true (by omega), decide_eq_false (by omega)]; rfl)), rfl⟩
            · refine seq_pure (pure_move rfl) rfl rfl ?_
              refine seq_skip rfl rfl ?_
              refine seq_skip rfl rfl ?_
              refine seq_skip rfl rfl ?_
              refine seq_skip rfl rfl ?_
              refine seq_skip rfl rfl ?_
              refine seq_pure (pure_pick_f rfl rfl) rfl rfl ?_
              refine seq_pure (pure_move rfl) rfl rfl ?_
              refine seq_skip rfl rfl ?_
              refine seq_skip rfl rfl ?_
              refine seq_skip rfl rfl ?_
              refine seq_skip rfl rfl ?_
              refine seq_skip rfl rfl ?_
              refine seq_pure (pure_pick_f rfl rfl) rfl rfl ?_
              refine seq_pure (pure_assign rfl) rfl rfl ?_
              refine seq_done ?_
              refine nrm_seq ?_
              refine tri_ret ?_
              refine ret_fin1 (res_tmp rfl) ?_
              exact ⟨rfl, by (rw [tScan, tScanL_all, hA]; have := tyOps_spec k; first | (rw [decide_eq_true (by omega), decide_eq_true (by omega)]; simp only [*]; done) | (rw [decide_eq_true (by omega), decide_eq_true (by omega)]; simp only [*]; rfl) | (rw [decide_eq_false (by omega)]; rfl) | (rw [decide_eq_true (by omega), decide_eq_false (by omega)]; rfl)), rfl⟩
          · refine seq_pure (pure_assign rfl) rfl rfl ?_
            refine seq_done ?_
            refine nrm_seq ?_
            refine tri_cond_f rfl ?_
            refine tri_skip ?_
            refine nrm_block ?_
            refine nrm_seq ?_
            refine tri_seq ?_
            refine tri_region ?_
            refine seq_load (load_bs rfl rfl (by repeat (first | exact List.Mem.head _ | apply List.Mem.tail)) (by rfl)) rfl rfl ?_
            refine seq_bool (pure_leq rfl rfl) rfl rfl (fun h446 => ?_) (fun h446 => ?_)
            · refine seq_pure (pure_move rfl) rfl rfl ?_
              refine seq_pure (pure_move rfl) rfl rfl ?_
              refine seq_pure (pure_fieldAddr0 rfl) rfl rfl ?_
              refine seq_load (load_bs rfl rfl (by repeat (first | exact List.Mem.head _ | apply List.Mem.tail)) (by rfl)) rfl rfl ?_
              refine seq_pure (pure_len rfl rfl) rfl rfl ?_
              refine seq_pure (pure_eql_f rfl rfl (by omega)) rfl rfl ?_
              refine seq_pure (pure_pick_t rfl rfl) rfl rfl ?_
              refine seq_pure (pure_move rfl) rfl rfl ?_
              refine seq_skip rfl rfl ?_
              refine seq_skip rfl rfl ?_
              refine seq_skip rfl rfl ?_
              refine seq_skip rfl rfl ?_
              refine seq_skip rfl rfl ?_
              refine seq_pure (pure_pick_f rfl rfl) rfl rfl ?_
              refine seq_pure (pure_assign rfl) rfl rfl ?_
              refine seq_done ?_
              refine nrm_seq ?_
              refine tri_ret ?_
              refine ret_fin1 (res_tmp rfl) ?_
              exact ⟨rfl, by (rw [tScan, tScanL_all, hA]; have := tyOps_spec k; first | (rw [decide_eq_true (by omega), decide_eq_true (by omega)]; simp only [*]; done) | (rw [decide_eq_true (by omega), decide_eq_true (by omega)]; simp only [*]; rfl) | (rw [decide_eq_false (by omega)]; rfl) | (rw [decide_eq_true (by omega), decide_eq_false (by omega)]; rfl)), rfl⟩
            · refine seq_pure (pure_move rfl) rfl rfl ?_
              refine seq_skip rfl rfl ?_
              refine seq_skip rfl rfl ?_
              refine seq_skip rfl rfl ?_
              refine seq_skip rfl rfl ?_
              refine seq_skip rfl rfl ?_
              refine seq_pure (pure_pick_f rfl rfl) rfl rfl ?_
              refine seq_pure (pure_move rfl) rfl rfl ?_
              refine seq_skip rfl rfl ?_
              refine seq_skip rfl rfl ?_
              refine seq_skip rfl rfl ?_
              refine seq_skip rfl rfl ?_
              refine seq_skip rfl rfl ?_
              refine seq_pure (pure_pick_f rfl rfl) rfl rfl ?_
              refine seq_pure (pure_assign rfl) rfl rfl ?_
              refine seq_done ?_
              refine nrm_seq ?_
              refine tri_ret ?_
              refine ret_fin1 (res_tmp rfl) ?_
              exact ⟨rfl, by (rw [tScan, tScanL_all, hA]; have := tyOps_spec k; first | (rw [decide_eq_true (by omega), decide_eq_true (by omega)]; simp only [*]; done) | (rw [decide_eq_true (by omega), decide_eq_true (by omega)]; simp only [*]; rfl) | (rw [decide_eq_false (by omega)]; rfl) | (rw [decide_eq_true (by omega), decide_eq_false (by omega)]; rfl)), rfl⟩
set_option maxRecDepth 100000 in
theorem typeValid_fn (t : Ty) (G : IM) (cells : List Value) (hr : RTy G t cells) : Fn Try.prog 110 [.agg ⟨cells⟩] [] G (Val (.bool (tValid t)) G) := by
  have hl := hr.len
  have hv := typeScan_fn t 1 G cells (by omega) hr
  refine fn_enter Try.func110 rfl Try.ntmps110 Try.results110 rfl ?_
  intro w0
  refine tri_seq ?_
  refine tri_region ?_
  (refine seq_step (step_box_a rfl rfl) rfl ?_; rintro _ ⟨b3, rfl⟩)
  refine seq_pure (pure_assign rfl) rfl rfl ?_
  refine seq_done ?_
  refine nrm_seq ?_
  refine tri_seq ?_
  refine tri_region ?_
  refine seq_load (load_a rfl rfl (at_blk_all (by repeat (first | exact List.Mem.head _ | apply List.Mem.tail))) (by assumption)) rfl rfl ?_
  refine seq_val rfl (hv) rfl rfl ?_
  refine seq_pure (pure_assign rfl) rfl rfl ?_
  refine seq_done ?_
  refine nrm_seq ?_
  refine tri_ret ?_
  refine ret_fin1 (res_tmp rfl) ?_
  exact ⟨rfl, rfl, rfl⟩
set_option maxRecDepth 100000 in
theorem consistent_fn : ∀ (t t' : Ty) (G : IM) (cells cells' : List Value), RTy G t cells → RTy G t' cells' →
    Fn Try.prog 126 [.agg ⟨cells⟩, .agg ⟨cells'⟩] [] G (Val (.bool (tCons t t')) G) := by
  refine Ty.ind fun k ks ih t' G cells cells' hr hr' => ?_
  obtain ⟨k', ks'⟩ := t'
  obtain ⟨p, c, es, rfl, hk, hsl, hkl⟩ := hr.open
  obtain ⟨p', c', es', rfl, hk', hsl', hkl'⟩ := hr'.open
  simp only [Ty.k, Ty.ks] at hk hsl hkl hk' hsl' hkl' ⊢
  have hn := hsl.le
  have hn' := hsl'.le
  obtain ⟨A, hA⟩ : ∃ A, tConsL ks ks' = A := ⟨_, rfl⟩
  have hA' : A = true ↔ ks.length = ks'.length ∧ ∀ i, i < ks.length → tCons (ks.getD i ty0) (ks'.getD i ty0) = true := by
    rw [← hA, tConsL_iff]
    constructor
    · rintro ⟨h1, h2⟩
      refine ⟨h1, fun i hi => ?_⟩
      have := h2 i hi (by omega)
      simpa [List.getD_eq_getElem?_getD, List.getElem?_eq_getElem hi, List.getElem?_eq_getElem (show i < ks'.length by omega)] using this
    · rintro ⟨h1, h2⟩
      refine ⟨h1, fun i hi hi' => ?_⟩
      have := h2 i hi
      simpa [List.getD_eq_getElem?_getD, List.getElem?_eq_getElem hi, List.getElem?_eq_getElem hi'] using this
  refine fn_enter Try.func126 rfl Try.ntmps126 Try.results126 rfl ?_
  intro w0
  refine tri_seq ?_
  refine tri_region ?_
  (refine seq_step (step_box_a rfl rfl) rfl ?_; rintro _ ⟨b3, rfl⟩)
  (refine seq_step (step_box_a rfl rfl) rfl ?_; rintro _ ⟨b4, rfl⟩)
  refine seq_pure (pure_assign rfl) rfl rfl ?_
  refine seq_done ?_
  refine nrm_seq ?_
  refine tri_seq ?_
  refine tri_region ?_
  refine seq_pure (pure_fieldAddr0 rfl) rfl rfl ?_
  refine seq_load (load_bs rfl rfl (by repeat (first | exact List.Mem.head _ | apply List.Mem.tail)) (by rfl)) rfl rfl ?_
  refine seq_bool (pure_eql rfl rfl) rfl rfl (fun h12 => ?_) (fun h12 => ?_)
  · refine seq_pure (pure_move rfl) rfl rfl ?_
    refine seq_skip rfl rfl ?_
    refine seq_skip rfl rfl ?_
    refine seq_skip rfl rfl ?_
    refine seq_pure (pure_pick_t rfl rfl) rfl rfl ?_
    refine seq_pure (pure_move rfl) rfl rfl ?_
    refine seq_skip rfl rfl ?_
    refine seq_skip rfl rfl ?_
    refine seq_skip rfl rfl ?_
    refine seq_skip rfl rfl ?_
    refine seq_skip rfl rfl ?_
    refine seq_skip rfl rfl ?_
    refine seq_skip rfl rfl ?_
    refine seq_skip rfl rfl ?_
    refine seq_skip rfl rfl ?_
    refine seq_skip rfl rfl ?_
    refine seq_skip rfl rfl ?_
    refine seq_skip rfl rfl ?_
    refine seq_pure (pure_pick_t rfl rfl) rfl rfl ?_
    refine seq_pure (pure_assign rfl) rfl rfl ?_
    refine seq_done ?_
    refine nrm_seq ?_
    refine tri_ret ?_
    refine ret_fin1 (res_tmp rfl) ?_
    exact ⟨rfl, by (rw [tCons_mk, hA]; first | (rw [decide_eq_true (p := k = 1) (by omega)]; rfl) | (rw [decide_eq_false (p := k = 1) (by omega), decide_eq_true (p := k' = 1) (by omega)]; rfl) | (rw [decide_eq_false (p := k = 1) (by omega), decide_eq_false (p := k' = 1) (by omega), decide_eq_false (p := k = k') (by omega)]; rfl) | (rw [decide_eq_false (p := k = 1) (by omega), decide_eq_false (p := k' = 1) (by omega), decide_eq_true (p := k = k') (by omega)]; simp only [*]; rfl)), rfl⟩
  · refine seq_pure (pure_move rfl) rfl rfl ?_
    refine seq_pure (pure_fieldAddr0 rfl) rfl rfl ?_
    refine seq_load (load_bs rfl rfl (by repeat (first | exact List.Mem.head _ | apply List.Mem.tail)) (by rfl)) rfl rfl ?_
    refine seq_bool (pure_eql rfl rfl) rfl rfl (fun h41 => ?_) (fun h41 => ?_)
    · refine seq_pure (pure_pick_f rfl rfl) rfl rfl ?_
      refine seq_pure (pure_move rfl) rfl rfl ?_
      refine seq_skip rfl rfl ?_
      refine seq_skip rfl rfl ?_
      refine seq_skip rfl rfl ?_
      refine seq_skip rfl rfl ?_
      refine seq_skip rfl rfl ?_
      refine seq_skip rfl rfl ?_
      refine seq_skip rfl rfl ?_
      refine seq_skip rfl rfl ?_
      refine seq_skip rfl rfl ?_
      refine seq_skip rfl rfl ?_
      refine seq_skip rfl rfl ?_
      refine seq_skip rfl rfl ?_
      refine seq_pure (pure_pick_t rfl rfl) rfl rfl ?_
      refine seq_pure (pure_assign rfl) rfl rfl ?_
      refine seq_done ?_
      refine nrm_seq ?_
      refine tri_ret ?_
      refine ret_fin1 (res_tmp rfl) ?_
      exact ⟨rfl, by (rw [tCons_mk, hA]; first | (rw [decide_eq_true (p := k = 1) (by omega)]; rfl) | (rw [decide_eq_false (p := k = 1) (by omega), decide_eq_true (p := k' = 1) (by omega)]; rfl) | (rw [decide_eq_false (p := k = 1) (by omega), decide_eq_false (p := k' = 1) (by omega), decide_eq_false (p := k = k') (by omega)]; rfl) | (rw [decide_eq_false (p := k = 1) (by omega), decide_eq_false (p := k' = 1) (by omega), decide_eq_true (p := k = k') (by omega)]; simp only [*]; rfl)), rfl⟩
    · refine seq_pure (pure_pick_f rfl rfl) rfl rfl ?_
      refine seq_pure (pure_move rfl) rfl rfl ?_
      refine seq_pure (pure_fieldAddr0 rfl) rfl rfl ?_
      refine seq_load (load_bs rfl rfl (by repeat (first | exact List.Mem.head _ | apply List.Mem.tail)) (by rfl)) rfl rfl ?_
      refine seq_pure (pure_fieldAddr0 rfl) rfl rfl ?_
      refine seq_load (load_bs rfl rfl (by repeat (first | exact List.Mem.head _ | apply List.Mem.tail)) (by rfl)) rfl rfl ?_
      refine seq_bool (pure_eql rfl rfl) rfl rfl (fun h69 => ?_) (fun h69 => ?_)
      · refine seq_pure (pure_move rfl) rfl rfl ?_
        refine seq_pure (pure_fieldAddr0 rfl) rfl rfl ?_
        refine seq_load (load_bs rfl rfl (by repeat (first | exact List.Mem.head _ | apply List.Mem.tail)) (by rfl)) rfl rfl ?_
        refine seq_pure (pure_fieldAddr0 rfl) rfl rfl ?_
        refine seq_load (load_bs rfl rfl (by repeat (first | exact List.Mem.head _ | apply List.Mem.tail)) (by rfl)) rfl rfl ?_
        refine seq_valb rfl (equalFunc_Type _ _ _ _ _ _ _ _ _ hsl hsl' _ [] [] [] (fun i => tCons (ks.getD i ty0) (ks'.getD i ty0)) A hA' (fun i e e' he he' => ih _ (hkl.inv he ty0).1 _ _ _ _ (hkl.inv he ty0).2 (hkl'.inv he' ty0).2)) rfl rfl (fun h75 => ?_) (fun h75 => ?_)
        · refine seq_pure (pure_pick_t rfl rfl) rfl rfl ?_
          refine seq_pure (pure_pick_f rfl rfl) rfl rfl ?_
          refine seq_pure (pure_assign rfl) rfl rfl ?_
          refine seq_done ?_
          refine nrm_seq ?_
          refine tri_ret ?_
          refine ret_fin1 (res_tmp rfl) ?_
          exact ⟨rfl, by (rw [tCons_mk, hA]; first | (rw [decide_eq_true (p := k = 1) (by omega)]; rfl) | (rw [decide_eq_false (p := k = 1) (by omega), decide_eq_true (p := k' = 1) (by omega)]; rfl) | (rw [decide_eq_false (p := k = 1) (by omega), decide_eq_false (p := k' = 1) (by omega), decide_eq_false (p := k = k') (by omega)]; rfl) | (rw [decide_eq_false (p := k = 1) (by omega), decide_eq_false (p := k' = 1) (by omega), decide_eq_true (p := k = k') (by omega)]; simp only [*]; rfl)), rfl⟩
        · refine seq_pure (pure_pick_t rfl rfl) rfl rfl ?_
          refine seq_pure (pure_pick_f rfl rfl) rfl rfl ?_
          refine seq_pure (pure_assign rfl) rfl rfl ?_
          refine seq_done ?_
          refine nrm_seq ?_
          refine tri_ret ?_
          refine ret_fin1 (res_tmp rfl) ?_
          exact ⟨rfl, by (rw [tCons_mk, hA]; first | (rw [decide_eq_true (p := k = 1) (by omega)]; rfl) | (rw [decide_eq_false (p := k = 1) (by omega), decide_eq_true (p := k' = 1) (by omega)]; rfl) | (rw [decide_eq_false (p := k = 1) (by omega), decide_eq_false (p := k' = 1) (by omega), decide_eq_false (p := k = k') (by omega)]; rfl) | (rw [decide_eq_false (p := k = 1) (by omega), decide_eq_false (p := k' = 1) (by omega), decide_eq_true (p := k = k') (by omega)]; simp only [*]; rfl)), rfl⟩
      · refine seq_pure (pure_move rfl) rfl rfl ?_
        refine seq_skip rfl rfl ?_
        refine seq_skip rfl rfl ?_
        refine seq_skip rfl rfl ?_
        refine seq_skip rfl rfl ?_
        refine seq_skip rfl rfl ?_
        refine seq_pure (pure_pick_f rfl rfl) rfl rfl ?_
        refine seq_pure (pure_pick_f rfl rfl) rfl rfl ?_
        refine seq_pure (pure_assign rfl) rfl rfl ?_
        refine seq_done ?_
        refine nrm_seq ?_
        refine tri_ret ?_
        refine ret_fin1 (res_tmp rfl) ?_
        exact ⟨rfl, by (rw [tCons_mk, hA]; first | (rw [decide_eq_true (p := k = 1) (by omega)]; rfl) | (rw [decide_eq_false (p := k = 1) (by omega), decide_eq_true (p := k' = 1) (by omega)]; rfl) | (rw [decide_eq_false (p := k = 1) (by omega), decide_eq_false (p := k' = 1) (by omega), decide_eq_false (p := k = k') (by omega)]; rfl) | (rw [decide_eq_false (p := k = 1) (by omega), decide_eq_false (p := k' = 1) (by omega), decide_eq_true (p := k = k') (by omega)]; simp only [*]; rfl)), rfl⟩
set_option maxRecDepth 100000 in
theorem consistentT_fn (t t' : Ty) (G : IM) (cells cells' : List Value) (hr : RTy G t cells) (hr' : RTy G t' cells') :
    Fn Try.prog 112 [.agg ⟨cells⟩, .agg ⟨cells'⟩] [] G (Val (.bool (tConsistent t t')) G) := by
  have hl := hr.len
  have hl' := hr'.len
  have hv := typeValid_fn t G cells hr
  have hv' := typeValid_fn t' G cells' hr'
  have hc := consistent_fn t t' G cells cells' hr hr'
  refine fn_enter Try.func112 rfl Try.ntmps112 Try.results112 rfl ?_
  intro w0
  refine tri_seq ?_
  refine tri_region ?_
  (refine seq_step (step_box_a rfl rfl) rfl ?_; rintro _ ⟨b3, rfl⟩)
  (refine seq_step (step_box_a rfl rfl) rfl ?_; rintro _ ⟨b4, rfl⟩)
  refine seq_pure (pure_assign rfl) rfl rfl ?_
  refine seq_done ?_
  refine nrm_seq ?_
  refine tri_seq ?_
  refine tri_region ?_
  refine seq_load (load_a rfl rfl (at_blk_all (by repeat (first | exact List.Mem.head _ | apply List.Mem.tail))) (by assumption)) rfl rfl ?_
  refine seq_valb rfl (hv) rfl rfl (fun h11 => ?_) (fun h11 => ?_)
  · refine seq_pure (pure_move rfl) rfl rfl ?_
    refine seq_load (load_a rfl rfl (at_blk_all (by repeat (first | exact List.Mem.head _ | apply List.Mem.tail))) (by assumption)) rfl rfl ?_
    refine seq_valb rfl (hv') rfl rfl (fun h14 => ?_) (fun h14 => ?_)
    · refine seq_pure (pure_pick_t rfl rfl) rfl rfl ?_
      refine seq_pure (pure_move rfl) rfl rfl ?_
      refine seq_load (load_a rfl rfl (at_blk_all (by repeat (first | exact List.Mem.head _ | apply List.Mem.tail))) (by assumption)) rfl rfl ?_
      refine seq_load (load_a rfl rfl (at_blk_all (by repeat (first | exact List.Mem.head _ | apply List.Mem.tail))) (by assumption)) rfl rfl ?_
      refine seq_valb rfl (hc) rfl rfl (fun h19 => ?_) (fun h19 => ?_)
      · refine seq_pure (pure_pick_t rfl rfl) rfl rfl ?_
        refine seq_pure (pure_assign rfl) rfl rfl ?_
        refine seq_done ?_
        refine nrm_seq ?_
        refine tri_ret ?_
        refine ret_fin1 (res_tmp rfl) ?_
        exact ⟨rfl, by simp only [tConsistent]; simp only [*, Bool.true_and, Bool.false_and, Bool.and_true], rfl⟩
      · refine seq_pure (pure_pick_t rfl rfl) rfl rfl ?_
        refine seq_pure (pure_assign rfl) rfl rfl ?_
        refine seq_done ?_
        refine nrm_seq ?_
        refine tri_ret ?_
        refine ret_fin1 (res_tmp rfl) ?_
        exact ⟨rfl, by simp only [tConsistent]; simp only [*, Bool.true_and, Bool.false_and, Bool.and_true], rfl⟩
    · refine seq_pure (pure_pick_t rfl rfl) rfl rfl ?_
      refine seq_pure (pure_move rfl) rfl rfl ?_
      refine seq_skip rfl rfl ?_
      refine seq_skip rfl rfl ?_
      refine seq_skip rfl rfl ?_
      refine seq_pure (pure_pick_f rfl rfl) rfl rfl ?_
      refine seq_pure (pure_assign rfl) rfl rfl ?_
      refine seq_done ?_
      refine nrm_seq ?_
      refine tri_ret ?_
      refine ret_fin1 (res_tmp rfl) ?_
      exact ⟨rfl, by simp only [tConsistent]; simp only [*, Bool.true_and, Bool.false_and, Bool.and_true], rfl⟩
  · refine seq_pure (pure_move rfl) rfl rfl ?_
    refine seq_skip rfl rfl ?_
    refine seq_skip rfl rfl ?_
    refine seq_pure (pure_pick_f rfl rfl) rfl rfl ?_
    refine seq_pure (pure_move rfl) rfl rfl ?_
    refine seq_skip rfl rfl ?_
    refine seq_skip rfl rfl ?_
    refine seq_skip rfl rfl ?_
    refine seq_pure (pure_pick_f rfl rfl) rfl rfl ?_
    refine seq_pure (pure_assign rfl) rfl rfl ?_
    refine seq_done ?_
    refine nrm_seq ?_
    refine tri_ret ?_
    refine ret_fin1 (res_tmp rfl) ?_
    exact ⟨rfl, by simp only [tConsistent]; simp only [*, Bool.true_and, Bool.false_and, Bool.and_true], rfl⟩
end Gw
end Go.Proofs.Ytlefgfdhlblahaa
