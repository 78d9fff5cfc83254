/-
  The law that CastPath gives what the reference model gives: its walk.
-/
import Derived.Test.YtlefgfdhlblahaaCast
namespace Go.Proofs.Ytlefgfdhlblahaa
open Go Go.RowKit
namespace Gw
theorem SP1.blks {G : IM} {l : List Int} {p : Option Addr} {c : Nat} (h : SP1 G l p c) : ∃ bs, OIs l p c bs ∧ InG G bs (vfp p) := by
  obtain ⟨h3, _⟩ := h
  have hc := h3.2.1
  have hm := h3.2.2.1
  cases l with
  | nil => exact ⟨[], ⟨hc, hm, .inl ⟨rfl, rfl⟩⟩, InG.nil _ _⟩
  | cons x xs =>
    obtain ⟨b, A, C, rfl, hg⟩ := h3.blk (by simp [ints])
    exact ⟨[(b, A ++ (ints (x :: xs) ++ C))], ⟨hc, hm, .inr ⟨b, A, C, rfl, rfl⟩⟩, by simp [vfp], by simpa using hg⟩
theorem SP1.mono {G G' : IM} {l : List Int} {p : Option Addr} {c : Nat} (h : SP1 G l p c) (hg : IMle G G') : SP1 G' l p c := ⟨h.1.mono hg, dmono hg h.2⟩
theorem mAll_mem {t : Tm} {l : List Int} (h : l ∈ mAll t) : l.length ≤ 200 := by
  unfold mAll at h
  split at h
  · rename_i hc
    have h1 := castValid_count hc
    have := paths_len t [] l h
    simp at this; omega
  · cases h
theorem mCast_len (t : Tm) (label : Int) : (mCast t label).1.length ≤ 200 := by
  unfold mCast
  split
  · rename_i l h
    exact mAll_mem (List.mem_of_find?_eq_some h)
  · simp
set_option maxHeartbeats 0 in
set_option maxRecDepth 100000 in
theorem exactCastPath_fn (t : Tm) (label : Int) (G : IM) (cells : List Value) (hno : t.nok) (hr : RTm G t cells) :
    Fn Try.prog 5 [.agg ⟨cells⟩, .int .i64 label] [] G (Imm fun _ v => v = .bool true) := by
  have hl := hr.len
  have hone := hr.one
  have hz := szTerm_fn t 1048576 G cells (by omega) (by omega) hno hr
  have hzn := szTm_nn t
  have hcs := count_sz t
  have hms := marks_sz t
  have hm1 := cntTyL_nn t.ty.ks
  have hm2 := cntTyL_nn t.fr.ks
  have hm3 := cntTmL_nn t.ks
  have hmc := mCast_len t label
  refine fn_enter Try.func5 rfl Try.ntmps5 Try.results5 rfl ?_
  intro w0
  refine tri_seq ?_
  refine tri_region ?_
  (refine seq_step (step_box_a rfl rfl) rfl ?_; rintro _ ⟨b3, rfl⟩)
  refine seq_pure (pure_assign rfl) rfl rfl ?_
  refine seq_done ?_
  refine nrm_seq ?_
  refine tri_seq ?_
  refine tri_region ?_
  refine seq_pure (pure_assign rfl) rfl rfl ?_
  refine seq_done ?_
  refine nrm_seq ?_
  refine tri_seq ?_
  refine tri_region ?_
  refine seq_load (load_a rfl rfl (at_blk_all (by repeat (first | exact List.Mem.head _ | apply List.Mem.tail))) (by assumption)) rfl rfl ?_
  refine seq_pure (pure_move rfl) rfl rfl ?_
  (rcases res_cases 1048576 (szTm t) with ⟨hc, hrs⟩ | ⟨hc, hrs⟩ <;> (rw [hrs] at hz; refine seq_val rfl hz rfl rfl ?_))
  · refine seq_pure (pure_assign rfl) rfl rfl ?_
    refine seq_done ?_
    refine nrm_seq ?_
    refine tri_seq ?_
    refine tri_seq ?_
    refine tri_region ?_
    refine seq_pure (pure_move rfl) rfl rfl ?_
    refine seq_pure (pure_lss_f rfl rfl (by omega)) rfl rfl ?_
    refine seq_done ?_
    refine nrm_seq ?_
    refine tri_cond_f rfl ?_
    refine tri_skip ?_
    refine nrm_seq ?_
    refine tri_seq ?_
    refine tri_region ?_
    refine seq_load (load_a rfl rfl (at_blk_all (by repeat (first | exact List.Mem.head _ | apply List.Mem.tail))) (by assumption)) rfl rfl ?_
    (refine seq_imm rfl (toTerm_fn t G cells (small_tm t (by omega)) hr) rfl rfl (fun v1 G1 hle1 hh => ?_); obtain ⟨cells1, F1, rfl, hs1, hn1⟩ := hh; have hA := sCastPath_fn t label G1 cells1 (by omega) (hs1.R.mono (Dif.le _ _)))
    refine seq_pure (pure_move rfl) rfl rfl ?_
    (refine seq_imm rfl hA rfl rfl (fun v2 G2 hle2 hh => ?_); obtain ⟨p2, c2, rfl, hp2⟩ := hh; have hle02 := hle1.trans hle2; have hr2 := hr.mono hle02)
    refine seq_pure (pure_move rfl) rfl rfl ?_
    refine seq_pure (pure_extract rfl rfl) rfl rfl ?_
    refine seq_pure (pure_extract rfl rfl) rfl rfl ?_
    refine seq_pure (pure_assign rfl) rfl rfl ?_
    refine seq_pure (pure_assign rfl) rfl rfl ?_
    refine seq_done ?_
    refine nrm_seq ?_
    refine tri_seq ?_
    refine tri_region ?_
    refine seq_load (load_a rfl rfl (at_blk_all (by repeat (first | exact List.Mem.head _ | apply List.Mem.tail))) (by assumption)) rfl rfl ?_
    (refine seq_imm rfl (toTerm_fn t G2 cells (small_tm t (by omega)) hr2) rfl rfl (fun v3 G3 hle3 hh => ?_); obtain ⟨cells3, F3, rfl, hs3, hn3⟩ := hh; have hl3 := hs3.R.len; have ho3 := hs3.R.one; have hI := castPath_fn t label G3 cells3 (hs3.R.mono (Dif.le _ _)))
    (refine seq_step (step_alloc rfl) rfl ?_; rintro _ ⟨b47, rfl⟩)
    refine seq_store rfl rfl rfl (by assumption) (by assumption) rfl (by repeat (first | exact Sw.here | apply Sw.there)) (by exact upd_all (by symm; assumption)) ?_
    refine seq_done ?_
    refine nrm_seq ?_
    refine tri_seq ?_
    refine tri_region ?_
    refine seq_load (load_a rfl rfl (at_blk_all (by repeat (first | exact List.Mem.head _ | apply List.Mem.tail))) (by assumption)) rfl rfl ?_
    refine seq_pure (pure_move rfl) rfl rfl ?_
    (refine seq_imm rfl hI rfl rfl (fun v4 G4 hle4 hh => ?_); obtain ⟨p4, c4, rfl, hp4⟩ := hh; have hle24 := hle3.trans hle4; have m2 : IMle (Dif G2 G1) G4 := (Dif.le G2 G1).trans hle24; have hr4 := hr2.mono hle24)
    refine seq_pure (pure_move rfl) rfl rfl ?_
    refine seq_pure (pure_extract rfl rfl) rfl rfl ?_
    refine seq_pure (pure_extract rfl rfl) rfl rfl ?_
    refine seq_pure (pure_assign rfl) rfl rfl ?_
    refine seq_pure (pure_assign rfl) rfl rfl ?_
    refine seq_done ?_
    refine nrm_seq ?_
    refine tri_seq ?_
    refine tri_seq ?_
    refine tri_region ?_
    refine seq_pure (pure_move rfl) rfl rfl ?_
    refine seq_pure (pure_move rfl) rfl rfl ?_
    refine seq_val rfl (eqIntS_fn (mCast t label).1 G4 p4 p2 c4 c2 (hp4.1.mono (Dif.le _ _)) (hp2.1.mono m2)) rfl rfl ?_
    refine seq_pure (pure_not_t rfl) rfl rfl ?_
    refine seq_pure (pure_move rfl) rfl rfl ?_
    refine seq_pure (pure_move rfl) rfl rfl ?_
    refine seq_pure (pure_move rfl) rfl rfl ?_
    refine seq_pure (pure_bneq_s rfl rfl rfl) rfl rfl ?_
    refine seq_pure (pure_pick_f rfl rfl) rfl rfl ?_
    refine seq_done ?_
    refine nrm_seq ?_
    refine tri_cond_f rfl ?_
    refine tri_skip ?_
    refine nrm_seq ?_
    refine tri_seq ?_
    refine tri_seq ?_
    refine tri_draw mixed rfl ?_
    refine any_load (i := 0) (listed' := [true, false, false, false, false]) rfl (by repeat (first | exact np_ret | apply np_seq | apply np_block | apply np_loopN')) (load_a rfl rfl (at_blk_all (by repeat (first | exact List.Mem.head _ | apply List.Mem.tail))) (by assumption)) rfl (by kernel_rfl) rfl rfl ?_
    refine any_load (i := 1) (listed' := [true, true, false, false, false]) rfl (by repeat (first | exact np_ret | apply np_seq | apply np_block | apply np_loopN')) (load_a rfl rfl (at_blk_all (by repeat (first | exact List.Mem.head _ | apply List.Mem.tail))) (by assumption)) rfl (by kernel_rfl) rfl rfl ?_
    refine any_one (j := 2) (by kernel_rfl) ?_
    (refine one_imm (listed' := [true, true, true, false, false]) rfl rfl (toTerm_fn t G4 cells (small_tm t (by omega)) hr4) rfl rfl rfl (fun v5 G5 hle5 hh => ?_); obtain ⟨cells5, F5, rfl, hs5, hn5⟩ := hh)
    refine any_one (j := 3) (by kernel_rfl) ?_
    refine one_val (listed' := [true, true, true, true, false]) rfl rfl (eqTerm_fn t G5 cells3 cells5 (hs3.R.mono ((Dif.le _ _).trans (hle4.trans hle5))) (hs5.R.mono (Dif.le _ _))) rfl rfl rfl ?_
    refine any_pure (i := 4) (listed' := [true, true, true, true, true]) rfl (by repeat (first | exact np_ret | apply np_seq | apply np_block | apply np_loopN')) (pure_not_t rfl) rfl (by kernel_rfl) rfl rfl ?_
    refine any_done (by kernel_rfl) ?_
    refine nrm_seq ?_
    refine tri_cond_f rfl ?_
    refine tri_skip ?_
    refine nrm_seq ?_
    refine tri_seq ?_
    refine tri_region ?_
    refine seq_pure (pure_assign rfl) rfl rfl ?_
    refine seq_done ?_
    refine nrm_seq ?_
    refine tri_seq ?_
    refine tri_region ?_
    refine seq_load (load_a rfl rfl (at_blk_all (by repeat (first | exact List.Mem.head _ | apply List.Mem.tail))) (by assumption)) rfl rfl ?_
    refine seq_pure (pure_move rfl) rfl rfl ?_
    (obtain ⟨bs3, ob3, ib3⟩ := hs3.blks; obtain ⟨nb3, gb3, kb3⟩ := thaw_hyp (Gc := G5) ib3 hn3 hle02 ((Dif.le G3 G2).trans (hle4.trans hle5)); refine seq_lend_x nb3 gb3 rfl (markTerm_fn t 1 _ cells3 bs3 ob3 (by omega) (by omega)) rfl rfl ?_; have h46 : IMle (Dif G4 G3) (Wo G5 (bs3.map Prod.fst)) := Wo.keep ((Dif.le G4 G3).trans hle5) (fun b hb => dif_none (kb3 b hb).2); have h26 : IMle (Dif G2 G1) (Wo G5 (bs3.map Prod.fst)) := Wo.keep (m2.trans hle5) (fun b hb => none_le (Dif.le G2 G1) (kb3 b hb).1); have h06 : IMle G (Wo G5 (bs3.map Prod.fst)) := Wo.keep (hle02.trans (hle24.trans hle5)) (fun b hb => none_le hle02 (kb3 b hb).1); generalize Wo G5 (bs3.map Prod.fst) = G6 at *)
    refine seq_pure (pure_assign rfl) rfl rfl ?_
    refine seq_done ?_
    refine nrm_seq ?_
    refine tri_seq ?_
    refine tri_seq ?_
    refine tri_region ?_
    refine seq_pure (pure_move rfl) rfl rfl ?_
    refine seq_pure (pure_lss_f rfl rfl (by omega)) rfl rfl ?_
    refine seq_pure (pure_move rfl) rfl rfl ?_
    refine seq_pure (pure_move rfl) rfl rfl ?_
    refine seq_pure (pure_move rfl) rfl rfl ?_
    refine seq_val rfl (eqIntS_fn (mCast t label).1 G6 p4 p2 c4 c2 (hp4.1.mono h46) (hp2.1.mono h26)) rfl rfl ?_
    refine seq_pure (pure_not_t rfl) rfl rfl ?_
    refine seq_pure (pure_pick_f rfl rfl) rfl rfl ?_
    refine seq_pure (pure_move rfl) rfl rfl ?_
    refine seq_pure (pure_move rfl) rfl rfl ?_
    refine seq_pure (pure_move rfl) rfl rfl ?_
    refine seq_pure (pure_bneq_s rfl rfl rfl) rfl rfl ?_
    refine seq_pure (pure_pick_f rfl rfl) rfl rfl ?_
    refine seq_done ?_
    refine nrm_seq ?_
    refine tri_cond_f rfl ?_
    refine tri_skip ?_
    refine nrm_seq ?_
    refine tri_seq ?_
    refine tri_region ?_
    refine seq_pure (pure_assign rfl) rfl rfl ?_
    refine seq_done ?_
    refine nrm_seq ?_
    refine tri_seq ?_
    refine tri_region ?_
    refine seq_pure (pure_move rfl) rfl rfl ?_
    refine seq_pure (pure_move rfl) rfl rfl ?_
    (obtain ⟨bs4, ob4, ib4⟩ := hp4.blks; obtain ⟨nb4, gb4, kb4⟩ := thaw_hyp (Gc := G6) ib4 (vfp_nodup p4) (hle02.trans hle3) h46; refine seq_lend_f nb4 gb4 rfl (markIntS_fn (mCast t label).1 1 _ p4 c4 bs4 ob4 (by omega) (by omega)) rfl rfl (fun bs5 G8 hb5 hle8 hg5 => ?_); have h28 : IMle (Dif G2 G1) G8 := (Wo.keep h26 (fun b hb => none_le (Dif.le G2 G1) (none_le hle3 (kb4 b hb).1))).trans hle8; have h08 : IMle G G8 := (Wo.keep h06 (fun b hb => none_le hle02 (none_le hle3 (kb4 b hb).1))).trans hle8; have hq8 := hb5.sl hg5; rw [mkInts_len] at hq8; have hr8 := hr.mono h08)
    refine seq_pure (pure_assign rfl) rfl rfl ?_
    refine seq_done ?_
    refine nrm_seq ?_
    refine tri_seq ?_
    refine tri_region ?_
    refine seq_pure (pure_assign rfl) rfl rfl ?_
    refine seq_done ?_
    refine nrm_seq ?_
    refine tri_seq ?_
    refine tri_region ?_
    refine seq_pure (pure_move rfl) rfl rfl ?_
    refine seq_pure (pure_move rfl) rfl rfl ?_
    refine seq_val rfl (heldIntS_fn (mCast t label).1.length 1 G8 p4 c4 hq8 (by omega) (by omega)) rfl rfl ?_
    refine seq_pure (pure_assign rfl) rfl rfl ?_
    refine seq_done ?_
    refine nrm_seq ?_
    refine tri_seq ?_
    refine tri_seq ?_
    refine tri_region ?_
    refine seq_pure (pure_move rfl) rfl rfl ?_
    refine seq_pure (pure_lss_f rfl rfl (by omega)) rfl rfl ?_
    refine seq_done ?_
    refine nrm_seq ?_
    refine tri_cond_f rfl ?_
    refine tri_skip ?_
    refine nrm_seq ?_
    refine tri_seq ?_
    refine tri_seq ?_
    refine tri_region ?_
    refine seq_pure (pure_move rfl) rfl rfl ?_
    refine seq_pure (pure_move rfl) rfl rfl ?_
    refine seq_pure (pure_neq_f rfl rfl (by omega)) rfl rfl ?_
    refine seq_done ?_
    refine nrm_seq ?_
    refine tri_cond_f rfl ?_
    refine tri_skip ?_
    refine nrm_seq ?_
    refine tri_seq ?_
    refine tri_region ?_
    refine seq_load (load_a rfl rfl (at_blk_all (by repeat (first | exact List.Mem.head _ | apply List.Mem.tail))) (by assumption)) rfl rfl ?_
    (refine seq_imm rfl (toTerm_fn t G8 cells (small_tm t (by omega)) hr8) rfl rfl (fun v9 G9 hle9 hh => ?_); obtain ⟨cells9, F9, rfl, hs9, hn9⟩ := hh; have hI9 := castPath_fn t label G9 cells9 (hs9.R.mono (Dif.le _ _)))
    refine seq_pure (pure_move rfl) rfl rfl ?_
    (refine seq_imm rfl hI9 rfl rfl (fun v10 G10 hle10 hh => ?_); obtain ⟨p10, c10, rfl, hp10⟩ := hh; have h210 := h28.trans (hle9.trans hle10))
    refine seq_pure (pure_move rfl) rfl rfl ?_
    refine seq_pure (pure_extract rfl rfl) rfl rfl ?_
    refine seq_pure (pure_extract rfl rfl) rfl rfl ?_
    refine seq_pure (pure_assign rfl) rfl rfl ?_
    refine seq_pure (pure_assign rfl) rfl rfl ?_
    refine seq_done ?_
    refine nrm_seq ?_
    refine tri_seq ?_
    refine tri_seq ?_
    refine tri_region ?_
    refine seq_pure (pure_move rfl) rfl rfl ?_
    refine seq_pure (pure_move rfl) rfl rfl ?_
    refine seq_val rfl (eqIntS_fn (mCast t label).1 G10 p10 p2 c10 c2 (hp10.1.mono (Dif.le _ _)) (hp2.1.mono h210)) rfl rfl ?_
    refine seq_pure (pure_not_t rfl) rfl rfl ?_
    refine seq_pure (pure_move rfl) rfl rfl ?_
    refine seq_pure (pure_move rfl) rfl rfl ?_
    refine seq_pure (pure_move rfl) rfl rfl ?_
    refine seq_pure (pure_bneq_s rfl rfl rfl) rfl rfl ?_
    refine seq_pure (pure_pick_f rfl rfl) rfl rfl ?_
    refine seq_done ?_
    refine nrm_seq ?_
    refine tri_cond_f rfl ?_
    refine tri_skip ?_
    refine nrm_seq ?_
    refine tri_seq ?_
    refine tri_region ?_
    refine seq_pure (pure_assign rfl) rfl rfl ?_
    refine seq_done ?_
    refine nrm_seq ?_
    refine tri_seq ?_
    refine tri_region ?_
    refine seq_pure (pure_move rfl) rfl rfl ?_
    refine seq_pure (pure_move rfl) rfl rfl ?_
    refine seq_val rfl (heldIntS_fn (mCast t label).1.length 1 G10 p4 c4 (hq8.mono (hle9.trans hle10)) (by omega) (by omega)) rfl rfl ?_
    refine seq_pure (pure_assign rfl) rfl rfl ?_
    refine seq_done ?_
    refine nrm_seq ?_
    refine tri_seq ?_
    refine tri_seq ?_
    refine tri_region ?_
    refine seq_pure (pure_move rfl) rfl rfl ?_
    refine seq_pure (pure_lss_f rfl rfl (by omega)) rfl rfl ?_
    refine seq_done ?_
    refine nrm_seq ?_
    refine tri_cond_f rfl ?_
    refine tri_skip ?_
    refine nrm_seq ?_
    refine tri_seq ?_
    refine tri_seq ?_
    refine tri_region ?_
    refine seq_pure (pure_move rfl) rfl rfl ?_
    refine seq_pure (pure_move rfl) rfl rfl ?_
    refine seq_pure (pure_neq_f rfl rfl (by omega)) rfl rfl ?_
    refine seq_done ?_
    refine nrm_seq ?_
    refine tri_cond_f rfl ?_
    refine tri_skip ?_
    refine nrm_seq ?_
    refine tri_seq ?_
    refine tri_region ?_
    refine seq_pure (pure_assign rfl) rfl rfl ?_
    refine seq_done ?_
    refine nrm_seq ?_
    refine tri_ret ?_
    refine ret_fin1 (res_tmp rfl) ?_
    exact ⟨rfl, rfl⟩
  · refine seq_pure (pure_assign rfl) rfl rfl ?_
    refine seq_done ?_
    refine nrm_seq ?_
    refine tri_seq ?_
    refine tri_seq ?_
    refine tri_region ?_
    refine seq_pure (pure_move rfl) rfl rfl ?_
    refine seq_pure (pure_lss_t rfl rfl (by omega)) rfl rfl ?_
    refine seq_done ?_
    refine nrm_seq ?_
    refine tri_cond_t rfl ?_
    refine tri_seq ?_
    refine tri_region ?_
    refine seq_pure (pure_assign rfl) rfl rfl ?_
    refine seq_done ?_
    refine nrm_seq ?_
    refine tri_ret ?_
    refine ret_seq ?_
    refine ret_fin1 (res_tmp rfl) ?_
    exact ⟨rfl, rfl⟩
end Gw
end Go.Proofs.Ytlefgfdhlblahaa
