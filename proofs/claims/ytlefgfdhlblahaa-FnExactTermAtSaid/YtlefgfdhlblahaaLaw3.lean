/-
  The law that TermAt gives what the reference model gives: its walk.
-/
import Derived.Test.YtlefgfdhlblahaaTermAt
import Derived.Test.YtlefgfdhlblahaaHeld
import Derived.Test.YtlefgfdhlblahaaLaw2
namespace Go.Proofs.Ytlefgfdhlblahaa
open Go Go.RowKit
namespace Gw
set_option maxHeartbeats 0 in
set_option maxRecDepth 100000 in
theorem exactTermAt_fn (t : Tm) (l : List Int) (G : IM) (cells : List Value) (pp : Option Addr) (pc : Nat) (hno : t.nok) (hr : RTm G t cells) (hp : Sl G pp l.length pc 1 (ints l)) :
    Fn Try.prog 6 [.agg ⟨cells⟩, .slice pp l.length pc] [] G (Imm fun _ v => v = .bool true) := by
  have hl := hr.len
  have hone := hr.one
  have hz := szTerm_fn t 1048576 G cells (by omega) (by omega) hno hr
  have hzn := szTm_nn t
  have hcs := count_sz t
  have hms := marks_sz t
  have hm1 := cntTyL_nn t.ty.ks
  have hm2 := cntTyL_nn t.fr.ks
  have hm3 := cntTmL_nn t.ks
  obtain ⟨r, hrr⟩ : ∃ r, mTermAt t l = r := ⟨_, rfl⟩
  have hrs := mTermAt_sz t l
  rw [hrr] at hrs
  have hms' := marks_sz r.1
  have hn1 := cntTyL_nn r.1.ty.ks
  have hn2 := cntTyL_nn r.1.fr.ks
  have hn3 := cntTmL_nn r.1.ks
  refine fn_enter Try.func6 rfl Try.ntmps6 Try.results6 rfl ?_
  intro w0
  refine tri_seq ?_
  refine tri_region ?_
  (refine seq_step (step_box_a rfl rfl) rfl ?_; rintro _ ⟨b3, rfl⟩)
  refine seq_pure (pure_assign rfl) rfl rfl ?_
  refine seq_done ?_
  refine nrm_seq ?_
  refine tri_seq ?_
  refine tri_seq ?_
  refine tri_region ?_
  refine seq_pure (pure_move rfl) rfl rfl ?_
  refine seq_pure (pure_len rfl rfl) rfl rfl ?_
  refine seq_bool (pure_gtr rfl rfl) rfl rfl (fun h12 => ?_) (fun h12 => ?_)
  · refine seq_done ?_
    refine nrm_seq ?_
    refine tri_cond_t rfl ?_
    refine tri_seq ?_
    refine tri_region ?_
    refine seq_pure (pure_assign rfl) rfl rfl ?_
    refine seq_done ?_
    refine nrm_seq ?_
    refine tri_ret ?_
    refine ret_seq ?_
    refine ret_fin1 (res_tmp rfl) ?_
    exact ⟨rfl, rfl⟩
  · refine seq_done ?_
    refine nrm_seq ?_
    refine tri_cond_f rfl ?_
    refine tri_skip ?_
    refine nrm_seq ?_
    refine tri_seq ?_
    refine tri_region ?_
    refine seq_pure (pure_assign rfl) rfl rfl ?_
    refine seq_done ?_
    refine nrm_seq ?_
    refine tri_seq ?_
    refine tri_region ?_
    refine seq_load (load_a rfl rfl (at_blk_all (by repeat (first | exact List.Mem.head _ | apply List.Mem.tail))) (by assumption)) rfl rfl ?_
    refine seq_pure (pure_move rfl) rfl rfl ?_
    (rcases res_cases 1048576 (szTm t) with ⟨hc, hrz⟩ | ⟨hc, hrz⟩ <;> (rw [hrz] at hz; refine seq_val rfl hz rfl rfl ?_))
    · refine seq_pure (pure_assign rfl) rfl rfl ?_
      refine seq_done ?_
      refine nrm_seq ?_
      refine tri_seq ?_
      refine tri_seq ?_
      refine tri_region ?_
      refine seq_pure (pure_move rfl) rfl rfl ?_
      refine seq_pure (pure_lss_f rfl rfl (by omega)) rfl rfl ?_
      refine seq_done ?_
      refine nrm_seq ?_
      refine tri_cond_f rfl ?_
      refine tri_skip ?_
      refine nrm_seq ?_
      refine tri_seq ?_
      refine tri_region ?_
      refine seq_load (load_a rfl rfl (at_blk_all (by repeat (first | exact List.Mem.head _ | apply List.Mem.tail))) (by assumption)) rfl rfl ?_
      (refine seq_imm rfl (toTerm_fn t G cells (small_tm t (by omega)) hr) rfl rfl (fun v1 G1 hle1 hh => ?_); obtain ⟨cells1, F1, rfl, hs1, hn1⟩ := hh)
      refine seq_pure (pure_move rfl) rfl rfl ?_
      (refine seq_imm rfl (toIntS_fn l G1 pp pc (hp.mono hle1) (by omega)) rfl rfl (fun v2 G2 hle2 hh => ?_); obtain ⟨p2, c2, rfl, hp2, hb2⟩ := hh; have hA := sTermAt_fn t l G2 cells1 p2 c2 (by omega) (hs1.R.mono ((Dif.le _ _).trans hle2)) (hp2.mono (Dif.le _ _)); rw [hrr] at hA)
      (refine seq_imm rfl hA rfl rfl (fun v3 G3 hle3 hh => ?_); obtain ⟨cells3, F3, rfl, hs3, hn3⟩ := hh; have hl3 := hs3.R.len; have ho3 := hs3.R.one; have hle02 := hle1.trans hle2; have hle03 := hle02.trans hle3; have hr3 := hr.mono hle03)
      refine seq_pure (pure_move rfl) rfl rfl ?_
      refine seq_pure (pure_extract rfl rfl) rfl rfl ?_
      refine seq_pure (pure_extract rfl rfl) rfl rfl ?_
      (refine seq_step (step_alloc rfl) rfl ?_; rintro _ ⟨b63, rfl⟩)
      refine seq_store rfl rfl rfl hl3 ho3 rfl (by repeat (first | exact Sw.here | apply Sw.there)) (by exact upd_all hl3.symm) ?_
      refine seq_pure (pure_assign rfl) rfl rfl ?_
      refine seq_done ?_
      refine nrm_seq ?_
      refine tri_seq ?_
      refine tri_region ?_
      refine seq_load (load_a rfl rfl (at_blk_all (by repeat (first | exact List.Mem.head _ | apply List.Mem.tail))) (by assumption)) rfl rfl ?_
      (refine seq_imm rfl (toTerm_fn t G3 cells (small_tm t (by omega)) hr3) rfl rfl (fun v4 G4 hle4 hh => ?_); obtain ⟨cells4, F4, rfl, hs4, hn4⟩ := hh; have hl4 := hs4.R.len; have ho4 := hs4.R.one; have hle04 := hle03.trans hle4)
      (refine seq_step (step_alloc rfl) rfl ?_; rintro _ ⟨b72, rfl⟩)
      refine seq_store rfl rfl rfl hl4 ho4 rfl (by repeat (first | exact Sw.here | apply Sw.there)) (by exact upd_all hl4.symm) ?_
      refine seq_done ?_
      refine nrm_seq ?_
      refine tri_seq ?_
      refine tri_region ?_
      refine seq_pure (pure_move rfl) rfl rfl ?_
      (refine seq_imm rfl (toIntS_fn l G4 pp pc (hp.mono hle04) (by omega)) rfl rfl (fun v5 G5 hle5 hh => ?_); obtain ⟨p5, c5, rfl, hp5, hb5⟩ := hh; have hle05 := hle04.trans hle5; have hI := termAt_fn t l G5 cells4 p5 c5 (by omega) (hs4.R.mono ((Dif.le _ _).trans hle5)) (hp5.mono (Dif.le _ _)); rw [hrr] at hI)
      refine seq_pure (pure_assign rfl) rfl rfl ?_
      refine seq_done ?_
      refine nrm_seq ?_
      refine tri_seq ?_
      refine tri_region ?_
      refine seq_load (load_a rfl rfl (at_blk_all (by repeat (first | exact List.Mem.head _ | apply List.Mem.tail))) (by assumption)) rfl rfl ?_
      refine seq_pure (pure_move rfl) rfl rfl ?_
      (refine seq_imm rfl hI rfl rfl (fun v6 G6 hle6 hh => ?_); obtain ⟨cells6, F6, rfl, hs6, hn6⟩ := hh; have hl6 := hs6.R.len; have ho6 := hs6.R.one; have hle06 := hle05.trans hle6; have hle36 := hle4.trans (hle5.trans hle6); have m3 : IMle (Dif G3 G2) G6 := (Dif.le G3 G2).trans hle36; have hr6 := hr.mono hle06)
      refine seq_pure (pure_move rfl) rfl rfl ?_
      refine seq_pure (pure_extract rfl rfl) rfl rfl ?_
      refine seq_pure (pure_extract rfl rfl) rfl rfl ?_
      (refine seq_step (step_alloc rfl) rfl ?_; rintro _ ⟨b91, rfl⟩)
      refine seq_store rfl rfl rfl hl6 ho6 rfl (by repeat (first | exact Sw.here | apply Sw.there)) (by exact upd_all hl6.symm) ?_
      refine seq_pure (pure_assign rfl) rfl rfl ?_
      refine seq_done ?_
      refine nrm_seq ?_
      refine tri_seq ?_
      refine tri_seq ?_
      refine tri_region ?_
      refine seq_load (load_a rfl rfl (at_blk_all (by repeat (first | exact List.Mem.head _ | apply List.Mem.tail))) (by assumption)) rfl rfl ?_
      refine seq_load (load_a rfl rfl (at_blk_all (by repeat (first | exact List.Mem.head _ | apply List.Mem.tail))) (by assumption)) rfl rfl ?_
      refine seq_val rfl (eqTerm_fn r.1 G6 cells6 cells3 (hs6.R.mono (Dif.le _ _)) (hs3.R.mono m3)) rfl rfl ?_
      refine seq_pure (pure_not_t rfl) rfl rfl ?_
      refine seq_pure (pure_move rfl) rfl rfl ?_
      refine seq_pure (pure_move rfl) rfl rfl ?_
      refine seq_pure (pure_move rfl) rfl rfl ?_
      refine seq_pure (pure_bneq_s rfl rfl rfl) rfl rfl ?_
      refine seq_pure (pure_pick_f rfl rfl) rfl rfl ?_
      refine seq_done ?_
      refine nrm_seq ?_
      refine tri_cond_f rfl ?_
      refine tri_skip ?_
      refine nrm_seq ?_
      refine tri_seq ?_
      refine tri_seq ?_
      refine tri_draw mixed rfl ?_
      refine any_load (i := 0) (listed' := [true, false, false, false, false]) rfl (by repeat (first | exact np_ret | apply np_seq | apply np_block | apply np_loopN')) (load_a rfl rfl (at_blk_all (by repeat (first | exact List.Mem.head _ | apply List.Mem.tail))) (by assumption)) rfl (by kernel_rfl) rfl rfl ?_
      refine any_load (i := 1) (listed' := [true, true, false, false, false]) rfl (by repeat (first | exact np_ret | apply np_seq | apply np_block | apply np_loopN')) (load_a rfl rfl (at_blk_all (by repeat (first | exact List.Mem.head _ | apply List.Mem.tail))) (by assumption)) rfl (by kernel_rfl) rfl rfl ?_
      refine any_one (j := 2) (by kernel_rfl) ?_
      (refine one_imm (listed' := [true, true, true, false, false]) rfl rfl (toTerm_fn t G6 cells (small_tm t (by omega)) hr6) rfl rfl rfl (fun v7 G7 hle7 hh => ?_); obtain ⟨cells7, F7, rfl, hs7, hn7⟩ := hh; have m4 : IMle (Dif G4 G3) G7 := (Dif.le G4 G3).trans (hle5.trans (hle6.trans hle7)))
      refine any_one (j := 3) (by kernel_rfl) ?_
      refine one_val (listed' := [true, true, true, true, false]) rfl rfl (eqTerm_fn t G7 cells4 cells7 (hs4.R.mono m4) (hs7.R.mono (Dif.le _ _))) rfl rfl rfl ?_
      refine any_pure (i := 4) (listed' := [true, true, true, true, true]) rfl (by repeat (first | exact np_ret | apply np_seq | apply np_block | apply np_loopN')) (pure_not_t rfl) rfl (by kernel_rfl) rfl rfl ?_
      refine any_done (by kernel_rfl) ?_
      refine nrm_seq ?_
      refine tri_cond_f rfl ?_
      refine tri_skip ?_
      refine nrm_seq ?_
      refine tri_seq ?_
      refine tri_seq ?_
      refine tri_region ?_
      refine seq_pure (pure_move rfl) rfl rfl ?_
      refine seq_pure (pure_move rfl) rfl rfl ?_
      (refine seq_imm rfl (toIntS_fn l G7 pp pc (hp.mono (hle06.trans hle7)) (by omega)) rfl rfl (fun v8 G8 hle8 hh => ?_); obtain ⟨p8, c8, rfl, hp8, hb8⟩ := hh; have m5 : IMle (Dif G5 G4) G8 := (Dif.le G5 G4).trans (hle6.trans (hle7.trans hle8)))
      refine seq_val rfl (eqIntS_fn l G8 p5 p8 c5 c8 (hp5.mono m5) (hp8.mono (Dif.le _ _))) rfl rfl ?_
      refine seq_pure (pure_not_t rfl) rfl rfl ?_
      refine seq_done ?_
      refine nrm_seq ?_
      refine tri_cond_f rfl ?_
      refine tri_skip ?_
      refine nrm_seq ?_
      refine tri_seq ?_
      refine tri_region ?_
      refine seq_pure (pure_assign rfl) rfl rfl ?_
      refine seq_done ?_
      refine nrm_seq ?_
      refine tri_seq ?_
      refine tri_region ?_
      refine seq_load (load_a rfl rfl (at_blk_all (by repeat (first | exact List.Mem.head _ | apply List.Mem.tail))) (by assumption)) rfl rfl ?_
      refine seq_pure (pure_move rfl) rfl rfl ?_
      (obtain ⟨bs4, ob4, ib4⟩ := hs4.blks; obtain ⟨nb4, gb4, kb4⟩ := thaw_hyp (Gc := G8) ib4 hn4 hle03 (m4.trans hle8); refine seq_lend_x nb4 gb4 rfl (markTerm_fn t 1 _ cells4 bs4 ob4 (by omega) (by omega)) rfl rfl ?_; have h65 : IMle (Dif G6 G5) (Wo G8 (bs4.map Prod.fst)) := Wo.keep ((Dif.le G6 G5).trans (hle7.trans hle8)) (fun b hb => dif_none (fun hb5 => (kb4 b hb).2 (none_le hle5 hb5))); have h32 : IMle (Dif G3 G2) (Wo G8 (bs4.map Prod.fst)) := Wo.keep (m3.trans (hle7.trans hle8)) (fun b hb => none_le (Dif.le G3 G2) (kb4 b hb).1); have h54 : IMle (Dif G5 G4) (Wo G8 (bs4.map Prod.fst)) := Wo.keep m5 (fun b hb => dif_none (kb4 b hb).2); have h06 : IMle G (Wo G8 (bs4.map Prod.fst)) := Wo.keep (hle06.trans (hle7.trans hle8)) (fun b hb => none_le hle03 (kb4 b hb).1); generalize Wo G8 (bs4.map Prod.fst) = G9 at *)
      refine seq_pure (pure_assign rfl) rfl rfl ?_
      refine seq_done ?_
      refine nrm_seq ?_
      refine tri_seq ?_
      refine tri_region ?_
      refine seq_pure (pure_move rfl) rfl rfl ?_
      refine seq_pure (pure_move rfl) rfl rfl ?_
      (obtain ⟨bs5, ob5, ib5⟩ := SP1.blks (G := Dif G5 G4) ⟨hp5, hb5⟩; obtain ⟨nb5, gb5, kb5⟩ := thaw_hyp (Gc := G9) ib5 (vfp_nodup p5) hle04 h54; refine seq_lend_x nb5 gb5 rfl (markIntS_fn l _ _ p5 c5 bs5 ob5 (by omega) (by omega)) rfl rfl ?_; replace h65 : IMle (Dif G6 G5) (Wo G9 (bs5.map Prod.fst)) := Wo.keep h65 (fun b hb => dif_none (kb5 b hb).2); replace h32 : IMle (Dif G3 G2) (Wo G9 (bs5.map Prod.fst)) := Wo.keep h32 (fun b hb => none_le ((Dif.le G3 G2).trans hle4) (kb5 b hb).1); replace h06 : IMle G (Wo G9 (bs5.map Prod.fst)) := Wo.keep h06 (fun b hb => none_le hle04 (kb5 b hb).1); generalize Wo G9 (bs5.map Prod.fst) = G10 at *)
      refine seq_pure (pure_assign rfl) rfl rfl ?_
      refine seq_done ?_
      refine nrm_seq ?_
      refine tri_seq ?_
      refine tri_seq ?_
      refine tri_region ?_
      refine seq_pure (pure_move rfl) rfl rfl ?_
      refine seq_pure (pure_lss_f rfl rfl (by omega)) rfl rfl ?_
      refine seq_pure (pure_move rfl) rfl rfl ?_
      refine seq_load (load_a rfl rfl (at_blk_all (by repeat (first | exact List.Mem.head _ | apply List.Mem.tail))) (by assumption)) rfl rfl ?_
      refine seq_load (load_a rfl rfl (at_blk_all (by repeat (first | exact List.Mem.head _ | apply List.Mem.tail))) (by assumption)) rfl rfl ?_
      refine seq_val rfl (eqTerm_fn r.1 G10 cells6 cells3 (hs6.R.mono h65) (hs3.R.mono h32)) rfl rfl ?_
      refine seq_pure (pure_not_t rfl) rfl rfl ?_
      refine seq_pure (pure_pick_f rfl rfl) rfl rfl ?_
      refine seq_pure (pure_move rfl) rfl rfl ?_
      refine seq_pure (pure_move rfl) rfl rfl ?_
      refine seq_pure (pure_move rfl) rfl rfl ?_
      refine seq_pure (pure_bneq_s rfl rfl rfl) rfl rfl ?_
      refine seq_pure (pure_pick_f rfl rfl) rfl rfl ?_
      refine seq_done ?_
      refine nrm_seq ?_
      refine tri_cond_f rfl ?_
      refine tri_skip ?_
      refine nrm_seq ?_
      refine tri_seq ?_
      refine tri_region ?_
      refine seq_pure (pure_assign rfl) rfl rfl ?_
      refine seq_done ?_
      refine nrm_seq ?_
      refine tri_seq ?_
      refine tri_region ?_
      refine seq_load (load_a rfl rfl (at_blk_all (by repeat (first | exact List.Mem.head _ | apply List.Mem.tail))) (by assumption)) rfl rfl ?_
      refine seq_pure (pure_move rfl) rfl rfl ?_
      (obtain ⟨bs6, ob6, ib6⟩ := hs6.blks; obtain ⟨nb6, gb6, kb6⟩ := thaw_hyp (Gc := G10) ib6 hn6 hle05 h65; refine seq_lend_f nb6 gb6 rfl (markTerm_fn r.1 1 _ cells6 bs6 ob6 (by omega) (by omega)) rfl rfl (fun bs7 G11 hb7 hle11 hg7 => ?_); have h311 : IMle (Dif G3 G2) G11 := (Wo.keep h32 (fun b hb => none_le ((Dif.le G3 G2).trans (hle4.trans hle5)) (kb6 b hb).1)).trans hle11; have h011 : IMle G G11 := (Wo.keep h06 (fun b hb => none_le hle05 (kb6 b hb).1)).trans hle11; have hH := hb7.h hg7; have hr11 := hr.mono h011)
      refine seq_pure (pure_assign rfl) rfl rfl ?_
      refine seq_done ?_
      refine nrm_seq ?_
      refine tri_seq ?_
      refine tri_region ?_
      refine seq_pure (pure_assign rfl) rfl rfl ?_
      refine seq_done ?_
      refine nrm_seq ?_
      refine tri_seq ?_
      refine tri_region ?_
      refine seq_load (load_a rfl rfl (at_blk_all (by repeat (first | exact List.Mem.head _ | apply List.Mem.tail))) (by assumption)) rfl rfl ?_
      refine seq_pure (pure_move rfl) rfl rfl ?_
      refine seq_val rfl (heldTerm_fn r.1 1 G11 cells6 hH (by omega) (by omega)) rfl rfl ?_
      refine seq_pure (pure_assign rfl) rfl rfl ?_
      refine seq_done ?_
      refine nrm_seq ?_
      refine tri_seq ?_
      refine tri_seq ?_
      refine tri_region ?_
      refine seq_pure (pure_move rfl) rfl rfl ?_
      refine seq_pure (pure_lss_f rfl rfl (by omega)) rfl rfl ?_
      refine seq_done ?_
      refine nrm_seq ?_
      refine tri_cond_f rfl ?_
      refine tri_skip ?_
      refine nrm_seq ?_
      refine tri_seq ?_
      refine tri_seq ?_
      refine tri_region ?_
      refine seq_pure (pure_move rfl) rfl rfl ?_
      refine seq_pure (pure_move rfl) rfl rfl ?_
      refine seq_pure (pure_neq_f rfl rfl (by omega)) rfl rfl ?_
      refine seq_done ?_
      refine nrm_seq ?_
      refine tri_cond_f rfl ?_
      refine tri_skip ?_
      refine nrm_seq ?_
      refine tri_seq ?_
      refine tri_region ?_
      refine seq_load (load_a rfl rfl (at_blk_all (by repeat (first | exact List.Mem.head _ | apply List.Mem.tail))) (by assumption)) rfl rfl ?_
      (refine seq_imm rfl (toTerm_fn t G11 cells (small_tm t (by omega)) hr11) rfl rfl (fun v12 G12 hle12 hh => ?_); obtain ⟨cells12, F12, rfl, hs12, hn12⟩ := hh)
      refine seq_pure (pure_move rfl) rfl rfl ?_
      (refine seq_imm rfl (toIntS_fn l G12 pp pc (hp.mono (h011.trans hle12)) (by omega)) rfl rfl (fun v13 G13 hle13 hh => ?_); obtain ⟨p13, c13, rfl, hp13, hb13⟩ := hh; have hI2 := termAt_fn t l G13 cells12 p13 c13 (by omega) (hs12.R.mono ((Dif.le _ _).trans hle13)) (hp13.mono (Dif.le _ _)); rw [hrr] at hI2)
      (refine seq_imm rfl hI2 rfl rfl (fun v14 G14 hle14 hh => ?_); obtain ⟨cells14, F14, rfl, hs14, hn14⟩ := hh; have hl14 := hs14.R.len; have ho14 := hs14.R.one; have hle1114 := hle12.trans (hle13.trans hle14))
      refine seq_pure (pure_move rfl) rfl rfl ?_
      refine seq_pure (pure_extract rfl rfl) rfl rfl ?_
      refine seq_pure (pure_extract rfl rfl) rfl rfl ?_
      (refine seq_step (step_alloc rfl) rfl ?_; rintro _ ⟨b240, rfl⟩)
      refine seq_store rfl rfl rfl hl14 ho14 rfl (by repeat (first | exact Sw.here | apply Sw.there)) (by exact upd_all hl14.symm) ?_
      refine seq_pure (pure_assign rfl) rfl rfl ?_
      refine seq_done ?_
      refine nrm_seq ?_
      refine tri_seq ?_
      refine tri_seq ?_
      refine tri_region ?_
      refine seq_load (load_a rfl rfl (at_blk_all (by repeat (first | exact List.Mem.head _ | apply List.Mem.tail))) (by assumption)) rfl rfl ?_
      refine seq_load (load_a rfl rfl (at_blk_all (by repeat (first | exact List.Mem.head _ | apply List.Mem.tail))) (by assumption)) rfl rfl ?_
      refine seq_val rfl (eqTerm_fn r.1 G14 cells14 cells3 (hs14.R.mono (Dif.le _ _)) (hs3.R.mono (h311.trans hle1114))) rfl rfl ?_
      refine seq_pure (pure_not_t rfl) rfl rfl ?_
      refine seq_pure (pure_move rfl) rfl rfl ?_
      refine seq_pure (pure_move rfl) rfl rfl ?_
      refine seq_pure (pure_move rfl) rfl rfl ?_
      refine seq_pure (pure_bneq_s rfl rfl rfl) rfl rfl ?_
      refine seq_pure (pure_pick_f rfl rfl) rfl rfl ?_
      refine seq_done ?_
      refine nrm_seq ?_
      refine tri_cond_f rfl ?_
      refine tri_skip ?_
      refine nrm_seq ?_
      refine tri_seq ?_
      refine tri_region ?_
      refine seq_pure (pure_assign rfl) rfl rfl ?_
      refine seq_done ?_
      refine nrm_seq ?_
      refine tri_seq ?_
      refine tri_region ?_
      refine seq_load (load_a rfl rfl (at_blk_all (by repeat (first | exact List.Mem.head _ | apply List.Mem.tail))) (by assumption)) rfl rfl ?_
      refine seq_pure (pure_move rfl) rfl rfl ?_
      refine seq_val rfl (heldTerm_fn r.1 1 G14 cells6 (hH.mono hle1114) (by omega) (by omega)) rfl rfl ?_
      refine seq_pure (pure_assign rfl) rfl rfl ?_
      refine seq_done ?_
      refine nrm_seq ?_
      refine tri_seq ?_
      refine tri_seq ?_
      refine tri_region ?_
      refine seq_pure (pure_move rfl) rfl rfl ?_
      refine seq_pure (pure_lss_f rfl rfl (by omega)) rfl rfl ?_
      refine seq_done ?_
      refine nrm_seq ?_
      refine tri_cond_f rfl ?_
      refine tri_skip ?_
      refine nrm_seq ?_
      refine tri_seq ?_
      refine tri_seq ?_
      refine tri_region ?_
      refine seq_pure (pure_move rfl) rfl rfl ?_
      refine seq_pure (pure_move rfl) rfl rfl ?_
      refine seq_pure (pure_neq_f rfl rfl (by omega)) rfl rfl ?_
      refine seq_done ?_
      refine nrm_seq ?_
      refine tri_cond_f rfl ?_
      refine tri_skip ?_
      refine nrm_seq ?_
      refine tri_seq ?_
      refine tri_region ?_
      refine seq_pure (pure_assign rfl) rfl rfl ?_
      refine seq_done ?_
      refine nrm_seq ?_
      refine tri_ret ?_
      refine ret_fin1 (res_tmp rfl) ?_
      exact ⟨rfl, rfl⟩
    · refine seq_pure (pure_assign rfl) rfl rfl ?_
      refine seq_done ?_
      refine nrm_seq ?_
      refine tri_seq ?_
      refine tri_seq ?_
      refine tri_region ?_
      refine seq_pure (pure_move rfl) rfl rfl ?_
      refine seq_pure (pure_lss_t rfl rfl (by omega)) rfl rfl ?_
      refine seq_done ?_
      refine nrm_seq ?_
      refine tri_cond_t rfl ?_
      refine tri_seq ?_
      refine tri_region ?_
      refine seq_pure (pure_assign rfl) rfl rfl ?_
      refine seq_done ?_
      refine nrm_seq ?_
      refine tri_ret ?_
      refine ret_seq ?_
      refine ret_fin1 (res_tmp rfl) ?_
      exact ⟨rfl, rfl⟩
end Gw
end Go.Proofs.Ytlefgfdhlblahaa
