/-
  The law that ReplaceAt gives what the reference model gives: its walk.
-/
import Derived.Test.YtlefgfdhlblahaaReplaceAt
import Derived.Test.YtlefgfdhlblahaaHeld
import Derived.Test.YtlefgfdhlblahaaLaw2
import Derived.Test.YtlefgfdhlblahaaCut
namespace Go.Proofs.Ytlefgfdhlblahaa
open Go Go.RowKit
namespace Gw
set_option maxHeartbeats 0 in
set_option maxRecDepth 100000 in
theorem exactReplaceAt_fn (t : Tm) (l : List Int) (x : Tm) (G : IM) (cells : List Value) (pp : Option Addr) (pc : Nat) (xcells : List Value) (hno : t.nok) (hr : RTm G t cells) (hp : Sl G pp l.length pc 1 (ints l)) (hnox : x.nok) (hx : RTm G x xcells) :
    Fn Try.prog 7 [.agg ⟨cells⟩, .slice pp l.length pc, .agg ⟨xcells⟩] [] G (Imm fun _ v => v = .bool true) := by
  have hl := hr.len
  have hone := hr.one
  have hlx := hx.len
  have honex := hx.one
  have hz := szTerm_fn t 1048576 G cells (by omega) (by omega) hno hr
  have hzn := szTm_nn t
  have hznx := szTm_nn x
  have hms := marks_sz t
  have hm1 := cntTyL_nn t.ty.ks
  have hm2 := cntTyL_nn t.fr.ks
  have hm3 := cntTmL_nn t.ks
  have hmsx := marks_sz x
  have hmx1 := cntTyL_nn x.ty.ks
  have hmx2 := cntTyL_nn x.fr.ks
  have hmx3 := cntTmL_nn x.ks
  obtain ⟨r, hrr⟩ : ∃ r, mReplaceAt t l x = r := ⟨_, rfl⟩
  have hrs := mRep_sz t x l
  rw [hrr] at hrs
  have hms' := marks_sz r.1
  have hn1 := cntTyL_nn r.1.ty.ks
  have hn2 := cntTyL_nn r.1.fr.ks
  have hn3 := cntTmL_nn r.1.ks
  refine fn_enter Try.func7 rfl Try.ntmps7 Try.results7 rfl ?_
  intro w0
  refine tri_seq ?_
  refine tri_region ?_
  (refine seq_step (step_box_a rfl rfl) rfl ?_; rintro _ ⟨b3, rfl⟩)
  (refine seq_step (step_box_a rfl rfl) rfl ?_; rintro _ ⟨b4, rfl⟩)
  refine seq_pure (pure_assign rfl) rfl rfl ?_
  refine seq_done ?_
  refine nrm_seq ?_
  refine tri_seq ?_
  refine tri_seq ?_
  refine tri_region ?_
  refine seq_pure (pure_move rfl) rfl rfl ?_
  refine seq_pure (pure_len rfl rfl) rfl rfl ?_
  refine seq_bool (pure_gtr rfl rfl) rfl rfl (fun h13 => ?_) (fun h13 => ?_)
  · refine seq_done ?_
    refine nrm_seq ?_
    refine tri_cond_t rfl ?_
    refine tri_seq ?_
    refine tri_region ?_
    refine seq_pure (pure_assign rfl) rfl rfl ?_
    refine seq_done ?_
    refine nrm_seq ?_
    refine tri_ret ?_
    refine ret_seq ?_
    refine ret_fin1 (res_tmp rfl) ?_
    exact ⟨rfl, rfl⟩
  · refine seq_done ?_
    refine nrm_seq ?_
    refine tri_cond_f rfl ?_
    refine tri_skip ?_
    refine nrm_seq ?_
    refine tri_seq ?_
    refine tri_region ?_
    refine seq_pure (pure_assign rfl) rfl rfl ?_
    refine seq_done ?_
    refine nrm_seq ?_
    refine tri_seq ?_
    refine tri_region ?_
    refine seq_load (load_a rfl rfl (at_blk_all (by repeat (first | exact List.Mem.head _ | apply List.Mem.tail))) (by assumption)) rfl rfl ?_
    refine seq_pure (pure_move rfl) rfl rfl ?_
    (rcases res_cases 1048576 (szTm t) with ⟨hc, hrz⟩ | ⟨hc, hrz⟩ <;> (rw [hrz] at hz; refine seq_val rfl hz rfl rfl ?_))
    · refine seq_pure (pure_assign rfl) rfl rfl ?_
      refine seq_done ?_
      refine nrm_seq ?_
      refine tri_seq ?_
      refine tri_seq ?_
      refine tri_region ?_
      refine seq_pure (pure_move rfl) rfl rfl ?_
      refine seq_pure (pure_lss_f rfl rfl (by omega)) rfl rfl ?_
      refine seq_done ?_
      refine nrm_seq ?_
      refine tri_cond_f rfl ?_
      refine tri_skip ?_
      refine nrm_seq ?_
      refine tri_seq ?_
      refine tri_region ?_
      refine seq_load (load_a rfl rfl (at_blk_all (by repeat (first | exact List.Mem.head _ | apply List.Mem.tail))) (by assumption)) rfl rfl ?_
      refine seq_pure (pure_move rfl) rfl rfl ?_
      (have hz2 := szTerm_fn x (1048576 - szTm t) G xcells (by omega) (by omega) hnox hx; rcases res_cases (1048576 - szTm t) (szTm x) with ⟨hcx, hrzx⟩ | ⟨hcx, hrzx⟩ <;> (rw [hrzx] at hz2; refine seq_val rfl hz2 rfl rfl ?_))
      · refine seq_pure (pure_assign rfl) rfl rfl ?_
        refine seq_done ?_
        refine nrm_seq ?_
        refine tri_seq ?_
        refine tri_seq ?_
        refine tri_region ?_
        refine seq_pure (pure_move rfl) rfl rfl ?_
        refine seq_pure (pure_lss_f rfl rfl (by omega)) rfl rfl ?_
        refine seq_done ?_
        refine nrm_seq ?_
        refine tri_cond_f rfl ?_
        refine tri_skip ?_
        refine nrm_seq ?_
        refine tri_seq ?_
        (refine tri_cut (fun (z : Nat × List Value × List Nat × IM × IM) => ⟨[(8, .pointer (some ⟨z.1, 0, none⟩)), (9, .bool r.2), (3, .pointer (some ⟨b3, 0, none⟩)), (5, .pointer (some ⟨b4, 0, none⟩)), (1, .slice pp l.length pc)], [.blk z.1 z.2.1, .blk b4 xcells, .blk b3 cells], z.2.2.2.2⟩) (fun z => IMle G z.2.2.2.1 ∧ IMle z.2.2.2.1 z.2.2.2.2 ∧ STm (Dif z.2.2.2.2 z.2.2.2.1) r.1 z.2.1 z.2.2.1 ∧ z.2.2.1.Nodup) (tri_draw (n := 13) mixed rfl ?_) ?_)
        · refine any_load (i := 0) (listed' := [true, false, false, false, false, false, false, false, false, false, false, false, false]) rfl (by repeat (first | exact np_ret | exact np_cut | apply np_seq | apply np_block | apply np_loopN')) (load_a rfl rfl (at_blk_all (by repeat (first | exact List.Mem.head _ | apply List.Mem.tail))) (by assumption)) rfl (by kernel_rfl) rfl rfl ?_
          refine any_pure (i := 2) (listed' := [true, false, true, false, false, false, false, false, false, false, false, false, false]) rfl (by repeat (first | exact np_ret | exact np_cut | apply np_seq | apply np_block | apply np_loopN')) (pure_move rfl) rfl (by kernel_rfl) rfl rfl ?_
          refine any_load (i := 4) (listed' := [true, false, true, false, true, false, false, false, false, false, false, false, false]) rfl (by repeat (first | exact np_ret | exact np_cut | apply np_seq | apply np_block | apply np_loopN')) (load_a rfl rfl (at_blk_all (by repeat (first | exact List.Mem.head _ | apply List.Mem.tail))) (by assumption)) rfl (by kernel_rfl) rfl rfl ?_
          refine any_two (j := 1) (j' := 10) (by kernel_rfl) ?_ ?_
          · (refine one_imm (listed' := [true, true, true, false, true, false, false, false, false, false, false, false, false]) rfl rfl (toTerm_fn t G cells (small_tm t (by omega)) hr) rfl rfl rfl (fun v1 G1 hle1 hh => ?_); obtain ⟨cells1, F1, rfl, hs1, hn1⟩ := hh)
            refine any_two (j := 3) (j' := 10) (by kernel_rfl) ?_ ?_
            · (refine one_imm (listed' := [true, true, true, true, true, false, false, false, false, false, false, false, false]) rfl rfl (toIntS_fn l G1 pp pc (hp.mono hle1) (by omega)) rfl rfl rfl (fun v2 G2 hle2 hh => ?_); obtain ⟨p2, c2, rfl, hp2, hb2⟩ := hh)
              refine any_two (j := 5) (j' := 10) (by kernel_rfl) ?_ ?_
              · (refine one_imm (listed' := [true, true, true, true, true, true, false, false, false, false, false, false, false]) rfl rfl (toTerm_fn x G2 xcells (small_tm x (by omega)) (hx.mono (hle1.trans hle2))) rfl rfl rfl (fun v3 G3 hle3 hh => ?_); obtain ⟨cells3, F3, rfl, hs3, hn3⟩ := hh; have hA := sReplaceAt_fn t l x G3 cells1 cells3 p2 c2 (by omega) (by omega) (hs1.R.mono ((Dif.le _ _).trans (hle2.trans hle3))) (hs3.R.mono (Dif.le _ _)) (hp2.mono ((Dif.le _ _).trans hle3)); rw [hrr] at hA)
                refine any_two (j := 6) (j' := 10) (by kernel_rfl) ?_ ?_
                · (refine one_imm (listed' := [true, true, true, true, true, true, true, false, false, false, false, false, false]) rfl rfl hA rfl rfl rfl (fun v4 G4 hle4 hh => ?_); obtain ⟨cells4, F4, rfl, hs4, hn4⟩ := hh; have hl4 := hs4.R.len; have ho4 := hs4.R.one)
                  refine any_pure (i := 7) (listed' := [true, true, true, true, true, true, true, true, false, false, false, false, false]) rfl (by repeat (first | exact np_ret | exact np_cut | apply np_seq | apply np_block | apply np_loopN')) (pure_move rfl) rfl (by kernel_rfl) rfl rfl ?_
                  refine any_pure (i := 8) (listed' := [true, true, true, true, true, true, true, true, true, false, false, false, false]) rfl (by repeat (first | exact np_ret | exact np_cut | apply np_seq | apply np_block | apply np_loopN')) (pure_extract rfl rfl) rfl (by kernel_rfl) rfl rfl ?_
                  refine any_pure (i := 9) (listed' := [true, true, true, true, true, true, true, true, true, true, false, false, false]) rfl (by repeat (first | exact np_ret | exact np_cut | apply np_seq | apply np_block | apply np_loopN')) (pure_extract rfl rfl) rfl (by kernel_rfl) rfl rfl ?_
                  refine any_one (j := 10) (by kernel_rfl) ?_
                  (refine one_step0 rfl (step_alloc rfl) rfl rfl ?_; rintro _ ⟨ba, rfl⟩)
                  refine any_one (j := 11) (by kernel_rfl) ?_
                  refine one_store rfl rfl rfl rfl hl4 ho4 rfl rfl (by kernel_rfl) (by repeat (first | exact Sw.here | apply Sw.there)) (by exact upd_all hl4.symm) ?_
                  refine any_pure (i := 12) (listed' := [true, true, true, true, true, true, true, true, true, true, true, true, true]) rfl (by repeat (first | exact np_ret | exact np_cut | apply np_seq | apply np_block | apply np_loopN')) (pure_assign rfl) rfl (by kernel_rfl) rfl rfl ?_
                  refine any_done (by kernel_rfl) ?_
                  refine nrm_cut (ba, cells4, F4, G3, G4) ?_ ?_
                  · (simp only [flat_snoc]; exact sub_mk (by repeat (first | exact SubE.nil | refine SubE.cons rfl ?_)) (by repeat (first | exact SubH.refl | exact SubH.nil | refine SubH.cons (by repeat (first | exact Pk.here | apply Pk.there)) ?_ | apply SubH.drop)))
                  · (dsimp only; exact ⟨hle1.trans (hle2.trans hle3), hle4, hs4, hn4⟩)
                · (refine one_step0 rfl (step_alloc rfl) rfl rfl ?_; rintro _ ⟨ba, rfl⟩)
                  refine any_one (j := 6) (by kernel_rfl) ?_
                  (refine one_imm (listed' := [true, true, true, true, true, true, true, false, false, false, true, false, false]) rfl rfl hA rfl rfl rfl (fun v4 G4 hle4 hh => ?_); obtain ⟨cells4, F4, rfl, hs4, hn4⟩ := hh; have hl4 := hs4.R.len; have ho4 := hs4.R.one)
                  refine any_pure (i := 7) (listed' := [true, true, true, true, true, true, true, true, false, false, true, false, false]) rfl (by repeat (first | exact np_ret | exact np_cut | apply np_seq | apply np_block | apply np_loopN')) (pure_move rfl) rfl (by kernel_rfl) rfl rfl ?_
                  refine any_pure (i := 8) (listed' := [true, true, true, true, true, true, true, true, true, false, true, false, false]) rfl (by repeat (first | exact np_ret | exact np_cut | apply np_seq | apply np_block | apply np_loopN')) (pure_extract rfl rfl) rfl (by kernel_rfl) rfl rfl ?_
                  refine any_pure (i := 9) (listed' := [true, true, true, true, true, true, true, true, true, true, true, false, false]) rfl (by repeat (first | exact np_ret | exact np_cut | apply np_seq | apply np_block | apply np_loopN')) (pure_extract rfl rfl) rfl (by kernel_rfl) rfl rfl ?_
                  refine any_one (j := 11) (by kernel_rfl) ?_
                  refine one_store rfl rfl rfl rfl hl4 ho4 rfl rfl (by kernel_rfl) (by repeat (first | exact Sw.here | apply Sw.there)) (by exact upd_all hl4.symm) ?_
                  refine any_pure (i := 12) (listed' := [true, true, true, true, true, true, true, true, true, true, true, true, true]) rfl (by repeat (first | exact np_ret | exact np_cut | apply np_seq | apply np_block | apply np_loopN')) (pure_assign rfl) rfl (by kernel_rfl) rfl rfl ?_
                  refine any_done (by kernel_rfl) ?_
                  refine nrm_cut (ba, cells4, F4, G3, G4) ?_ ?_
                  · (simp only [flat_snoc]; exact sub_mk (by repeat (first | exact SubE.nil | refine SubE.cons rfl ?_)) (by repeat (first | exact SubH.refl | exact SubH.nil | refine SubH.cons (by repeat (first | exact Pk.here | apply Pk.there)) ?_ | apply SubH.drop)))
                  · (dsimp only; exact ⟨hle1.trans (hle2.trans hle3), hle4, hs4, hn4⟩)
              · (refine one_step0 rfl (step_alloc rfl) rfl rfl ?_; rintro _ ⟨ba, rfl⟩)
                refine any_one (j := 5) (by kernel_rfl) ?_
                (refine one_imm (listed' := [true, true, true, true, true, true, false, false, false, false, true, false, false]) rfl rfl (toTerm_fn x G2 xcells (small_tm x (by omega)) (hx.mono (hle1.trans hle2))) rfl rfl rfl (fun v3 G3 hle3 hh => ?_); obtain ⟨cells3, F3, rfl, hs3, hn3⟩ := hh; have hA := sReplaceAt_fn t l x G3 cells1 cells3 p2 c2 (by omega) (by omega) (hs1.R.mono ((Dif.le _ _).trans (hle2.trans hle3))) (hs3.R.mono (Dif.le _ _)) (hp2.mono ((Dif.le _ _).trans hle3)); rw [hrr] at hA)
                refine any_one (j := 6) (by kernel_rfl) ?_
                (refine one_imm (listed' := [true, true, true, true, true, true, true, false, false, false, true, false, false]) rfl rfl hA rfl rfl rfl (fun v4 G4 hle4 hh => ?_); obtain ⟨cells4, F4, rfl, hs4, hn4⟩ := hh; have hl4 := hs4.R.len; have ho4 := hs4.R.one)
                refine any_pure (i := 7) (listed' := [true, true, true, true, true, true, true, true, false, false, true, false, false]) rfl (by repeat (first | exact np_ret | exact np_cut | apply np_seq | apply np_block | apply np_loopN')) (pure_move rfl) rfl (by kernel_rfl) rfl rfl ?_
                refine any_pure (i := 8) (listed' := [true, true, true, true, true, true, true, true, true, false, true, false, false]) rfl (by repeat (first | exact np_ret | exact np_cut | apply np_seq | apply np_block | apply np_loopN')) (pure_extract rfl rfl) rfl (by kernel_rfl) rfl rfl ?_
                refine any_pure (i := 9) (listed' := [true, true, true, true, true, true, true, true, true, true, true, false, false]) rfl (by repeat (first | exact np_ret | exact np_cut | apply np_seq | apply np_block | apply np_loopN')) (pure_extract rfl rfl) rfl (by kernel_rfl) rfl rfl ?_
                refine any_one (j := 11) (by kernel_rfl) ?_
                refine one_store rfl rfl rfl rfl hl4 ho4 rfl rfl (by kernel_rfl) (by repeat (first | exact Sw.here | apply Sw.there)) (by exact upd_all hl4.symm) ?_
                refine any_pure (i := 12) (listed' := [true, true, true, true, true, true, true, true, true, true, true, true, true]) rfl (by repeat (first | exact np_ret | exact np_cut | apply np_seq | apply np_block | apply np_loopN')) (pure_assign rfl) rfl (by kernel_rfl) rfl rfl ?_
                refine any_done (by kernel_rfl) ?_
                refine nrm_cut (ba, cells4, F4, G3, G4) ?_ ?_
                · (simp only [flat_snoc]; exact sub_mk (by repeat (first | exact SubE.nil | refine SubE.cons rfl ?_)) (by repeat (first | exact SubH.refl | exact SubH.nil | refine SubH.cons (by repeat (first | exact Pk.here | apply Pk.there)) ?_ | apply SubH.drop)))
                · (dsimp only; exact ⟨hle1.trans (hle2.trans hle3), hle4, hs4, hn4⟩)
            · (refine one_step0 rfl (step_alloc rfl) rfl rfl ?_; rintro _ ⟨ba, rfl⟩)
              refine any_one (j := 3) (by kernel_rfl) ?_
              (refine one_imm (listed' := [true, true, true, true, true, false, false, false, false, false, true, false, false]) rfl rfl (toIntS_fn l G1 pp pc (hp.mono hle1) (by omega)) rfl rfl rfl (fun v2 G2 hle2 hh => ?_); obtain ⟨p2, c2, rfl, hp2, hb2⟩ := hh)
              refine any_one (j := 5) (by kernel_rfl) ?_
              (refine one_imm (listed' := [true, true, true, true, true, true, false, false, false, false, true, false, false]) rfl rfl (toTerm_fn x G2 xcells (small_tm x (by omega)) (hx.mono (hle1.trans hle2))) rfl rfl rfl (fun v3 G3 hle3 hh => ?_); obtain ⟨cells3, F3, rfl, hs3, hn3⟩ := hh; have hA := sReplaceAt_fn t l x G3 cells1 cells3 p2 c2 (by omega) (by omega) (hs1.R.mono ((Dif.le _ _).trans (hle2.trans hle3))) (hs3.R.mono (Dif.le _ _)) (hp2.mono ((Dif.le _ _).trans hle3)); rw [hrr] at hA)
              refine any_one (j := 6) (by kernel_rfl) ?_
              (refine one_imm (listed' := [true, true, true, true, true, true, true, false, false, false, true, false, false]) rfl rfl hA rfl rfl rfl (fun v4 G4 hle4 hh => ?_); obtain ⟨cells4, F4, rfl, hs4, hn4⟩ := hh; have hl4 := hs4.R.len; have ho4 := hs4.R.one)
              refine any_pure (i := 7) (listed' := [true, true, true, true, true, true, true, true, false, false, true, false, false]) rfl (by repeat (first | exact np_ret | exact np_cut | apply np_seq | apply np_block | apply np_loopN')) (pure_move rfl) rfl (by kernel_rfl) rfl rfl ?_
              refine any_pure (i := 8) (listed' := [true, true, true, true, true, true, true, true, true, false, true, false, false]) rfl (by repeat (first | exact np_ret | exact np_cut | apply np_seq | apply np_block | apply np_loopN')) (pure_extract rfl rfl) rfl (by kernel_rfl) rfl rfl ?_
              refine any_pure (i := 9) (listed' := [true, true, true, true, true, true, true, true, true, true, true, false, false]) rfl (by repeat (first | exact np_ret | exact np_cut | apply np_seq | apply np_block | apply np_loopN')) (pure_extract rfl rfl) rfl (by kernel_rfl) rfl rfl ?_
              refine any_one (j := 11) (by kernel_rfl) ?_
              refine one_store rfl rfl rfl rfl hl4 ho4 rfl rfl (by kernel_rfl) (by repeat (first | exact Sw.here | apply Sw.there)) (by exact upd_all hl4.symm) ?_
              refine any_pure (i := 12) (listed' := [true, true, true, true, true, true, true, true, true, true, true, true, true]) rfl (by repeat (first | exact np_ret | exact np_cut | apply np_seq | apply np_block | apply np_loopN')) (pure_assign rfl) rfl (by kernel_rfl) rfl rfl ?_
              refine any_done (by kernel_rfl) ?_
              refine nrm_cut (ba, cells4, F4, G3, G4) ?_ ?_
              · (simp only [flat_snoc]; exact sub_mk (by repeat (first | exact SubE.nil | refine SubE.cons rfl ?_)) (by repeat (first | exact SubH.refl | exact SubH.nil | refine SubH.cons (by repeat (first | exact Pk.here | apply Pk.there)) ?_ | apply SubH.drop)))
              · (dsimp only; exact ⟨hle1.trans (hle2.trans hle3), hle4, hs4, hn4⟩)
          · (refine one_step0 rfl (step_alloc rfl) rfl rfl ?_; rintro _ ⟨ba, rfl⟩)
            refine any_one (j := 1) (by kernel_rfl) ?_
            (refine one_imm (listed' := [true, true, true, false, true, false, false, false, false, false, true, false, false]) rfl rfl (toTerm_fn t G cells (small_tm t (by omega)) hr) rfl rfl rfl (fun v1 G1 hle1 hh => ?_); obtain ⟨cells1, F1, rfl, hs1, hn1⟩ := hh)
            refine any_one (j := 3) (by kernel_rfl) ?_
            (refine one_imm (listed' := [true, true, true, true, true, false, false, false, false, false, true, false, false]) rfl rfl (toIntS_fn l G1 pp pc (hp.mono hle1) (by omega)) rfl rfl rfl (fun v2 G2 hle2 hh => ?_); obtain ⟨p2, c2, rfl, hp2, hb2⟩ := hh)
            refine any_one (j := 5) (by kernel_rfl) ?_
            (refine one_imm (listed' := [true, true, true, true, true, true, false, false, false, false, true, false, false]) rfl rfl (toTerm_fn x G2 xcells (small_tm x (by omega)) (hx.mono (hle1.trans hle2))) rfl rfl rfl (fun v3 G3 hle3 hh => ?_); obtain ⟨cells3, F3, rfl, hs3, hn3⟩ := hh; have hA := sReplaceAt_fn t l x G3 cells1 cells3 p2 c2 (by omega) (by omega) (hs1.R.mono ((Dif.le _ _).trans (hle2.trans hle3))) (hs3.R.mono (Dif.le _ _)) (hp2.mono ((Dif.le _ _).trans hle3)); rw [hrr] at hA)
            refine any_one (j := 6) (by kernel_rfl) ?_
            (refine one_imm (listed' := [true, true, true, true, true, true, true, false, false, false, true, false, false]) rfl rfl hA rfl rfl rfl (fun v4 G4 hle4 hh => ?_); obtain ⟨cells4, F4, rfl, hs4, hn4⟩ := hh; have hl4 := hs4.R.len; have ho4 := hs4.R.one)
            refine any_pure (i := 7) (listed' := [true, true, true, true, true, true, true, true, false, false, true, false, false]) rfl (by repeat (first | exact np_ret | exact np_cut | apply np_seq | apply np_block | apply np_loopN')) (pure_move rfl) rfl (by kernel_rfl) rfl rfl ?_
            refine any_pure (i := 8) (listed' := [true, true, true, true, true, true, true, true, true, false, true, false, false]) rfl (by repeat (first | exact np_ret | exact np_cut | apply np_seq | apply np_block | apply np_loopN')) (pure_extract rfl rfl) rfl (by kernel_rfl) rfl rfl ?_
            refine any_pure (i := 9) (listed' := [true, true, true, true, true, true, true, true, true, true, true, false, false]) rfl (by repeat (first | exact np_ret | exact np_cut | apply np_seq | apply np_block | apply np_loopN')) (pure_extract rfl rfl) rfl (by kernel_rfl) rfl rfl ?_
            refine any_one (j := 11) (by kernel_rfl) ?_
            refine one_store rfl rfl rfl rfl hl4 ho4 rfl rfl (by kernel_rfl) (by repeat (first | exact Sw.here | apply Sw.there)) (by exact upd_all hl4.symm) ?_
            refine any_pure (i := 12) (listed' := [true, true, true, true, true, true, true, true, true, true, true, true, true]) rfl (by repeat (first | exact np_ret | exact np_cut | apply np_seq | apply np_block | apply np_loopN')) (pure_assign rfl) rfl (by kernel_rfl) rfl rfl ?_
            refine any_done (by kernel_rfl) ?_
            refine nrm_cut (ba, cells4, F4, G3, G4) ?_ ?_
            · (simp only [flat_snoc]; exact sub_mk (by repeat (first | exact SubE.nil | refine SubE.cons rfl ?_)) (by repeat (first | exact SubH.refl | exact SubH.nil | refine SubH.cons (by repeat (first | exact Pk.here | apply Pk.there)) ?_ | apply SubH.drop)))
            · (dsimp only; exact ⟨hle1.trans (hle2.trans hle3), hle4, hs4, hn4⟩)
        · (rintro ⟨b8, cells8, F8, H1, H2⟩ ⟨h01, h12, hs8, hn8⟩; simp only [] at h01 h12 hs8 hn8 ⊢; have hl8 := hs8.R.len; have ho8 := hs8.R.one; have h02 := h01.trans h12)
          refine tri_seq ?_
          refine tri_region ?_
          refine seq_load (load_a rfl rfl (at_blk_all (by repeat (first | exact List.Mem.head _ | apply List.Mem.tail))) (by assumption)) rfl rfl ?_
          (refine seq_imm rfl (toTerm_fn t H2 cells (small_tm t (by omega)) (hr.mono h02)) rfl rfl (fun u3 H3 hle3 hh => ?_); obtain ⟨cells3, F3, rfl, hs3, hn3⟩ := hh; have hl3 := hs3.R.len; have ho3 := hs3.R.one; have h03 := h02.trans hle3)
          (refine seq_step (step_alloc rfl) rfl ?_; rintro _ ⟨b166, rfl⟩)
          refine seq_store rfl rfl rfl hl3 ho3 rfl (by repeat (first | exact Sw.here | apply Sw.there)) (by exact upd_all hl3.symm) ?_
          refine seq_done ?_
          refine nrm_seq ?_
          refine tri_seq ?_
          refine tri_region ?_
          refine seq_pure (pure_move rfl) rfl rfl ?_
          (refine seq_imm rfl (toIntS_fn l H3 pp pc (hp.mono h03) (by omega)) rfl rfl (fun u4 H4 hle4 hh => ?_); obtain ⟨p4, c4, rfl, hp4, hb4⟩ := hh; have h04 := h03.trans hle4)
          refine seq_pure (pure_assign rfl) rfl rfl ?_
          refine seq_done ?_
          refine nrm_seq ?_
          refine tri_seq ?_
          refine tri_region ?_
          refine seq_load (load_a rfl rfl (at_blk_all (by repeat (first | exact List.Mem.head _ | apply List.Mem.tail))) (by assumption)) rfl rfl ?_
          (refine seq_imm rfl (toTerm_fn x H4 xcells (small_tm x (by omega)) (hx.mono h04)) rfl rfl (fun u5 H5 hle5 hh => ?_); obtain ⟨cells5, F5, rfl, hs5, hn5⟩ := hh; have hl5 := hs5.R.len; have ho5 := hs5.R.one; have h05 := h04.trans hle5; have hI := replaceAt_fn t l x H5 cells3 cells5 p4 c4 (small_tm t (by omega)) (small_tm x (by omega)) (hs3.R.mono ((Dif.le _ _).trans (hle4.trans hle5))) (hs5.R.mono (Dif.le _ _)) (hp4.mono ((Dif.le _ _).trans hle5)); rw [hrr] at hI)
          (refine seq_step (step_alloc rfl) rfl ?_; rintro _ ⟨b181, rfl⟩)
          refine seq_store rfl rfl rfl hl5 ho5 rfl (by repeat (first | exact Sw.here | apply Sw.there)) (by exact upd_all hl5.symm) ?_
          refine seq_done ?_
          refine nrm_seq ?_
          refine tri_seq ?_
          refine tri_region ?_
          refine seq_load (load_a rfl rfl (at_blk_all (by repeat (first | exact List.Mem.head _ | apply List.Mem.tail))) (by assumption)) rfl rfl ?_
          refine seq_pure (pure_move rfl) rfl rfl ?_
          refine seq_load (load_a rfl rfl (at_blk_all (by repeat (first | exact List.Mem.head _ | apply List.Mem.tail))) (by assumption)) rfl rfl ?_
          (refine seq_imm rfl hI rfl rfl (fun u6 H6 hle6 hh => ?_); obtain ⟨cells6, F6, rfl, hs6, hn6⟩ := hh; have hl6 := hs6.R.len; have ho6 := hs6.R.one; have h06 := h05.trans hle6; have h26 := hle3.trans (hle4.trans (hle5.trans hle6)))
          refine seq_pure (pure_move rfl) rfl rfl ?_
          refine seq_pure (pure_extract rfl rfl) rfl rfl ?_
          refine seq_pure (pure_extract rfl rfl) rfl rfl ?_
          (have hIuse := hs6; refine seq_step (step_alloc rfl) rfl ?_; rintro _ ⟨b13, rfl⟩)
          refine seq_store rfl rfl rfl hl6 ho6 rfl (by repeat (first | exact Sw.here | apply Sw.there)) (by exact upd_all hl6.symm) ?_
          refine seq_pure (pure_assign rfl) rfl rfl ?_
          refine seq_done ?_
          refine nrm_seq ?_
          refine tri_seq ?_
          refine tri_seq ?_
          refine tri_region ?_
          refine seq_load (load_a rfl rfl (at_blk_all (by repeat (first | exact List.Mem.head _ | apply List.Mem.tail))) (by assumption)) rfl rfl ?_
          refine seq_load (load_a rfl rfl (at_blk_all (by repeat (first | exact List.Mem.head _ | apply List.Mem.tail))) (by assumption)) rfl rfl ?_
          refine seq_val rfl (eqTerm_fn r.1 H6 cells6 cells8 (hs6.R.mono (Dif.le _ _)) (hs8.R.mono ((Dif.le H2 H1).trans h26))) rfl rfl ?_
          refine seq_pure (pure_not_t rfl) rfl rfl ?_
          refine seq_pure (pure_move rfl) rfl rfl ?_
          refine seq_pure (pure_move rfl) rfl rfl ?_
          refine seq_pure (pure_move rfl) rfl rfl ?_
          refine seq_pure (pure_bneq_s rfl rfl rfl) rfl rfl ?_
          refine seq_pure (pure_pick_f rfl rfl) rfl rfl ?_
          refine seq_done ?_
          refine nrm_seq ?_
          refine tri_cond_f rfl ?_
          refine tri_skip ?_
          refine nrm_seq ?_
          refine tri_seq ?_
          refine tri_seq ?_
          refine tri_draw mixed rfl ?_
          refine any_load (i := 0) (listed' := [true, false, false, false, false]) rfl (by repeat (first | exact np_ret | exact np_cut | apply np_seq | apply np_block | apply np_loopN')) (load_a rfl rfl (at_blk_all (by repeat (first | exact List.Mem.head _ | apply List.Mem.tail))) (by assumption)) rfl (by kernel_rfl) rfl rfl ?_
          refine any_load (i := 1) (listed' := [true, true, false, false, false]) rfl (by repeat (first | exact np_ret | exact np_cut | apply np_seq | apply np_block | apply np_loopN')) (load_a rfl rfl (at_blk_all (by repeat (first | exact List.Mem.head _ | apply List.Mem.tail))) (by assumption)) rfl (by kernel_rfl) rfl rfl ?_
          refine any_one (j := 2) (by kernel_rfl) ?_
          (refine one_imm (listed' := [true, true, true, false, false]) rfl rfl (toTerm_fn t H6 cells (small_tm t (by omega)) (hr.mono h06)) rfl rfl rfl (fun u7 H7 hle7 hh => ?_); obtain ⟨cells7, F7, rfl, hs7, hn7⟩ := hh)
          refine any_one (j := 3) (by kernel_rfl) ?_
          refine one_val (listed' := [true, true, true, true, false]) rfl rfl (eqTerm_fn t H7 cells3 cells7 (hs3.R.mono ((Dif.le H3 H2).trans (hle4.trans (hle5.trans (hle6.trans hle7))))) (hs7.R.mono (Dif.le _ _))) rfl rfl rfl ?_
          refine any_pure (i := 4) (listed' := [true, true, true, true, true]) rfl (by repeat (first | exact np_ret | exact np_cut | apply np_seq | apply np_block | apply np_loopN')) (pure_not_t rfl) rfl (by kernel_rfl) rfl rfl ?_
          refine any_done (by kernel_rfl) ?_
          refine nrm_seq ?_
          refine tri_cond_f rfl ?_
          refine tri_skip ?_
          refine nrm_seq ?_
          refine tri_seq ?_
          refine tri_seq ?_
          refine tri_region ?_
          refine seq_pure (pure_move rfl) rfl rfl ?_
          refine seq_pure (pure_move rfl) rfl rfl ?_
          (refine seq_imm rfl (toIntS_fn l H7 pp pc (hp.mono (h06.trans hle7)) (by omega)) rfl rfl (fun v8 H8 hle8 hh => ?_); obtain ⟨p8, c8, rfl, hp8, hb8⟩ := hh)
          refine seq_val rfl (eqIntS_fn l H8 p4 p8 c4 c8 (hp4.mono ((Dif.le H4 H3).trans (hle5.trans (hle6.trans (hle7.trans hle8))))) (hp8.mono (Dif.le _ _))) rfl rfl ?_
          refine seq_pure (pure_not_t rfl) rfl rfl ?_
          refine seq_done ?_
          refine nrm_seq ?_
          refine tri_cond_f rfl ?_
          refine tri_skip ?_
          refine nrm_seq ?_
          refine tri_seq ?_
          refine tri_seq ?_
          refine tri_draw mixed rfl ?_
          refine any_load (i := 0) (listed' := [true, false, false, false, false]) rfl (by repeat (first | exact np_ret | exact np_cut | apply np_seq | apply np_block | apply np_loopN')) (load_a rfl rfl (at_blk_all (by repeat (first | exact List.Mem.head _ | apply List.Mem.tail))) (by assumption)) rfl (by kernel_rfl) rfl rfl ?_
          refine any_load (i := 1) (listed' := [true, true, false, false, false]) rfl (by repeat (first | exact np_ret | exact np_cut | apply np_seq | apply np_block | apply np_loopN')) (load_a rfl rfl (at_blk_all (by repeat (first | exact List.Mem.head _ | apply List.Mem.tail))) (by assumption)) rfl (by kernel_rfl) rfl rfl ?_
          refine any_one (j := 2) (by kernel_rfl) ?_
          (refine one_imm (listed' := [true, true, true, false, false]) rfl rfl (toTerm_fn x H8 xcells (small_tm x (by omega)) (hx.mono (h06.trans (hle7.trans hle8)))) rfl rfl rfl (fun u9 H9 hle9 hh => ?_); obtain ⟨cells9, F9, rfl, hs9, hn9⟩ := hh; have h69 := hle7.trans (hle8.trans hle9))
          refine any_one (j := 3) (by kernel_rfl) ?_
          refine one_val (listed' := [true, true, true, true, false]) rfl rfl (eqTerm_fn x H9 cells5 cells9 (hs5.R.mono ((Dif.le H5 H4).trans (hle6.trans h69))) (hs9.R.mono (Dif.le _ _))) rfl rfl rfl ?_
          refine any_pure (i := 4) (listed' := [true, true, true, true, true]) rfl (by repeat (first | exact np_ret | exact np_cut | apply np_seq | apply np_block | apply np_loopN')) (pure_not_t rfl) rfl (by kernel_rfl) rfl rfl ?_
          refine any_done (by kernel_rfl) ?_
          refine nrm_seq ?_
          refine tri_cond_f rfl ?_
          refine tri_skip ?_
          refine nrm_seq ?_
          refine tri_seq ?_
          refine tri_region ?_
          refine seq_pure (pure_assign rfl) rfl rfl ?_
          refine seq_done ?_
          refine nrm_seq ?_
          refine tri_seq ?_
          refine tri_region ?_
          refine seq_load (load_a rfl rfl (at_blk_all (by repeat (first | exact List.Mem.head _ | apply List.Mem.tail))) (by assumption)) rfl rfl ?_
          refine seq_pure (pure_move rfl) rfl rfl ?_
          (obtain ⟨bs3, ob3, ib3⟩ := hs3.blks; obtain ⟨nb3, gb3, kb3⟩ := thaw_hyp (Gc := H9) ib3 hn3 h02 ((Dif.le H3 H2).trans (hle4.trans (hle5.trans (hle6.trans h69)))); refine seq_lend_x nb3 gb3 rfl (markTerm_fn t 1 _ cells3 bs3 ob3 (by omega) (by omega)) rfl rfl ?_; have m21 : IMle (Dif H2 H1) (Wo H9 (bs3.map Prod.fst)) := Wo.keep ((Dif.le H2 H1).trans (h26.trans h69)) (fun b hb => none_le (Dif.le H2 H1) (kb3 b hb).1); have m43 : IMle (Dif H4 H3) (Wo H9 (bs3.map Prod.fst)) := Wo.keep ((Dif.le H4 H3).trans (hle5.trans (hle6.trans h69))) (fun b hb => dif_none (kb3 b hb).2); have m54 : IMle (Dif H5 H4) (Wo H9 (bs3.map Prod.fst)) := Wo.keep ((Dif.le H5 H4).trans (hle6.trans h69)) (fun b hb => dif_none (fun h => (kb3 b hb).2 (none_le hle4 h))); have m65 : IMle (Dif H6 H5) (Wo H9 (bs3.map Prod.fst)) := Wo.keep ((Dif.le H6 H5).trans h69) (fun b hb => dif_none (fun h => (kb3 b hb).2 (none_le (hle4.trans hle5) h))); have m0 : IMle G (Wo H9 (bs3.map Prod.fst)) := Wo.keep (h06.trans h69) (fun b hb => none_le h02 (kb3 b hb).1); generalize Wo H9 (bs3.map Prod.fst) = H10 at *)
          refine seq_pure (pure_assign rfl) rfl rfl ?_
          refine seq_done ?_
          refine nrm_seq ?_
          refine tri_seq ?_
          refine tri_region ?_
          refine seq_pure (pure_move rfl) rfl rfl ?_
          refine seq_pure (pure_move rfl) rfl rfl ?_
          (obtain ⟨bs4, ob4, ib4⟩ := SP1.blks (G := Dif H4 H3) ⟨hp4, hb4⟩; obtain ⟨nb4, gb4, kb4⟩ := thaw_hyp (Gc := H10) ib4 (vfp_nodup p4) h03 m43; refine seq_lend_x nb4 gb4 rfl (markIntS_fn l _ _ p4 c4 bs4 ob4 (by omega) (by omega)) rfl rfl ?_; replace m21 : IMle (Dif H2 H1) (Wo H10 (bs4.map Prod.fst)) := Wo.keep m21 (fun b hb => none_le ((Dif.le H2 H1).trans hle3) (kb4 b hb).1); replace m54 : IMle (Dif H5 H4) (Wo H10 (bs4.map Prod.fst)) := Wo.keep m54 (fun b hb => dif_none (kb4 b hb).2); replace m65 : IMle (Dif H6 H5) (Wo H10 (bs4.map Prod.fst)) := Wo.keep m65 (fun b hb => dif_none (fun h => (kb4 b hb).2 (none_le hle5 h))); replace m0 : IMle G (Wo H10 (bs4.map Prod.fst)) := Wo.keep m0 (fun b hb => none_le h03 (kb4 b hb).1); generalize Wo H10 (bs4.map Prod.fst) = H11 at *)
          refine seq_pure (pure_assign rfl) rfl rfl ?_
          refine seq_done ?_
          refine nrm_seq ?_
          refine tri_seq ?_
          refine tri_region ?_
          refine seq_load (load_a rfl rfl (at_blk_all (by repeat (first | exact List.Mem.head _ | apply List.Mem.tail))) (by assumption)) rfl rfl ?_
          refine seq_pure (pure_move rfl) rfl rfl ?_
          (obtain ⟨bs5, ob5, ib5⟩ := hs5.blks; obtain ⟨nb5, gb5, kb5⟩ := thaw_hyp (Gc := H11) ib5 hn5 h04 m54; refine seq_lend_x nb5 gb5 rfl (markTerm_fn x _ _ cells5 bs5 ob5 (by omega) (by omega)) rfl rfl ?_; replace m21 : IMle (Dif H2 H1) (Wo H11 (bs5.map Prod.fst)) := Wo.keep m21 (fun b hb => none_le ((Dif.le H2 H1).trans (hle3.trans hle4)) (kb5 b hb).1); replace m65 : IMle (Dif H6 H5) (Wo H11 (bs5.map Prod.fst)) := Wo.keep m65 (fun b hb => dif_none (kb5 b hb).2); replace m0 : IMle G (Wo H11 (bs5.map Prod.fst)) := Wo.keep m0 (fun b hb => none_le h04 (kb5 b hb).1); generalize Wo H11 (bs5.map Prod.fst) = H12 at *)
          refine seq_pure (pure_assign rfl) rfl rfl ?_
          refine seq_done ?_
          refine nrm_seq ?_
          refine tri_seq ?_
          refine tri_seq ?_
          refine tri_region ?_
          refine seq_pure (pure_move rfl) rfl rfl ?_
          refine seq_pure (pure_lss_f rfl rfl (by omega)) rfl rfl ?_
          refine seq_pure (pure_move rfl) rfl rfl ?_
          refine seq_load (load_a rfl rfl (at_blk_all (by repeat (first | exact List.Mem.head _ | apply List.Mem.tail))) (by assumption)) rfl rfl ?_
          refine seq_load (load_a rfl rfl (at_blk_all (by repeat (first | exact List.Mem.head _ | apply List.Mem.tail))) (by assumption)) rfl rfl ?_
          refine seq_val rfl (eqTerm_fn r.1 H12 cells6 cells8 (hs6.R.mono m65) (hs8.R.mono m21)) rfl rfl ?_
          refine seq_pure (pure_not_t rfl) rfl rfl ?_
          refine seq_pure (pure_pick_f rfl rfl) rfl rfl ?_
          refine seq_pure (pure_move rfl) rfl rfl ?_
          refine seq_pure (pure_move rfl) rfl rfl ?_
          refine seq_pure (pure_move rfl) rfl rfl ?_
          refine seq_pure (pure_bneq_s rfl rfl rfl) rfl rfl ?_
          refine seq_pure (pure_pick_f rfl rfl) rfl rfl ?_
          refine seq_done ?_
          refine nrm_seq ?_
          refine tri_cond_f rfl ?_
          refine tri_skip ?_
          refine nrm_seq ?_
          refine tri_seq ?_
          refine tri_region ?_
          refine seq_pure (pure_assign rfl) rfl rfl ?_
          refine seq_done ?_
          refine nrm_seq ?_
          refine tri_seq ?_
          refine tri_region ?_
          refine seq_load (load_a rfl rfl (at_blk_all (by repeat (first | exact List.Mem.head _ | apply List.Mem.tail))) (by assumption)) rfl rfl ?_
          refine seq_pure (pure_move rfl) rfl rfl ?_
          (obtain ⟨bs6, ob6, ib6⟩ := hs6.blks; obtain ⟨nb6, gb6, kb6⟩ := thaw_hyp (Gc := H12) ib6 hn6 h05 m65; refine seq_lend_f nb6 gb6 rfl (markTerm_fn r.1 1 _ cells6 bs6 ob6 (by omega) (by omega)) rfl rfl (fun bs7 H13 hb7 hle13 hg7 => ?_); have n21 : IMle (Dif H2 H1) H13 := (Wo.keep m21 (fun b hb => none_le ((Dif.le H2 H1).trans (hle3.trans (hle4.trans hle5))) (kb6 b hb).1)).trans hle13; have n0 : IMle G H13 := (Wo.keep m0 (fun b hb => none_le h05 (kb6 b hb).1)).trans hle13; have hH := hb7.h hg7; have hr13 := hr.mono n0; have hx13 := hx.mono n0; have hp13 := hp.mono n0)
          refine seq_pure (pure_assign rfl) rfl rfl ?_
          refine seq_done ?_
          refine nrm_seq ?_
          refine tri_seq ?_
          refine tri_region ?_
          refine seq_pure (pure_assign rfl) rfl rfl ?_
          refine seq_done ?_
          refine nrm_seq ?_
          refine tri_seq ?_
          refine tri_region ?_
          refine seq_load (load_a rfl rfl (at_blk_all (by repeat (first | exact List.Mem.head _ | apply List.Mem.tail))) (by assumption)) rfl rfl ?_
          refine seq_pure (pure_move rfl) rfl rfl ?_
          refine seq_val rfl (heldTerm_fn r.1 1 H13 cells6 hH (by omega) (by omega)) rfl rfl ?_
          refine seq_pure (pure_assign rfl) rfl rfl ?_
          refine seq_done ?_
          refine nrm_seq ?_
          refine tri_seq ?_
          refine tri_seq ?_
          refine tri_region ?_
          refine seq_pure (pure_move rfl) rfl rfl ?_
          refine seq_pure (pure_lss_f rfl rfl (by omega)) rfl rfl ?_
          refine seq_done ?_
          refine nrm_seq ?_
          refine tri_cond_f rfl ?_
          refine tri_skip ?_
          refine nrm_seq ?_
          refine tri_seq ?_
          refine tri_seq ?_
          refine tri_region ?_
          refine seq_pure (pure_move rfl) rfl rfl ?_
          refine seq_pure (pure_move rfl) rfl rfl ?_
          refine seq_pure (pure_neq_f rfl rfl (by omega)) rfl rfl ?_
          refine seq_done ?_
          refine nrm_seq ?_
          refine tri_cond_f rfl ?_
          refine tri_skip ?_
          refine nrm_seq ?_
          refine tri_seq ?_
          (have hHH := hH; refine tri_cut (fun (z : Nat × List Value × List Nat × IM × IM) => ⟨[(18, .pointer (some ⟨z.1, 0, none⟩)), (19, .bool r.2), (3, .pointer (some ⟨b3, 0, none⟩)), (5, .pointer (some ⟨b4, 0, none⟩)), (1, .slice pp l.length pc), (8, .pointer (some ⟨b8, 0, none⟩)), (9, .bool r.2), (13, .pointer (some ⟨b13, 0, none⟩)), (16, .int .i64 (1 + cntTyL r.1.ty.ks + cntTyL r.1.fr.ks + cntTmL r.1.ks))], [.blk z.1 z.2.1, .blk b13 cells6, .blk b8 cells8, .blk b4 xcells, .blk b3 cells], z.2.2.2.2⟩) (fun z => IMle H13 z.2.2.2.1 ∧ IMle z.2.2.2.1 z.2.2.2.2 ∧ STm (Dif z.2.2.2.2 z.2.2.2.1) r.1 z.2.1 z.2.2.1 ∧ z.2.2.1.Nodup) (tri_draw (n := 13) mixed rfl ?_) ?_)
          · refine any_load (i := 0) (listed' := [true, false, false, false, false, false, false, false, false, false, false, false, false]) rfl (by repeat (first | exact np_ret | exact np_cut | apply np_seq | apply np_block | apply np_loopN')) (load_a rfl rfl (at_blk_all (by repeat (first | exact List.Mem.head _ | apply List.Mem.tail))) (by assumption)) rfl (by kernel_rfl) rfl rfl ?_
            refine any_pure (i := 2) (listed' := [true, false, true, false, false, false, false, false, false, false, false, false, false]) rfl (by repeat (first | exact np_ret | exact np_cut | apply np_seq | apply np_block | apply np_loopN')) (pure_move rfl) rfl (by kernel_rfl) rfl rfl ?_
            refine any_load (i := 4) (listed' := [true, false, true, false, true, false, false, false, false, false, false, false, false]) rfl (by repeat (first | exact np_ret | exact np_cut | apply np_seq | apply np_block | apply np_loopN')) (load_a rfl rfl (at_blk_all (by repeat (first | exact List.Mem.head _ | apply List.Mem.tail))) (by assumption)) rfl (by kernel_rfl) rfl rfl ?_
            refine any_two (j := 1) (j' := 10) (by kernel_rfl) ?_ ?_
            · (refine one_imm (listed' := [true, true, true, false, true, false, false, false, false, false, false, false, false]) rfl rfl (toTerm_fn t H13 cells (small_tm t (by omega)) hr13) rfl rfl rfl (fun w1 J1 hj1 hh => ?_); obtain ⟨cells14, F14, rfl, hs14, hn14⟩ := hh)
              refine any_two (j := 3) (j' := 10) (by kernel_rfl) ?_ ?_
              · (refine one_imm (listed' := [true, true, true, true, true, false, false, false, false, false, false, false, false]) rfl rfl (toIntS_fn l J1 pp pc (hp13.mono hj1) (by omega)) rfl rfl rfl (fun w2 J2 hj2 hh => ?_); obtain ⟨p15, c15, rfl, hp15, hb15⟩ := hh)
                refine any_two (j := 5) (j' := 10) (by kernel_rfl) ?_ ?_
                · (refine one_imm (listed' := [true, true, true, true, true, true, false, false, false, false, false, false, false]) rfl rfl (toTerm_fn x J2 xcells (small_tm x (by omega)) (hx13.mono (hj1.trans hj2))) rfl rfl rfl (fun w3 J3 hj3 hh => ?_); obtain ⟨cells16, F16, rfl, hs16, hn16⟩ := hh; have hI2 := replaceAt_fn t l x J3 cells14 cells16 p15 c15 (small_tm t (by omega)) (small_tm x (by omega)) (hs14.R.mono ((Dif.le _ _).trans (hj2.trans hj3))) (hs16.R.mono (Dif.le _ _)) (hp15.mono ((Dif.le _ _).trans hj3)); rw [hrr] at hI2)
                  refine any_two (j := 6) (j' := 10) (by kernel_rfl) ?_ ?_
                  · (refine one_imm (listed' := [true, true, true, true, true, true, true, false, false, false, false, false, false]) rfl rfl hI2 rfl rfl rfl (fun w4 J4 hj4 hh => ?_); obtain ⟨cells17, F17, rfl, hs17, hn17⟩ := hh; have hl17 := hs17.R.len; have ho17 := hs17.R.one)
                    refine any_pure (i := 7) (listed' := [true, true, true, true, true, true, true, true, false, false, false, false, false]) rfl (by repeat (first | exact np_ret | exact np_cut | apply np_seq | apply np_block | apply np_loopN')) (pure_move rfl) rfl (by kernel_rfl) rfl rfl ?_
                    refine any_pure (i := 8) (listed' := [true, true, true, true, true, true, true, true, true, false, false, false, false]) rfl (by repeat (first | exact np_ret | exact np_cut | apply np_seq | apply np_block | apply np_loopN')) (pure_extract rfl rfl) rfl (by kernel_rfl) rfl rfl ?_
                    refine any_pure (i := 9) (listed' := [true, true, true, true, true, true, true, true, true, true, false, false, false]) rfl (by repeat (first | exact np_ret | exact np_cut | apply np_seq | apply np_block | apply np_loopN')) (pure_extract rfl rfl) rfl (by kernel_rfl) rfl rfl ?_
                    refine any_one (j := 10) (by kernel_rfl) ?_
                    (refine one_step0 rfl (step_alloc rfl) rfl rfl ?_; rintro _ ⟨ba, rfl⟩)
                    refine any_one (j := 11) (by kernel_rfl) ?_
                    refine one_store rfl rfl rfl rfl hl17 ho17 rfl rfl (by kernel_rfl) (by repeat (first | exact Sw.here | apply Sw.there)) (by exact upd_all hl17.symm) ?_
                    refine any_pure (i := 12) (listed' := [true, true, true, true, true, true, true, true, true, true, true, true, true]) rfl (by repeat (first | exact np_ret | exact np_cut | apply np_seq | apply np_block | apply np_loopN')) (pure_assign rfl) rfl (by kernel_rfl) rfl rfl ?_
                    refine any_done (by kernel_rfl) ?_
                    refine nrm_cut (ba, cells17, F17, J3, J4) ?_ ?_
                    · (simp only [flat_snoc]; exact sub_mk (by repeat (first | exact SubE.nil | refine SubE.cons rfl ?_)) (by repeat (first | exact SubH.refl | exact SubH.nil | refine SubH.cons (by repeat (first | exact Pk.here | apply Pk.there)) ?_ | apply SubH.drop)))
                    · (dsimp only; exact ⟨hj1.trans (hj2.trans hj3), hj4, hs17, hn17⟩)
                  · (refine one_step0 rfl (step_alloc rfl) rfl rfl ?_; rintro _ ⟨ba, rfl⟩)
                    refine any_one (j := 6) (by kernel_rfl) ?_
                    (refine one_imm (listed' := [true, true, true, true, true, true, true, false, false, false, true, false, false]) rfl rfl hI2 rfl rfl rfl (fun w4 J4 hj4 hh => ?_); obtain ⟨cells17, F17, rfl, hs17, hn17⟩ := hh; have hl17 := hs17.R.len; have ho17 := hs17.R.one)
                    refine any_pure (i := 7) (listed' := [true, true, true, true, true, true, true, true, false, false, true, false, false]) rfl (by repeat (first | exact np_ret | exact np_cut | apply np_seq | apply np_block | apply np_loopN')) (pure_move rfl) rfl (by kernel_rfl) rfl rfl ?_
                    refine any_pure (i := 8) (listed' := [true, true, true, true, true, true, true, true, true, false, true, false, false]) rfl (by repeat (first | exact np_ret | exact np_cut | apply np_seq | apply np_block | apply np_loopN')) (pure_extract rfl rfl) rfl (by kernel_rfl) rfl rfl ?_
                    refine any_pure (i := 9) (listed' := [true, true, true, true, true, true, true, true, true, true, true, false, false]) rfl (by repeat (first | exact np_ret | exact np_cut | apply np_seq | apply np_block | apply np_loopN')) (pure_extract rfl rfl) rfl (by kernel_rfl) rfl rfl ?_
                    refine any_one (j := 11) (by kernel_rfl) ?_
                    refine one_store rfl rfl rfl rfl hl17 ho17 rfl rfl (by kernel_rfl) (by repeat (first | exact Sw.here | apply Sw.there)) (by exact upd_all hl17.symm) ?_
                    refine any_pure (i := 12) (listed' := [true, true, true, true, true, true, true, true, true, true, true, true, true]) rfl (by repeat (first | exact np_ret | exact np_cut | apply np_seq | apply np_block | apply np_loopN')) (pure_assign rfl) rfl (by kernel_rfl) rfl rfl ?_
                    refine any_done (by kernel_rfl) ?_
                    refine nrm_cut (ba, cells17, F17, J3, J4) ?_ ?_
                    · (simp only [flat_snoc]; exact sub_mk (by repeat (first | exact SubE.nil | refine SubE.cons rfl ?_)) (by repeat (first | exact SubH.refl | exact SubH.nil | refine SubH.cons (by repeat (first | exact Pk.here | apply Pk.there)) ?_ | apply SubH.drop)))
                    · (dsimp only; exact ⟨hj1.trans (hj2.trans hj3), hj4, hs17, hn17⟩)
                · (refine one_step0 rfl (step_alloc rfl) rfl rfl ?_; rintro _ ⟨ba, rfl⟩)
                  refine any_one (j := 5) (by kernel_rfl) ?_
                  (refine one_imm (listed' := [true, true, true, true, true, true, false, false, false, false, true, false, false]) rfl rfl (toTerm_fn x J2 xcells (small_tm x (by omega)) (hx13.mono (hj1.trans hj2))) rfl rfl rfl (fun w3 J3 hj3 hh => ?_); obtain ⟨cells16, F16, rfl, hs16, hn16⟩ := hh; have hI2 := replaceAt_fn t l x J3 cells14 cells16 p15 c15 (small_tm t (by omega)) (small_tm x (by omega)) (hs14.R.mono ((Dif.le _ _).trans (hj2.trans hj3))) (hs16.R.mono (Dif.le _ _)) (hp15.mono ((Dif.le _ _).trans hj3)); rw [hrr] at hI2)
                  refine any_one (j := 6) (by kernel_rfl) ?_
                  (refine one_imm (listed' := [true, true, true, true, true, true, true, false, false, false, true, false, false]) rfl rfl hI2 rfl rfl rfl (fun w4 J4 hj4 hh => ?_); obtain ⟨cells17, F17, rfl, hs17, hn17⟩ := hh; have hl17 := hs17.R.len; have ho17 := hs17.R.one)
                  refine any_pure (i := 7) (listed' := [true, true, true, true, true, true, true, true, false, false, true, false, false]) rfl (by repeat (first | exact np_ret | exact np_cut | apply np_seq | apply np_block | apply np_loopN')) (pure_move rfl) rfl (by kernel_rfl) rfl rfl ?_
                  refine any_pure (i := 8) (listed' := [true, true, true, true, true, true, true, true, true, false, true, false, false]) rfl (by repeat (first | exact np_ret | exact np_cut | apply np_seq | apply np_block | apply np_loopN')) (pure_extract rfl rfl) rfl (by kernel_rfl) rfl rfl ?_
                  refine any_pure (i := 9) (listed' := [true, true, true, true, true, true, true, true, true, true, true, false, false]) rfl (by repeat (first | exact np_ret | exact np_cut | apply np_seq | apply np_block | apply np_loopN')) (pure_extract rfl rfl) rfl (by kernel_rfl) rfl rfl ?_
                  refine any_one (j := 11) (by kernel_rfl) ?_
                  refine one_store rfl rfl rfl rfl hl17 ho17 rfl rfl (by kernel_rfl) (by repeat (first | exact Sw.here | apply Sw.there)) (by exact upd_all hl17.symm) ?_
                  refine any_pure (i := 12) (listed' := [true, true, true, true, true, true, true, true, true, true, true, true, true]) rfl (by repeat (first | exact np_ret | exact np_cut | apply np_seq | apply np_block | apply np_loopN')) (pure_assign rfl) rfl (by kernel_rfl) rfl rfl ?_
                  refine any_done (by kernel_rfl) ?_
                  refine nrm_cut (ba, cells17, F17, J3, J4) ?_ ?_
                  · (simp only [flat_snoc]; exact sub_mk (by repeat (first | exact SubE.nil | refine SubE.cons rfl ?_)) (by repeat (first | exact SubH.refl | exact SubH.nil | refine SubH.cons (by repeat (first | exact Pk.here | apply Pk.there)) ?_ | apply SubH.drop)))
                  · (dsimp only; exact ⟨hj1.trans (hj2.trans hj3), hj4, hs17, hn17⟩)
              · (refine one_step0 rfl (step_alloc rfl) rfl rfl ?_; rintro _ ⟨ba, rfl⟩)
                refine any_one (j := 3) (by kernel_rfl) ?_
                (refine one_imm (listed' := [true, true, true, true, true, false, false, false, false, false, true, false, false]) rfl rfl (toIntS_fn l J1 pp pc (hp13.mono hj1) (by omega)) rfl rfl rfl (fun w2 J2 hj2 hh => ?_); obtain ⟨p15, c15, rfl, hp15, hb15⟩ := hh)
                refine any_one (j := 5) (by kernel_rfl) ?_
                (refine one_imm (listed' := [true, true, true, true, true, true, false, false, false, false, true, false, false]) rfl rfl (toTerm_fn x J2 xcells (small_tm x (by omega)) (hx13.mono (hj1.trans hj2))) rfl rfl rfl (fun w3 J3 hj3 hh => ?_); obtain ⟨cells16, F16, rfl, hs16, hn16⟩ := hh; have hI2 := replaceAt_fn t l x J3 cells14 cells16 p15 c15 (small_tm t (by omega)) (small_tm x (by omega)) (hs14.R.mono ((Dif.le _ _).trans (hj2.trans hj3))) (hs16.R.mono (Dif.le _ _)) (hp15.mono ((Dif.le _ _).trans hj3)); rw [hrr] at hI2)
                refine any_one (j := 6) (by kernel_rfl) ?_
                (refine one_imm (listed' := [true, true, true, true, true, true, true, false, false, false, true, false, false]) rfl rfl hI2 rfl rfl rfl (fun w4 J4 hj4 hh => ?_); obtain ⟨cells17, F17, rfl, hs17, hn17⟩ := hh; have hl17 := hs17.R.len; have ho17 := hs17.R.one)
                refine any_pure (i := 7) (listed' := [true, true, true, true, true, true, true, true, false, false, true, false, false]) rfl (by repeat (first | exact np_ret | exact np_cut | apply np_seq | apply np_block | apply np_loopN')) (pure_move rfl) rfl (by kernel_rfl) rfl rfl ?_
                refine any_pure (i := 8) (listed' := [true, true, true, true, true, true, true, true, true, false, true, false, false]) rfl (by repeat (first | exact np_ret | exact np_cut | apply np_seq | apply np_block | apply np_loopN')) (pure_extract rfl rfl) rfl (by kernel_rfl) rfl rfl ?_
                refine any_pure (i := 9) (listed' := [true, true, true, true, true, true, true, true, true, true, true, false, false]) rfl (by repeat (first | exact np_ret | exact np_cut | apply np_seq | apply np_block | apply np_loopN')) (pure_extract rfl rfl) rfl (by kernel_rfl) rfl rfl ?_
                refine any_one (j := 11) (by kernel_rfl) ?_
                refine one_store rfl rfl rfl rfl hl17 ho17 rfl rfl (by kernel_rfl) (by repeat (first | exact Sw.here | apply Sw.there)) (by exact upd_all hl17.symm) ?_
                refine any_pure (i := 12) (listed' := [true, true, true, true, true, true, true, true, true, true, true, true, true]) rfl (by repeat (first | exact np_ret | exact np_cut | apply np_seq | apply np_block | apply np_loopN')) (pure_assign rfl) rfl (by kernel_rfl) rfl rfl ?_
                refine any_done (by kernel_rfl) ?_
                refine nrm_cut (ba, cells17, F17, J3, J4) ?_ ?_
                · (simp only [flat_snoc]; exact sub_mk (by repeat (first | exact SubE.nil | refine SubE.cons rfl ?_)) (by repeat (first | exact SubH.refl | exact SubH.nil | refine SubH.cons (by repeat (first | exact Pk.here | apply Pk.there)) ?_ | apply SubH.drop)))
                · (dsimp only; exact ⟨hj1.trans (hj2.trans hj3), hj4, hs17, hn17⟩)
            · (refine one_step0 rfl (step_alloc rfl) rfl rfl ?_; rintro _ ⟨ba, rfl⟩)
              refine any_one (j := 1) (by kernel_rfl) ?_
              (refine one_imm (listed' := [true, true, true, false, true, false, false, false, false, false, true, false, false]) rfl rfl (toTerm_fn t H13 cells (small_tm t (by omega)) hr13) rfl rfl rfl (fun w1 J1 hj1 hh => ?_); obtain ⟨cells14, F14, rfl, hs14, hn14⟩ := hh)
              refine any_one (j := 3) (by kernel_rfl) ?_
              (refine one_imm (listed' := [true, true, true, true, true, false, false, false, false, false, true, false, false]) rfl rfl (toIntS_fn l J1 pp pc (hp13.mono hj1) (by omega)) rfl rfl rfl (fun w2 J2 hj2 hh => ?_); obtain ⟨p15, c15, rfl, hp15, hb15⟩ := hh)
              refine any_one (j := 5) (by kernel_rfl) ?_
              (refine one_imm (listed' := [true, true, true, true, true, true, false, false, false, false, true, false, false]) rfl rfl (toTerm_fn x J2 xcells (small_tm x (by omega)) (hx13.mono (hj1.trans hj2))) rfl rfl rfl (fun w3 J3 hj3 hh => ?_); obtain ⟨cells16, F16, rfl, hs16, hn16⟩ := hh; have hI2 := replaceAt_fn t l x J3 cells14 cells16 p15 c15 (small_tm t (by omega)) (small_tm x (by omega)) (hs14.R.mono ((Dif.le _ _).trans (hj2.trans hj3))) (hs16.R.mono (Dif.le _ _)) (hp15.mono ((Dif.le _ _).trans hj3)); rw [hrr] at hI2)
              refine any_one (j := 6) (by kernel_rfl) ?_
              (refine one_imm (listed' := [true, true, true, true, true, true, true, false, false, false, true, false, false]) rfl rfl hI2 rfl rfl rfl (fun w4 J4 hj4 hh => ?_); obtain ⟨cells17, F17, rfl, hs17, hn17⟩ := hh; have hl17 := hs17.R.len; have ho17 := hs17.R.one)
              refine any_pure (i := 7) (listed' := [true, true, true, true, true, true, true, true, false, false, true, false, false]) rfl (by repeat (first | exact np_ret | exact np_cut | apply np_seq | apply np_block | apply np_loopN')) (pure_move rfl) rfl (by kernel_rfl) rfl rfl ?_
              refine any_pure (i := 8) (listed' := [true, true, true, true, true, true, true, true, true, false, true, false, false]) rfl (by repeat (first | exact np_ret | exact np_cut | apply np_seq | apply np_block | apply np_loopN')) (pure_extract rfl rfl) rfl (by kernel_rfl) rfl rfl ?_
              refine any_pure (i := 9) (listed' := [true, true, true, true, true, true, true, true, true, true, true, false, false]) rfl (by repeat (first | exact np_ret | exact np_cut | apply np_seq | apply np_block | apply np_loopN')) (pure_extract rfl rfl) rfl (by kernel_rfl) rfl rfl ?_
              refine any_one (j := 11) (by kernel_rfl) ?_
              refine one_store rfl rfl rfl rfl hl17 ho17 rfl rfl (by kernel_rfl) (by repeat (first | exact Sw.here | apply Sw.there)) (by exact upd_all hl17.symm) ?_
              refine any_pure (i := 12) (listed' := [true, true, true, true, true, true, true, true, true, true, true, true, true]) rfl (by repeat (first | exact np_ret | exact np_cut | apply np_seq | apply np_block | apply np_loopN')) (pure_assign rfl) rfl (by kernel_rfl) rfl rfl ?_
              refine any_done (by kernel_rfl) ?_
              refine nrm_cut (ba, cells17, F17, J3, J4) ?_ ?_
              · (simp only [flat_snoc]; exact sub_mk (by repeat (first | exact SubE.nil | refine SubE.cons rfl ?_)) (by repeat (first | exact SubH.refl | exact SubH.nil | refine SubH.cons (by repeat (first | exact Pk.here | apply Pk.there)) ?_ | apply SubH.drop)))
              · (dsimp only; exact ⟨hj1.trans (hj2.trans hj3), hj4, hs17, hn17⟩)
          · (rintro ⟨b18, cells18, F18, K1, K2⟩ ⟨hk1, hk2, hs18, hn18⟩; simp only [] at hk1 hk2 hs18 hn18 ⊢; have hl18 := hs18.R.len; have ho18 := hs18.R.one; have hk := hk1.trans hk2; have hHH2 := hH)
            refine tri_seq ?_
            refine tri_seq ?_
            refine tri_region ?_
            refine seq_load (load_a rfl rfl (at_blk_all (by repeat (first | exact List.Mem.head _ | apply List.Mem.tail))) (by assumption)) rfl rfl ?_
            refine seq_load (load_a rfl rfl (at_blk_all (by repeat (first | exact List.Mem.head _ | apply List.Mem.tail))) (by assumption)) rfl rfl ?_
            refine seq_val rfl (eqTerm_fn r.1 K2 cells18 cells8 (hs18.R.mono (Dif.le _ _)) (hs8.R.mono (n21.trans hk))) rfl rfl ?_
            refine seq_pure (pure_not_t rfl) rfl rfl ?_
            refine seq_pure (pure_move rfl) rfl rfl ?_
            refine seq_pure (pure_move rfl) rfl rfl ?_
            refine seq_pure (pure_move rfl) rfl rfl ?_
            refine seq_pure (pure_bneq_s rfl rfl rfl) rfl rfl ?_
            refine seq_pure (pure_pick_f rfl rfl) rfl rfl ?_
            refine seq_done ?_
            refine nrm_seq ?_
            refine tri_cond_f rfl ?_
            refine tri_skip ?_
            refine nrm_seq ?_
            refine tri_seq ?_
            refine tri_region ?_
            refine seq_pure (pure_assign rfl) rfl rfl ?_
            refine seq_done ?_
            refine nrm_seq ?_
            refine tri_seq ?_
            refine tri_region ?_
            refine seq_load (load_a rfl rfl (at_blk_all (by repeat (first | exact List.Mem.head _ | apply List.Mem.tail))) (by assumption)) rfl rfl ?_
            refine seq_pure (pure_move rfl) rfl rfl ?_
            refine seq_val rfl (heldTerm_fn r.1 1 K2 cells6 (hH.mono hk) (by omega) (by omega)) rfl rfl ?_
            refine seq_pure (pure_assign rfl) rfl rfl ?_
            refine seq_done ?_
            refine nrm_seq ?_
            refine tri_seq ?_
            refine tri_seq ?_
            refine tri_region ?_
            refine seq_pure (pure_move rfl) rfl rfl ?_
            refine seq_pure (pure_lss_f rfl rfl (by omega)) rfl rfl ?_
            refine seq_done ?_
            refine nrm_seq ?_
            refine tri_cond_f rfl ?_
            refine tri_skip ?_
            refine nrm_seq ?_
            refine tri_seq ?_
            refine tri_seq ?_
            refine tri_region ?_
            refine seq_pure (pure_move rfl) rfl rfl ?_
            refine seq_pure (pure_move rfl) rfl rfl ?_
            refine seq_pure (pure_neq_f rfl rfl (by omega)) rfl rfl ?_
            refine seq_done ?_
            refine nrm_seq ?_
            refine tri_cond_f rfl ?_
            refine tri_skip ?_
            refine nrm_seq ?_
            refine tri_seq ?_
            refine tri_region ?_
            refine seq_pure (pure_assign rfl) rfl rfl ?_
            refine seq_done ?_
            refine nrm_seq ?_
            refine tri_ret ?_
            refine ret_fin1 (res_tmp rfl) ?_
            exact ⟨rfl, rfl⟩
      · refine seq_pure (pure_assign rfl) rfl rfl ?_
        refine seq_done ?_
        refine nrm_seq ?_
        refine tri_seq ?_
        refine tri_seq ?_
        refine tri_region ?_
        refine seq_pure (pure_move rfl) rfl rfl ?_
        refine seq_pure (pure_lss_t rfl rfl (by omega)) rfl rfl ?_
        refine seq_done ?_
        refine nrm_seq ?_
        refine tri_cond_t rfl ?_
        refine tri_seq ?_
        refine tri_region ?_
        refine seq_pure (pure_assign rfl) rfl rfl ?_
        refine seq_done ?_
        refine nrm_seq ?_
        refine tri_ret ?_
        refine ret_seq ?_
        refine ret_fin1 (res_tmp rfl) ?_
        exact ⟨rfl, rfl⟩
    · refine seq_pure (pure_assign rfl) rfl rfl ?_
      refine seq_done ?_
      refine nrm_seq ?_
      refine tri_seq ?_
      refine tri_seq ?_
      refine tri_region ?_
      refine seq_pure (pure_move rfl) rfl rfl ?_
      refine seq_pure (pure_lss_t rfl rfl (by omega)) rfl rfl ?_
      refine seq_done ?_
      refine nrm_seq ?_
      refine tri_cond_t rfl ?_
      refine tri_seq ?_
      refine tri_region ?_
      refine seq_pure (pure_assign rfl) rfl rfl ?_
      refine seq_done ?_
      refine nrm_seq ?_
      refine tri_ret ?_
      refine ret_seq ?_
      refine ret_fin1 (res_tmp rfl) ?_
      exact ⟨rfl, rfl⟩
end Gw
end Go.Proofs.Ytlefgfdhlblahaa
