/-
  The scan of a term, CastValid, TermValid.
-/
import Derived.Test.YtlefgfdhlblahaaTerms
namespace Go.Proofs.Ytlefgfdhlblahaa
open Go Go.RowKit
namespace Gw
set_option maxRecDepth 100000 in
theorem scan_fn (M D N : Int) (hM : 0 ≤ M ∧ M ≤ 1000) (hD : 0 ≤ D ∧ D ≤ 1000) (bc : Nat) : ∀ (t : Tm) (deep c : Int) (G : IM) (cells : List Value), 0 ≤ deep ∧ deep ≤ D + 1 → 0 ≤ c ∧ c ≤ M → RTm G t cells →
    Fn Try.prog 44 [.agg ⟨cells⟩, .int .i64 deep, .int .i64 M, .int .i64 D, .int .i64 N, .pointer (some ⟨bc, 0, none⟩)] [.blk bc [.int .i64 c]] G
      (ValO (.bool (mScan M D N t deep c).1) [.blk bc [.int .i64 (mScan M D N t deep c).2]] G) := by
  refine Tm.ind fun k nm num ty fr lb ks ih deep c G cells hd hc hr => ?_
  have hno := nodeOk_fn k nm num ty fr lb ks G cells hr
  obtain ⟨tk, tks⟩ := ty
  obtain ⟨fk, fks⟩ := fr
  obtain ⟨pt, ct, pf, cf, p, cp, es, rfl, hk, hnum, hlb, hty, hfr, hsl, hkl⟩ := hr.open9
  have hn := hsl.le
  obtain ⟨R, hR⟩ : ∃ R, tmNode k nm num (.mk tk tks) (.mk fk fks) lb ks.length = R := ⟨_, rfl⟩
  rw [hR] at hno
  refine fn_enter Try.func44 rfl Try.ntmps44 Try.results44 rfl ?_
  intro w0
  refine tri_seq ?_
  refine tri_region ?_
  (refine seq_step (step_box_a rfl rfl) rfl ?_; rintro _ ⟨b3, rfl⟩)
  refine seq_pure (pure_assign rfl) rfl rfl ?_
  refine seq_done ?_
  refine nrm_seq ?_
  refine tri_seq ?_
  refine tri_region ?_
  refine seq_pure (pure_move rfl) rfl rfl ?_
  refine seq_pure (pure_nilCheck rfl) rfl rfl ?_
  refine seq_load (load_bs rfl rfl (by repeat (first | exact List.Mem.head _ | apply List.Mem.tail)) (by rfl)) rfl rfl ?_
  refine seq_pure (pure_add rfl rfl (by omega) (by omega)) rfl rfl ?_
  refine seq_pure (pure_nilCheck rfl) rfl rfl ?_
  refine seq_store rfl rfl rfl rfl rfl rfl (by repeat (first | exact Sw.here | apply Sw.there)) (by rfl) ?_
  refine seq_done ?_
  refine nrm_seq ?_
  refine tri_seq ?_
  refine tri_seq ?_
  refine tri_region ?_
  refine seq_pure (pure_move rfl) rfl rfl ?_
  refine seq_pure (pure_nilCheck rfl) rfl rfl ?_
  refine seq_load (load_bs rfl rfl (by repeat (first | exact List.Mem.head _ | apply List.Mem.tail)) (by rfl)) rfl rfl ?_
  refine seq_pure (pure_move rfl) rfl rfl ?_
  refine seq_bool (pure_gtr rfl rfl) rfl rfl (fun h24 => ?_) (fun h24 => ?_)
  · refine seq_pure (pure_move rfl) rfl rfl ?_
    refine seq_skip rfl rfl ?_
    refine seq_skip rfl rfl ?_
    refine seq_skip rfl rfl ?_
    refine seq_pure (pure_pick_t rfl rfl) rfl rfl ?_
    refine seq_pure (pure_move rfl) rfl rfl ?_
    refine seq_skip rfl rfl ?_
    refine seq_skip rfl rfl ?_
    refine seq_skip rfl rfl ?_
    refine seq_skip rfl rfl ?_
    refine seq_pure (pure_pick_t rfl rfl) rfl rfl ?_
    refine seq_pure (pure_move rfl) rfl rfl ?_
    refine seq_skip rfl rfl ?_
    refine seq_skip rfl rfl ?_
    refine seq_skip rfl rfl ?_
    refine seq_pure (pure_pick_t rfl rfl) rfl rfl ?_
    refine seq_done ?_
    refine nrm_seq ?_
    refine tri_cond_t rfl ?_
    refine tri_seq ?_
    refine tri_region ?_
    refine seq_pure (pure_assign rfl) rfl rfl ?_
    refine seq_done ?_
    refine nrm_seq ?_
    refine tri_ret ?_
    refine ret_seq ?_
    refine ret_own1 (outs := [.blk bc [.int .i64 _]]) (res_tmp rfl) (SubH.cons (by repeat (first | exact Pk.here | apply Pk.there)) SubH.nil) ?_
    (rw [mScan_no (by rw [hR]; first | omega | exact Or.inr (Or.inr (Or.inr (by assumption)))) ]; exact ⟨rfl, rfl, rfl⟩)
  · refine seq_pure (pure_move rfl) rfl rfl ?_
    refine seq_pure (pure_move rfl) rfl rfl ?_
    refine seq_pure (pure_move rfl) rfl rfl ?_
    refine seq_bool (pure_gtr rfl rfl) rfl rfl (fun h56 => ?_) (fun h56 => ?_)
    · refine seq_pure (pure_pick_f rfl rfl) rfl rfl ?_
      refine seq_pure (pure_move rfl) rfl rfl ?_
      refine seq_skip rfl rfl ?_
      refine seq_skip rfl rfl ?_
      refine seq_skip rfl rfl ?_
      refine seq_skip rfl rfl ?_
      refine seq_pure (pure_pick_t rfl rfl) rfl rfl ?_
      refine seq_pure (pure_move rfl) rfl rfl ?_
      refine seq_skip rfl rfl ?_
      refine seq_skip rfl rfl ?_
      refine seq_skip rfl rfl ?_
      refine seq_pure (pure_pick_t rfl rfl) rfl rfl ?_
      refine seq_done ?_
      refine nrm_seq ?_
      refine tri_cond_t rfl ?_
      refine tri_seq ?_
      refine tri_region ?_
      refine seq_pure (pure_assign rfl) rfl rfl ?_
      refine seq_done ?_
      refine nrm_seq ?_
      refine tri_ret ?_
      refine ret_seq ?_
      refine ret_own1 (outs := [.blk bc [.int .i64 _]]) (res_tmp rfl) (SubH.cons (by repeat (first | exact Pk.here | apply Pk.there)) SubH.nil) ?_
      (rw [mScan_no (by rw [hR]; first | omega | exact Or.inr (Or.inr (Or.inr (by assumption)))) ]; exact ⟨rfl, rfl, rfl⟩)
    · refine seq_pure (pure_pick_f rfl rfl) rfl rfl ?_
      refine seq_pure (pure_move rfl) rfl rfl ?_
      refine seq_pure (pure_fieldAddr0 rfl) rfl rfl ?_
      refine seq_load (load_bs rfl rfl (by repeat (first | exact List.Mem.head _ | apply List.Mem.tail)) (by rfl)) rfl rfl ?_
      refine seq_pure (pure_move rfl) rfl rfl ?_
      refine seq_bool (pure_eql rfl rfl) rfl rfl (fun h86 => ?_) (fun h86 => ?_)
      · refine seq_pure (pure_pick_f rfl rfl) rfl rfl ?_
        refine seq_pure (pure_move rfl) rfl rfl ?_
        refine seq_skip rfl rfl ?_
        refine seq_skip rfl rfl ?_
        refine seq_skip rfl rfl ?_
        refine seq_pure (pure_pick_t rfl rfl) rfl rfl ?_
        refine seq_done ?_
        refine nrm_seq ?_
        refine tri_cond_t rfl ?_
        refine tri_seq ?_
        refine tri_region ?_
        refine seq_pure (pure_assign rfl) rfl rfl ?_
        refine seq_done ?_
        refine nrm_seq ?_
        refine tri_ret ?_
        refine ret_seq ?_
        refine ret_own1 (outs := [.blk bc [.int .i64 _]]) (res_tmp rfl) (SubH.cons (by repeat (first | exact Pk.here | apply Pk.there)) SubH.nil) ?_
        (rw [mScan_no (by rw [hR]; first | omega | exact Or.inr (Or.inr (Or.inr (by assumption)))) ]; exact ⟨rfl, rfl, rfl⟩)
      · refine seq_pure (pure_pick_f rfl rfl) rfl rfl ?_
        refine seq_pure (pure_move rfl) rfl rfl ?_
        refine seq_load (load_ba rfl rfl (by repeat (first | exact List.Mem.head _ | apply List.Mem.tail)) (by rfl)) rfl rfl ?_
        refine seq_valb rfl (hno) rfl rfl (fun h108 => ?_) (fun h108 => ?_)
        · refine seq_pure (pure_not_t rfl) rfl rfl ?_
          refine seq_pure (pure_pick_f rfl rfl) rfl rfl ?_
          refine seq_done ?_
          refine nrm_seq ?_
          refine tri_cond_f rfl ?_
          refine tri_skip ?_
          refine nrm_seq ?_
          refine tri_seq ?_
          refine tri_seq ?_
          refine tri_region ?_
          refine seq_pure (pure_fieldAddr0 rfl) rfl rfl ?_
          refine seq_load (load_bs rfl rfl (by repeat (first | exact List.Mem.head _ | apply List.Mem.tail)) (by rfl)) rfl rfl ?_
          refine seq_pure (pure_len rfl rfl) rfl rfl ?_
          refine seq_pure (pure_move rfl) rfl rfl ?_
          refine seq_done ?_
          refine nrm_seq ?_
          refine tri_block ?_
          (have hmk := mScan_go (M := M) (D := D) (N := N) (deep := deep) (c := c) (by omega) (hR.trans (by assumption)); refine tri_loopN (fun (x : Nat × Int) => ⟨[(44, .int .i64 x.1), (43, .int .i64 ks.length), (42, .slice p ks.length cp), (5, .pointer (some ⟨bc, 0, none⟩)), (4, .int .i64 N), (3, .int .i64 D), (2, .int .i64 M), (1, .int .i64 deep)], [.blk bc [.int .i64 x.2]], G⟩) (fun x => x.1 ≤ ks.length ∧ 0 ≤ x.2 ∧ x.2 ≤ M ∧ mScanL M D N ks (deep + 1) (c + 1) = mScanL M D N (ks.drop x.1) (deep + 1) x.2) (fun x => ks.length - x.1) (0, c + 1) ?_ ?_ ?_)
          · (simp only [flat_snoc]; exact sub_mk (by repeat (first | exact SubE.nil | refine SubE.cons rfl ?_)) (by repeat (first | exact SubH.refl | exact SubH.nil | refine SubH.cons (by repeat (first | exact Pk.here | apply Pk.there)) ?_ | apply SubH.drop)))
          · exact ⟨by simp, by simp; omega, by simp; omega, by simp⟩
          · (rintro ⟨i, ci⟩ ⟨hi, hc0, hc1, hst⟩; simp only [] at hi hc0 hc1 hst ⊢)
            refine tri_seq ?_
            refine tri_region ?_
            refine seq_bool (pure_lss rfl rfl) rfl rfl (fun h132 => ?_) (fun h132 => ?_)
            · refine seq_done ?_
              refine nrm_seq ?_
              refine tri_seq ?_
              refine tri_cond_t rfl ?_
              refine tri_skip ?_
              refine nrm_seq ?_
              refine tri_seq ?_
              refine tri_block ?_
              refine tri_seq ?_
              refine tri_region ?_
              (obtain ⟨b, o, e, rfl, hl, hat, hre, hgb⟩ := hsl.kidTm hkl (i := i) (by omega) (by omega); have hone := hre.one; have hle := mScan_le M D N ks[i] (deep + 1) ci hc0 hc1; refine seq_pure (pure_indexAddrN rfl rfl rfl (by omega)) rfl rfl ?_)
              refine seq_load (load_a rfl rfl (hat _) hl) rfl rfl ?_
              (refine seq_step (step_alloc rfl) rfl ?_; rintro _ ⟨b145, rfl⟩)
              refine seq_store rfl rfl rfl (by assumption) (by assumption) rfl (by repeat (first | exact Sw.here | apply Sw.there)) (by exact upd_all (by symm; assumption)) ?_
              refine seq_done ?_
              refine nrm_seq ?_
              refine tri_seq ?_
              refine tri_region ?_
              refine seq_load (load_a rfl rfl (at_blk_all (by repeat (first | exact List.Mem.head _ | apply List.Mem.tail))) (by assumption)) rfl rfl ?_
              refine seq_pure (pure_move rfl) rfl rfl ?_
              refine seq_pure (pure_add rfl rfl (by omega) (by omega)) rfl rfl ?_
              refine seq_pure (pure_move rfl) rfl rfl ?_
              refine seq_pure (pure_move rfl) rfl rfl ?_
              refine seq_pure (pure_move rfl) rfl rfl ?_
              refine seq_pure (pure_move rfl) rfl rfl ?_
              refine seq_valbx rfl (ih ks[i] (List.getElem_mem _) (deep + 1) ci G e (by omega) (by omega) hre) (Pk.perm (by repeat (first | exact Pk.here | apply Pk.there))) rfl rfl (fun h158 => ?_) (fun h158 => ?_)
              · refine seq_pure (pure_not_t rfl) rfl rfl ?_
                refine seq_done ?_
                refine nrm_seq ?_
                refine tri_cond_f rfl ?_
                refine tri_skip ?_
                refine nrm_block ?_
                refine nrm_seq ?_
                refine tri_region ?_
                refine seq_pure (pure_add rfl rfl (by omega) (by omega)) rfl rfl ?_
                refine seq_pure (pure_move rfl) rfl rfl ?_
                refine seq_done ?_
                refine nrm_loopN (i + 1, (mScan M D N ks[i] (deep + 1) ci).2) ?_ ?_ ?_
                · (simp only [flat_snoc]; exact sub_mk (by repeat (first | exact SubE.nil | refine SubE.cons rfl ?_)) (by repeat (first | exact SubH.refl | exact SubH.nil | refine SubH.cons (by repeat (first | exact Pk.here | apply Pk.there)) ?_ | apply SubH.drop)))
                · exact ⟨by omega, by omega, hle.2.2 (by assumption), by rw [hst, mScanL_t (by omega) (by assumption)]⟩
                · (show ks.length - (i + 1) < ks.length - i; omega)
              · refine seq_pure (pure_not_f rfl) rfl rfl ?_
                refine seq_done ?_
                refine nrm_seq ?_
                refine tri_cond_t rfl ?_
                refine tri_seq ?_
                refine tri_region ?_
                refine seq_pure (pure_assign rfl) rfl rfl ?_
                refine seq_done ?_
                refine nrm_seq ?_
                refine tri_ret ?_
                refine ret_block ?_
                refine ret_seq ?_
                refine ret_loopN ?_
                refine ret_block ?_
                refine ret_seq ?_
                refine ret_own1 (outs := [.blk bc [.int .i64 _]]) (res_tmp rfl) (SubH.cons (by repeat (first | exact Pk.here | apply Pk.there)) SubH.nil) ?_
                (rw [hmk, hst, mScanL_f (by omega) (by assumption)]; exact ⟨rfl, rfl, rfl⟩)
            · refine seq_done ?_
              refine nrm_seq ?_
              refine tri_seq ?_
              refine tri_cond_f rfl ?_
              refine tri_exit ?_
              refine ext_seq ?_
              refine ext_loopN ?_
              refine ext_block_eq ?_
              refine nrm_seq ?_
              refine tri_seq ?_
              refine tri_region ?_
              refine seq_pure (pure_assign rfl) rfl rfl ?_
              refine seq_done ?_
              refine nrm_seq ?_
              refine tri_ret ?_
              refine ret_own1 (outs := [.blk bc [.int .i64 _]]) (res_tmp rfl) (SubH.cons (by repeat (first | exact Pk.here | apply Pk.there)) SubH.nil) ?_
              (rw [hmk, hst, mScanL_end (by omega)]; exact ⟨rfl, rfl, rfl⟩)
        · refine seq_pure (pure_not_f rfl) rfl rfl ?_
          refine seq_pure (pure_pick_f rfl rfl) rfl rfl ?_
          refine seq_done ?_
          refine nrm_seq ?_
          refine tri_cond_t rfl ?_
          refine tri_seq ?_
          refine tri_region ?_
          refine seq_pure (pure_assign rfl) rfl rfl ?_
          refine seq_done ?_
          refine nrm_seq ?_
          refine tri_ret ?_
          refine ret_seq ?_
          refine ret_own1 (outs := [.blk bc [.int .i64 _]]) (res_tmp rfl) (SubH.cons (by repeat (first | exact Pk.here | apply Pk.there)) SubH.nil) ?_
          (rw [mScan_no (by rw [hR]; first | omega | exact Or.inr (Or.inr (Or.inr (by assumption)))) ]; exact ⟨rfl, rfl, rfl⟩)
set_option maxRecDepth 100000 in
theorem castValid_fn (t : Tm) (G : IM) (cells : List Value) (hr : RTm G t cells) : Fn Try.prog 36 [.agg ⟨cells⟩] [] G (Val (.bool (castValid t)) G) := by
  have hl := hr.len
  refine fn_enter Try.func36 rfl Try.ntmps36 Try.results36 rfl ?_
  intro w0
  refine tri_seq ?_
  refine tri_region ?_
  (refine seq_step (step_box_a rfl rfl) rfl ?_; rintro _ ⟨b3, rfl⟩)
  refine seq_pure (pure_assign rfl) rfl rfl ?_
  refine seq_done ?_
  refine nrm_seq ?_
  refine tri_seq ?_
  refine tri_region ?_
  (refine seq_step (step_alloc rfl) rfl ?_; rintro _ ⟨b9, rfl⟩)
  refine seq_store rfl rfl rfl rfl rfl rfl (by repeat (first | exact Sw.here | apply Sw.there)) (by rfl) ?_
  refine seq_done ?_
  refine nrm_seq ?_
  refine tri_seq ?_
  refine tri_region ?_
  refine seq_load (load_a rfl rfl (at_blk_all (by repeat (first | exact List.Mem.head _ | apply List.Mem.tail))) (by assumption)) rfl rfl ?_
  refine seq_valx rfl (scan_fn 200 40 13 (by omega) (by omega) _ t 1 0 G cells (by omega) (by omega) hr) perm_all rfl rfl ?_
  refine seq_pure (pure_assign rfl) rfl rfl ?_
  refine seq_done ?_
  refine nrm_seq ?_
  refine tri_ret ?_
  refine ret_fin1 (res_tmp rfl) ?_
  exact ⟨rfl, rfl, rfl⟩
set_option maxRecDepth 100000 in
theorem termValid_fn (t : Tm) (G : IM) (cells : List Value) (hr : RTm G t cells) : Fn Try.prog 13 [.agg ⟨cells⟩] [] G (Val (.bool (termValid t)) G) := by
  have hl := hr.len
  refine fn_enter Try.func13 rfl Try.ntmps13 Try.results13 rfl ?_
  intro w0
  refine tri_seq ?_
  refine tri_region ?_
  (refine seq_step (step_box_a rfl rfl) rfl ?_; rintro _ ⟨b3, rfl⟩)
  refine seq_pure (pure_assign rfl) rfl rfl ?_
  refine seq_done ?_
  refine nrm_seq ?_
  refine tri_seq ?_
  refine tri_region ?_
  (refine seq_step (step_alloc rfl) rfl ?_; rintro _ ⟨b9, rfl⟩)
  refine seq_store rfl rfl rfl rfl rfl rfl (by repeat (first | exact Sw.here | apply Sw.there)) (by rfl) ?_
  refine seq_done ?_
  refine nrm_seq ?_
  refine tri_seq ?_
  refine tri_region ?_
  refine seq_load (load_a rfl rfl (at_blk_all (by repeat (first | exact List.Mem.head _ | apply List.Mem.tail))) (by assumption)) rfl rfl ?_
  refine seq_valx rfl (scan_fn 30 12 14 (by omega) (by omega) _ t 1 0 G cells (by omega) (by omega) hr) perm_all rfl rfl ?_
  refine seq_pure (pure_assign rfl) rfl rfl ?_
  refine seq_done ?_
  refine nrm_seq ?_
  refine tri_ret ?_
  refine ret_fin1 (res_tmp rfl) ?_
  exact ⟨rfl, rfl, rfl⟩
end Gw
end Go.Proofs.Ytlefgfdhlblahaa
