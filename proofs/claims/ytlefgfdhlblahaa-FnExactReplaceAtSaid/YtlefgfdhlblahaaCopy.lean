/-
  Copies of types and terms: the reference model's, the program's, the laws' of paths.
-/
import Derived.Test.YtlefgfdhlblahaaOwnType
import Derived.Test.YtlefgfdhlblahaaTo
import Derived.Test.YtlefgfdhlblahaaBlk
namespace Go.Proofs.Ytlefgfdhlblahaa
open Go Go.RowKit
namespace Gw
set_option maxHeartbeats 0 in
set_option maxRecDepth 100000 in
theorem l1Copy_fn : ∀ (t : Ty) (G : IM) (cells : List Value), t.small → RTy G t cells → Fn Try.prog 87 [.agg ⟨cells⟩] [] G (ToTy t G) := by
  refine Ty.ind fun k ks ih G cells hts hr => ?_
  simp only [Ty.small] at hts
  obtain ⟨hsm, hks⟩ := hts
  obtain ⟨p, c, es, rfl, hk, hsl, hkl⟩ := hr.open
  simp only [Ty.k, Ty.ks] at hk hsl hkl ⊢
  have hn := hsl.le
  refine fn_enter Try.func87 rfl Try.ntmps87 Try.results87 rfl ?_
  intro w0
  refine tri_seq ?_
  refine tri_region ?_
  (refine seq_step (step_box_a rfl rfl) rfl ?_; rintro _ ⟨b3, rfl⟩)
  (refine seq_step (step_alloc rfl) rfl ?_; rintro _ ⟨b4, rfl⟩)
  refine seq_done ?_
  refine nrm_seq ?_
  refine tri_seq ?_
  refine tri_region ?_
  refine seq_pure (pure_fieldAddr0 rfl) rfl rfl ?_
  refine seq_load (load_bs rfl rfl (by repeat (first | exact List.Mem.head _ | apply List.Mem.tail)) (by rfl)) rfl rfl ?_
  refine seq_pure (pure_build rfl rfl) rfl rfl ?_
  (refine seq_step (step_alloc rfl) rfl ?_; rintro _ ⟨b12, rfl⟩)
  refine seq_store rfl rfl rfl rfl rfl rfl (by repeat (first | exact Sw.here | apply Sw.there)) (by rfl) ?_
  refine seq_done ?_
  refine nrm_seq ?_
  refine tri_seq ?_
  refine tri_seq ?_
  refine tri_region ?_
  refine seq_pure (pure_assign rfl) rfl rfl ?_
  refine seq_done ?_
  refine nrm_seq ?_
  refine tri_block ?_
  (refine tri_nil 25 2 ?_; refine tri_loopN (fun (x : Nat × Option Addr × Nat × List (List Value) × List Nat × IM) => ⟨[(4, .int .i64 x.1), (3, .pointer (some ⟨b12, 0, none⟩)), (1, .pointer (some ⟨b3, 0, none⟩)), (2, .pointer (some ⟨b4, 0, none⟩))], [.blk b12 [.int .i64 k, .slice x.2.1 x.1 x.2.2.1], .slc x.2.1 x.2.2.1 25 2 x.1 x.2.2.2.1.flatten, .blk b4 [.int .i64 0, .slice none 0 0], .blk b3 [.int .i64 k, .slice p ks.length c]], x.2.2.2.2.2⟩) (fun x => x.1 ≤ ks.length ∧ IMle G x.2.2.2.2.2 ∧ STyL (Dif x.2.2.2.2.2 G) (ks.take x.1) x.2.2.2.1 x.2.2.2.2.1 ∧ x.2.2.2.2.1.Nodup) (fun x => ks.length - x.1) (0, none, 0, [], [], G) ?_ ?_ ?_)
  · (simp only [flat_snoc]; exact sub_mk (by repeat (first | exact SubE.nil | refine SubE.cons rfl ?_)) (by repeat (first | exact SubH.refl | exact SubH.nil | refine SubH.cons (by repeat (first | exact Pk.here | apply Pk.there)) ?_ | apply SubH.drop)))
  · exact ⟨by simp, IMle.refl _, by simp [STyL], by simp⟩
  · (rintro ⟨i, pn, cn, es', F, Gi⟩ ⟨hi, hle, hst, hnd⟩; simp only [] at hi hle hst hnd ⊢; replace hsl := hsl.mono hle; replace hkl := hkl.mono hle)
    refine tri_seq ?_
    refine tri_seq ?_
    refine tri_region ?_
    refine seq_pure (pure_move rfl) rfl rfl ?_
    refine seq_pure (pure_fieldAddr0 rfl) rfl rfl ?_
    refine seq_load (load_bs rfl rfl (by repeat (first | exact List.Mem.head _ | apply List.Mem.tail)) (by rfl)) rfl rfl ?_
    refine seq_pure (pure_len rfl rfl) rfl rfl ?_
    refine seq_bool (pure_lss rfl rfl) rfl rfl (fun h34 => ?_) (fun h34 => ?_)
    · refine seq_done ?_
      refine nrm_seq ?_
      refine tri_cond_t rfl ?_
      refine tri_skip ?_
      refine nrm_seq ?_
      refine tri_seq ?_
      refine tri_block ?_
      (obtain ⟨b, o, p2, c2, rfl, hat, hre, hgb⟩ := hsl.kidTy hkl (i := i) (by omega) (by omega); refine tri_draw mixed rfl ?_)
      refine any_pure (i := 0) (listed' := [true, false, false, false, false, false, false, false, false, false, false, false]) rfl (by repeat (first | exact np_ret | apply np_seq | apply np_block | apply np_loopN')) (pure_fieldAddr0 rfl) rfl (by kernel_rfl) rfl rfl ?_
      refine any_load (i := 1) (listed' := [true, true, false, false, false, false, false, false, false, false, false, false]) rfl (by repeat (first | exact np_ret | apply np_seq | apply np_block | apply np_loopN')) (load_bs rfl rfl (by repeat (first | exact List.Mem.head _ | apply List.Mem.tail)) (by rfl)) rfl (by kernel_rfl) rfl rfl ?_
      refine any_pure (i := 2) (listed' := [true, true, true, false, false, false, false, false, false, false, false, false]) rfl (by repeat (first | exact np_ret | apply np_seq | apply np_block | apply np_loopN')) (pure_fieldAddr0 rfl) rfl (by kernel_rfl) rfl rfl ?_
      refine any_load (i := 3) (listed' := [true, true, true, true, false, false, false, false, false, false, false, false]) rfl (by repeat (first | exact np_ret | apply np_seq | apply np_block | apply np_loopN')) (load_bs rfl rfl (by repeat (first | exact List.Mem.head _ | apply List.Mem.tail)) (by rfl)) rfl (by kernel_rfl) rfl rfl ?_
      refine any_pure (i := 4) (listed' := [true, true, true, true, true, false, false, false, false, false, false, false]) rfl (by repeat (first | exact np_ret | apply np_seq | apply np_block | apply np_loopN')) (pure_move rfl) rfl (by kernel_rfl) rfl rfl ?_
      refine any_pure (i := 5) (listed' := [true, true, true, true, true, true, false, false, false, false, false, false]) rfl (by repeat (first | exact np_ret | apply np_seq | apply np_block | apply np_loopN')) (pure_indexAddrN rfl rfl rfl (by omega)) rfl (by kernel_rfl) rfl rfl ?_
      refine any_load (i := 6) (listed' := [true, true, true, true, true, true, true, false, false, false, false, false]) rfl (by repeat (first | exact np_ret | apply np_seq | apply np_block | apply np_loopN')) (load_a rfl rfl (hat _) rfl) rfl (by kernel_rfl) rfl rfl ?_
      refine any_one (j := 7) (by kernel_rfl) ?_
      (refine one_imm (listed' := [true, true, true, true, true, true, true, true, false, false, false, false]) rfl rfl (ih ks[i] (List.getElem_mem (by omega)) _ _ (Ty.smallL_mem hks _ (List.getElem_mem (by omega))) hre) rfl rfl rfl (fun v G1 hle1 hh => ?_); obtain ⟨cells', F', rfl, hs', hnd'⟩ := hh; obtain ⟨p3, c3, es3, rfl, _⟩ := hs'.R.open)
      refine any_one (j := 8) (by kernel_rfl) ?_
      (refine one_step0 (listed' := [true, true, true, true, true, true, true, true, true, false, false, false]) rfl (step_buildSlice rfl rfl rfl (by omega) (by unfold maxLen; omega) rfl) rfl rfl ?_; rintro _ ⟨b53, rfl⟩)
      refine any_one (j := 9) (by kernel_rfl) ?_
      refine one_append (listed' := [true, true, true, true, true, true, true, true, true, true, false, false]) rfl rfl rfl rfl rfl rfl (fun _ _ => by repeat (first | exact Sw.here | apply Sw.there)) (at_slc_all (by repeat (first | exact List.Mem.head _ | apply List.Mem.tail))) rfl (by simp [Value.oneCell']) (by unfold maxLen; omega) (by omega) rfl rfl (by repeat (first | exact HmOk.nil | apply HmOk.dep (by decide +kernel) | apply HmOk.blk (by decide +kernel) (by repeat (first | exact Pk.here | apply Pk.there)) (by repeat (first | exact List.Mem.head _ | apply List.Mem.tail)))) (fun pn' cn' => ?_)
      refine any_pure (i := 10) (listed' := [true, true, true, true, true, true, true, true, true, true, true, false]) rfl (by repeat (first | exact np_ret | apply np_seq | apply np_block | apply np_loopN')) (pure_fieldAddr0 rfl) rfl (by kernel_rfl) rfl rfl ?_
      refine any_one (j := 11) (by kernel_rfl) ?_
      refine one_store (listed' := [true, true, true, true, true, true, true, true, true, true, true, true]) rfl rfl rfl rfl rfl rfl rfl rfl (by kernel_rfl) (by repeat (first | exact Sw.here | apply Sw.there)) (by rfl) ?_
      refine any_done (by kernel_rfl) ?_
      refine nrm_block ?_
      refine nrm_seq ?_
      refine tri_region ?_
      refine seq_pure (pure_move rfl) rfl rfl ?_
      refine seq_pure (pure_add rfl rfl (by omega) (by omega)) rfl rfl ?_
      refine seq_pure (pure_assign rfl) rfl rfl ?_
      refine seq_done ?_
      refine nrm_loopN (i + 1, pn', cn', es' ++ [[.int .i64 ks[i].k, .slice p3 ks[i].ks.length c3]], F ++ F', G1) ?_ ?_ ?_
      · (simp only [flat_snoc]; exact sub_mk (by repeat (first | exact SubE.nil | refine SubE.cons rfl ?_)) (by repeat (first | exact SubH.refl | exact SubH.nil | refine SubH.cons (by repeat (first | exact Pk.here | apply Pk.there)) ?_ | apply SubH.drop)))
      · exact ⟨by omega, hle.trans hle1, STyL.step hst hnd hle hle1 (by omega) hs' hnd'⟩
      · (show ks.length - (i + 1) < ks.length - i; omega)
    · refine seq_done ?_
      refine nrm_seq ?_
      refine tri_cond_f rfl ?_
      refine tri_exit ?_
      refine ext_seq ?_
      refine ext_loopN ?_
      refine ext_block_eq ?_
      refine nrm_seq ?_
      refine tri_seq ?_
      refine tri_region ?_
      refine seq_load (load_ba rfl rfl (by repeat (first | exact List.Mem.head _ | apply List.Mem.tail)) (by rfl)) rfl rfl ?_
      refine seq_store rfl rfl rfl rfl rfl rfl (by repeat (first | exact Sw.here | apply Sw.there)) (by rfl) ?_
      refine seq_done ?_
      refine nrm_seq ?_
      (refine ret_freeze (by repeat (first | exact Pk.here | apply Pk.there)) (fun G2 hle2 hsl2 hno2 => ?_); obtain rfl : i = ks.length := (by omega))
      refine tri_ret ?_
      refine ret_fin1 (res_cell rfl (load_ba rfl rfl (by repeat (first | exact List.Mem.head _ | apply List.Mem.tail)) (by rfl))) ?_
      (rw [List.take_length] at hst; obtain ⟨F2, hf1, hf2⟩ := STy.fin hst hnd hle hle2 hsl2 hno2 hk; exact ⟨rfl, _, F2, rfl, hf1, hf2⟩)
set_option maxHeartbeats 0 in
set_option maxRecDepth 100000 in
theorem l2Copy_fn : ∀ (t : Tm) (G : IM) (cells : List Value), t.small → RTm G t cells → Fn Try.prog 58 [.agg ⟨cells⟩] [] G (ToTm t G) := by
  refine Tm.ind fun k nm num ty fr lb ks ih G cells hts hr => ?_
  have hone := hr.one
  simp only [Tm.small] at hts
  obtain ⟨hnm, hty', hfr', hsm, hks⟩ := hts
  obtain ⟨tk, tks⟩ := ty
  obtain ⟨fk, fks⟩ := fr
  obtain ⟨pt, ct, pf, cf, p, c, es, rfl, hk, hnum, hlb, hty, hfr, hsl, hkl⟩ := hr.open9
  have hn := hsl.le
  have hT := l1Copy_fn (.mk tk tks) G _ hty' hty
  refine fn_enter Try.func58 rfl Try.ntmps58 Try.results58 rfl ?_
  intro w0
  refine tri_seq ?_
  refine tri_region ?_
  (refine seq_step (step_box_a rfl rfl) rfl ?_; rintro _ ⟨b3, rfl⟩)
  (refine seq_step (step_alloc rfl) rfl ?_; rintro _ ⟨b4, rfl⟩)
  refine seq_done ?_
  refine nrm_seq ?_
  refine tri_seq ?_
  refine tri_region ?_
  refine seq_load (load_ba rfl rfl (by repeat (first | exact List.Mem.head _ | apply List.Mem.tail)) (by rfl)) rfl rfl ?_
  (refine seq_step (step_alloc rfl) rfl ?_; rintro _ ⟨b10, rfl⟩)
  refine seq_store rfl rfl rfl rfl rfl rfl (by repeat (first | exact Sw.here | apply Sw.there)) (by rfl) ?_
  refine seq_done ?_
  refine nrm_seq ?_
  refine tri_seq ?_
  refine tri_region ?_
  refine seq_pure (pure_fieldAddr0 rfl) rfl rfl ?_
  refine seq_load (load_ba rfl rfl (by repeat (first | exact List.Mem.head _ | apply List.Mem.tail)) (by rfl)) rfl rfl ?_
  (refine seq_imm rfl hT rfl rfl (fun v G1 hle1 hh => ?_); obtain ⟨cs1, F1, rfl, hs1, hn1⟩ := hh; obtain ⟨p1, c1, rfl, _⟩ := hs1.open; have hF := l1Copy_fn (.mk fk fks) G1 _ hfr' (hfr.mono hle1))
  refine seq_pure (pure_fieldAddr0 rfl) rfl rfl ?_
  refine seq_store rfl rfl rfl rfl rfl rfl (by repeat (first | exact Sw.here | apply Sw.there)) (by rfl) ?_
  refine seq_done ?_
  refine nrm_seq ?_
  refine tri_seq ?_
  refine tri_region ?_
  refine seq_pure (pure_fieldAddr0 rfl) rfl rfl ?_
  refine seq_load (load_ba rfl rfl (by repeat (first | exact List.Mem.head _ | apply List.Mem.tail)) (by rfl)) rfl rfl ?_
  (refine seq_imm rfl hF rfl rfl (fun v G2 hle2 hh => ?_); obtain ⟨cs2, F2, rfl, hs2, hn2⟩ := hh; obtain ⟨p2, c2, rfl, _⟩ := hs2.open; replace hsl := hsl.mono (hle1.trans hle2); replace hkl := hkl.mono (hle1.trans hle2))
  refine seq_pure (pure_fieldAddr0 rfl) rfl rfl ?_
  refine seq_store rfl rfl rfl rfl rfl rfl (by repeat (first | exact Sw.here | apply Sw.there)) (by rfl) ?_
  refine seq_done ?_
  refine nrm_seq ?_
  refine tri_seq ?_
  refine tri_region ?_
  refine seq_pure (pure_fieldAddr0 rfl) rfl rfl ?_
  refine seq_store rfl rfl rfl rfl rfl rfl (by repeat (first | exact Sw.here | apply Sw.there)) (by rfl) ?_
  refine seq_done ?_
  refine nrm_seq ?_
  refine tri_seq ?_
  refine tri_seq ?_
  refine tri_region ?_
  refine seq_pure (pure_assign rfl) rfl rfl ?_
  refine seq_done ?_
  refine nrm_seq ?_
  refine tri_block ?_
  (refine tri_nil 28 9 ?_; refine tri_loopN (fun (x : Nat × Option Addr × Nat × List (List Value) × List Nat × IM) => ⟨[(4, .int .i64 x.1), (3, .pointer (some ⟨b10, 0, none⟩)), (1, .pointer (some ⟨b3, 0, none⟩)), (2, .pointer (some ⟨b4, 0, none⟩))], [.blk b10 [.int .i64 k, .string nm, .int .i64 num, .int .i64 tk, .slice p1 tks.length c1, .int .i64 fk, .slice p2 fks.length c2, .int .i64 lb, .slice x.2.1 x.1 x.2.2.1], .slc x.2.1 x.2.2.1 28 9 x.1 x.2.2.2.1.flatten, .blk b4 [.int .i64 0, .string ⟨⟨[]⟩⟩, .int .i64 0, .int .i64 0, .slice none 0 0, .int .i64 0, .slice none 0 0, .int .i64 0, .slice none 0 0], .blk b3 [.int .i64 k, .string nm, .int .i64 num, .int .i64 tk, .slice pt tks.length ct, .int .i64 fk, .slice pf fks.length cf, .int .i64 lb, .slice p ks.length c]], x.2.2.2.2.2⟩) (fun x => x.1 ≤ ks.length ∧ IMle G2 x.2.2.2.2.2 ∧ STmL (Dif x.2.2.2.2.2 G2) (ks.take x.1) x.2.2.2.1 x.2.2.2.2.1 ∧ x.2.2.2.2.1.Nodup) (fun x => ks.length - x.1) (0, none, 0, [], [], G2) ?_ ?_ ?_)
  · (simp only [flat_snoc]; exact sub_mk (by repeat (first | exact SubE.nil | refine SubE.cons rfl ?_)) (by repeat (first | exact SubH.refl | exact SubH.nil | refine SubH.cons (by repeat (first | exact Pk.here | apply Pk.there)) ?_ | apply SubH.drop)))
  · exact ⟨by simp, IMle.refl _, by simp [STmL], by simp⟩
  · (rintro ⟨i, pn, cn, es', F, Gi⟩ ⟨hi, hle, hst, hnd⟩; simp only [] at hi hle hst hnd ⊢; replace hsl := hsl.mono hle; replace hkl := hkl.mono hle)
    refine tri_seq ?_
    refine tri_seq ?_
    refine tri_region ?_
    refine seq_pure (pure_move rfl) rfl rfl ?_
    refine seq_pure (pure_fieldAddr0 rfl) rfl rfl ?_
    refine seq_load (load_bs rfl rfl (by repeat (first | exact List.Mem.head _ | apply List.Mem.tail)) (by rfl)) rfl rfl ?_
    refine seq_pure (pure_len rfl rfl) rfl rfl ?_
    refine seq_bool (pure_lss rfl rfl) rfl rfl (fun h56 => ?_) (fun h56 => ?_)
    · refine seq_done ?_
      refine nrm_seq ?_
      refine tri_cond_t rfl ?_
      refine tri_skip ?_
      refine nrm_seq ?_
      refine tri_seq ?_
      refine tri_block ?_
      (obtain ⟨b, o, e, rfl, hl, hat, hre, hgb⟩ := hsl.kidTm hkl (i := i) (by omega) (by omega); have hone := hre.one; refine tri_draw mixed rfl ?_)
      refine any_pure (i := 0) (listed' := [true, false, false, false, false, false, false, false, false, false, false, false]) rfl (by repeat (first | exact np_ret | apply np_seq | apply np_block | apply np_loopN')) (pure_fieldAddr0 rfl) rfl (by kernel_rfl) rfl rfl ?_
      refine any_load (i := 1) (listed' := [true, true, false, false, false, false, false, false, false, false, false, false]) rfl (by repeat (first | exact np_ret | apply np_seq | apply np_block | apply np_loopN')) (load_bs rfl rfl (by repeat (first | exact List.Mem.head _ | apply List.Mem.tail)) (by rfl)) rfl (by kernel_rfl) rfl rfl ?_
      refine any_pure (i := 2) (listed' := [true, true, true, false, false, false, false, false, false, false, false, false]) rfl (by repeat (first | exact np_ret | apply np_seq | apply np_block | apply np_loopN')) (pure_fieldAddr0 rfl) rfl (by kernel_rfl) rfl rfl ?_
      refine any_load (i := 3) (listed' := [true, true, true, true, false, false, false, false, false, false, false, false]) rfl (by repeat (first | exact np_ret | apply np_seq | apply np_block | apply np_loopN')) (load_bs rfl rfl (by repeat (first | exact List.Mem.head _ | apply List.Mem.tail)) (by rfl)) rfl (by kernel_rfl) rfl rfl ?_
      refine any_pure (i := 4) (listed' := [true, true, true, true, true, false, false, false, false, false, false, false]) rfl (by repeat (first | exact np_ret | apply np_seq | apply np_block | apply np_loopN')) (pure_move rfl) rfl (by kernel_rfl) rfl rfl ?_
      refine any_pure (i := 5) (listed' := [true, true, true, true, true, true, false, false, false, false, false, false]) rfl (by repeat (first | exact np_ret | apply np_seq | apply np_block | apply np_loopN')) (pure_indexAddrN rfl rfl rfl (by omega)) rfl (by kernel_rfl) rfl rfl ?_
      refine any_load (i := 6) (listed' := [true, true, true, true, true, true, true, false, false, false, false, false]) rfl (by repeat (first | exact np_ret | apply np_seq | apply np_block | apply np_loopN')) (load_a rfl rfl (hat _) hl) rfl (by kernel_rfl) rfl rfl ?_
      refine any_one (j := 7) (by kernel_rfl) ?_
      (refine one_imm (listed' := [true, true, true, true, true, true, true, true, false, false, false, false]) rfl rfl (ih ks[i] (List.getElem_mem (by omega)) _ _ (Tm.smallL_mem hks _ (List.getElem_mem (by omega))) hre) rfl rfl rfl (fun v G3 hle3 hh => ?_); obtain ⟨cells', F', rfl, hs', hnd'⟩ := hh; obtain ⟨qt, dt, et', qf, df, ef', q3, d3, es3, rfl, _⟩ := hs'.R.open)
      refine any_one (j := 8) (by kernel_rfl) ?_
      (refine one_step0 (listed' := [true, true, true, true, true, true, true, true, true, false, false, false]) rfl (step_buildSlice rfl rfl rfl (by omega) (by unfold maxLen; omega) rfl) rfl rfl ?_; rintro _ ⟨b75, rfl⟩)
      refine any_one (j := 9) (by kernel_rfl) ?_
      refine one_append (listed' := [true, true, true, true, true, true, true, true, true, true, false, false]) rfl rfl rfl rfl rfl rfl (fun _ _ => by repeat (first | exact Sw.here | apply Sw.there)) (at_slc_all (by repeat (first | exact List.Mem.head _ | apply List.Mem.tail))) rfl (by simp [Value.oneCell']) (by unfold maxLen; omega) (by omega) rfl rfl (by repeat (first | exact HmOk.nil | apply HmOk.dep (by decide +kernel) | apply HmOk.blk (by decide +kernel) (by repeat (first | exact Pk.here | apply Pk.there)) (by repeat (first | exact List.Mem.head _ | apply List.Mem.tail)))) (fun pn' cn' => ?_)
      refine any_pure (i := 10) (listed' := [true, true, true, true, true, true, true, true, true, true, true, false]) rfl (by repeat (first | exact np_ret | apply np_seq | apply np_block | apply np_loopN')) (pure_fieldAddr0 rfl) rfl (by kernel_rfl) rfl rfl ?_
      refine any_one (j := 11) (by kernel_rfl) ?_
      refine one_store (listed' := [true, true, true, true, true, true, true, true, true, true, true, true]) rfl rfl rfl rfl rfl rfl rfl rfl (by kernel_rfl) (by repeat (first | exact Sw.here | apply Sw.there)) (by rfl) ?_
      refine any_done (by kernel_rfl) ?_
      refine nrm_block ?_
      refine nrm_seq ?_
      refine tri_region ?_
      refine seq_pure (pure_move rfl) rfl rfl ?_
      refine seq_pure (pure_add rfl rfl (by omega) (by omega)) rfl rfl ?_
      refine seq_pure (pure_assign rfl) rfl rfl ?_
      refine seq_done ?_
      refine nrm_loopN (i + 1, pn', cn', es' ++ [[.int .i64 ks[i].k, .string ks[i].nm, .int .i64 ks[i].num, .int .i64 ks[i].ty.k, .slice qt ks[i].ty.ks.length dt, .int .i64 ks[i].fr.k, .slice qf ks[i].fr.ks.length df, .int .i64 ks[i].lb, .slice q3 ks[i].ks.length d3]], F ++ F', G3) ?_ ?_ ?_
      · (simp only [flat_snoc]; exact sub_mk (by repeat (first | exact SubE.nil | refine SubE.cons rfl ?_)) (by repeat (first | exact SubH.refl | exact SubH.nil | refine SubH.cons (by repeat (first | exact Pk.here | apply Pk.there)) ?_ | apply SubH.drop)))
      · exact ⟨by omega, hle.trans hle3, STmL.step hst hnd hle hle3 (by omega) hs' hnd'⟩
      · (show ks.length - (i + 1) < ks.length - i; omega)
    · refine seq_done ?_
      refine nrm_seq ?_
      refine tri_cond_f rfl ?_
      refine tri_exit ?_
      refine ext_seq ?_
      refine ext_loopN ?_
      refine ext_block_eq ?_
      refine nrm_seq ?_
      refine tri_seq ?_
      refine tri_region ?_
      refine seq_load (load_ba rfl rfl (by repeat (first | exact List.Mem.head _ | apply List.Mem.tail)) (by rfl)) rfl rfl ?_
      refine seq_store rfl rfl rfl rfl rfl rfl (by repeat (first | exact Sw.here | apply Sw.there)) (by rfl) ?_
      refine seq_done ?_
      refine nrm_seq ?_
      (refine ret_freeze (by repeat (first | exact Pk.here | apply Pk.there)) (fun G4 hle4 hsl4 hno4 => ?_); obtain rfl : i = ks.length := (by omega))
      refine tri_ret ?_
      refine ret_fin1 (res_cell rfl (load_ba rfl rfl (by repeat (first | exact List.Mem.head _ | apply List.Mem.tail)) (by rfl))) ?_
      (rw [List.take_length] at hst; obtain ⟨F3, hf1, hf2⟩ := STmS.fin hst hnd hle hle4 hsl4 hno4; obtain ⟨F5, hg1, hg2⟩ := STm.mk3 (nm := nm) hk hnum hlb hle1 hle2 (hle.trans hle4) hs1 hn1 hs2 hn2 hf1 hf2; exact ⟨rfl, _, F5, rfl, hg1, hg2⟩)
theorem upd_nextI {D : List Value} {n i : Nat} {v : Value} (hl : D.length = i) (hi : i < n) : upd (D ++ zrep (n - i) [.int .i64 0]) (0 + i * 1) [v] = some ((D ++ [v]) ++ zrep (n - (i + 1)) [.int .i64 0]) := by
  rw [show n - i = (n - (i + 1)) + 1 by omega, zrep]
  have := upd_at (A := D) (B := [.int .i64 0]) (C := zrep (n - (i + 1)) [.int .i64 0]) (V := [v]) (o := 0 + i * 1) (by omega) rfl
  rw [this]; simp
set_option maxRecDepth 100000 in
theorem toIntS_fn (l : List Int) (G : IM) (p : Option Addr) (c : Nat) (h : Sl G p l.length c 1 (ints l)) (hsm : l.length ≤ 4294967296) :
    Fn Try.prog 30 [.slice p l.length c] [] G (Imm fun G' v => ∃ p' c', v = .slice p' l.length c' ∧ Sl (Dif G' G) p' l.length c' 1 (ints l) ∧ ∀ b ∈ vfp p', Dif G' G b ≠ none) := by
  have hn := h.le
  refine fn_enter Try.func30 rfl Try.ntmps30 Try.results30 rfl ?_
  intro w0
  refine tri_seq ?_
  refine tri_region ?_
  refine seq_pure (pure_assign rfl) rfl rfl ?_
  refine seq_done ?_
  refine nrm_seq ?_
  refine tri_seq ?_
  refine tri_region ?_
  refine seq_pure (pure_move rfl) rfl rfl ?_
  refine seq_pure (pure_len rfl rfl) rfl rfl ?_
  (refine seq_makeBlk rfl rfl rfl (by omega) (by unfold maxLen; omega) rfl (fun bm => ?_))
  refine seq_pure (pure_assign rfl) rfl rfl ?_
  refine seq_done ?_
  refine nrm_seq ?_
  refine tri_seq ?_
  refine tri_seq ?_
  refine tri_region ?_
  refine seq_pure (pure_assign rfl) rfl rfl ?_
  refine seq_done ?_
  refine nrm_seq ?_
  refine tri_block ?_
  (refine tri_loopN (fun (x : Nat × List Value) => ⟨[(4, .int .i64 x.1), (3, .slice (some ⟨bm, 0, none⟩) l.length l.length), (0, .slice p l.length c)], [.blk bm (x.2 ++ zrep (l.length - x.1) [.int .i64 0])], G⟩) (fun x => x.1 ≤ l.length ∧ x.2 = ints (l.take x.1)) (fun x => l.length - x.1) (0, []) ?_ ?_ ?_)
  · (simp only [flat_snoc]; exact sub_mk (by repeat (first | exact SubE.nil | refine SubE.cons rfl ?_)) (by repeat (first | exact SubH.refl | exact SubH.nil | refine SubH.cons (by repeat (first | exact Pk.here | apply Pk.there)) ?_ | apply SubH.drop)))
  · exact ⟨by simp, rfl⟩
  · (rintro ⟨i, D⟩ ⟨hi, hD⟩; simp only [] at hi hD ⊢; have hDl : D.length = i := (by rw [hD, ints_len, List.length_take]; omega))
    refine tri_seq ?_
    refine tri_seq ?_
    refine tri_region ?_
    refine seq_pure (pure_move rfl) rfl rfl ?_
    refine seq_pure (pure_move rfl) rfl rfl ?_
    refine seq_pure (pure_len rfl rfl) rfl rfl ?_
    refine seq_bool (pure_lss rfl rfl) rfl rfl (fun h31 => ?_) (fun h31 => ?_)
    · refine seq_done ?_
      refine nrm_seq ?_
      refine tri_cond_t rfl ?_
      refine tri_skip ?_
      refine nrm_seq ?_
      refine tri_seq ?_
      refine tri_block ?_
      refine tri_region ?_
      refine seq_pure (pure_move rfl) rfl rfl ?_
      refine seq_pure (pure_move rfl) rfl rfl ?_
      refine seq_pure (pure_move rfl) rfl rfl ?_
      refine seq_pure (pure_move rfl) rfl rfl ?_
      (obtain ⟨b, o, v, rfl, hv, hat, hgb⟩ := h.kid (i := i) (by omega); obtain ⟨hi2, rfl⟩ := ints_get hv; refine seq_pure (pure_indexAddrN rfl rfl rfl (by omega)) rfl rfl ?_)
      refine seq_load (load_s rfl rfl (hat _)) rfl rfl ?_
      refine seq_pure (pure_indexAddrN rfl rfl rfl (by omega)) rfl rfl ?_
      (refine seq_store rfl rfl rfl rfl rfl rfl (by repeat (first | exact Sw.here | apply Sw.there)) (upd_nextI hDl (by omega)) ?_)
      refine seq_done ?_
      refine nrm_block ?_
      refine nrm_seq ?_
      refine tri_region ?_
      refine seq_pure (pure_move rfl) rfl rfl ?_
      refine seq_pure (pure_add rfl rfl (by omega) (by omega)) rfl rfl ?_
      refine seq_pure (pure_assign rfl) rfl rfl ?_
      refine seq_done ?_
      refine nrm_loopN (i + 1, D ++ [.int .i64 l[i]]) ?_ ?_ ?_
      · (simp only [flat_snoc]; exact sub_mk (by repeat (first | exact SubE.nil | refine SubE.cons rfl ?_)) (by repeat (first | exact SubH.refl | exact SubH.nil | refine SubH.cons (by repeat (first | exact Pk.here | apply Pk.there)) ?_ | apply SubH.drop)))
      · (dsimp only; exact ⟨by omega, by rw [hD, List.take_succ_eq_append_getElem (by omega), ints_snoc]⟩)
      · (show l.length - (i + 1) < l.length - i; omega)
    · refine seq_done ?_
      refine nrm_seq ?_
      refine tri_cond_f rfl ?_
      refine tri_exit ?_
      refine ext_seq ?_
      refine ext_loopN ?_
      refine ext_block_eq ?_
      refine nrm_seq ?_
      refine tri_seq ?_
      refine tri_region ?_
      refine seq_pure (pure_move rfl) rfl rfl ?_
      refine seq_pure (pure_assign rfl) rfl rfl ?_
      refine seq_done ?_
      refine nrm_seq ?_
      (obtain rfl : i = l.length := (by omega); rw [zrep_self]; refine tri_freezes (bs := [(bm, D)]) (List.Perm.refl _) (fun hn2 hd2 hle2 => ?_))
      refine tri_ret ?_
      refine ret_fin1 (res_tmp rfl) ?_
      (rw [List.take_length] at hD; subst hD; exact ⟨rfl, _, _, rfl, (sl_wi (by rw [ints_len]; omega) (by unfold maxLen; omega)).dif (fun b hb => (wi_no hd2 b hb).1) (IMle.refl _), fun b hb => dif_in (IMle.refl _) (wi_no hd2 b hb)⟩)
end Gw
end Go.Proofs.Ytlefgfdhlblahaa
