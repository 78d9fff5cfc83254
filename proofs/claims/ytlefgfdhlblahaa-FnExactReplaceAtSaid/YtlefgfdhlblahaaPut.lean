/-
  Nodes replaced: the program's put, the reference model's l16Replace.
-/
import Derived.Test.YtlefgfdhlblahaaSlice
import Derived.Test.YtlefgfdhlblahaaTermAt
namespace Go.Proofs.Ytlefgfdhlblahaa
open Go Go.RowKit
namespace Gw
set_option maxRecDepth 100000 in
theorem clone_tm (G : IM) (p : Option Addr) (n c : Nat) (es : List (List Value)) (h : SlE G p n c 9 es) (h0 : 0 < n) (hn : n ≤ 4294967296) :
    Fn Try.prog 90 [.slice p n c] [] G (fun G' v outs => G' = G ∧ ∃ p' c', v = .slice p' n c' ∧ outs = [.slc p' c' 28 9 n es.flatten]) := by
  obtain ⟨hl, hc, hm, hat⟩ := h.sl
  obtain ⟨b, o, full, rfl, hg, hv⟩ := hat.resolve_left (by omega)
  have ho : ∀ u ∈ es.flatten, u.oneCell' = true := by
    intro u hu
    obtain ⟨e, he, hue⟩ := List.mem_flatten.1 hu
    exact List.all_eq_true.1 (h.one e he) u hue
  refine fn_enter Try.func90 rfl Try.ntmps90 Try.results90 rfl ?_
  intro w0
  refine tri_seq ?_
  refine tri_region ?_
  refine seq_pure (pure_assign rfl) rfl rfl ?_
  refine seq_done ?_
  refine nrm_seq ?_
  refine tri_seq ?_
  refine tri_seq ?_
  refine tri_region ?_
  refine seq_pure (pure_move rfl) rfl rfl ?_
  refine seq_pure (pure_slnil_f rfl rfl rfl) rfl rfl ?_
  refine seq_done ?_
  refine nrm_seq ?_
  refine tri_cond_f rfl ?_
  refine tri_skip ?_
  refine nrm_seq ?_
  refine tri_seq ?_
  refine tri_region ?_
  (refine seq_step (step_buildSlice rfl rfl rfl (by omega) (by unfold maxLen; omega) rfl) rfl ?_; rintro _ ⟨b18, rfl⟩)
  refine seq_pure (pure_move rfl) rfl rfl ?_
  refine seq_append rfl rfl rfl rfl rfl (fun _ _ => by repeat (first | exact Sw.here | apply Sw.there)) (at_im hg hv) hl ho (by unfold maxLen; omega) (by omega) rfl (fun pn cn => ?_)
  refine seq_pure (pure_assign rfl) rfl rfl ?_
  refine seq_done ?_
  refine nrm_seq ?_
  refine tri_ret ?_
  refine ret_own1 (res_tmp rfl) SubH.refl ?_
  exact ⟨rfl, _, _, by rw [Nat.zero_add], by rw [Nat.zero_add]; rfl⟩
set_option maxHeartbeats 0 in
set_option maxRecDepth 100000 in
theorem put_fn : ∀ (path : List Int) (t x y : Tm) (G : IM) (cells xcells : List Value) (p : Option Addr) (c : Nat), tAt t path = some y → t.small → RTm G t cells → RTm G x xcells → Sl G p path.length c 1 (ints path) →
    Fn Try.prog 64 [.agg ⟨cells⟩, .slice p path.length c, .agg ⟨xcells⟩] [] G (Imm fun G' v => ∃ cells', v = .agg ⟨cells'⟩ ∧ RTm G' (mPut t path x) cells') := by
  intro path
  induction path with
  | nil =>
    intro t x y G cells xcells p c hat hts hr hx hp
    have hl := hr.len
    have hone := hr.one
    have hlx := hx.len
    have hox := hx.one
    simp only [List.length_nil]
    refine fn_enter Try.func64 rfl Try.ntmps64 Try.results64 rfl ?_
    intro w0
    refine tri_seq ?_
    refine tri_region ?_
    (refine seq_step (step_box_a rfl rfl) rfl ?_; rintro _ ⟨b3, rfl⟩)
    (refine seq_step (step_box_a rfl rfl) rfl ?_; rintro _ ⟨b4, rfl⟩)
    (refine seq_step (step_alloc rfl) rfl ?_; rintro _ ⟨b5, rfl⟩)
    refine seq_done ?_
    refine nrm_seq ?_
    refine tri_seq ?_
    refine tri_seq ?_
    refine tri_region ?_
    refine seq_pure (pure_move rfl) rfl rfl ?_
    refine seq_pure (pure_len rfl rfl) rfl rfl ?_
    refine seq_pure (pure_eql_t rfl rfl (by omega)) rfl rfl ?_
    refine seq_done ?_
    refine nrm_seq ?_
    refine tri_cond_t rfl ?_
    refine tri_seq ?_
    refine tri_region ?_
    refine seq_load (load_a rfl rfl (at_blk_all (by repeat (first | exact List.Mem.head _ | apply List.Mem.tail))) (by assumption)) rfl rfl ?_
    refine seq_store rfl rfl rfl hlx hox rfl (by repeat (first | exact Sw.here | apply Sw.there)) (by exact upd_all hlx.symm) ?_
    refine seq_done ?_
    refine nrm_seq ?_
    refine tri_ret ?_
    refine ret_seq ?_
    refine ret_fin1 (res_cell rfl (load_a rfl rfl (at_blk_all (by repeat (first | exact List.Mem.head _ | apply List.Mem.tail))) hlx)) ?_
    exact ⟨rfl, xcells, rfl, by rw [mPut_nil]; exact hx⟩
  | cons i is ih =>
    intro t x y G cells xcells p c hat hts hr hx hp
    have hone := hr.one
    have hlx := hx.len
    have hox := hx.one
    obtain ⟨k, nm, num, ⟨tk, tks⟩, ⟨fk, fks⟩, lb, ks⟩ := t
    obtain ⟨j, rfl, hj, haj⟩ := tAt_some hat
    simp only [Tm.ks] at hj haj
    simp only [Tm.small] at hts
    obtain ⟨hnm, hty', hfr', hsm, hks⟩ := hts
    obtain ⟨pt, ct, pf, cf, pk, ck, es, rfl, hk, hnum, hlb, hty, hfr, hsl, hkl⟩ := hr.open9
    have hn := hsl.le
    have hpn := hp.le
    have hC := clone_tm G pk ks.length ck es hsl (by omega) hsm
    obtain ⟨pb, po, pv, rfl, hpv, hatp, hpg⟩ := hp.kid (i := 0) (by simp)
    obtain rfl : pv = .int .i64 (j : Int) := by simpa [ints] using hpv.symm
    have hpt := hp.from (l := 1) (by simp)
    rw [show (ints ((j : Int) :: is)).drop (1 * 1) = ints is from rfl] at hpt
    obtain ⟨kb, ko, ke, hpk, hlk, hatk, hrk, hgk⟩ := hsl.kidTm hkl (i := j) hj hj
    subst hpk
    have hok := hrk.one
    have hih := ih ks[j] x y G ke xcells _ _ haj (Tm.smallL_mem hks _ (List.getElem_mem hj)) hrk hx (by rw [show is.length = (((j : Int) :: is).length - 1) from rfl]; exact hpt)
    rw [mPut_go hj]
    simp only [List.length_cons] at hih hpt ⊢
    refine fn_enter Try.func64 rfl Try.ntmps64 Try.results64 rfl ?_
    intro w0
    refine tri_seq ?_
    refine tri_region ?_
    (refine seq_step (step_box_a rfl rfl) rfl ?_; rintro _ ⟨b3, rfl⟩)
    (refine seq_step (step_box_a rfl rfl) rfl ?_; rintro _ ⟨b4, rfl⟩)
    (refine seq_step (step_alloc rfl) rfl ?_; rintro _ ⟨b5, rfl⟩)
    refine seq_done ?_
    refine nrm_seq ?_
    refine tri_seq ?_
    refine tri_seq ?_
    refine tri_region ?_
    refine seq_pure (pure_move rfl) rfl rfl ?_
    refine seq_pure (pure_len rfl rfl) rfl rfl ?_
    refine seq_pure (pure_eql_f rfl rfl (by omega)) rfl rfl ?_
    refine seq_done ?_
    refine nrm_seq ?_
    refine tri_cond_f rfl ?_
    refine tri_skip ?_
    refine nrm_seq ?_
    refine tri_seq ?_
    refine tri_region ?_
    refine seq_load (load_ba rfl rfl (by repeat (first | exact List.Mem.head _ | apply List.Mem.tail)) (by rfl)) rfl rfl ?_
    (refine seq_step (step_alloc rfl) rfl ?_; rintro _ ⟨b22, rfl⟩)
    refine seq_store rfl rfl rfl rfl rfl rfl (by repeat (first | exact Sw.here | apply Sw.there)) (by rfl) ?_
    refine seq_done ?_
    refine nrm_seq ?_
    refine tri_seq ?_
    refine tri_region ?_
    refine seq_pure (pure_fieldAddr0 rfl) rfl rfl ?_
    refine seq_load (load_bs rfl rfl (by repeat (first | exact List.Mem.head _ | apply List.Mem.tail)) (by rfl)) rfl rfl ?_
    (refine seq_own rfl hC rfl rfl (fun v30 G30 outs30 hle30 h30 => ?_); obtain ⟨hG, p1, c1, rfl, rfl⟩ := h30; replace hG := hG.symm; subst hG; refine triL_open (cs := es.flatten) (by repeat (first | exact Pk.here | apply Pk.there)) (by omega) (fun bc C hpe hnc hcm => ?_); subst hpe)
    replace hx := hx.mono hle30
    replace hty := hty.mono hle30
    replace hfr := hfr.mono hle30
    replace hkl := hkl.mono hle30
    replace hp := hp.mono hle30
    replace hpt := hpt.mono hle30
    replace hrk := hrk.mono hle30
    replace hr := hr.mono hle30
    replace hsl := hsl.mono hle30
    refine seq_pure (pure_fieldAddr0 rfl) rfl rfl ?_
    refine seq_store rfl rfl rfl rfl rfl rfl (by repeat (first | exact Sw.here | apply Sw.there)) (by rfl) ?_
    refine seq_done ?_
    refine nrm_seq ?_
    refine tri_seq ?_
    refine tri_draw mixed rfl ?_
    refine any_pure (i := 0) (listed' := [true, false, false, false, false, false, false, false, false, false, false, false, false, false, false, false, false, false]) rfl (by repeat (first | exact np_ret | apply np_seq | apply np_block | apply np_loopN')) (pure_fieldAddr0 rfl) rfl (by kernel_rfl) rfl rfl ?_
    refine any_load (i := 1) (listed' := [true, true, false, false, false, false, false, false, false, false, false, false, false, false, false, false, false, false]) rfl (by repeat (first | exact np_ret | apply np_seq | apply np_block | apply np_loopN')) (load_bs rfl rfl (by repeat (first | exact List.Mem.head _ | apply List.Mem.tail)) (by rfl)) rfl (by kernel_rfl) rfl rfl ?_
    refine any_pure (i := 2) (listed' := [true, true, true, false, false, false, false, false, false, false, false, false, false, false, false, false, false, false]) rfl (by repeat (first | exact np_ret | apply np_seq | apply np_block | apply np_loopN')) (pure_move rfl) rfl (by kernel_rfl) rfl rfl ?_
    refine any_pure (i := 3) (listed' := [true, true, true, true, false, false, false, false, false, false, false, false, false, false, false, false, false, false]) rfl (by repeat (first | exact np_ret | apply np_seq | apply np_block | apply np_loopN')) (pure_indexAddrN (j := 0) rfl rfl rfl (by omega)) rfl (by kernel_rfl) rfl rfl ?_
    refine any_load (i := 4) (listed' := [true, true, true, true, true, false, false, false, false, false, false, false, false, false, false, false, false, false]) rfl (by repeat (first | exact np_ret | apply np_seq | apply np_block | apply np_loopN')) (load_s rfl rfl (hatp _)) rfl (by kernel_rfl) rfl rfl ?_
    refine any_pure (i := 5) (listed' := [true, true, true, true, true, true, false, false, false, false, false, false, false, false, false, false, false, false]) rfl (by repeat (first | exact np_ret | apply np_seq | apply np_block | apply np_loopN')) (pure_fieldAddr0 rfl) rfl (by kernel_rfl) rfl rfl ?_
    refine any_load (i := 6) (listed' := [true, true, true, true, true, true, true, false, false, false, false, false, false, false, false, false, false, false]) rfl (by repeat (first | exact np_ret | apply np_seq | apply np_block | apply np_loopN')) (load_bs rfl rfl (by repeat (first | exact List.Mem.head _ | apply List.Mem.tail)) (by rfl)) rfl (by kernel_rfl) rfl rfl ?_
    refine any_pure (i := 7) (listed' := [true, true, true, true, true, true, true, true, false, false, false, false, false, false, false, false, false, false]) rfl (by repeat (first | exact np_ret | apply np_seq | apply np_block | apply np_loopN')) (pure_move rfl) rfl (by kernel_rfl) rfl rfl ?_
    refine any_pure (i := 8) (listed' := [true, true, true, true, true, true, true, true, true, false, false, false, false, false, false, false, false, false]) rfl (by repeat (first | exact np_ret | apply np_seq | apply np_block | apply np_loopN')) (pure_indexAddrN (j := 0) rfl rfl rfl (by omega)) rfl (by kernel_rfl) rfl rfl ?_
    refine any_load (i := 9) (listed' := [true, true, true, true, true, true, true, true, true, true, false, false, false, false, false, false, false, false]) rfl (by repeat (first | exact np_ret | apply np_seq | apply np_block | apply np_loopN')) (load_s rfl rfl (hatp _)) rfl (by kernel_rfl) rfl rfl ?_
    refine any_pure (i := 10) (listed' := [true, true, true, true, true, true, true, true, true, true, true, false, false, false, false, false, false, false]) rfl (by repeat (first | exact np_ret | apply np_seq | apply np_block | apply np_loopN')) (pure_indexAddrN (j := j) rfl rfl rfl (by omega)) rfl (by kernel_rfl) rfl rfl ?_
    refine any_load (i := 11) (listed' := [true, true, true, true, true, true, true, true, true, true, true, true, false, false, false, false, false, false]) rfl (by repeat (first | exact np_ret | apply np_seq | apply np_block | apply np_loopN')) (load_a rfl rfl (hatk _) hlk) rfl (by kernel_rfl) rfl rfl ?_
    refine any_pure (i := 12) (listed' := [true, true, true, true, true, true, true, true, true, true, true, true, true, false, false, false, false, false]) rfl (by repeat (first | exact np_ret | apply np_seq | apply np_block | apply np_loopN')) (pure_move rfl) rfl (by kernel_rfl) rfl rfl ?_
    refine any_pure (i := 13) (listed' := [true, true, true, true, true, true, true, true, true, true, true, true, true, true, false, false, false, false]) rfl (by repeat (first | exact np_ret | apply np_seq | apply np_block | apply np_loopN')) (pure_slice_from (l := 1) rfl rfl rfl (by omega)) rfl (by kernel_rfl) rfl rfl ?_
    refine any_load (i := 14) (listed' := [true, true, true, true, true, true, true, true, true, true, true, true, true, true, true, false, false, false]) rfl (by repeat (first | exact np_ret | apply np_seq | apply np_block | apply np_loopN')) (load_a rfl rfl (at_blk_all (by repeat (first | exact List.Mem.head _ | apply List.Mem.tail))) (by assumption)) rfl (by kernel_rfl) rfl rfl ?_
    refine any_one (j := 15) (by kernel_rfl) ?_
    (refine one_imm (listed' := [true, true, true, true, true, true, true, true, true, true, true, true, true, true, true, true, false, false]) rfl rfl hih rfl rfl rfl (fun v1 G1 hle1 hh => ?_); obtain ⟨yc, rfl, hry⟩ := hh; have hly := hry.len; have hoy := hry.one)
    refine any_pure (i := 16) (listed' := [true, true, true, true, true, true, true, true, true, true, true, true, true, true, true, true, true, false]) rfl (by repeat (first | exact np_ret | apply np_seq | apply np_block | apply np_loopN')) (pure_indexAddrN (j := j) rfl rfl rfl (by omega)) rfl (by kernel_rfl) rfl rfl ?_
    refine any_one (j := 17) (by kernel_rfl) ?_
    refine one_store rfl rfl rfl rfl hly hoy rfl rfl (by kernel_rfl) (by repeat (first | exact Sw.here | apply Sw.there)) (by exact upd_set (by rw [hkl.len]; omega) (fun e he => (hsl.all e he)) hly) ?_
    refine any_done (by kernel_rfl) ?_
    refine nrm_seq ?_
    refine tri_seq ?_
    refine tri_region ?_
    refine seq_load (load_ba rfl rfl (by repeat (first | exact List.Mem.head _ | apply List.Mem.tail)) (by rfl)) rfl rfl ?_
    refine seq_store rfl rfl rfl rfl rfl rfl (by repeat (first | exact Sw.here | apply Sw.there)) (by rfl) ?_
    refine seq_done ?_
    refine nrm_seq ?_
    (refine tri_freezes (bs := [(bc, (es.set j yc).flatten ++ C)]) (Pk.perm (by repeat (first | exact Pk.here | apply Pk.there))) (fun hn2 hd2 hle2 => ?_))
    refine tri_ret ?_
    refine ret_fin1 (res_cell rfl (load_ba rfl rfl (by repeat (first | exact List.Mem.head _ | apply List.Mem.tail)) (by rfl))) ?_
    (have hks2 := RTmL.set (j := j) ((hkl.mono hle1).mono hle2) (hry.mono hle2); refine ⟨rfl, _, rfl, ?_⟩; simp only [RTm]; exact ⟨_, _, _, _, es.set j yc, by rw [List.length_set]; rfl, hk, hnum, hlb, (hty.mono hle1).mono hle2, (hfr.mono hle1).mono hle2, SlE.of (Sl.of_blk (A := []) (by rw [flat_len hks2.all, hks2.len]) (by rw [List.length_set]; omega) hcm (Wi.in hn2 List.mem_cons_self)) hks2.len hks2.all (fun e he => by obtain ⟨q, hq⟩ := List.getElem?_of_mem he; exact (hks2.inv hq tm0).2.one), hks2⟩)
end Gw
end Go.Proofs.Ytlefgfdhlblahaa
