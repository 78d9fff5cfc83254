/-
  The program's stack machine: an instruction, a value's text, a run. The law FnExactRunOps. Arguments that are codes; the library's tables as the row lists them.
-/
import Derived.Test.YtaoaeilognhfpaaDoorKa2
import Derived.Test.YtaoaeilognhfpaaDoorKa0
import Derived.Test.YtaoaeilognhfpaaDoorRows
import Derived.Deep.DeepHandedRow
import Derived.Lib.LaidTab
import Derived.Stop.LaidErr
namespace Go.Proofs.YtaoaeilognhfpaaDoor
open Go Go.RowKit
namespace Gw
/-- An instruction of the program's machine. -/
theorem do_fn (k a : Int) (s : MSt) (b n N : Nat) (G : IM) (hp0 : List Ent) (hn : n ≤ 120) (hN : N ≤ 2000) (ho : s.ok n N) (hat : s.at' < n) (hop : mOpOk n s.at'.toNat (k, a) = true) (hM : Mc G s b hp0) :
  Fn Tryd.prog 18 [.pointer (some ⟨b, 0, none⟩), .agg ⟨[.int .i64 k, .int .i64 a]⟩] hp0 G (DoP (mStep k a s) b) := by
 have hlo := ho.lo
 obtain ⟨k1, k2, _⟩ := mOpOk_at hop (by omega)
 by_cases hl : s.st.length < mPops k
 ·exact doFew_fn k a s b N G hp0 hN ho.st hl hM
 ·by_cases hk : k = 6 ∨ k = 7 ∨ k = 8 ∨ k = 11
  ·have hp := mPops2 hk
   obtain ⟨v0, v1, hd, _, _⟩ := two_of (l := s.st) (by omega)
   exact do2_fn k a s b n N v0 v1 G hp0 hk hn hN ho hd (by omega) hM
  ·by_cases hk1 : k = 9 ∨ k = 12 ∨ k = 13
   ·have hp := mPops1 hk1
    obtain ⟨v0, hd, _⟩ := one_of (l := s.st) (by omega)
    exact do1_fn k a s b n N v0 G hp0 hk1 hn hN ho hd hat hop (by omega) hM
   ·exact do0_fn k a s b n N G hp0 (by omega) hn hN ho hat hop hM
set_option maxHeartbeats 0 in
set_option maxRecDepth 100000 in
theorem text_fn (v : MV) (n : Int) (N : Nat) (G : IM) (cells : List Value) (hT : TabG G) (ho : v.ok n N) (hv : RMv kI G v cells) : Fn Tryd.prog 19 [.agg ⟨cells⟩] [] G (Val (.string (mvText v)) G) := by
 obtain ⟨c1, c2, c3, c4, c5, _, _, _, _, _⟩ := ho.spec
 obtain ⟨j, hj⟩ : ∃ j : Nat, v.num = j := ⟨v.num.toNat, by omega⟩
 obtain ⟨p, c, e1, q, d, f1, rfl, _⟩ := hv.open
 rw [hj]
 have hI : Fn Tryd.prog 35 [.int .i64 (j : Int)] [] G (Val (.string ⟨(Lib.decDigits j).toArray⟩) G) := by
  have h := itoa_fn (j : Int) G hT (by omega) (by omega)
  rwa [Int.toNat_natCast] at h
 obtain ⟨m, hm⟩ : ∃ m : Int, v.k = m := ⟨_, rfl⟩
 rw [show kI v.k = m from hm]
 rw [hm] at c1 c2
 refine fn_enter Tryd.func19 rfl Tryd.ntmps19 Tryd.results19 rfl ?_
 intro w0
 refine tri_seq (tri_region ?_)
 (refine seq_step (step_box_a rfl rfl) rfl ?_; rintro _ ⟨b3, rfl⟩)
 refine seq_pure (pure_assign rfl) rfl rfl ?_
 refine seq_done (nrm_seq (tri_seq (tri_seq (tri_region (seq_pure (pure_fieldAddr0 rfl) rfl rfl ?_)))))
 refine seq_load (load_bs rfl rfl (by repeat first | exact mH | apply mT) (by rfl)) rfl rfl ?_
 refine seq_done (nrm_seq (tri_block (tri_seq (tri_region (seq_bool (pure_eql rfl rfl) rfl rfl (fun h17 => ?_) (fun h17 => ?_))))))
 refine seq_pure (pure_assign rfl) rfl rfl ?_
 refine seq_done (nrm_seq (tri_cond_t rfl ?_))
 refine tri_seq (tri_region (seq_pure (pure_fieldAddr0 rfl) rfl rfl ?_))
 refine seq_load (load_bs rfl rfl (by repeat first | exact mH | apply mT) (by rfl)) rfl rfl ?_
 refine seq_val rfl (hI) rfl rfl ?_
 refine seq_pure (pure_assign rfl) rfl rfl ?_
 refine seq_done (nrm_seq (tri_ret (ret_block (ret_seq (ret_fin1 (res_tmp rfl) ?_)))))
 (exact ⟨rfl, congrArg Value.string (mvText0 (by omega) hj).symm, rfl⟩)
 refine seq_pure (pure_assign rfl) rfl rfl ?_
 refine seq_done (nrm_seq (tri_cond_f rfl ?_))
 refine tri_seq (tri_region (seq_bool (pure_eql rfl rfl) rfl rfl (fun h41 => ?_) (fun h41 => ?_)))
 refine seq_pure (pure_assign rfl) rfl rfl ?_
 refine seq_done (nrm_seq (tri_cond_t rfl ?_))
 refine tri_seq (tri_region (seq_pure (pure_fieldAddr0 rfl) rfl rfl ?_))
 refine seq_load (load_bs rfl rfl (by repeat first | exact mH | apply mT) (by rfl)) rfl rfl ?_
 refine seq_pure (pure_fieldAddr0 rfl) rfl rfl ?_
 refine seq_load (load_bs rfl rfl (by repeat first | exact mH | apply mT) (by rfl)) rfl rfl ?_
 refine seq_pure (pure_add rfl rfl (by omega) (by omega)) rfl rfl ?_
 (have hk1 : m = 1 := (by omega); have hj1 := c5 (hm.trans hk1); refine seq_pure (pure_sslice (l := j) (h := j + 1) rfl rfl rfl rfl (by omega) (by show j + 1 ≤ 2; omega)) rfl rfl ?_)
 refine seq_pure (pure_assign rfl) rfl rfl ?_
 refine seq_done (nrm_seq (tri_ret (ret_block (ret_seq (ret_fin1 (res_tmp rfl) ?_)))))
 (exact ⟨rfl, congrArg Value.string (ft_cut (by omega) hj (by omega)), rfl⟩)
 refine seq_pure (pure_assign rfl) rfl rfl ?_
 refine seq_done (nrm_seq (tri_cond_f rfl ?_))
 refine tri_seq (tri_region (seq_bool (pure_eql rfl rfl) rfl rfl (fun h68 => ?_) (fun h68 => ?_)))
 refine seq_pure (pure_assign rfl) rfl rfl ?_
 refine seq_done (nrm_seq (tri_cond_t rfl ?_))
 refine tri_seq (tri_region (seq_pure (pure_assign rfl) rfl rfl ?_))
 refine seq_done (nrm_seq (tri_ret (ret_block (ret_seq (ret_fin1 (res_tmp rfl) ?_)))))
 (exact ⟨rfl, congrArg Value.string (mvText2 (by omega)).symm, rfl⟩)
 refine seq_pure (pure_assign rfl) rfl rfl ?_
 refine seq_done (nrm_seq (tri_cond_f rfl ?_))
 refine tri_skip (nrm_block (nrm_seq (tri_seq (tri_region (seq_pure (pure_assign rfl) rfl rfl ?_)))))
 refine seq_done (nrm_seq (tri_ret (ret_fin1 (res_tmp rfl) ?_)))
 (exact ⟨rfl, congrArg Value.string (mvText3 (by omega)).symm, rfl⟩)
section
variable {ops : Opl} {t : Nat} {s s' : MSt}
theorem mRun_go' (ht : 0 < t) (h : ¬(ops.length : Int) ≤ s.at') (hs : mStep (ops.getD s.at'.toNat (0, 0)).1 (ops.getD s.at'.toNat (0, 0)).2 s = .inl s') : mRun ops (t - 1) s' = mRun ops t s := by
 obtain ⟨r, rfl⟩ : ∃ r, t = r + 1 := ⟨t - 1, by omega⟩
 exact (mRun_go h hs).symm
theorem mRun_stop' {c e : Int} (ht : 0 < t) (h : ¬(ops.length : Int) ≤ s.at') (hs : mStep (ops.getD s.at'.toNat (0, 0)).1 (ops.getD s.at'.toNat (0, 0)).2 s = .inr (c, e)) : mRun ops t s = (⟨#[]⟩, c, e) := by
 obtain ⟨r, rfl⟩ : ∃ r, t = r + 1 := ⟨t - 1, by omega⟩
 exact mRun_stop h hs
end
set_option maxHeartbeats 0 in
set_option maxRecDepth 100000 in
theorem runOps_fn (ops : Opl) (ticks : Int) (G : IM) (p : Option Addr) (n c : Nat) (hT : TabG G) (h : ROps G ops p n c) (hti : I64 ticks) : Fn Tryd.prog 9 [.slice p n c, .int .i64 ticks] [] G (RunP (mRunOps ops ticks)) := by
 have hl := h.sl.le
 have hn := h.len
 obtain ⟨ht1, ht2⟩ := hti
 have hok := @mOps_all ops
 refine fn_enter Tryd.func9 rfl Tryd.ntmps9 Tryd.results9 rfl ?_
 intro w0
 refine tri_seq (tri_region (seq_pure (pure_assign rfl) rfl rfl ?_))
 refine seq_pure (pure_assign rfl) rfl rfl ?_
 refine seq_pure (pure_assign rfl) rfl rfl ?_
 refine seq_done (nrm_seq (tri_seq (tri_seq (tri_region (seq_pure (pure_move rfl) rfl rfl ?_)))))
 refine seq_valb rfl ((opsValid_fn ops G p n c h)) rfl rfl (fun h12 => ?_) (fun h12 => ?_)
 refine seq_pure (pure_not_t rfl) rfl rfl ?_
 refine seq_pure (pure_move rfl) rfl rfl ?_
 refine seq_pure (pure_move rfl) rfl rfl ?_
 refine seq_valb rfl ((within_fn ticks 0 2000 G)) rfl rfl (fun h16 => ?_) (fun h16 => ?_)
 refine seq_pure (pure_not_t rfl) rfl rfl ?_
 refine seq_pure (pure_pick_f rfl rfl) rfl rfl ?_
 refine seq_done (nrm_seq (tri_cond_f rfl ?_))
 refine tri_skip (nrm_seq (tri_seq (tri_region (seq_pure (pure_build rfl rfl) rfl rfl ?_))))
 (refine seq_step (step_box_a rfl rfl) rfl ?_; rintro _ ⟨b27, rfl⟩)
 refine seq_pure (pure_assign rfl) rfl rfl ?_
 refine seq_done (nrm_seq (tri_seq (tri_block ?_)))
 (have hval : mOpsOk ops = true := (by assumption); obtain ⟨hn1, hn2, hops⟩ := hok hval; have hwt : 0 ≤ ticks ∧ ticks ≤ 2000 := (by simp only [withinB, decide_eq_true_eq] at *; omega); obtain ⟨T, rfl⟩ : ∃ T : Nat, ticks = T := ⟨ticks.toNat, by omega⟩; refine tri_nil 79 2 ?_; refine tri_nil 58 4 ?_; refine tri_loopN (fun (x : Nat × MSt × (Option Addr × Nat) × (Option Addr × Nat) × (Option Addr × Nat) × List (List Value) × List (List Value) × IM) => ⟨[(7, .pointer (some ⟨b27, 0, none⟩)), (0, .slice p n c), (1, .int .i64 (x.1 : Int))], [.blk b27 [.int .i64 x.2.1.at', .slice x.2.2.1.1 x.2.1.st.length x.2.2.1.2, .slice x.2.2.2.1.1 x.2.1.env.length x.2.2.2.1.2, .slice x.2.2.2.2.1.1 x.2.1.fr.length x.2.2.2.2.1.2], .slc x.2.2.1.1 x.2.2.1.2 58 4 x.2.1.st.length x.2.2.2.2.2.1.flatten, .slc x.2.2.2.2.1.1 x.2.2.2.2.1.2 79 2 x.2.1.fr.length x.2.2.2.2.2.2.1.flatten], x.2.2.2.2.2.2.2⟩) (fun x => x.1 ≤ T ∧ x.2.1.ok n (T - x.1) ∧ IMle G x.2.2.2.2.2.2.2 ∧ RMvL kI x.2.2.2.2.2.2.2 x.2.1.st x.2.2.2.2.2.1 ∧ (∃ ee, SlE x.2.2.2.2.2.2.2 x.2.2.2.1.1 x.2.1.env.length x.2.2.2.1.2 4 ee ∧ RMvL kI x.2.2.2.2.2.2.2 x.2.1.env ee) ∧ RFrL kI x.2.2.2.2.2.2.2 x.2.1.fr x.2.2.2.2.2.2.1 ∧ mRun ops x.1 x.2.1 = mRunOps ops T) (fun x => x.1) (T, ⟨0, [], [], []⟩, (none, 0), (none, 0), (none, 0), [], [], G) ?_ ?_ ?_)
 (simp only [flat_snoc]; exact sub_mk (by repeat (first | exact SubE.nil | refine SubE.cons rfl ?_)) (by repeat (first | exact SubH.refl | exact SubH.nil | refine SubH.cons (by repeat (first | exact Pk.here | apply Pk.there)) ?_ | apply SubH.drop)))
 (exact ⟨Nat.le_refl _, by rw [Nat.sub_self]; exact st0_ok n, IMle.refl _, rfl, ⟨[], SlE.nil _ 4, rfl⟩, rfl, (mRunOps_yes hval (by omega)).symm⟩)
 (rintro ⟨r, s, ⟨ps, cs⟩, ⟨pe, ce⟩, ⟨pf, cf⟩, es, ef, Gj⟩ ⟨hr, ho, hle, hrs, ⟨ee, hse, hre⟩, hrf, hrun⟩; simp only [] at hr ho hle hrs hse hre hrf hrun ⊢; have hlo := ho.lo; have hhi := ho.hi; have hst := ho.st; replace h := h.mono hle; replace hT := hT.mono hle)
 refine tri_seq (tri_seq (tri_region (seq_pure (pure_move rfl) rfl rfl ?_)))
 refine seq_pure (pure_nilCheck rfl) rfl rfl ?_
 refine seq_pure (pure_fieldAddr0 rfl) rfl rfl ?_
 refine seq_load (load_bs rfl rfl (by repeat first | exact mH | apply mT) (by rfl)) rfl rfl ?_
 refine seq_pure (pure_move rfl) rfl rfl ?_
 refine seq_pure (pure_len rfl rfl) rfl rfl ?_
 refine seq_bool (pure_lss rfl rfl) rfl rfl (fun h46 => ?_) (fun h46 => ?_)
 refine seq_done (nrm_seq (tri_cond_t rfl ?_))
 refine tri_skip (nrm_seq (tri_seq (tri_block (tri_seq (tri_seq ?_)))))
 (obtain ⟨i, hi⟩ : ∃ i : Nat, s.at' = i := ⟨s.at'.toNat, by omega⟩; have hin : i < n := (by omega); obtain ⟨b1, o1, rfl, hop1, hr1, hr2, hgo⟩ := h.get hin; have hOK : mOpOk n s.at'.toNat ((ops.getD i (0, 0)).1, (ops.getD i (0, 0)).2) = true := (by rw [hi, Int.toNat_natCast, hn]; exact hops i (by omega)); have hE := do_fn (ops.getD i (0, 0)).1 (ops.getD i (0, 0)).2 s b27 n (T - r) Gj _ (by omega) (by omega) ho (by omega) hOK ⟨ps, cs, es, pe, ce, ee, pf, cf, ef, rfl, hrs, hse, hre, hrf⟩; rw [hi] at hE; rw [hi])
 refine tri_region (seq_pure (pure_move rfl) rfl rfl ?_)
 refine seq_bool (pure_eql rfl rfl) rfl rfl (fun h59 => ?_) (fun h59 => ?_)
 refine seq_done (nrm_seq (tri_cond_t rfl ?_))
 refine tri_seq (tri_region (seq_pure (pure_assign rfl) rfl rfl ?_))
 refine seq_pure (pure_assign rfl) rfl rfl ?_
 refine seq_pure (pure_assign rfl) rfl rfl ?_
 refine seq_done (nrm_seq (tri_ret (ret_seq (ret_block (ret_seq (ret_loopN ?_))))))
 refine ret_block (ret_seq (ret_fin3 (res_tmp rfl) (res_tmp rfl) (res_tmp rfl) ?_))
 (exact run_is (by rw [← hrun, show r = 0 from by omega, mRun_much (by omega)]))
 refine seq_done (nrm_seq (tri_cond_f rfl ?_))
 refine tri_skip (nrm_seq (tri_seq (tri_region (seq_pure (pure_move rfl) rfl rfl ?_))))
 refine seq_pure (pure_move rfl) rfl rfl ?_
 refine seq_pure (pure_move rfl) rfl rfl ?_
 refine seq_pure (pure_nilCheck rfl) rfl rfl ?_
 refine seq_pure (pure_fieldAddr0 rfl) rfl rfl ?_
 refine seq_load (load_bs rfl rfl (by repeat first | exact mH | apply mT) (by rfl)) rfl rfl ?_
 refine seq_pure (pure_indexAddrN (j := i) rfl rfl rfl hin) rfl rfl ?_
 refine seq_load (load_a rfl rfl (hop1 _) rfl) rfl rfl ?_
 focus (refine seq_take rfl hE (Pk3 (by repeat (first | exact Pk.here | apply Pk.there)) (by repeat (first | exact Pk.here | apply Pk.there)) (by repeat (first | exact Pk.here | apply Pk.there))) rfl rfl (fun v GT outs hleT hh => ?_); obtain ⟨cc, ee', rfl, hno, hgo'⟩ := hh; rcases hstp : mStep (ops.getD i (0, 0)).1 (ops.getD i (0, 0)).2 s with s' | ⟨c2, e2⟩; rotate_left; obtain ⟨rfl, rfl⟩ := hno _ hstp; have hc2 := mStep_err hstp; rotate_left; obtain ⟨rfl, rfl, ps', cs', es', pe', ce', ee2, pf', cf', ef', rfl, hrs', hse', hre', hrf'⟩ := hgo' _ hstp)
 refine seq_pure (pure_move rfl) rfl rfl ?_
 refine seq_pure (pure_extract rfl rfl) rfl rfl ?_
 refine seq_pure (pure_extract rfl rfl) rfl rfl ?_
 refine seq_pure (pure_assign rfl) rfl rfl ?_
 refine seq_pure (pure_assign rfl) rfl rfl ?_
 refine seq_done (nrm_seq (tri_seq (tri_region (seq_pure (pure_move rfl) rfl rfl ?_))))
 refine seq_pure (pure_neq_f rfl rfl (by omega)) rfl rfl ?_
 refine seq_done (nrm_seq (tri_cond_f rfl ?_))
 refine tri_skip (nrm_block (nrm_seq (tri_region (seq_pure (pure_move rfl) rfl rfl ?_))))
 refine seq_pure (pure_sub_nat (z := r - 1) rfl rfl (by omega) (by omega)) rfl rfl ?_
 refine seq_pure (pure_assign rfl) rfl rfl ?_
 refine seq_done (nrm_loopN (r - 1, s', (ps', cs'), (pe', ce'), (pf', cf'), es', ef', GT) ?_ ?_ ?_)
 (simp only [flat_snoc]; exact sub_mk (by repeat (first | exact SubE.nil | refine SubE.cons rfl ?_)) (by repeat (first | exact SubH.refl | exact SubH.nil | refine SubH.cons (by repeat (first | exact Pk.here | apply Pk.there)) ?_ | apply SubH.drop)))
 (dsimp only; exact ⟨by omega, by have h9 := step_ok (by omega) ho (by omega) hOK hstp; rwa [show T - r + 1 = T - (r - 1) from by omega] at h9, hle.trans hleT, hrs', ⟨ee2, hse', hre'⟩, hrf', by rw [← hrun]; exact mRun_go' (by omega) (by omega) (by rw [hi, Int.toNat_natCast]; exact hstp)⟩)
 (show r - 1 < r; omega)
 refine seq_pure (pure_move rfl) rfl rfl ?_
 refine seq_pure (pure_extract rfl rfl) rfl rfl ?_
 refine seq_pure (pure_extract rfl rfl) rfl rfl ?_
 refine seq_pure (pure_assign rfl) rfl rfl ?_
 refine seq_pure (pure_assign rfl) rfl rfl ?_
 refine seq_done (nrm_seq (tri_seq (tri_region (seq_pure (pure_move rfl) rfl rfl ?_))))
 refine seq_pure (pure_neq_t rfl rfl (by omega)) rfl rfl ?_
 refine seq_done (nrm_seq (tri_cond_t rfl ?_))
 refine tri_seq (tri_region (seq_pure (pure_move rfl) rfl rfl ?_))
 refine seq_pure (pure_move rfl) rfl rfl ?_
 refine seq_pure (pure_assign rfl) rfl rfl ?_
 refine seq_pure (pure_assign rfl) rfl rfl ?_
 refine seq_pure (pure_assign rfl) rfl rfl ?_
 refine seq_done (nrm_seq (tri_ret (ret_block (ret_seq (ret_loopN (ret_block ?_))))))
 refine ret_seq (ret_fin3 (res_tmp rfl) (res_tmp rfl) (res_tmp rfl) ?_)
 (exact run_is (by rw [← hrun]; exact mRun_stop' (by omega) (by omega) (by rw [hi, Int.toNat_natCast]; exact hstp)))
 refine seq_done (nrm_seq (tri_cond_f rfl ?_))
 refine tri_exit ?_
 refine ext_seq ?_
 refine ext_loopN ?_
 refine ext_block_eq ?_
 refine nrm_seq (tri_seq (tri_seq (tri_region (seq_pure (pure_move rfl) rfl rfl ?_))))
 refine seq_pure (pure_nilCheck rfl) rfl rfl ?_
 refine seq_pure (pure_fieldAddr0 rfl) rfl rfl ?_
 refine seq_load (load_bs rfl rfl (by repeat first | exact mH | apply mT) (by rfl)) rfl rfl ?_
 refine seq_pure (pure_len rfl rfl) rfl rfl ?_
 refine seq_bool (pure_neq rfl rfl) rfl rfl (fun h168 => ?_) (fun h168 => ?_)
 refine seq_pure (pure_move rfl) rfl rfl ?_
 refine seq_skip rfl rfl ?_
 refine seq_skip rfl rfl ?_
 refine seq_skip rfl rfl ?_
 refine seq_skip rfl rfl ?_
 refine seq_skip rfl rfl ?_
 refine seq_skip rfl rfl ?_
 refine seq_pure (pure_pick_t rfl rfl) rfl rfl ?_
 refine seq_done (nrm_seq (tri_cond_t rfl ?_))
 refine tri_seq (tri_region (seq_pure (pure_assign rfl) rfl rfl ?_))
 refine seq_pure (pure_assign rfl) rfl rfl ?_
 refine seq_pure (pure_assign rfl) rfl rfl ?_
 refine seq_done (nrm_seq (tri_ret (ret_seq (ret_fin3 (res_tmp rfl) (res_tmp rfl) (res_tmp rfl) ?_))))
 (exact run_is (by rw [← hrun, mRun_end (by omega), mEnd_no (by omega)]))
 refine seq_pure (pure_move rfl) rfl rfl ?_
 refine seq_pure (pure_move rfl) rfl rfl ?_
 refine seq_pure (pure_nilCheck rfl) rfl rfl ?_
 refine seq_pure (pure_fieldAddr0 rfl) rfl rfl ?_
 refine seq_load (load_bs rfl rfl (by repeat first | exact mH | apply mT) (by rfl)) rfl rfl ?_
 refine seq_pure (pure_len rfl rfl) rfl rfl ?_
 refine seq_bool (pure_gtr rfl rfl) rfl rfl (fun h197 => ?_) (fun h197 => ?_)
 refine seq_pure (pure_pick_f rfl rfl) rfl rfl ?_
 refine seq_done (nrm_seq (tri_cond_t rfl ?_))
 refine tri_seq ?_
 (have h1s : s.st.length = 1 := (by omega); refine tri_know (fun a w hs => hs.slc_form (p := ps) (c := cs) (el := 58) (sz := 4) (n := s.st.length) (cs := es.flatten) (by repeat first | exact mH | apply mT)) (fun hq => ?_); obtain ⟨_, _, hps⟩ := hq; obtain ⟨gs, rfl⟩ := hps (by omega); obtain ⟨e0, he0, hv0⟩ := hrs.get (i := 0) (getD_some' (d := mv0) (by omega)); have hv0' := hv0; obtain ⟨_, _, _, _, _, _, rfl, _⟩ := hv0'.open; have hsv := (fun (j : Nat) (v : Value) hj => flat_get hrs.all he0 j v hj))
 refine tri_region (seq_pure (pure_assign rfl) rfl rfl ?_)
 refine seq_pure (pure_assign rfl) rfl rfl ?_
 refine seq_pure (pure_assign rfl) rfl rfl ?_
 refine seq_done (nrm_seq (tri_ret (ret_seq (ret_fin3 (res_tmp rfl) (res_tmp rfl) (res_tmp rfl) ?_))))
 (exact run_is (by rw [← hrun, mRun_end (by omega), mEnd_no (by omega)]))
 refine seq_pure (pure_pick_f rfl rfl) rfl rfl ?_
 refine seq_done (nrm_seq (tri_cond_f rfl ?_))
 refine tri_skip (nrm_seq (tri_seq ?_))
 (have h1s : s.st.length = 1 := (by omega); refine tri_know (fun a w hs => hs.slc_form (p := ps) (c := cs) (el := 58) (sz := 4) (n := s.st.length) (cs := es.flatten) (by repeat first | exact mH | apply mT)) (fun hq => ?_); obtain ⟨_, _, hps⟩ := hq; obtain ⟨gs, rfl⟩ := hps (by omega); obtain ⟨e0, he0, hv0⟩ := hrs.get (i := 0) (getD_some' (d := mv0) (by omega)); have hv0' := hv0; obtain ⟨_, _, _, _, _, _, rfl, _⟩ := hv0'.open; have hsv := (fun (j : Nat) (v : Value) hj => flat_get hrs.all he0 j v hj))
 refine tri_region (seq_pure (pure_move rfl) rfl rfl ?_)
 refine seq_pure (pure_nilCheck rfl) rfl rfl ?_
 refine seq_pure (pure_fieldAddr0 rfl) rfl rfl ?_
 refine seq_load (load_bs rfl rfl (by repeat first | exact mH | apply mT) (by rfl)) rfl rfl ?_
 refine seq_pure (pure_indexAddrN (j := 0) rfl rfl rfl (by omega)) rfl rfl ?_
 refine seq_load (load_a rfl rfl (at_slc (by repeat first | exact mH | apply mT) hsv) rfl) rfl rfl ?_
 refine seq_val rfl ((text_fn (s.st.getD 0 mv0) n (T - r) Gj _ hT (ho.sto _ (getD_mem' (by omega))) hv0)) rfl rfl ?_
 refine seq_pure (pure_assign rfl) rfl rfl ?_
 refine seq_pure (pure_assign rfl) rfl rfl ?_
 refine seq_pure (pure_assign rfl) rfl rfl ?_
 refine seq_done (nrm_seq (tri_ret (ret_fin3 (res_tmp rfl) (res_tmp rfl) (res_tmp rfl) ?_)))
 (exact run_is (by rw [← hrun, mRun_end (by omega), mEnd_yes h1s (by omega)]))
 refine seq_pure (pure_not_f rfl) rfl rfl ?_
 refine seq_pure (pure_pick_f rfl rfl) rfl rfl ?_
 refine seq_done (nrm_seq (tri_cond_t rfl ?_))
 refine tri_seq (tri_region (seq_pure (pure_assign rfl) rfl rfl ?_))
 refine seq_pure (pure_assign rfl) rfl rfl ?_
 refine seq_pure (pure_assign rfl) rfl rfl ?_
 refine seq_done (nrm_seq (tri_ret (ret_seq (ret_fin3 (res_tmp rfl) (res_tmp rfl) (res_tmp rfl) ?_))))
 (exact run_is (mRunOps_no (by rintro ⟨h1, h2, h3⟩; first | (simp only [withinB, decide_eq_false_iff_not] at *; omega) | exact Bool.noConfusion (h1.symm.trans (show mOpsOk ops = false from (by assumption))))))
 refine seq_pure (pure_not_f rfl) rfl rfl ?_
 refine seq_pure (pure_move rfl) rfl rfl ?_
 refine seq_skip rfl rfl ?_
 refine seq_skip rfl rfl ?_
 refine seq_skip rfl rfl ?_
 refine seq_pure (pure_pick_t rfl rfl) rfl rfl ?_
 refine seq_done (nrm_seq (tri_cond_t rfl ?_))
 refine tri_seq (tri_region (seq_pure (pure_assign rfl) rfl rfl ?_))
 refine seq_pure (pure_assign rfl) rfl rfl ?_
 refine seq_pure (pure_assign rfl) rfl rfl ?_
 refine seq_done (nrm_seq (tri_ret (ret_seq (ret_fin3 (res_tmp rfl) (res_tmp rfl) (res_tmp rfl) ?_))))
 (exact run_is (mRunOps_no (by rintro ⟨h1, h2, h3⟩; first | (simp only [withinB, decide_eq_false_iff_not] at *; omega) | exact Bool.noConfusion (h1.symm.trans (show mOpsOk ops = false from (by assumption))))))
end Gw
end Go.Proofs.YtaoaeilognhfpaaDoor
namespace Go.Proofs.YtaoaeilognhfpaaDoor
open Go Go.RowKit
namespace Gw
theorem ops_take {ops : Opl} {i : Nat} {es : List (List Value)} (h : es = (ops.take i).map opCells) (hi : i < ops.length) : es ++ [[.int .i64 (ops.getD i (0, 0)).1, .int .i64 (ops.getD i (0, 0)).2]] = (ops.take (i + 1)).map opCells := by
 have hx : ops.getD i (0, 0) = ops[i] := by rw [List.getD_eq_getElem?_getD, List.getElem?_eq_getElem hi, Option.getD_some]
 rw [h, List.take_succ_eq_append_getElem hi, List.map_append, hx]; rfl
theorem opc_all (ops : Opl) : ∀ e ∈ ops.map opCells, e.length = 2 := by
 intro e he
 obtain ⟨x, _, rfl⟩ := List.mem_map.1 he; rfl
theorem opc_one (ops : Opl) : ∀ e ∈ ops.map opCells, e.all (·.oneCell') = true := by
 intro e he
 obtain ⟨x, _, rfl⟩ := List.mem_map.1 he; rfl
set_option maxRecDepth 100000 in
theorem szOpS_fn (p : Option Addr) (n c : Nat) (l : Int) (G : IM) (hn : n ≤ 9223372036854775807) (hl : l = 1048576) : Fn Tryd.prog 6 [.slice p n c, .int .i64 l] [] G (Val (.int .i64 (if 1048576 < (n : Int) then -1 else 1048576 - n)) G) := by
 subst hl
 refine fn_enter Tryd.func6 rfl Tryd.ntmps6 Tryd.results6 rfl ?_
 intro w0
 refine tri_seq (tri_region (seq_pure (pure_assign rfl) rfl rfl ?_))
 refine seq_done (nrm_seq (tri_seq (tri_region (seq_pure (pure_move rfl) rfl rfl ?_))))
 refine seq_pure (pure_move rfl) rfl rfl ?_
 refine seq_pure (pure_len rfl rfl) rfl rfl ?_
 refine seq_pure (pure_sub rfl rfl (by omega) (by omega)) rfl rfl ?_
 refine seq_pure (pure_assign rfl) rfl rfl ?_
 refine seq_done (nrm_seq (tri_seq (tri_seq (tri_region (seq_pure (pure_move rfl) rfl rfl ?_)))))
 refine seq_bool (pure_lss rfl rfl) rfl rfl (fun h19 => ?_) (fun h19 => ?_)
 refine seq_done (nrm_seq (tri_cond_t rfl ?_))
 refine tri_seq (tri_region (seq_pure (pure_assign rfl) rfl rfl ?_))
 refine seq_done (nrm_seq (tri_ret (ret_seq (ret_fin1 (res_tmp rfl) ?_))))
 (exact ⟨rfl, by rw [if_pos (by omega)], rfl⟩)
 refine seq_done (nrm_seq (tri_cond_f rfl ?_))
 refine tri_skip (nrm_seq (tri_seq (tri_region (seq_pure (pure_move rfl) rfl rfl ?_))))
 refine seq_pure (pure_assign rfl) rfl rfl ?_
 refine seq_done (nrm_seq (tri_ret (ret_fin1 (res_tmp rfl) ?_)))
 (exact ⟨rfl, by rw [if_neg (by omega)], rfl⟩)
set_option maxRecDepth 100000 in
theorem toOp_fn (a b : Int) (G : IM) (ha : I64 a) (hb : I64 b) : Fn Tryd.prog 16 [.agg ⟨[.int .i64 a, .int .i64 b]⟩] [] G (Val (.agg ⟨[.int .i64 a, .int .i64 b]⟩) G) := by
 refine fn_enter Tryd.func16 rfl Tryd.ntmps16 Tryd.results16 rfl ?_
 intro w0
 refine tri_seq (tri_region ?_)
 (refine seq_step (step_box_a rfl rfl) rfl ?_; rintro _ ⟨b3, rfl⟩)
 (refine seq_step (step_alloc rfl) rfl ?_; rintro _ ⟨b4, rfl⟩)
 refine seq_done (nrm_seq (tri_seq (tri_region ?_)))
 (refine seq_step (step_alloc rfl) rfl ?_; rintro _ ⟨b9, rfl⟩)
 refine seq_done (nrm_seq (tri_seq (tri_region (seq_pure (pure_fieldAddr0 rfl) rfl rfl ?_))))
 refine seq_load (load_bs rfl rfl (by repeat first | exact mH | apply mT) (by rfl)) rfl rfl ?_
 refine seq_pure (pure_fieldAddr0 rfl) rfl rfl ?_
 refine seq_store rfl rfl rfl rfl rfl rfl (by repeat first | exact Sw.here | apply Sw.there) (by rfl) ?_
 refine seq_done (nrm_seq (tri_seq (tri_region (seq_pure (pure_fieldAddr0 rfl) rfl rfl ?_))))
 refine seq_load (load_bs rfl rfl (by repeat first | exact mH | apply mT) (by rfl)) rfl rfl ?_
 refine seq_pure (pure_fieldAddr0 rfl) rfl rfl ?_
 refine seq_store rfl rfl rfl rfl rfl rfl (by repeat first | exact Sw.here | apply Sw.there) (by rfl) ?_
 refine seq_done (nrm_seq (tri_seq (tri_region (seq_load (load_ba rfl rfl (by repeat first | exact mH | apply mT) (by rfl)) rfl rfl ?_))))
 refine seq_store rfl rfl rfl rfl rfl rfl (by repeat first | exact Sw.here | apply Sw.there) (by rfl) ?_
 refine seq_done (nrm_seq (tri_ret (ret_fin1 (res_cell rfl (load_ba rfl rfl (by repeat first | exact mH | apply mT) (by rfl))) ?_)))
 (exact ⟨rfl, rfl, rfl⟩)
set_option maxRecDepth 100000 in
theorem eqOp_fn (a b : Int) (G : IM) : Fn Tryd.prog 20 [.agg ⟨[.int .i64 a, .int .i64 b]⟩, .agg ⟨[.int .i64 a, .int .i64 b]⟩] [] G (Val (.bool true) G) := by
 refine fn_enter Tryd.func20 rfl Tryd.ntmps20 Tryd.results20 rfl ?_
 intro w0
 refine tri_seq (tri_region ?_)
 (refine seq_step (step_box_a rfl rfl) rfl ?_; rintro _ ⟨b3, rfl⟩)
 (refine seq_step (step_box_a rfl rfl) rfl ?_; rintro _ ⟨b4, rfl⟩)
 refine seq_pure (pure_assign rfl) rfl rfl ?_
 refine seq_done (nrm_seq (tri_seq (tri_seq (tri_region (seq_pure (pure_fieldAddr0 rfl) rfl rfl ?_)))))
 refine seq_load (load_bs rfl rfl (by repeat first | exact mH | apply mT) (by rfl)) rfl rfl ?_
 refine seq_pure (pure_fieldAddr0 rfl) rfl rfl ?_
 refine seq_load (load_bs rfl rfl (by repeat first | exact mH | apply mT) (by rfl)) rfl rfl ?_
 refine seq_pure (pure_neq_f rfl rfl (by omega)) rfl rfl ?_
 refine seq_done (nrm_seq (tri_cond_f rfl ?_))
 refine tri_skip (nrm_seq (tri_seq (tri_seq (tri_region (seq_pure (pure_fieldAddr0 rfl) rfl rfl ?_)))))
 refine seq_load (load_bs rfl rfl (by repeat first | exact mH | apply mT) (by rfl)) rfl rfl ?_
 refine seq_pure (pure_fieldAddr0 rfl) rfl rfl ?_
 refine seq_load (load_bs rfl rfl (by repeat first | exact mH | apply mT) (by rfl)) rfl rfl ?_
 refine seq_pure (pure_neq_f rfl rfl (by omega)) rfl rfl ?_
 refine seq_done (nrm_seq (tri_cond_f rfl ?_))
 refine tri_skip (nrm_seq (tri_seq (tri_region (seq_pure (pure_assign rfl) rfl rfl ?_))))
 refine seq_done (nrm_seq (tri_ret (ret_fin1 (res_tmp rfl) ?_)))
 (exact ⟨rfl, rfl, rfl⟩)
set_option maxHeartbeats 0 in
set_option maxRecDepth 100000 in
theorem eqOpS_fn (ops : Opl) (G : IM) (p p' : Option Addr) (n c c' : Nat) (h : ROps G ops p n c) (h' : ROps G ops p' n c') : Fn Tryd.prog 10 [.slice p n c, .slice p' n c'] [] G (Val (.bool true) G) := by
 have hl := h.sl.le
 refine fn_enter Tryd.func10 rfl Tryd.ntmps10 Tryd.results10 rfl ?_
 intro w0
 refine tri_seq (tri_region (seq_pure (pure_assign rfl) rfl rfl ?_))
 refine seq_done (nrm_seq (tri_seq (tri_seq (tri_region (seq_pure (pure_move rfl) rfl rfl ?_)))))
 refine seq_pure (pure_len rfl rfl) rfl rfl ?_
 refine seq_pure (pure_move rfl) rfl rfl ?_
 refine seq_pure (pure_len rfl rfl) rfl rfl ?_
 refine seq_pure (pure_neq_f rfl rfl (by omega)) rfl rfl ?_
 refine seq_done (nrm_seq (tri_cond_f rfl ?_))
 refine tri_skip (nrm_seq (tri_seq (tri_seq (tri_region (seq_pure (pure_assign rfl) rfl rfl ?_)))))
 refine seq_done (nrm_seq (tri_block ?_))
 (refine tri_loopN (fun (i : Nat) => ⟨[(5, .int .i64 (i : Int)), (0, .slice p n c), (1, .slice p' n c')], [], G⟩) (fun i => i ≤ n) (fun i => n - i) 0 ?_ ?_ ?_)
 exact sub_mk (by repeat (first | exact SubE.nil | refine SubE.cons rfl ?_)) (by repeat (first | exact SubH.refl | exact SubH.nil | refine SubH.cons (by repeat (first | exact Pk.here | apply Pk.there)) ?_ | apply SubH.drop))
 (exact Nat.zero_le _)
 (rintro i hi)
 refine tri_seq (tri_seq (tri_region (seq_pure (pure_move rfl) rfl rfl ?_)))
 refine seq_pure (pure_move rfl) rfl rfl ?_
 refine seq_pure (pure_len rfl rfl) rfl rfl ?_
 refine seq_bool (pure_lss rfl rfl) rfl rfl (fun h36 => ?_) (fun h36 => ?_)
 refine seq_done (nrm_seq (tri_cond_t rfl ?_))
 refine tri_skip (nrm_seq (tri_seq (tri_block (tri_seq ?_))))
 (have hin : i < n := (by omega); obtain ⟨b1, o1, rfl, hop1, _, _, _⟩ := h.get hin; obtain ⟨b2, o2, rfl, hop2, _, _, _⟩ := h'.get hin; refine tri_draw mixed rfl ?_)
 refine any_pure (i := 0) (listed' := [tt,ff,ff,ff,ff,ff,ff,ff,ff,ff]) rfl npI (pure_move rfl) rfl (by kernel_rfl) rfl rfl ?_
 refine any_pure (i := 1) (listed' := [tt,tt,ff,ff,ff,ff,ff,ff,ff,ff]) rfl npI (pure_move rfl) rfl (by kernel_rfl) rfl rfl ?_
 refine any_pure (i := 2) (listed' := [tt,tt,tt,ff,ff,ff,ff,ff,ff,ff]) rfl npI (pure_indexAddrN (j := i) rfl rfl rfl hin) rfl (by kernel_rfl) rfl rfl ?_
 refine any_load (i := 3) (listed' := [tt,tt,tt,tt,ff,ff,ff,ff,ff,ff]) rfl npI (load_a rfl rfl (hop1 _) rfl) rfl (by kernel_rfl) rfl rfl ?_
 refine any_pure (i := 4) (listed' := [tt,tt,tt,tt,tt,ff,ff,ff,ff,ff]) rfl npI (pure_move rfl) rfl (by kernel_rfl) rfl rfl ?_
 refine any_pure (i := 5) (listed' := [tt,tt,tt,tt,tt,tt,ff,ff,ff,ff]) rfl npI (pure_move rfl) rfl (by kernel_rfl) rfl rfl ?_
 refine any_pure (i := 6) (listed' := [tt,tt,tt,tt,tt,tt,tt,ff,ff,ff]) rfl npI (pure_indexAddrN (j := i) rfl rfl rfl hin) rfl (by kernel_rfl) rfl rfl ?_
 refine any_load (i := 7) (listed' := [tt,tt,tt,tt,tt,tt,tt,tt,ff,ff]) rfl npI (load_a rfl rfl (hop2 _) rfl) rfl (by kernel_rfl) rfl rfl ?_
 refine any_one (j := 8) (by kernel_rfl) ?_
 refine one_val (listed' := [tt,tt,tt,tt,tt,tt,tt,tt,tt,ff]) rfl rfl ((eqOp_fn _ _ _)) rfl rfl rfl ?_
 refine any_pure (i := 9) (listed' := [tt,tt,tt,tt,tt,tt,tt,tt,tt,tt]) rfl npI (pure_not_t rfl) rfl (by kernel_rfl) rfl rfl ?_
 refine any_done (by kernel_rfl) ?_
 refine nrm_seq (tri_cond_f rfl ?_)
 refine tri_skip (nrm_block (nrm_seq (tri_region (seq_pure (pure_move rfl) rfl rfl ?_))))
 refine seq_pure (pure_add rfl rfl (by omega) (by omega)) rfl rfl ?_
 refine seq_pure (pure_assign rfl) rfl rfl ?_
 refine seq_done (nrm_loopN (i + 1) ?_ ?_ ?_)
 exact sub_mk (by repeat (first | exact SubE.nil | refine SubE.cons rfl ?_)) (by repeat (first | exact SubH.refl | exact SubH.nil | refine SubH.cons (by repeat (first | exact Pk.here | apply Pk.there)) ?_ | apply SubH.drop))
 (show i + 1 ≤ n; omega)
 (show n - (i + 1) < n - i; omega)
 refine seq_done (nrm_seq (tri_cond_f rfl ?_))
 refine tri_exit ?_
 refine ext_seq ?_
 refine ext_loopN ?_
 refine ext_block_eq ?_
 refine nrm_seq (tri_seq (tri_region (seq_pure (pure_assign rfl) rfl rfl ?_)))
 refine seq_done (nrm_seq (tri_ret (ret_fin1 (res_tmp rfl) ?_)))
 (exact ⟨rfl, rfl, rfl⟩)
set_option maxHeartbeats 0 in
set_option maxRecDepth 100000 in
theorem toOpS_fn (ops : Opl) (G : IM) (p : Option Addr) (n c : Nat) (h : ROps G ops p n c) (hsm : n ≤ 4294967296) : Fn Tryd.prog 8 [.slice p n c] [] G (Imm fun G' v => ∃ p' c', v = .slice p' n c' ∧ ROps G' ops p' n c') := by
 have hl := h.sl.le
 have hn := h.len
 refine fn_enter Tryd.func8 rfl Tryd.ntmps8 Tryd.results8 rfl ?_
 intro w0
 refine tri_seq (tri_region (seq_pure (pure_assign rfl) rfl rfl ?_))
 refine seq_done (nrm_seq (tri_seq (tri_region (seq_pure (pure_move rfl) rfl rfl ?_))))
 refine seq_pure (pure_len rfl rfl) rfl rfl ?_
 (refine seq_makeBlk rfl rfl rfl (by omega) (by unfold maxLen; omega) rfl (fun bm => ?_))
 refine seq_pure (pure_assign rfl) rfl rfl ?_
 refine seq_done (nrm_seq (tri_seq (tri_seq (tri_region (seq_pure (pure_assign rfl) rfl rfl ?_)))))
 refine seq_done (nrm_seq (tri_block ?_))
 (refine tri_loopN (fun (x : Nat × List (List Value)) => ⟨[(4, .int .i64 x.1), (3, .slice (some ⟨bm, 0, none⟩) n n), (0, .slice p n c)], [.blk bm (x.2.flatten ++ zrep (n - x.1) [.int .i64 0, .int .i64 0])], G⟩) (fun x => x.1 ≤ n ∧ x.2 = (ops.take x.1).map opCells) (fun x => n - x.1) (0, []) ?_ ?_ ?_)
 (simp only [flat_snoc]; exact sub_mk (by repeat (first | exact SubE.nil | refine SubE.cons rfl ?_)) (by repeat (first | exact SubH.refl | exact SubH.nil | refine SubH.cons (by repeat (first | exact Pk.here | apply Pk.there)) ?_ | apply SubH.drop)))
 (exact ⟨Nat.zero_le _, rfl⟩)
 (rintro ⟨i, es⟩ ⟨hi, hes⟩; simp only [] at hi hes ⊢; have hel : es.length = i := (by rw [hes, List.length_map, List.length_take]; omega); have hea : ∀ e ∈ es, e.length = 2 := (by rw [hes]; exact opc_all _))
 refine tri_seq (tri_seq (tri_region (seq_pure (pure_move rfl) rfl rfl ?_)))
 refine seq_pure (pure_move rfl) rfl rfl ?_
 refine seq_pure (pure_len rfl rfl) rfl rfl ?_
 refine seq_bool (pure_lss rfl rfl) rfl rfl (fun h31 => ?_) (fun h31 => ?_)
 refine seq_done (nrm_seq (tri_cond_t rfl ?_))
 refine tri_skip (nrm_seq (tri_seq (tri_block ?_)))
 (have hin : i < n := (by omega); obtain ⟨b1, o1, rfl, hop1, hr1, hr2, _⟩ := h.get hin)
 refine tri_region (seq_pure (pure_move rfl) rfl rfl ?_)
 refine seq_pure (pure_move rfl) rfl rfl ?_
 refine seq_pure (pure_move rfl) rfl rfl ?_
 refine seq_pure (pure_move rfl) rfl rfl ?_
 refine seq_pure (pure_indexAddrN (j := i) rfl rfl rfl (by omega)) rfl rfl ?_
 refine seq_load (load_a rfl rfl (hop1 _) rfl) rfl rfl ?_
 refine seq_val rfl ((toOp_fn _ _ _ hr1 hr2)) rfl rfl ?_
 refine seq_pure (pure_indexAddrN (j := i) rfl rfl rfl (by omega)) rfl rfl ?_
 (refine seq_store rfl rfl rfl rfl rfl rfl (by repeat first | exact Sw.here | apply Sw.there) (upd_next hel hea rfl rfl (by omega)) ?_)
 refine seq_done (nrm_block (nrm_seq (tri_region (seq_pure (pure_move rfl) rfl rfl ?_))))
 refine seq_pure (pure_add rfl rfl (by omega) (by omega)) rfl rfl ?_
 refine seq_pure (pure_assign rfl) rfl rfl ?_
 refine seq_done (nrm_loopN (i + 1, es ++ [[.int .i64 (ops.getD i (0, 0)).1, .int .i64 (ops.getD i (0, 0)).2]]) ?_ ?_ ?_)
 (simp only [flat_snoc]; exact sub_mk (by repeat (first | exact SubE.nil | refine SubE.cons rfl ?_)) (by repeat (first | exact SubH.refl | exact SubH.nil | refine SubH.cons (by repeat (first | exact Pk.here | apply Pk.there)) ?_ | apply SubH.drop)))
 (dsimp only; exact ⟨by omega, ops_take hes (by omega)⟩)
 (show n - (i + 1) < n - i; omega)
 refine seq_done (nrm_seq (tri_cond_f rfl ?_))
 refine tri_exit ?_
 refine ext_seq ?_
 refine ext_loopN ?_
 refine ext_block_eq ?_
 refine nrm_seq (tri_seq (tri_region (seq_pure (pure_move rfl) rfl rfl ?_)))
 refine seq_pure (pure_assign rfl) rfl rfl ?_
 refine seq_done (nrm_seq ?_)
 (obtain rfl : i = n := (by omega); rw [zrep_self]; refine tri_freezes (bs := [(bm, es.flatten)]) (List.Perm.refl _) (fun hn2 hd2 hle2 => ?_))
 refine tri_ret (ret_fin1 (res_tmp rfl) ?_)
 (rw [hn, List.take_length] at hes; exact ⟨rfl, _, _, rfl, ⟨hes ▸ SlE.of (sl_wi (by rw [flat_len hea, hel]) (by unfold maxLen; omega)) hel hea (by rw [hes]; exact opc_one _), hn, h.rng⟩⟩)
set_option maxHeartbeats 0 in
set_option maxRecDepth 100000 in
theorem runOpsLaw_fn (ops : Opl) (ticks : Int) (G : IM) (p : Option Addr) (n c : Nat) (hT : TabG G) (h : ROps G ops p n c) (hti : I64 ticks) : Fn Tryd.prog 3 [.slice p n c, .int .i64 ticks] [] G (Imm fun _ v => v = .bool true) := by
 have hl := h.sl.le
 obtain ⟨r, hr⟩ : ∃ r, mRunOps ops ticks = r := ⟨_, rfl⟩
 obtain ⟨s, k, e⟩ := r
 refine fn_enter Tryd.func3 rfl Tryd.ntmps3 Tryd.results3 rfl ?_
 intro w0
 refine tri_seq (tri_region (seq_pure (pure_assign rfl) rfl rfl ?_))
 refine seq_done (nrm_seq (tri_seq (tri_region (seq_pure (pure_assign rfl) rfl rfl ?_))))
 refine seq_done (nrm_seq (tri_seq (tri_region (seq_pure (pure_move rfl) rfl rfl ?_))))
 refine seq_pure (pure_move rfl) rfl rfl ?_
 focus (have hz := szOpS_fn p n c 1048576 G hl rfl; by_cases hbig : 1048576 < (n : Int); rw [if_pos hbig] at hz; rotate_left; rw [if_neg hbig] at hz; rotate_left; all_goals (refine seq_val rfl hz rfl rfl ?_))
 refine seq_pure (pure_assign rfl) rfl rfl ?_
 refine seq_done (nrm_seq (tri_seq (tri_seq (tri_region (seq_pure (pure_move rfl) rfl rfl ?_)))))
 refine seq_pure (pure_lss_t rfl rfl (by omega)) rfl rfl ?_
 refine seq_done (nrm_seq (tri_cond_t rfl ?_))
 refine tri_seq (tri_region (seq_pure (pure_assign rfl) rfl rfl ?_))
 refine seq_done (nrm_seq (tri_ret (ret_seq (ret_fin1 (res_tmp rfl) ?_))))
 (exact ⟨rfl, rfl⟩)
 refine seq_pure (pure_assign rfl) rfl rfl ?_
 refine seq_done (nrm_seq (tri_seq (tri_seq (tri_region (seq_pure (pure_move rfl) rfl rfl ?_)))))
 refine seq_pure (pure_lss_f rfl rfl (by omega)) rfl rfl ?_
 refine seq_done (nrm_seq (tri_cond_f rfl ?_))
 refine tri_skip (nrm_seq (tri_seq (tri_region (seq_pure (pure_move rfl) rfl rfl ?_))))
 (refine seq_imm rfl (toOpS_fn ops G p n c h (by omega)) rfl rfl (fun v1 G1 hle1 hh => ?_); obtain ⟨p1, c1, rfl, h1⟩ := hh; have hS := sRunOps_fn ops ticks G1 p1 n c1 h1 hti; rw [hr] at hS; replace h := h.mono hle1; replace hT := hT.mono hle1)
 refine seq_pure (pure_move rfl) rfl rfl ?_
 (refine seq_imm rfl hS rfl rfl (fun v2 G2 hle2 hh => ?_); subst hh; replace h := h.mono hle2; replace hT := hT.mono hle2)
 refine seq_pure (pure_move rfl) rfl rfl ?_
 refine seq_pure (pure_extract rfl rfl) rfl rfl ?_
 refine seq_pure (pure_extract rfl rfl) rfl rfl ?_
 refine seq_pure (pure_extract rfl rfl) rfl rfl ?_
 refine seq_pure (pure_assign rfl) rfl rfl ?_
 refine seq_pure (pure_assign rfl) rfl rfl ?_
 refine seq_pure (pure_assign rfl) rfl rfl ?_
 refine seq_done (nrm_seq (tri_seq (tri_region (seq_pure (pure_move rfl) rfl rfl ?_))))
 (refine seq_imm rfl (toOpS_fn ops G2 p n c h (by omega)) rfl rfl (fun v3 G3 hle3 hh => ?_); obtain ⟨p3, c3, rfl, h3⟩ := hh; replace hT := hT.mono hle3; have hI := runOps_fn ops ticks G3 p3 n c3 hT h3 hti; rw [hr] at hI; replace h := h.mono hle3)
 refine seq_pure (pure_assign rfl) rfl rfl ?_
 refine seq_done (nrm_seq (tri_seq (tri_region (seq_pure (pure_move rfl) rfl rfl ?_))))
 refine seq_pure (pure_move rfl) rfl rfl ?_
 (refine seq_imm rfl hI rfl rfl (fun v4 G4 hle4 hh => ?_); subst hh; replace h := h.mono hle4; replace h3 := h3.mono hle4)
 refine seq_pure (pure_move rfl) rfl rfl ?_
 refine seq_pure (pure_extract rfl rfl) rfl rfl ?_
 refine seq_pure (pure_extract rfl rfl) rfl rfl ?_
 refine seq_pure (pure_extract rfl rfl) rfl rfl ?_
 refine seq_pure (pure_assign rfl) rfl rfl ?_
 refine seq_pure (pure_assign rfl) rfl rfl ?_
 refine seq_pure (pure_assign rfl) rfl rfl ?_
 refine seq_done (nrm_seq (tri_seq (tri_seq (tri_region (seq_pure (pure_move rfl) rfl rfl ?_)))))
 refine seq_pure (pure_move rfl) rfl rfl ?_
 refine seq_bool (pure_sneq rfl rfl) rfl rfl (fun h90 => ?_) (fun h90 => ?_)
 refine seq_pure (pure_move rfl) rfl rfl ?_
 refine seq_skip rfl rfl ?_
 refine seq_skip rfl rfl ?_
 refine seq_skip rfl rfl ?_
 refine seq_pure (pure_pick_t rfl rfl) rfl rfl ?_
 refine seq_pure (pure_move rfl) rfl rfl ?_
 refine seq_skip rfl rfl ?_
 refine seq_skip rfl rfl ?_
 refine seq_skip rfl rfl ?_
 refine seq_pure (pure_pick_t rfl rfl) rfl rfl ?_
 refine seq_done (nrm_seq (tri_cond_t rfl ?_))
 refine tri_seq (tri_region (seq_pure (pure_assign rfl) rfl rfl ?_))
 refine seq_done (nrm_seq (tri_ret (ret_seq (ret_fin1 (res_tmp rfl) ?_))))
 (exfalso; first | omega | contradiction | simp_all)
 refine seq_pure (pure_move rfl) rfl rfl ?_
 refine seq_pure (pure_move rfl) rfl rfl ?_
 refine seq_pure (pure_move rfl) rfl rfl ?_
 refine seq_pure (pure_neq_f rfl rfl (by omega)) rfl rfl ?_
 refine seq_pure (pure_pick_f rfl rfl) rfl rfl ?_
 refine seq_pure (pure_move rfl) rfl rfl ?_
 refine seq_pure (pure_move rfl) rfl rfl ?_
 refine seq_pure (pure_move rfl) rfl rfl ?_
 refine seq_pure (pure_neq_f rfl rfl (by omega)) rfl rfl ?_
 refine seq_pure (pure_pick_f rfl rfl) rfl rfl ?_
 refine seq_done (nrm_seq (tri_cond_f rfl ?_))
 refine tri_skip (nrm_seq (tri_seq (tri_seq (tri_region (seq_pure (pure_move rfl) rfl rfl ?_)))))
 refine seq_pure (pure_move rfl) rfl rfl ?_
 (refine seq_imm rfl (toOpS_fn ops G4 p n c h (by omega)) rfl rfl (fun v5 G5 hle5 hh => ?_); obtain ⟨p5, c5, rfl, h5⟩ := hh; replace h3 := h3.mono hle5)
 refine seq_val rfl ((eqOpS_fn ops G5 p3 p5 n c3 c5 h3 h5)) rfl rfl ?_
 refine seq_pure (pure_not_t rfl) rfl rfl ?_
 refine seq_done (nrm_seq (tri_cond_f rfl ?_))
 refine tri_skip (nrm_seq (tri_seq (tri_region (seq_pure (pure_assign rfl) rfl rfl ?_))))
 refine seq_done (nrm_seq (tri_ret (ret_fin1 (res_tmp rfl) ?_)))
 (exact ⟨rfl, rfl⟩)
end Gw
end Go.Proofs.YtaoaeilognhfpaaDoor
namespace Go.Proofs.YtaoaeilognhfpaaDoor
open Go Go.RowKit Go.ChangeShapes Go.WideShapes Go.ChangeAt
namespace Gw
theorem cellsOp : Tryd.prog.cellsOf 48 = 2 := by kernel_rfl
theorem build_op {q : Nat → List Value → Prop} : ∀ {n : Nat}, (∀ i, i < n → ∃ e x, q i e ∧ e = opCells x ∧ I64 x.1 ∧ I64 x.2) → ∃ ops : Opl, ops.length = n ∧ (∀ x ∈ ops, I64 x.1 ∧ I64 x.2) ∧ ∀ i e, (ops.map opCells)[i]? = some e → q i e
 | 0, _ => ⟨[], rfl, by simp, by simp⟩
 | n + 1, h => by
  obtain ⟨ops, h1, h2, h3⟩ := build_op (n := n) fun i hi => h i (by omega)
  obtain ⟨e, x, h4, rfl, h5, h6⟩ := h n (by omega)
  refine ⟨ops ++ [x], by simp [h1], fun y hy => ?_, fun i e hx => ?_⟩
  ·rcases List.mem_append.1 hy with hy | hy
   ·exact h2 y hy
   ·obtain rfl := List.mem_singleton.1 hy; exact ⟨h5, h6⟩
  ·rw [List.map_append, List.getElem?_append] at hx
   split at hx
   ·exact h3 i e hx
   ·rename_i hi
    rw [List.length_map] at hi hx
    have hz : i - ops.length = 0 := by
     have := (List.getElem?_eq_some_iff.1 hx).1; simp at this; omega
    rw [hz] at hx; simp at hx; subst hx
    rw [show i = n by omega]; exact h4
section read
variable {H : Type} {enc : TypeId × Value → H} {w : World} {sp : Nat → Bool} {held : Bool}
set_option maxRecDepth 100000 in
theorem read_op (n : Nat) (cs : List Value) (x : DataW H × List MemPlace) (h : DataW.trod enc Tryd.prog w 0 sp held n 48 cs = some x) : ∃ y : Int × Int, cs = opCells y ∧ I64 y.1 ∧ I64 y.2 := by
 obtain ⟨xs, m, rfl, _, hl, hxl, hf⟩ := DataW.trod_struct Tryd.underlying48 h
 rw [cellsOp] at hl
 match cs, hl with
 | [a, b], _ =>
 obtain ⟨y0, e0⟩ := idx2 (xs := xs) (i := 0) (by simp [hxl])
 obtain ⟨y1, e1⟩ := idx2 (xs := xs) (i := 1) (by simp [hxl])
 have h0 := hf 0 _ rfl
 have h1 := hf 1 _ rfl
 rw [e0] at h0
 rw [e1] at h1
 simp only [List.getElem_toArray, List.getElem_cons_zero, List.getElem_cons_succ] at h0 h1
 simp only [cellsI, List.drop, List.take] at h0 h1
 obtain ⟨k, hk, _, hwk⟩ := DataW.trod_int Tryd.underlying3 h0
 obtain ⟨m2, hm2, _, hwm⟩ := DataW.trod_int Tryd.underlying3 h1
 simp only [List.cons.injEq, and_true] at hk hm2
 subst hk hm2
 exact ⟨(k, m2), rfl, i64_of hwk, i64_of hwm⟩
set_option maxRecDepth 100000 in
theorem read_ops (n : Nat) (cs : List Value) (x : DataW H × List MemPlace) (h : DataW.trod enc Tryd.prog w 0 sp held n 22 cs = some x) : ∃ (ops : Opl) (p : Option Addr) (c : Nat), cs = [.slice p ops.length c] ∧ ROps (GW w) ops p ops.length c := by
 rcases DataW.trod_slice Tryd.underlying22 h with ⟨hb, _⟩ | ⟨ad, len, cap, elems, rest, n', rfl, hb, _, _, hlc, hcm, hel, hele, _, _⟩
 ·exact ⟨[], none, 0, hb, ⟨SlE.nil _ _, rfl, by simp⟩⟩
 ·rw [cellsOp] at hele
  obtain ⟨ops, t1, t2, t3⟩ := build_op (q := fun i e => w.cells? 0 (ad.add (i * 2)) 2 = some e) (n := len) fun i hi => by
   have := hele i hi
   rw [List.getElem?_eq_getElem (by omega)] at this
   obtain ⟨cs', c1, c2⟩ := Option.bind_eq_some_iff.1 this
   obtain ⟨y, hy, h5, h6⟩ := read_op n' cs' _ c2
   exact ⟨cs', y, c1, hy, h5, h6⟩
  subst t1
  exact ⟨ops, some ad, cap, hb, ⟨SlE.of (sl_read (by rw [List.length_map]) (by omega) hlc hcm t3) (by rw [List.length_map]) (opc_all _) (opc_one _), rfl, t2⟩⟩
end read
theorem gPow : Tryd.prog.globalNamed "internal/strconv.uint64pow10" = some 0 := by kernel_rfl
theorem gPowT : (Tryd.prog.globals[0]?).map (·.type) = some 138 := by kernel_rfl
theorem cellsPow : Tryd.prog.cellsOf 138 = 20 := by kernel_rfl
theorem cellsU64 : Tryd.prog.cellsOf 128 = 1 := by kernel_rfl
/-- What the rows list. -/
def laidTabs : List (String × DataW Unit) := [("math/bits.deBruijn32tab", Rows.laid_math_bits_deBruijn32tab), ("math/bits.deBruijn64tab", Rows.laid_math_bits_deBruijn64tab), ("internal/strconv.uint64pow10", Rows.laid_internal_strconv_uint64pow10)]
theorem tabG_of_laid {W : World} (h : laidMetH Tryd.prog laidTabs W) : TabG (GW W) := by
 have h1 : laidMet Tryd.prog laidTabs W := h
 have h3 := h1.tail.tail
 have ht : Lib.TabIs Tryd.prog W "internal/strconv.uint64pow10" .u64 Lib.pow10Tab :=
  Lib.tabIs_of_head (rest := []) gPow gPowT Tryd.underlying138 Tryd.underlying128 cellsU64 cellsPow h3
 refine ⟨0, gPow, ?_⟩
 unfold Lib.TabIs World.var? at ht
 rw [gPow] at ht
 simp only [Option.bind_some] at ht
 unfold GW
 split at ht
 ·rename_i c e f hb
  rw [hb]
  have := Option.some.inj ht
  simp [this]
 ·cases ht
def tabVals : DataW Unit → Array Value
 | .agg xs => (xs.map fun | .lit (.int k n) => Value.int k n | _ => .int .i64 0).toArray
 | _ => #[]
def putTab (xs : Array Value) : Obj → Obj
 | .cells _ t f => .cells xs t f
 | o => o
/-- A world for the witness: the settled one, the tables holding what their initialisers lay. -/
noncomputable def laidWorld (os : Os) : World :=
 { World.holding Tryd.prog os ⟨#[], #[], []⟩ with heap := (((World.holding Tryd.prog os ⟨#[], #[], []⟩).heap.modify 0 (putTab (tabVals Rows.laid_internal_strconv_uint64pow10))).modify 1 (putTab (tabVals Rows.laid_math_bits_deBruijn32tab))).modify 2 (putTab (tabVals Rows.laid_math_bits_deBruijn64tab)) }
end Gw
end Go.Proofs.YtaoaeilognhfpaaDoor
