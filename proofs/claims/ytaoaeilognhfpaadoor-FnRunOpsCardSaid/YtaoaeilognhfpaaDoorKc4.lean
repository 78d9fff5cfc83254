/-
  The program's stack machine: instructions with one operand. The program's stack machine: instructions with no operand; all of them. strconv.Itoa of a number from 0 to 999 is its decimal digits, where the library's table lies as it was laid. The reference's stack machine: the other instructions. Which codes are valid: the program and the reference say the same. The reference's stack machine: texts of values, steps, runs. The reference's RunOps. The program's stack machine: an instruction, a value's text, a run. The law FnExactRunOps. Arguments that are codes; the library's tables as the row lists them. Slices of numbers read as arguments. Slices of bytes read as arguments. Runs of the stack machine, in plain words: more instructions change nothing that has ended; what a result says; a jump in front.
-/
import Derived.Test.YtaoaeilognhfpaaDoorKc3
import Derived.Test.YtaoaeilognhfpaaDoorShelf
import Derived.Test.YtaoaeilognhfpaaDoorKc0
import Derived.Test.YtaoaeilognhfpaaDoorKc1
import Derived.Test.YtaoaeilognhfpaaDoorKc2
import Derived.Test.YtaoaeilognhfpaaDoorRows
import Derived.Deep.DeepHandedRow
import Derived.Lib.LaidTab
import Derived.Stop.LaidErr
namespace Go.Proofs.YtaoaeilognhfpaaDoor
open Go Go.RowKit
namespace Gw
theorem kinds9 {i C : Nat} {Q : Int} {v0 : MV} (hK : ∀ j, j < i → ([v0].getD j mv0).k = Q) (hi : C ≤ i) (hC : (mWant 9).2.1 = C) (hQ : (mWant 9).1 = Q) : v0.k = 1 := by
 have hC1 : C = 1 := hC.symm
 have hQ1 : Q = 1 := hQ.symm
 have := hK 0 (by omega)
 rw [hQ1] at this; exact this
theorem kinds12 {k : Int} {i C : Nat} {Q : Int} {v0 : MV} (hk : k = 12 ∨ k = 13) (hK : ∀ j, j < i → ([v0].getD j mv0).k = Q) (hi : C ≤ i) (hC : (mWant k).2.1 = C) (hQ : (mWant k).1 = Q) : v0.k = 3 := by
 have hC1 : C = 1 := by rcases hk with rfl | rfl <;> exact hC.symm
 have hQ1 : Q = 3 := by rcases hk with rfl | rfl <;> exact hQ.symm
 have := hK 0 (by omega)
 rw [hQ1] at this; exact this
set_option maxHeartbeats 0 in
set_option maxRecDepth 100000 in
theorem do1_fn (k a : Int) (s : MSt) (b n N : Nat) (v0 : MV) (G : IM) (hp0 : List Ent) (hk : k = 9 ∨ k = 12 ∨ k = 13) (hn : n ≤ 120) (hN : N ≤ 2000) (ho : s.ok n N) (hd : s.st.drop (s.st.length - 1) = [v0]) (hat : s.at' < n) (hop : mOpOk n s.at'.toNat (k, a) = true) (hl : 1 ≤ s.st.length) (hM : Mc G s b hp0) :
  Fn Tryd.prog 18 [.pointer (some ⟨b, 0, none⟩), .agg ⟨[.int .i64 k, .int .i64 a]⟩] hp0 G (DoP (mStep k a s) b) := by
 have hp : mPops k = 1 := mPops1 hk
 have hlo := ho.lo; have hhi := ho.hi; have hst := ho.st; have henv := ho.env; have hfr := ho.fr
 obtain ⟨c1, c2, c3, c4, c5, c6, c7, c8, _, _⟩ := (ho.sto v0 (List.mem_of_mem_drop (i := s.st.length - 1) (by rw [hd]; simp))).spec
 obtain ⟨_, _, a1, a2, _, _, _, b4⟩ := mOpOk_at hop (by omega)
 have htl : (s.st.take (s.st.length - 1)).length = s.st.length - 1 := by rw [List.length_take]; omega
 have hX := expects_fn k G
 have hWl := mW_le k
 rw [hp] at hX hWl
 have hsk : mStep k a s = mTake k a s := mStep_take (by omega)
 obtain ⟨C, hC⟩ : ∃ C, (mWant k).2.1 = C := ⟨_, rfl⟩
 obtain ⟨Q, hQ⟩ : ∃ Q, (mWant k).1 = Q := ⟨_, rfl⟩
 rw [hC] at hWl hX
 rw [hQ] at hX
 obtain ⟨ps, cs, es, pe, ce, ee, pf, cf, ef, rfl, hrs, hse, hre, hrf⟩ := hM
 have hPop := pop_fn b 1 s.st.length cs (.int .i64 s.at') (.slice pe s.env.length ce) (.slice pf s.fr.length cf) ps es G (by omega) (by omega) hrs.len hrs.all hrs.ones ⟨rfl, rfl, rfl⟩
 have hrd := hrs.drop (s.st.length - 1)
 have hrt := hrs.take (s.st.length - 1)
 rw [hd] at hrd
 refine fn_enter Tryd.func18 rfl Tryd.ntmps18 Tryd.results18 rfl ?_
 intro w0
 refine tri_seq (tri_region ?_)
 (refine seq_step (step_box_a rfl rfl) rfl ?_; rintro _ ⟨b3, rfl⟩)
 refine seq_pure (pure_assign rfl) rfl rfl ?_
 refine seq_pure (pure_assign rfl) rfl rfl ?_
 refine seq_done (nrm_seq (tri_seq (tri_region (seq_pure (pure_fieldAddr0 rfl) rfl rfl ?_))))
 refine seq_load (load_bs rfl rfl (by repeat first | exact mH | apply mT) (by rfl)) rfl rfl ?_
 refine seq_val rfl (hX) rfl rfl ?_
 refine seq_pure (pure_move rfl) rfl rfl ?_
 refine seq_pure (pure_extract rfl rfl) rfl rfl ?_
 refine seq_pure (pure_extract rfl rfl) rfl rfl ?_
 refine seq_pure (pure_extract rfl rfl) rfl rfl ?_
 refine seq_pure (pure_extract rfl rfl) rfl rfl ?_
 refine seq_pure (pure_assign rfl) rfl rfl ?_
 refine seq_pure (pure_assign rfl) rfl rfl ?_
 refine seq_pure (pure_assign rfl) rfl rfl ?_
 refine seq_pure (pure_assign rfl) rfl rfl ?_
 refine seq_done (nrm_seq (tri_seq (tri_region (seq_pure (pure_move rfl) rfl rfl ?_))))
 refine seq_pure (pure_move rfl) rfl rfl ?_
 (refine seq_take rfl hPop (Pk2 (by repeat (first | exact Pk.here | apply Pk.there)) (by repeat (first | exact Pk.here | apply Pk.there))) rfl rfl (fun v G1 outs hle1 hh => ?_); unfold PopP at hh; rw [if_neg (by omega)] at hh; obtain ⟨q, d, rfl, rfl, hslV⟩ := hh; have hrV := hrd.mono hle1; replace hrt := hrt.mono hle1; replace hse := hse.mono hle1; replace hre := hre.mono hle1; replace hrf := hrf.mono hle1; obtain ⟨b0, o0, q0, dd0, q0', dd0', rfl, hv0at, hv0, hg0⟩ := hslV.mvAt hrV (i := 0) (t := v0) rfl)
 refine seq_pure (pure_move rfl) rfl rfl ?_
 refine seq_pure (pure_extract rfl rfl) rfl rfl ?_
 refine seq_pure (pure_extract rfl rfl) rfl rfl ?_
 refine seq_pure (pure_assign rfl) rfl rfl ?_
 refine seq_pure (pure_assign rfl) rfl rfl ?_
 refine seq_done (nrm_seq (tri_seq (tri_seq (tri_region (seq_pure (pure_move rfl) rfl rfl ?_)))))
 refine seq_pure (pure_not_t rfl) rfl rfl ?_
 refine seq_done (nrm_seq (tri_cond_f rfl ?_))
 refine tri_skip (nrm_seq (tri_seq (tri_seq (tri_region (seq_pure (pure_move rfl) rfl rfl ?_)))))
 refine seq_pure (pure_move rfl) rfl rfl ?_
 (refine seq_pure (pure_slice_to (l := C) rfl rfl rfl (by have := hslV.sl.2.1; omega)) rfl rfl ?_)
 refine seq_pure (pure_len rfl rfl) rfl rfl ?_
 refine seq_pure (pure_move rfl) rfl rfl ?_
 refine seq_done (nrm_seq (tri_block ?_))
 (refine tri_loopN (fun (i : Nat) => ⟨[(37, .int .i64 (i : Int)), (36, .int .i64 (C : Int)), (35, .slice (some ⟨b0, o0, none⟩) C d), (7, .int .i64 Q), (9, .int .i64 (mWant k).2.2), (10, .slice (some ⟨b0, o0, none⟩) 1 d), (3, .pointer (some ⟨b3, 0, none⟩)), (0, .pointer (some ⟨b, 0, none⟩))], [.blk b3 [.int .i64 k, .int .i64 a], .blk b [.int .i64 s.at', .slice ps (s.st.length - 1) cs, .slice pe s.env.length ce, .slice pf s.fr.length cf], .slc ps cs 58 4 (s.st.length - 1) (es.take (s.st.length - 1)).flatten, .slc pf cf 79 2 s.fr.length ef.flatten], G1⟩) (fun i => i ≤ C ∧ ∀ j, j < i → ([v0].getD j mv0).k = Q) (fun i => C - i) 0 ?_ ?_ ?_)
 exact sub_mk (by repeat (first | exact SubE.nil | refine SubE.cons rfl ?_)) (by repeat (first | exact SubH.refl | exact SubH.nil | refine SubH.cons (by repeat (first | exact Pk.here | apply Pk.there)) ?_ | apply SubH.drop))
 (exact ⟨Nat.zero_le _, by omega⟩)
 (rintro i ⟨hi, hK⟩)
 refine tri_seq (tri_region (seq_bool (pure_lss rfl rfl) rfl rfl (fun h63 => ?_) (fun h63 => ?_)))
 refine seq_done (nrm_seq (tri_seq (tri_cond_t rfl ?_)))
 refine tri_skip (nrm_seq (tri_seq (tri_block (tri_seq (tri_region ?_)))))
 (have hiC : i < 1 := (by omega); obtain ⟨b2, o2, q2, dd2, q2', dd2', hp2, hvat, hv2, hg2⟩ := hslV.mvAt hrV (i := i) (getD_some' (d := mv0) (by simpa using hiC)); cases hp2; refine seq_pure (pure_indexAddrN (j := i) rfl rfl rfl (by omega)) rfl rfl ?_)
 refine seq_load (load_a rfl rfl (hvat _) rfl) rfl rfl ?_
 (refine seq_step (step_alloc rfl) rfl ?_; rintro _ ⟨b76, rfl⟩)
 refine seq_store rfl rfl rfl rfl rfl rfl (by repeat first | exact Sw.here | apply Sw.there) (by rfl) ?_
 refine seq_done (nrm_seq (tri_seq (tri_region (seq_pure (pure_fieldAddr0 rfl) rfl rfl ?_))))
 refine seq_load (load_bs rfl rfl (by repeat first | exact mH | apply mT) (by rfl)) rfl rfl ?_
 refine seq_pure (pure_move rfl) rfl rfl ?_
 refine seq_bool (pure_neq rfl rfl) rfl rfl (fun h85 => ?_) (fun h85 => ?_)
 refine seq_done (nrm_seq (tri_cond_t rfl ?_))
 refine tri_seq (tri_region (seq_pure (pure_move rfl) rfl rfl ?_))
 refine seq_pure (pure_assign rfl) rfl rfl ?_
 refine seq_pure (pure_assign rfl) rfl rfl ?_
 refine seq_done (nrm_seq (tri_ret (ret_block (ret_seq (ret_loopN (ret_block ?_))))))
 refine ret_seq (ret_mc (b := b) (res_tmp rfl) (res_tmp rfl) (by repeat (first | exact Pk.here | apply Pk.there)) (by repeat (first | exact Pk.here | apply Pk.there)) (by repeat (first | exact Pk.here | apply Pk.there)) ?_)
 (exact DoP.no (by rw [hsk]; exact mTake_bad (V := [v0]) (by rw [hp]; exact hd) (mKinds_no (j := i) (by omega) (by rw [hC]; exact hWl) (by rw [hQ]; assumption))))
 refine seq_done (nrm_seq (tri_cond_f rfl ?_))
 refine tri_skip (nrm_block (nrm_seq (tri_region (seq_pure (pure_add rfl rfl (by omega) (by omega)) rfl rfl ?_))))
 refine seq_pure (pure_move rfl) rfl rfl ?_
 refine seq_done (nrm_loopN (i + 1) ?_ ?_ ?_)
 exact sub_mk (by repeat (first | exact SubE.nil | refine SubE.cons rfl ?_)) (by repeat (first | exact SubH.refl | exact SubH.nil | refine SubH.cons (by repeat (first | exact Pk.here | apply Pk.there)) ?_ | apply SubH.drop))
 (refine ⟨by omega, fun j hj2 => ?_⟩; rcases Nat.lt_or_ge j i with h5 | h5; exact hK j h5; obtain rfl : j = i := (by omega); exact Classical.not_not.1 (by assumption))
 (show C - (i + 1) < C - i; omega)
 refine seq_done (nrm_seq (tri_seq (tri_cond_f rfl ?_)))
 refine tri_exit ?_
 refine ext_seq ?_
 refine ext_loopN ?_
 refine ext_block_eq ?_
 refine nrm_seq (tri_seq (tri_region (seq_pure (pure_move rfl) rfl rfl ?_)))
 refine seq_pure (pure_nilCheck rfl) rfl rfl ?_
 refine seq_pure (pure_fieldAddr0 rfl) rfl rfl ?_
 refine seq_load (load_bs rfl rfl (by repeat first | exact mH | apply mT) (by rfl)) rfl rfl ?_
 refine seq_pure (pure_add rfl rfl (by omega) (by omega)) rfl rfl ?_
 refine seq_pure (pure_nilCheck rfl) rfl rfl ?_
 refine seq_pure (pure_fieldAddr0 rfl) rfl rfl ?_
 refine seq_store rfl rfl rfl rfl rfl rfl (by repeat first | exact Sw.here | apply Sw.there) (by rfl) ?_
 refine seq_done (nrm_seq (tri_seq (tri_seq (tri_region (seq_pure (pure_fieldAddr0 rfl) rfl rfl ?_)))))
 refine seq_load (load_bs rfl rfl (by repeat first | exact mH | apply mT) (by rfl)) rfl rfl ?_
 refine seq_done (nrm_seq (tri_block (tri_seq (tri_region (seq_pure (pure_eql_f rfl rfl (by omega)) rfl rfl ?_)))))
 refine seq_pure (pure_assign rfl) rfl rfl ?_
 refine seq_done (nrm_seq (tri_cond_f rfl ?_))
 refine tri_seq (tri_region (seq_pure (pure_eql_f rfl rfl (by omega)) rfl rfl ?_))
 refine seq_pure (pure_assign rfl) rfl rfl ?_
 refine seq_done (nrm_seq (tri_cond_f rfl ?_))
 refine tri_seq (tri_region (seq_pure (pure_eql_f rfl rfl (by omega)) rfl rfl ?_))
 refine seq_pure (pure_assign rfl) rfl rfl ?_
 refine seq_done (nrm_seq (tri_cond_f rfl ?_))
 refine tri_seq (tri_region (seq_pure (pure_eql_f rfl rfl (by omega)) rfl rfl ?_))
 refine seq_pure (pure_assign rfl) rfl rfl ?_
 refine seq_done (nrm_seq (tri_cond_f rfl ?_))
 refine tri_seq (tri_region (seq_pure (pure_eql_f rfl rfl (by omega)) rfl rfl ?_))
 refine seq_pure (pure_assign rfl) rfl rfl ?_
 refine seq_done (nrm_seq (tri_cond_f rfl ?_))
 refine tri_seq (tri_region (seq_pure (pure_eql_f rfl rfl (by omega)) rfl rfl ?_))
 refine seq_pure (pure_assign rfl) rfl rfl ?_
 refine seq_done (nrm_seq (tri_cond_f rfl ?_))
 refine tri_seq (tri_region (seq_pure (pure_eql_f rfl rfl (by omega)) rfl rfl ?_))
 refine seq_pure (pure_assign rfl) rfl rfl ?_
 refine seq_done (nrm_seq (tri_cond_f rfl ?_))
 refine tri_seq (tri_region (seq_pure (pure_eql_f rfl rfl (by omega)) rfl rfl ?_))
 refine seq_pure (pure_assign rfl) rfl rfl ?_
 refine seq_done (nrm_seq (tri_cond_f rfl ?_))
 refine tri_seq (tri_region (seq_bool (pure_eql rfl rfl) rfl rfl (fun h205 => ?_) (fun h205 => ?_)))
 refine seq_pure (pure_assign rfl) rfl rfl ?_
 refine seq_done (nrm_seq (tri_cond_t rfl ?_))
 refine tri_seq (tri_region (seq_pure (pure_move rfl) rfl rfl ?_))
 refine seq_pure (pure_indexAddrN (j := 0) rfl rfl rfl (by omega)) rfl rfl ?_
 refine seq_pure (pure_fieldAddr rfl) rfl rfl ?_
 refine seq_load (load_s rfl rfl ((hv0at _).sub (j := 1) rfl)) rfl rfl ?_
 refine seq_bool (pure_eql rfl rfl) rfl rfl (fun h216 => ?_) (fun h216 => ?_)
 refine seq_done (nrm_seq (tri_cond_t rfl ?_))
 refine tri_draw mixed rfl ?_
 refine any_pure (i := 0) (listed' := [tt,ff,ff,ff,ff,ff,ff,ff,ff,ff]) rfl npI (pure_move rfl) rfl (by kernel_rfl) rfl rfl ?_
 refine any_pure (i := 1) (listed' := [tt,tt,ff,ff,ff,ff,ff,ff,ff,ff]) rfl npI (pure_nilCheck rfl) rfl (by kernel_rfl) rfl rfl ?_
 refine any_pure (i := 2) (listed' := [tt,tt,tt,ff,ff,ff,ff,ff,ff,ff]) rfl npI (pure_fieldAddr0 rfl) rfl (by kernel_rfl) rfl rfl ?_
 refine any_load (i := 3) (listed' := [tt,tt,tt,tt,ff,ff,ff,ff,ff,ff]) rfl npI (load_bs rfl rfl (by repeat first | exact mH | apply mT) (by rfl)) rfl (by kernel_rfl) rfl rfl ?_
 refine any_pure (i := 4) (listed' := [tt,tt,tt,tt,tt,ff,ff,ff,ff,ff]) rfl npI (pure_fieldAddr0 rfl) rfl (by kernel_rfl) rfl rfl ?_
 refine any_load (i := 5) (listed' := [tt,tt,tt,tt,tt,tt,ff,ff,ff,ff]) rfl npI (load_bs rfl rfl (by repeat first | exact mH | apply mT) (by rfl)) rfl (by kernel_rfl) rfl rfl ?_
 refine any_pure (i := 6) (listed' := [tt,tt,tt,tt,tt,tt,tt,ff,ff,ff]) rfl npI (pure_add rfl rfl (by omega) (by omega)) rfl (by kernel_rfl) rfl rfl ?_
 refine any_pure (i := 7) (listed' := [tt,tt,tt,tt,tt,tt,tt,tt,ff,ff]) rfl npI (pure_nilCheck rfl) rfl (by kernel_rfl) rfl rfl ?_
 refine any_pure (i := 8) (listed' := [tt,tt,tt,tt,tt,tt,tt,tt,tt,ff]) rfl npI (pure_fieldAddr0 rfl) rfl (by kernel_rfl) rfl rfl ?_
 refine any_one (j := 9) (by kernel_rfl) ?_
 refine one_storeM (listed' := [tt,tt,tt,tt,tt,tt,tt,tt,tt,tt]) rfl rfl rfl rfl rfl rfl rfl rfl (by repeat first | exact Sw.here | apply Sw.there) (by rfl) (by repeat (first | exact HmOk.nil | apply HmOk.dep (by decide +kernel) | apply HmOk.im (by decide +kernel) (by assumption) (by repeat first | exact mH | apply mT) | apply HmOk.blk (by decide +kernel) (by repeat (first | exact Pk.here | apply Pk.there)) (by repeat first | exact mH | apply mT))) ?_
 refine any_done (by kernel_rfl) ?_
 refine nrm_block (nrm_seq (tri_seq (tri_region (seq_pure (pure_assign rfl) rfl rfl ?_))))
 refine seq_pure (pure_assign rfl) rfl rfl ?_
 refine seq_done (nrm_seq (tri_ret (ret_mc (b := b) (res_tmp rfl) (res_tmp rfl) (by repeat (first | exact Pk.here | apply Pk.there)) (by repeat (first | exact Pk.here | apply Pk.there)) (by repeat (first | exact Pk.here | apply Pk.there)) ?_)))
 (obtain rfl : k = 9 := (by omega); exact DoP.go (by rw [hsk, mTake9 hd, if_pos (kinds9 hK (by omega) hC hQ), if_pos (by omega)]) (Mc.mk htl.symm rfl hrt rfl hse hre rfl rfl hrf))
 refine seq_done (nrm_seq (tri_cond_f rfl ?_))
 refine tri_skip (nrm_block (nrm_seq (tri_seq (tri_region (seq_pure (pure_assign rfl) rfl rfl ?_)))))
 refine seq_pure (pure_assign rfl) rfl rfl ?_
 refine seq_done (nrm_seq (tri_ret (ret_mc (b := b) (res_tmp rfl) (res_tmp rfl) (by repeat (first | exact Pk.here | apply Pk.there)) (by repeat (first | exact Pk.here | apply Pk.there)) (by repeat (first | exact Pk.here | apply Pk.there)) ?_)))
 (obtain rfl : k = 9 := (by omega); exact DoP.go (by rw [hsk, mTake9 hd, if_pos (kinds9 hK (by omega) hC hQ), if_neg (by omega)]) (Mc.mk htl.symm rfl hrt rfl hse hre rfl rfl hrf))
 refine seq_pure (pure_assign rfl) rfl rfl ?_
 refine seq_done (nrm_seq (tri_cond_f rfl ?_))
 refine tri_seq (tri_region (seq_pure (pure_eql_f rfl rfl (by omega)) rfl rfl ?_))
 refine seq_pure (pure_assign rfl) rfl rfl ?_
 refine seq_done (nrm_seq (tri_cond_f rfl ?_))
 refine tri_seq (tri_region (seq_pure (pure_eql_f rfl rfl (by omega)) rfl rfl ?_))
 refine seq_pure (pure_assign rfl) rfl rfl ?_
 refine seq_done (nrm_seq (tri_cond_f rfl ?_))
 (have hk12 : k = 12 ∨ k = 13 := (by omega); have hk3 : v0.k = 3 := kinds12 hk12 hK (by omega) hC hQ; have hpl : v0.parts.length = 2 := c7 hk3; obtain ⟨_, f0, _, _, hsp0, hrp0⟩ := hv0.kids; have hkn : (k - 12).toNat < v0.parts.length := (by omega); obtain ⟨b2, o2, q2, dd2, q2', dd2', rfl, hvpat, hvp, hgp⟩ := hsp0.mvAt hrp0 (i := (k - 12).toNat) (getD_some' (d := mv0) hkn); refine tri_draw mixed rfl ?_)
 refine any_pure (i := 0) (listed' := [tt,ff,ff,ff,ff,ff,ff,ff,ff,ff,ff]) rfl npI (pure_move rfl) rfl (by kernel_rfl) rfl rfl ?_
 refine any_pure (i := 1) (listed' := [tt,tt,ff,ff,ff,ff,ff,ff,ff,ff,ff]) rfl npI (pure_move rfl) rfl (by kernel_rfl) rfl rfl ?_
 refine any_pure (i := 2) (listed' := [tt,tt,tt,ff,ff,ff,ff,ff,ff,ff,ff]) rfl npI (pure_indexAddrN (j := 0) rfl rfl rfl (by omega)) rfl (by kernel_rfl) rfl rfl ?_
 refine any_pure (i := 3) (listed' := [tt,tt,tt,tt,ff,ff,ff,ff,ff,ff,ff]) rfl npI (pure_fieldAddr rfl) rfl (by kernel_rfl) rfl rfl ?_
 refine any_load (i := 4) (listed' := [tt,tt,tt,tt,tt,ff,ff,ff,ff,ff,ff]) rfl npI (load_s rfl rfl ((hv0at _).sub (j := 3) rfl)) rfl (by kernel_rfl) rfl rfl ?_
 refine any_pure (i := 5) (listed' := [tt,tt,tt,tt,tt,tt,ff,ff,ff,ff,ff]) rfl npI (pure_fieldAddr0 rfl) rfl (by kernel_rfl) rfl rfl ?_
 refine any_load (i := 6) (listed' := [tt,tt,tt,tt,tt,tt,tt,ff,ff,ff,ff]) rfl npI (load_bs rfl rfl (by repeat first | exact mH | apply mT) (by rfl)) rfl (by kernel_rfl) rfl rfl ?_
 refine any_pure (i := 7) (listed' := [tt,tt,tt,tt,tt,tt,tt,tt,ff,ff,ff]) rfl npI (pure_sub_nat (z := (k - 12).toNat) rfl rfl (by omega) (by omega)) rfl (by kernel_rfl) rfl rfl ?_
 refine any_pure (i := 8) (listed' := [tt,tt,tt,tt,tt,tt,tt,tt,tt,ff,ff]) rfl npI (pure_indexAddrN (j := (k - 12).toNat) rfl rfl rfl hkn) rfl (by kernel_rfl) rfl rfl ?_
 refine any_load (i := 9) (listed' := [tt,tt,tt,tt,tt,tt,tt,tt,tt,tt,ff]) rfl npI (load_a rfl rfl (hvpat _) rfl) rfl (by kernel_rfl) rfl rfl ?_
 refine any_one (j := 10) (by kernel_rfl) ?_
 (refine one_takeD (listed' := [tt,tt,tt,tt,tt,tt,tt,tt,tt,tt,tt]) rfl rfl (push_fn _ (s.st.length - 1) _ _ _ _ _ _ _ _ _ _ _ (by omega) rfl) (Pk2 (by repeat (first | exact Pk.here | apply Pk.there)) (by repeat (first | exact Pk.here | apply Pk.there))) rfl rfl rfl (by kernel_rfl) (fun v G3 outs hle3 hh => ?_); obtain ⟨hG, rfl, p7, c7, rfl⟩ := hh; subst hG)
 refine any_done (by kernel_rfl) ?_
 refine nrm_block (nrm_seq (tri_seq (tri_region (seq_pure (pure_assign rfl) rfl rfl ?_))))
 refine seq_pure (pure_assign rfl) rfl rfl ?_
 refine seq_done (nrm_seq (tri_ret (ret_mc (b := b) (res_tmp rfl) (res_tmp rfl) (by repeat (first | exact Pk.here | apply Pk.there)) (by repeat (first | exact Pk.here | apply Pk.there)) (by repeat (first | exact Pk.here | apply Pk.there)) ?_)))
 (exact DoP.go (by rw [hsk, mTake12 hk12 hd, if_pos hk3]) (Mc.mk (by rw [List.length_append, htl]; rfl) (flat_snoc _ _).symm (hrt.snoc hvp) rfl hse hre rfl rfl hrf))
end Gw
end Go.Proofs.YtaoaeilognhfpaaDoor
namespace Go.Proofs.YtaoaeilognhfpaaDoor
open Go Go.RowKit
namespace Gw
theorem pop0_fn (b n c : Nat) (A E F : Value) (p : Option Addr) (es : List (List Value)) (G : IM) (hn : n ≤ 4294967296) (hl : es.length = n) (ha : ∀ e ∈ es, e.length = 4) (ho : ∀ e ∈ es, e.all (·.oneCell') = true) (hA : A.cells = ⟨[A]⟩ ∧ E.cells = ⟨[E]⟩ ∧ F.cells = ⟨[F]⟩) :
  Fn Tryd.prog 31 [.pointer (some ⟨b, 0, none⟩), .int .i64 ((0 : Nat) : Int)] [.blk b [A, .slice p n c, E, F], .slc p c 58 4 n es.flatten] G (fun _ v outs => ∃ q d, v = .tuple ⟨[.slice q 0 d, .bool true]⟩ ∧ outs = [.blk b [A, .slice p n c, E, F], .slc p c 58 4 n es.flatten]) := by
 refine (pop_fn b 0 n c A E F p es G (by omega) hn hl ha ho hA).mono (fun G' v outs _ hh => ?_)
 unfold PopP at hh
 rw [if_neg (by omega)] at hh
 obtain ⟨q, d, h1, h2, _⟩ := hh
 refine ⟨q, d, h1, ?_⟩
 rw [h2, Nat.sub_zero, ← hl, List.take_length]
set_option maxHeartbeats 0 in
set_option maxRecDepth 100000 in
theorem do0_fn (k a : Int) (s : MSt) (b n N : Nat) (G : IM) (hp0 : List Ent) (hk : k = 1 ∨ k = 2 ∨ k = 3 ∨ k = 4 ∨ k = 5 ∨ k = 10) (hn : n ≤ 120) (hN : N ≤ 2000) (ho : s.ok n N) (hat : s.at' < n) (hop : mOpOk n s.at'.toNat (k, a) = true) (hM : Mc G s b hp0) :
  Fn Tryd.prog 18 [.pointer (some ⟨b, 0, none⟩), .agg ⟨[.int .i64 k, .int .i64 a]⟩] hp0 G (DoP (mStep k a s) b) := by
 have hp : mPops k = 0 := mPops0 (by omega) (by omega)
 have hlo := ho.lo; have hhi := ho.hi; have hst := ho.st; have henv := ho.env; have hfr := ho.fr
 obtain ⟨_, _, a1, a2, b1, b2, b3, b4⟩ := mOpOk_at hop (by omega)
 have hX : Fn Tryd.prog 30 [.int .i64 k] [] G (Val (.tuple ⟨[.int .i64 ((0 : Nat) : Int), .int .i64 0, .int .i64 ((0 : Nat) : Int), .int .i64 0]⟩) G) := by
  have hw : mWant k = (0, 0, 0) := by rcases hk with rfl | rfl | rfl | rfl | rfl | rfl <;> rfl
  have h := expects_fn k G
  rw [hp, hw] at h
  exact h
 have hsk : mStep k a s = mTake k a s := mStep_take (by omega)
 obtain ⟨ps, cs, es, pe, ce, ee, pf, cf, ef, rfl, hrs, hse, hre, hrf⟩ := hM
 have hPop := pop0_fn b s.st.length cs (.int .i64 s.at') (.slice pe s.env.length ce) (.slice pf s.fr.length cf) ps es G (by omega) hrs.len hrs.all hrs.ones ⟨rfl, rfl, rfl⟩
 refine fn_enter Tryd.func18 rfl Tryd.ntmps18 Tryd.results18 rfl ?_
 intro w0
 refine tri_seq (tri_region ?_)
 (refine seq_step (step_box_a rfl rfl) rfl ?_; rintro _ ⟨b3, rfl⟩)
 refine seq_pure (pure_assign rfl) rfl rfl ?_
 refine seq_pure (pure_assign rfl) rfl rfl ?_
 refine seq_done (nrm_seq (tri_seq (tri_region (seq_pure (pure_fieldAddr0 rfl) rfl rfl ?_))))
 refine seq_load (load_bs rfl rfl (by repeat first | exact mH | apply mT) (by rfl)) rfl rfl ?_
 refine seq_val rfl (hX) rfl rfl ?_
 refine seq_pure (pure_move rfl) rfl rfl ?_
 refine seq_pure (pure_extract rfl rfl) rfl rfl ?_
 refine seq_pure (pure_extract rfl rfl) rfl rfl ?_
 refine seq_pure (pure_extract rfl rfl) rfl rfl ?_
 refine seq_pure (pure_extract rfl rfl) rfl rfl ?_
 refine seq_pure (pure_assign rfl) rfl rfl ?_
 refine seq_pure (pure_assign rfl) rfl rfl ?_
 refine seq_pure (pure_assign rfl) rfl rfl ?_
 refine seq_pure (pure_assign rfl) rfl rfl ?_
 refine seq_done (nrm_seq (tri_seq (tri_region (seq_pure (pure_move rfl) rfl rfl ?_))))
 refine seq_pure (pure_move rfl) rfl rfl ?_
 (refine seq_take rfl hPop (Pk2 (by repeat (first | exact Pk.here | apply Pk.there)) (by repeat (first | exact Pk.here | apply Pk.there))) rfl rfl (fun v G1 outs hle1 hh => ?_); obtain ⟨q, d, rfl, rfl⟩ := hh; replace hrs := hrs.mono hle1; replace hse := hse.mono hle1; replace hre := hre.mono hle1; replace hrf := hrf.mono hle1)
 refine seq_pure (pure_move rfl) rfl rfl ?_
 refine seq_pure (pure_extract rfl rfl) rfl rfl ?_
 refine seq_pure (pure_extract rfl rfl) rfl rfl ?_
 refine seq_pure (pure_assign rfl) rfl rfl ?_
 refine seq_pure (pure_assign rfl) rfl rfl ?_
 refine seq_done (nrm_seq (tri_seq (tri_seq (tri_region (seq_pure (pure_move rfl) rfl rfl ?_)))))
 refine seq_pure (pure_not_t rfl) rfl rfl ?_
 refine seq_done (nrm_seq (tri_cond_f rfl ?_))
 refine tri_skip (nrm_seq (tri_seq (tri_seq (tri_region (seq_pure (pure_move rfl) rfl rfl ?_)))))
 refine seq_pure (pure_move rfl) rfl rfl ?_
 (refine seq_pure (pure_slice_to (l := 0) rfl rfl rfl (by omega)) rfl rfl ?_)
 refine seq_pure (pure_len rfl rfl) rfl rfl ?_
 refine seq_pure (pure_move rfl) rfl rfl ?_
 refine seq_done (nrm_seq (tri_block ?_))
 (refine tri_loopN (fun (i : Nat) => ⟨[(37, .int .i64 (i : Int)), (36, .int .i64 ((0 : Nat) : Int)), (35, .slice q 0 d), (7, .int .i64 0), (9, .int .i64 0), (10, .slice q 0 d), (3, .pointer (some ⟨b3, 0, none⟩)), (0, .pointer (some ⟨b, 0, none⟩))], [.blk b3 [.int .i64 k, .int .i64 a], .blk b [.int .i64 s.at', .slice ps s.st.length cs, .slice pe s.env.length ce, .slice pf s.fr.length cf], .slc ps cs 58 4 s.st.length es.flatten, .slc pf cf 79 2 s.fr.length ef.flatten], G1⟩) (fun i => i = 0) (fun i => 0) 0 ?_ ?_ ?_)
 exact sub_mk (by repeat (first | exact SubE.nil | refine SubE.cons rfl ?_)) (by repeat (first | exact SubH.refl | exact SubH.nil | refine SubH.cons (by repeat (first | exact Pk.here | apply Pk.there)) ?_ | apply SubH.drop))
 (exact (rfl : (0 : Nat) = 0))
 (rintro i hi; subst hi)
 refine tri_seq (tri_region (seq_pure (pure_lss_f rfl rfl (by omega)) rfl rfl ?_))
 refine seq_done (nrm_seq (tri_seq (tri_cond_f rfl ?_)))
 refine tri_exit ?_
 refine ext_seq ?_
 refine ext_loopN ?_
 refine ext_block_eq ?_
 refine nrm_seq (tri_seq (tri_region (seq_pure (pure_move rfl) rfl rfl ?_)))
 refine seq_pure (pure_nilCheck rfl) rfl rfl ?_
 refine seq_pure (pure_fieldAddr0 rfl) rfl rfl ?_
 refine seq_load (load_bs rfl rfl (by repeat first | exact mH | apply mT) (by rfl)) rfl rfl ?_
 refine seq_pure (pure_add rfl rfl (by omega) (by omega)) rfl rfl ?_
 refine seq_pure (pure_nilCheck rfl) rfl rfl ?_
 refine seq_pure (pure_fieldAddr0 rfl) rfl rfl ?_
 refine seq_store rfl rfl rfl rfl rfl rfl (by repeat first | exact Sw.here | apply Sw.there) (by rfl) ?_
 refine seq_done (nrm_seq (tri_seq (tri_seq (tri_region (seq_pure (pure_fieldAddr0 rfl) rfl rfl ?_)))))
 refine seq_load (load_bs rfl rfl (by repeat first | exact mH | apply mT) (by rfl)) rfl rfl ?_
 refine seq_done (nrm_seq (tri_block (tri_seq (tri_region (seq_bool (pure_eql rfl rfl) rfl rfl (fun h95 => ?_) (fun h95 => ?_))))))
 refine seq_pure (pure_assign rfl) rfl rfl ?_
 refine seq_done (nrm_seq (tri_cond_t rfl ?_))
 refine tri_region (seq_pure (pure_move rfl) rfl rfl ?_)
 refine seq_pure (pure_fieldAddr0 rfl) rfl rfl ?_
 refine seq_load (load_bs rfl rfl (by repeat first | exact mH | apply mT) (by rfl)) rfl rfl ?_
 refine seq_val rfl ((number_fn _ _ _)) rfl rfl ?_
 (refine seq_take rfl (push_fn _ s.st.length _ _ _ _ _ _ _ _ _ _ _ (by omega) rfl) (Pk2 (by repeat (first | exact Pk.here | apply Pk.there)) (by repeat (first | exact Pk.here | apply Pk.there))) rfl rfl (fun v G3 outs hle3 hh => ?_); obtain ⟨hG, rfl, p7, c7, rfl⟩ := hh; subst hG)
 refine seq_done (nrm_block (nrm_seq (tri_seq (tri_region (seq_pure (pure_assign rfl) rfl rfl ?_)))))
 refine seq_pure (pure_assign rfl) rfl rfl ?_
 refine seq_done (nrm_seq (tri_ret (ret_mc (b := b) (res_tmp rfl) (res_tmp rfl) (by repeat (first | exact Pk.here | apply Pk.there)) (by repeat (first | exact Pk.here | apply Pk.there)) (by repeat (first | exact Pk.here | apply Pk.there)) ?_)))
 (obtain rfl : k = 1 := (by omega); exact DoP.go (by rw [hsk, mTake1]) (Mc.mk (by simp) (flat_snoc _ _).symm (hrs.snoc (RMv.leaf (k := 0) (num := a) ⟨by omega, by omega⟩ ⟨by decide, by decide⟩)) rfl hse hre rfl rfl hrf))
 refine seq_pure (pure_assign rfl) rfl rfl ?_
 refine seq_done (nrm_seq (tri_cond_f rfl ?_))
 refine tri_seq (tri_region (seq_bool (pure_eql rfl rfl) rfl rfl (fun h124 => ?_) (fun h124 => ?_)))
 refine seq_pure (pure_assign rfl) rfl rfl ?_
 refine seq_done (nrm_seq (tri_cond_t rfl ?_))
 refine tri_region (seq_pure (pure_move rfl) rfl rfl ?_)
 refine seq_pure (pure_fieldAddr0 rfl) rfl rfl ?_
 refine seq_load (load_bs rfl rfl (by repeat first | exact mH | apply mT) (by rfl)) rfl rfl ?_
 refine seq_val rfl ((number_fn _ _ _)) rfl rfl ?_
 (refine seq_take rfl (push_fn _ s.st.length _ _ _ _ _ _ _ _ _ _ _ (by omega) rfl) (Pk2 (by repeat (first | exact Pk.here | apply Pk.there)) (by repeat (first | exact Pk.here | apply Pk.there))) rfl rfl (fun v G3 outs hle3 hh => ?_); obtain ⟨hG, rfl, p7, c7, rfl⟩ := hh; subst hG)
 refine seq_done (nrm_block (nrm_seq (tri_seq (tri_region (seq_pure (pure_assign rfl) rfl rfl ?_)))))
 refine seq_pure (pure_assign rfl) rfl rfl ?_
 refine seq_done (nrm_seq (tri_ret (ret_mc (b := b) (res_tmp rfl) (res_tmp rfl) (by repeat (first | exact Pk.here | apply Pk.there)) (by repeat (first | exact Pk.here | apply Pk.there)) (by repeat (first | exact Pk.here | apply Pk.there)) ?_)))
 (obtain rfl : k = 2 := (by omega); exact DoP.go (by rw [hsk, mTake2]) (Mc.mk (by simp) (flat_snoc _ _).symm (hrs.snoc (RMv.leaf (k := 1) (num := a) ⟨by omega, by omega⟩ ⟨by decide, by decide⟩)) rfl hse hre rfl rfl hrf))
 refine seq_pure (pure_assign rfl) rfl rfl ?_
 refine seq_done (nrm_seq (tri_cond_f rfl ?_))
 refine tri_seq (tri_region (seq_bool (pure_eql rfl rfl) rfl rfl (fun h153 => ?_) (fun h153 => ?_)))
 refine seq_pure (pure_assign rfl) rfl rfl ?_
 refine seq_done (nrm_seq (tri_cond_t rfl ?_))
 refine tri_seq (tri_draw mixed rfl ?_)
 refine any_pure (i := 0) (listed' := [tt,ff,ff,ff,ff,ff,ff,ff,ff,ff]) rfl npI (pure_move rfl) rfl (by kernel_rfl) rfl rfl ?_
 refine any_pure (i := 1) (listed' := [tt,tt,ff,ff,ff,ff,ff,ff,ff,ff]) rfl npI (pure_nilCheck rfl) rfl (by kernel_rfl) rfl rfl ?_
 refine any_pure (i := 2) (listed' := [tt,tt,tt,ff,ff,ff,ff,ff,ff,ff]) rfl npI (pure_fieldAddr0 rfl) rfl (by kernel_rfl) rfl rfl ?_
 refine any_load (i := 3) (listed' := [tt,tt,tt,tt,ff,ff,ff,ff,ff,ff]) rfl npI (load_bs rfl rfl (by repeat first | exact mH | apply mT) (by rfl)) rfl (by kernel_rfl) rfl rfl ?_
 refine any_pure (i := 4) (listed' := [tt,tt,tt,tt,tt,ff,ff,ff,ff,ff]) rfl npI (pure_len rfl rfl) rfl (by kernel_rfl) rfl rfl ?_
 refine any_pure (i := 5) (listed' := [tt,tt,tt,tt,tt,tt,ff,ff,ff,ff]) rfl npI (pure_sub rfl rfl (by omega) (by omega)) rfl (by kernel_rfl) rfl rfl ?_
 refine any_pure (i := 6) (listed' := [tt,tt,tt,tt,tt,tt,tt,ff,ff,ff]) rfl npI (pure_fieldAddr0 rfl) rfl (by kernel_rfl) rfl rfl ?_
 refine any_load (i := 7) (listed' := [tt,tt,tt,tt,tt,tt,tt,tt,ff,ff]) rfl npI (load_bs rfl rfl (by repeat first | exact mH | apply mT) (by rfl)) rfl (by kernel_rfl) rfl rfl ?_
 refine any_pure (i := 8) (listed' := [tt,tt,tt,tt,tt,tt,tt,tt,tt,ff]) rfl npI (pure_sub rfl rfl (by omega) (by omega)) rfl (by kernel_rfl) rfl rfl ?_
 refine any_pure (i := 9) (listed' := [tt,tt,tt,tt,tt,tt,tt,tt,tt,tt]) rfl npI (pure_assign rfl) rfl (by kernel_rfl) rfl rfl ?_
 refine any_done (by kernel_rfl) ?_
 refine nrm_seq (tri_seq (tri_seq (tri_region (seq_pure (pure_move rfl) rfl rfl ?_))))
 refine seq_bool (pure_lss rfl rfl) rfl rfl (fun h176 => ?_) (fun h176 => ?_)
 refine seq_done (nrm_seq (tri_cond_t rfl ?_))
 refine tri_seq (tri_region (seq_pure (pure_assign rfl) rfl rfl ?_))
 refine seq_pure (pure_assign rfl) rfl rfl ?_
 refine seq_done (nrm_seq (tri_ret (ret_seq (ret_block (ret_seq (ret_mc (b := b) (res_tmp rfl) (res_tmp rfl) (by repeat (first | exact Pk.here | apply Pk.there)) (by repeat (first | exact Pk.here | apply Pk.there)) (by repeat (first | exact Pk.here | apply Pk.there)) ?_))))))
 (obtain rfl : k = 3 := (by omega); exact DoP.no (by rw [hsk, mTake3, if_pos (by omega)]))
 refine seq_done (nrm_seq (tri_cond_f rfl ?_))
 refine tri_skip (nrm_seq ?_)
 (have hk3 : k = 3 := (by omega); obtain ⟨j, hj⟩ : ∃ j : Nat, (s.env.length : Int) - 1 - a = j := ⟨((s.env.length : Int) - 1 - a).toNat, by omega⟩; have hjl : j < s.env.length := (by omega); rw [hj]; obtain ⟨b2, o2, q2, dd2, q2', dd2', rfl, hv2at, hv2, hg2⟩ := hse.mvAt hre (i := j) (getD_some' (d := mv0) hjl))
 refine tri_region (seq_pure (pure_move rfl) rfl rfl ?_)
 refine seq_pure (pure_move rfl) rfl rfl ?_
 refine seq_pure (pure_nilCheck rfl) rfl rfl ?_
 refine seq_pure (pure_fieldAddr0 rfl) rfl rfl ?_
 refine seq_load (load_bs rfl rfl (by repeat first | exact mH | apply mT) (by rfl)) rfl rfl ?_
 refine seq_pure (pure_move rfl) rfl rfl ?_
 refine seq_pure (pure_indexAddrN (j := j) rfl rfl rfl hjl) rfl rfl ?_
 refine seq_load (load_a rfl rfl (hv2at _) rfl) rfl rfl ?_
 (refine seq_take rfl (push_fn _ s.st.length _ _ _ _ _ _ _ _ _ _ _ (by omega) rfl) (Pk2 (by repeat (first | exact Pk.here | apply Pk.there)) (by repeat (first | exact Pk.here | apply Pk.there))) rfl rfl (fun v G3 outs hle3 hh => ?_); obtain ⟨hG, rfl, p7, c7, rfl⟩ := hh; subst hG)
 refine seq_done (nrm_block (nrm_seq (tri_seq (tri_region (seq_pure (pure_assign rfl) rfl rfl ?_)))))
 refine seq_pure (pure_assign rfl) rfl rfl ?_
 refine seq_done (nrm_seq (tri_ret (ret_mc (b := b) (res_tmp rfl) (res_tmp rfl) (by repeat (first | exact Pk.here | apply Pk.there)) (by repeat (first | exact Pk.here | apply Pk.there)) (by repeat (first | exact Pk.here | apply Pk.there)) ?_)))
 (obtain rfl : k = 3 := (by omega); exact DoP.go (by rw [hsk, mTake3, if_neg (by omega), hj, Int.toNat_natCast]) (Mc.mk (by simp) (flat_snoc _ _).symm (hrs.snoc hv2) rfl hse hre rfl rfl hrf))
 refine seq_pure (pure_assign rfl) rfl rfl ?_
 refine seq_done (nrm_seq (tri_cond_f rfl ?_))
 refine tri_seq (tri_region (seq_bool (pure_eql rfl rfl) rfl rfl (fun h226 => ?_) (fun h226 => ?_)))
 refine seq_pure (pure_assign rfl) rfl rfl ?_
 refine seq_done (nrm_seq (tri_cond_t rfl ?_))
 refine tri_seq (tri_draw mixed rfl ?_)
 refine any_pure (i := 0) (listed' := [tt,ff,ff,ff,ff,ff,ff,ff,ff,ff,ff]) rfl npI (pure_move rfl) rfl (by kernel_rfl) rfl rfl ?_
 refine any_pure (i := 1) (listed' := [tt,tt,ff,ff,ff,ff,ff,ff,ff,ff,ff]) rfl npI (pure_move rfl) rfl (by kernel_rfl) rfl rfl ?_
 refine any_pure (i := 2) (listed' := [tt,tt,tt,ff,ff,ff,ff,ff,ff,ff,ff]) rfl npI (pure_nilCheck rfl) rfl (by kernel_rfl) rfl rfl ?_
 refine any_pure (i := 3) (listed' := [tt,tt,tt,tt,ff,ff,ff,ff,ff,ff,ff]) rfl npI (pure_fieldAddr0 rfl) rfl (by kernel_rfl) rfl rfl ?_
 refine any_load (i := 4) (listed' := [tt,tt,tt,tt,tt,ff,ff,ff,ff,ff,ff]) rfl npI (load_bs rfl rfl (by repeat first | exact mH | apply mT) (by rfl)) rfl (by kernel_rfl) rfl rfl ?_
 refine any_pure (i := 5) (listed' := [tt,tt,tt,tt,tt,tt,ff,ff,ff,ff,ff]) rfl npI (pure_move rfl) rfl (by kernel_rfl) rfl rfl ?_
 refine any_pure (i := 6) (listed' := [tt,tt,tt,tt,tt,tt,tt,ff,ff,ff,ff]) rfl npI (pure_nilCheck rfl) rfl (by kernel_rfl) rfl rfl ?_
 refine any_pure (i := 7) (listed' := [tt,tt,tt,tt,tt,tt,tt,tt,ff,ff,ff]) rfl npI (pure_fieldAddr0 rfl) rfl (by kernel_rfl) rfl rfl ?_
 refine any_load (i := 8) (listed' := [tt,tt,tt,tt,tt,tt,tt,tt,tt,ff,ff]) rfl npI (load_bs rfl rfl (by repeat first | exact mH | apply mT) (by rfl)) rfl (by kernel_rfl) rfl rfl ?_
 refine any_pure (i := 9) (listed' := [tt,tt,tt,tt,tt,tt,tt,tt,tt,tt,ff]) rfl npI (pure_build rfl rfl) rfl (by kernel_rfl) rfl rfl ?_
 refine any_one (j := 10) (by kernel_rfl) ?_
 (refine one_takeD (listed' := [tt,tt,tt,tt,tt,tt,tt,tt,tt,tt,tt]) rfl rfl (push_fn _ s.st.length _ _ _ _ _ _ _ _ _ _ _ (by omega) rfl) (Pk2 (by repeat (first | exact Pk.here | apply Pk.there)) (by repeat (first | exact Pk.here | apply Pk.there))) rfl rfl rfl (by kernel_rfl) (fun v G3 outs hle3 hh => ?_); obtain ⟨hG, rfl, p7, c7, rfl⟩ := hh; subst hG)
 refine any_done (by kernel_rfl) ?_
 refine nrm_seq (tri_draw mixed rfl ?_)
 refine any_pure (i := 0) (listed' := [tt,ff,ff,ff,ff,ff,ff,ff,ff,ff]) rfl npI (pure_move rfl) rfl (by kernel_rfl) rfl rfl ?_
 refine any_pure (i := 1) (listed' := [tt,tt,ff,ff,ff,ff,ff,ff,ff,ff]) rfl npI (pure_nilCheck rfl) rfl (by kernel_rfl) rfl rfl ?_
 refine any_pure (i := 2) (listed' := [tt,tt,tt,ff,ff,ff,ff,ff,ff,ff]) rfl npI (pure_fieldAddr0 rfl) rfl (by kernel_rfl) rfl rfl ?_
 refine any_load (i := 3) (listed' := [tt,tt,tt,tt,ff,ff,ff,ff,ff,ff]) rfl npI (load_bs rfl rfl (by repeat first | exact mH | apply mT) (by rfl)) rfl (by kernel_rfl) rfl rfl ?_
 refine any_pure (i := 4) (listed' := [tt,tt,tt,tt,tt,ff,ff,ff,ff,ff]) rfl npI (pure_fieldAddr0 rfl) rfl (by kernel_rfl) rfl rfl ?_
 refine any_load (i := 5) (listed' := [tt,tt,tt,tt,tt,tt,ff,ff,ff,ff]) rfl npI (load_bs rfl rfl (by repeat first | exact mH | apply mT) (by rfl)) rfl (by kernel_rfl) rfl rfl ?_
 refine any_pure (i := 6) (listed' := [tt,tt,tt,tt,tt,tt,tt,ff,ff,ff]) rfl npI (pure_add rfl rfl (by omega) (by omega)) rfl (by kernel_rfl) rfl rfl ?_
 refine any_pure (i := 7) (listed' := [tt,tt,tt,tt,tt,tt,tt,tt,ff,ff]) rfl npI (pure_nilCheck rfl) rfl (by kernel_rfl) rfl rfl ?_
 refine any_pure (i := 8) (listed' := [tt,tt,tt,tt,tt,tt,tt,tt,tt,ff]) rfl npI (pure_fieldAddr0 rfl) rfl (by kernel_rfl) rfl rfl ?_
 refine any_one (j := 9) (by kernel_rfl) ?_
 refine one_storeM (listed' := [tt,tt,tt,tt,tt,tt,tt,tt,tt,tt]) rfl rfl rfl rfl rfl rfl rfl rfl (by repeat first | exact Sw.here | apply Sw.there) (by rfl) (by repeat (first | exact HmOk.nil | apply HmOk.dep (by decide +kernel) | apply HmOk.im (by decide +kernel) (by assumption) (by repeat first | exact mH | apply mT) | apply HmOk.blk (by decide +kernel) (by repeat (first | exact Pk.here | apply Pk.there)) (by repeat first | exact mH | apply mT))) ?_
 refine any_done (by kernel_rfl) ?_
 refine nrm_block (nrm_seq (tri_seq (tri_region (seq_pure (pure_assign rfl) rfl rfl ?_))))
 refine seq_pure (pure_assign rfl) rfl rfl ?_
 refine seq_done (nrm_seq (tri_ret (ret_mc (b := b) (res_tmp rfl) (res_tmp rfl) (by repeat (first | exact Pk.here | apply Pk.there)) (by repeat (first | exact Pk.here | apply Pk.there)) (by repeat (first | exact Pk.here | apply Pk.there)) ?_)))
 (obtain rfl : k = 4 := (by omega); exact DoP.go (by rw [hsk, mTake4]) (Mc.mk (by simp) (flat_snoc _ _).symm (hrs.snoc (RMv.mk (k := 2) (num := s.at' + 1) (env := s.env) (parts := []) ⟨by omega, by omega⟩ ⟨by decide, by decide⟩ rfl rfl hse hre (SlE.nil _ 4) rfl)) rfl hse hre rfl rfl hrf))
 refine seq_pure (pure_assign rfl) rfl rfl ?_
 refine seq_done (nrm_seq (tri_cond_f rfl ?_))
 refine tri_seq (tri_region (seq_bool (pure_eql rfl rfl) rfl rfl (fun h277 => ?_) (fun h277 => ?_)))
 refine seq_pure (pure_assign rfl) rfl rfl ?_
 refine seq_done (nrm_seq (tri_cond_t rfl ?_))
 refine tri_seq (tri_region (seq_pure (pure_move rfl) rfl rfl ?_))
 refine seq_pure (pure_nilCheck rfl) rfl rfl ?_
 refine seq_pure (pure_fieldAddr0 rfl) rfl rfl ?_
 refine seq_load (load_bs rfl rfl (by repeat first | exact mH | apply mT) (by rfl)) rfl rfl ?_
 refine seq_pure (pure_len rfl rfl) rfl rfl ?_
 refine seq_pure (pure_sub rfl rfl (by omega) (by omega)) rfl rfl ?_
 refine seq_pure (pure_assign rfl) rfl rfl ?_
 refine seq_done (nrm_seq (tri_seq (tri_seq (tri_region (seq_pure (pure_move rfl) rfl rfl ?_)))))
 refine seq_bool (pure_lss rfl rfl) rfl rfl (fun h297 => ?_) (fun h297 => ?_)
 refine seq_done (nrm_seq (tri_cond_t rfl ?_))
 refine tri_seq (tri_region (seq_pure (pure_assign rfl) rfl rfl ?_))
 refine seq_pure (pure_assign rfl) rfl rfl ?_
 refine seq_done (nrm_seq (tri_ret (ret_seq (ret_block (ret_seq (ret_mc (b := b) (res_tmp rfl) (res_tmp rfl) (by repeat (first | exact Pk.here | apply Pk.there)) (by repeat (first | exact Pk.here | apply Pk.there)) (by repeat (first | exact Pk.here | apply Pk.there)) ?_))))))
 (obtain rfl : k = 5 := (by omega); exact DoP.no (by rw [hsk, mTake5, if_pos (by omega)]))
 refine seq_done (nrm_seq (tri_cond_f rfl ?_))
 refine tri_skip (nrm_seq (tri_seq ?_))
 (have hk5 : k = 5 := (by omega); have hf0 : 0 < s.fr.length := (by omega); rw [show ((s.fr.length : Int) - 1) = ((s.fr.length - 1 : Nat) : Int) from (by omega)]; refine tri_know (fun a w hs => hs.slc_form (p := pf) (c := cf) (el := 79) (sz := 2) (n := s.fr.length) (cs := ef.flatten) (by repeat first | exact mH | apply mT)) (fun hq => ?_); obtain ⟨_, hncf, hpf⟩ := hq; obtain ⟨gf, rfl⟩ := hpf hf0; obtain ⟨ef1, hef1, pq, cq, esq, rfl, hfI, hsfq, hrfq⟩ := hrf.get (i := s.fr.length - 1) (getD_some' (d := (0, [])) (by omega)); have hfv : ∀ j v, [Value.int .i64 (s.fr.getD (s.fr.length - 1) (0, [])).1, Value.slice pq (s.fr.getD (s.fr.length - 1) (0, [])).2.length cq][j]? = some v → ef.flatten[(0 + (s.fr.length - 1) * 2) + j]? = some v := (fun j v hj => by rw [Nat.zero_add]; exact flat_get hrf.all hef1 j v hj); refine tri_draw mixed rfl ?_)
 refine any_pure (i := 0) (listed' := [tt,ff,ff,ff,ff,ff,ff,ff,ff,ff,ff,ff,ff,ff,ff,ff,ff,ff,ff,ff,ff,ff,ff,ff]) rfl npI (pure_move rfl) rfl (by kernel_rfl) rfl rfl ?_
 refine any_pure (i := 1) (listed' := [tt,tt,ff,ff,ff,ff,ff,ff,ff,ff,ff,ff,ff,ff,ff,ff,ff,ff,ff,ff,ff,ff,ff,ff]) rfl npI (pure_move rfl) rfl (by kernel_rfl) rfl rfl ?_
 refine any_pure (i := 2) (listed' := [tt,tt,tt,ff,ff,ff,ff,ff,ff,ff,ff,ff,ff,ff,ff,ff,ff,ff,ff,ff,ff,ff,ff,ff]) rfl npI (pure_move rfl) rfl (by kernel_rfl) rfl rfl ?_
 refine any_pure (i := 3) (listed' := [tt,tt,tt,tt,ff,ff,ff,ff,ff,ff,ff,ff,ff,ff,ff,ff,ff,ff,ff,ff,ff,ff,ff,ff]) rfl npI (pure_nilCheck rfl) rfl (by kernel_rfl) rfl rfl ?_
 refine any_pure (i := 4) (listed' := [tt,tt,tt,tt,tt,ff,ff,ff,ff,ff,ff,ff,ff,ff,ff,ff,ff,ff,ff,ff,ff,ff,ff,ff]) rfl npI (pure_fieldAddr0 rfl) rfl (by kernel_rfl) rfl rfl ?_
 refine any_load (i := 5) (listed' := [tt,tt,tt,tt,tt,tt,ff,ff,ff,ff,ff,ff,ff,ff,ff,ff,ff,ff,ff,ff,ff,ff,ff,ff]) rfl npI (load_bs rfl rfl (by repeat first | exact mH | apply mT) (by rfl)) rfl (by kernel_rfl) rfl rfl ?_
 refine any_pure (i := 6) (listed' := [tt,tt,tt,tt,tt,tt,tt,ff,ff,ff,ff,ff,ff,ff,ff,ff,ff,ff,ff,ff,ff,ff,ff,ff]) rfl npI (pure_move rfl) rfl (by kernel_rfl) rfl rfl ?_
 refine any_pure (i := 7) (listed' := [tt,tt,tt,tt,tt,tt,tt,tt,ff,ff,ff,ff,ff,ff,ff,ff,ff,ff,ff,ff,ff,ff,ff,ff]) rfl npI (pure_indexAddrN (j := s.fr.length - 1) rfl rfl rfl (by omega)) rfl (by kernel_rfl) rfl rfl ?_
 refine any_pure (i := 8) (listed' := [tt,tt,tt,tt,tt,tt,tt,tt,tt,ff,ff,ff,ff,ff,ff,ff,ff,ff,ff,ff,ff,ff,ff,ff]) rfl npI (pure_fieldAddr rfl) rfl (by kernel_rfl) rfl rfl ?_
 refine any_load (i := 9) (listed' := [tt,tt,tt,tt,tt,tt,tt,tt,tt,tt,ff,ff,ff,ff,ff,ff,ff,ff,ff,ff,ff,ff,ff,ff]) rfl npI (load_s rfl rfl ((at_slc (by repeat first | exact mH | apply mT) hfv).sub (j := 0) rfl)) rfl (by kernel_rfl) rfl rfl ?_
 refine any_pure (i := 10) (listed' := [tt,tt,tt,tt,tt,tt,tt,tt,tt,tt,tt,ff,ff,ff,ff,ff,ff,ff,ff,ff,ff,ff,ff,ff]) rfl npI (pure_move rfl) rfl (by kernel_rfl) rfl rfl ?_
 refine any_pure (i := 11) (listed' := [tt,tt,tt,tt,tt,tt,tt,tt,tt,tt,tt,tt,ff,ff,ff,ff,ff,ff,ff,ff,ff,ff,ff,ff]) rfl npI (pure_nilCheck rfl) rfl (by kernel_rfl) rfl rfl ?_
 refine any_pure (i := 12) (listed' := [tt,tt,tt,tt,tt,tt,tt,tt,tt,tt,tt,tt,tt,ff,ff,ff,ff,ff,ff,ff,ff,ff,ff,ff]) rfl npI (pure_fieldAddr0 rfl) rfl (by kernel_rfl) rfl rfl ?_
 refine any_load (i := 13) (listed' := [tt,tt,tt,tt,tt,tt,tt,tt,tt,tt,tt,tt,tt,tt,ff,ff,ff,ff,ff,ff,ff,ff,ff,ff]) rfl npI (load_bs rfl rfl (by repeat first | exact mH | apply mT) (by rfl)) rfl (by kernel_rfl) rfl rfl ?_
 refine any_pure (i := 14) (listed' := [tt,tt,tt,tt,tt,tt,tt,tt,tt,tt,tt,tt,tt,tt,tt,ff,ff,ff,ff,ff,ff,ff,ff,ff]) rfl npI (pure_move rfl) rfl (by kernel_rfl) rfl rfl ?_
 refine any_pure (i := 15) (listed' := [tt,tt,tt,tt,tt,tt,tt,tt,tt,tt,tt,tt,tt,tt,tt,tt,ff,ff,ff,ff,ff,ff,ff,ff]) rfl npI (pure_indexAddrN (j := s.fr.length - 1) rfl rfl rfl (by omega)) rfl (by kernel_rfl) rfl rfl ?_
 refine any_pure (i := 16) (listed' := [tt,tt,tt,tt,tt,tt,tt,tt,tt,tt,tt,tt,tt,tt,tt,tt,tt,ff,ff,ff,ff,ff,ff,ff]) rfl npI (pure_fieldAddr rfl) rfl (by kernel_rfl) rfl rfl ?_
 refine any_load (i := 17) (listed' := [tt,tt,tt,tt,tt,tt,tt,tt,tt,tt,tt,tt,tt,tt,tt,tt,tt,tt,ff,ff,ff,ff,ff,ff]) rfl npI (load_s rfl rfl ((at_slc (by repeat first | exact mH | apply mT) hfv).sub (j := 1) rfl)) rfl (by kernel_rfl) rfl rfl ?_
 refine any_pure (i := 18) (listed' := [tt,tt,tt,tt,tt,tt,tt,tt,tt,tt,tt,tt,tt,tt,tt,tt,tt,tt,tt,ff,ff,ff,ff,ff]) rfl npI (pure_nilCheck rfl) rfl (by kernel_rfl) rfl rfl ?_
 refine any_pure (i := 19) (listed' := [tt,tt,tt,tt,tt,tt,tt,tt,tt,tt,tt,tt,tt,tt,tt,tt,tt,tt,tt,tt,ff,ff,ff,ff]) rfl npI (pure_fieldAddr0 rfl) rfl (by kernel_rfl) rfl rfl ?_
 refine any_one (j := 20) (by kernel_rfl) ?_
 refine one_storeM (listed' := [tt,tt,tt,tt,tt,tt,tt,tt,tt,tt,tt,tt,tt,tt,tt,tt,tt,tt,tt,tt,tt,ff,ff,ff]) rfl rfl rfl rfl rfl rfl rfl rfl (by repeat first | exact Sw.here | apply Sw.there) (by rfl) (by repeat (first | exact HmOk.nil | apply HmOk.dep (by decide +kernel) | apply HmOk.im (by decide +kernel) (by assumption) (by repeat first | exact mH | apply mT) | apply HmOk.blk (by decide +kernel) (by repeat (first | exact Pk.here | apply Pk.there)) (by repeat first | exact mH | apply mT))) ?_
 refine any_pure (i := 21) (listed' := [tt,tt,tt,tt,tt,tt,tt,tt,tt,tt,tt,tt,tt,tt,tt,tt,tt,tt,tt,tt,tt,tt,ff,ff]) rfl npI (pure_nilCheck rfl) rfl (by kernel_rfl) rfl rfl ?_
 refine any_pure (i := 22) (listed' := [tt,tt,tt,tt,tt,tt,tt,tt,tt,tt,tt,tt,tt,tt,tt,tt,tt,tt,tt,tt,tt,tt,tt,ff]) rfl npI (pure_fieldAddr0 rfl) rfl (by kernel_rfl) rfl rfl ?_
 refine any_one (j := 23) (by kernel_rfl) ?_
 refine one_store (listed' := [tt,tt,tt,tt,tt,tt,tt,tt,tt,tt,tt,tt,tt,tt,tt,tt,tt,tt,tt,tt,tt,tt,tt,tt]) rfl rfl rfl rfl rfl rfl rfl rfl (by decide +kernel) (by repeat first | exact Sw.here | apply Sw.there) (by rfl) ?_
 refine any_done (by kernel_rfl) ?_
 refine nrm_seq (tri_region (seq_pure (pure_move rfl) rfl rfl ?_))
 refine seq_pure (pure_move rfl) rfl rfl ?_
 refine seq_pure (pure_nilCheck rfl) rfl rfl ?_
 refine seq_pure (pure_fieldAddr0 rfl) rfl rfl ?_
 refine seq_load (load_bs rfl rfl (by repeat first | exact mH | apply mT) (by rfl)) rfl rfl ?_
 refine seq_pure (pure_move rfl) rfl rfl ?_
 (refine seq_pure (pure_slice_to (l := s.fr.length - 1) rfl rfl rfl (by omega)) rfl rfl ?_)
 refine seq_pure (pure_nilCheck rfl) rfl rfl ?_
 refine seq_pure (pure_fieldAddr0 rfl) rfl rfl ?_
 (refine triL_trim (k := s.fr.length - 1) (p := some ⟨gf, 0, none⟩) (el := 79) (by repeat (first | exact Pk.here | apply Pk.there)) (by omega) ?_; refine seq_store rfl rfl rfl rfl rfl rfl (by repeat first | exact Sw.here | apply Sw.there) (by rfl) ?_)
 refine seq_done (nrm_block (nrm_seq (tri_seq (tri_region (seq_pure (pure_assign rfl) rfl rfl ?_)))))
 refine seq_pure (pure_assign rfl) rfl rfl ?_
 refine seq_done (nrm_seq (tri_ret (ret_mc (b := b) (res_tmp rfl) (res_tmp rfl) (by repeat (first | exact Pk.here | apply Pk.there)) (by repeat (first | exact Pk.here | apply Pk.there)) (by repeat (first | exact Pk.here | apply Pk.there)) ?_)))
 (obtain rfl : k = 5 := (by omega); exact DoP.go (by rw [hsk, mTake5, if_neg (by omega)]) (Mc.mk rfl rfl hrs rfl hsfq hrfq (by rw [List.length_take]; omega) (flat_take _ hrf.all) (hrf.take _)))
 refine seq_pure (pure_assign rfl) rfl rfl ?_
 refine seq_done (nrm_seq (tri_cond_f rfl ?_))
 refine tri_seq (tri_region (seq_pure (pure_eql_f rfl rfl (by omega)) rfl rfl ?_))
 refine seq_pure (pure_assign rfl) rfl rfl ?_
 refine seq_done (nrm_seq (tri_cond_f rfl ?_))
 refine tri_seq (tri_region (seq_pure (pure_eql_f rfl rfl (by omega)) rfl rfl ?_))
 refine seq_pure (pure_assign rfl) rfl rfl ?_
 refine seq_done (nrm_seq (tri_cond_f rfl ?_))
 refine tri_seq (tri_region (seq_pure (pure_eql_f rfl rfl (by omega)) rfl rfl ?_))
 refine seq_pure (pure_assign rfl) rfl rfl ?_
 refine seq_done (nrm_seq (tri_cond_f rfl ?_))
 refine tri_seq (tri_region (seq_pure (pure_eql_f rfl rfl (by omega)) rfl rfl ?_))
 refine seq_pure (pure_assign rfl) rfl rfl ?_
 refine seq_done (nrm_seq (tri_cond_f rfl ?_))
 refine tri_seq (tri_region (seq_pure (pure_eql_t rfl rfl (by omega)) rfl rfl ?_))
 refine seq_pure (pure_assign rfl) rfl rfl ?_
 refine seq_done (nrm_seq (tri_cond_t rfl ?_))
 refine tri_draw mixed rfl ?_
 refine any_pure (i := 0) (listed' := [tt,ff,ff,ff,ff,ff,ff,ff,ff,ff]) rfl npI (pure_move rfl) rfl (by kernel_rfl) rfl rfl ?_
 refine any_pure (i := 1) (listed' := [tt,tt,ff,ff,ff,ff,ff,ff,ff,ff]) rfl npI (pure_nilCheck rfl) rfl (by kernel_rfl) rfl rfl ?_
 refine any_pure (i := 2) (listed' := [tt,tt,tt,ff,ff,ff,ff,ff,ff,ff]) rfl npI (pure_fieldAddr0 rfl) rfl (by kernel_rfl) rfl rfl ?_
 refine any_load (i := 3) (listed' := [tt,tt,tt,tt,ff,ff,ff,ff,ff,ff]) rfl npI (load_bs rfl rfl (by repeat first | exact mH | apply mT) (by rfl)) rfl (by kernel_rfl) rfl rfl ?_
 refine any_pure (i := 4) (listed' := [tt,tt,tt,tt,tt,ff,ff,ff,ff,ff]) rfl npI (pure_fieldAddr0 rfl) rfl (by kernel_rfl) rfl rfl ?_
 refine any_load (i := 5) (listed' := [tt,tt,tt,tt,tt,tt,ff,ff,ff,ff]) rfl npI (load_bs rfl rfl (by repeat first | exact mH | apply mT) (by rfl)) rfl (by kernel_rfl) rfl rfl ?_
 refine any_pure (i := 6) (listed' := [tt,tt,tt,tt,tt,tt,tt,ff,ff,ff]) rfl npI (pure_add rfl rfl (by omega) (by omega)) rfl (by kernel_rfl) rfl rfl ?_
 refine any_pure (i := 7) (listed' := [tt,tt,tt,tt,tt,tt,tt,tt,ff,ff]) rfl npI (pure_nilCheck rfl) rfl (by kernel_rfl) rfl rfl ?_
 refine any_pure (i := 8) (listed' := [tt,tt,tt,tt,tt,tt,tt,tt,tt,ff]) rfl npI (pure_fieldAddr0 rfl) rfl (by kernel_rfl) rfl rfl ?_
 refine any_one (j := 9) (by kernel_rfl) ?_
 refine one_storeM (listed' := [tt,tt,tt,tt,tt,tt,tt,tt,tt,tt]) rfl rfl rfl rfl rfl rfl rfl rfl (by repeat first | exact Sw.here | apply Sw.there) (by rfl) (by repeat (first | exact HmOk.nil | apply HmOk.dep (by decide +kernel) | apply HmOk.im (by decide +kernel) (by assumption) (by repeat first | exact mH | apply mT) | apply HmOk.blk (by decide +kernel) (by repeat (first | exact Pk.here | apply Pk.there)) (by repeat first | exact mH | apply mT))) ?_
 refine any_done (by kernel_rfl) ?_
 refine nrm_block (nrm_seq (tri_seq (tri_region (seq_pure (pure_assign rfl) rfl rfl ?_))))
 refine seq_pure (pure_assign rfl) rfl rfl ?_
 refine seq_done (nrm_seq (tri_ret (ret_mc (b := b) (res_tmp rfl) (res_tmp rfl) (by repeat (first | exact Pk.here | apply Pk.there)) (by repeat (first | exact Pk.here | apply Pk.there)) (by repeat (first | exact Pk.here | apply Pk.there)) ?_)))
 (obtain rfl : k = 10 := (by omega); exact DoP.go (by rw [hsk, mTake10]) (Mc.mk rfl rfl hrs rfl hse hre rfl rfl hrf))
set_option maxHeartbeats 0 in
set_option maxRecDepth 100000 in
theorem doFew_fn (k a : Int) (s : MSt) (b N : Nat) (G : IM) (hp0 : List Ent) (hN : N ≤ 2000) (hst : s.st.length ≤ N) (hl : s.st.length < mPops k) (hM : Mc G s b hp0) :
  Fn Tryd.prog 18 [.pointer (some ⟨b, 0, none⟩), .agg ⟨[.int .i64 k, .int .i64 a]⟩] hp0 G (DoP (mStep k a s) b) := by
 have hX := expects_fn k G
 have hp2 : mPops k ≤ 2 := by unfold mPops; (repeat' split) <;> omega
 obtain ⟨ps, cs, es, pe, ce, ee, pf, cf, ef, rfl, hrs, hse, hre, hrf⟩ := hM
 have hPop := pop_fn b (mPops k) s.st.length cs (.int .i64 s.at') (.slice pe s.env.length ce) (.slice pf s.fr.length cf) ps es G hp2 (by omega) hrs.len hrs.all hrs.ones ⟨rfl, rfl, rfl⟩
 refine fn_enter Tryd.func18 rfl Tryd.ntmps18 Tryd.results18 rfl ?_
 intro w0
 refine tri_seq (tri_region ?_)
 (refine seq_step (step_box_a rfl rfl) rfl ?_; rintro _ ⟨b3, rfl⟩)
 refine seq_pure (pure_assign rfl) rfl rfl ?_
 refine seq_pure (pure_assign rfl) rfl rfl ?_
 refine seq_done (nrm_seq (tri_seq (tri_region (seq_pure (pure_fieldAddr0 rfl) rfl rfl ?_))))
 refine seq_load (load_bs rfl rfl (by repeat first | exact mH | apply mT) (by rfl)) rfl rfl ?_
 refine seq_val rfl (hX) rfl rfl ?_
 refine seq_pure (pure_move rfl) rfl rfl ?_
 refine seq_pure (pure_extract rfl rfl) rfl rfl ?_
 refine seq_pure (pure_extract rfl rfl) rfl rfl ?_
 refine seq_pure (pure_extract rfl rfl) rfl rfl ?_
 refine seq_pure (pure_extract rfl rfl) rfl rfl ?_
 refine seq_pure (pure_assign rfl) rfl rfl ?_
 refine seq_pure (pure_assign rfl) rfl rfl ?_
 refine seq_pure (pure_assign rfl) rfl rfl ?_
 refine seq_pure (pure_assign rfl) rfl rfl ?_
 refine seq_done (nrm_seq (tri_seq (tri_region (seq_pure (pure_move rfl) rfl rfl ?_))))
 refine seq_pure (pure_move rfl) rfl rfl ?_
 (refine seq_take rfl hPop (Pk2 (by repeat (first | exact Pk.here | apply Pk.there)) (by repeat (first | exact Pk.here | apply Pk.there))) rfl rfl (fun v G1 outs hle1 hh => ?_); unfold PopP at hh; rw [if_pos hl] at hh; subst hh)
 refine seq_pure (pure_move rfl) rfl rfl ?_
 refine seq_pure (pure_extract rfl rfl) rfl rfl ?_
 refine seq_pure (pure_extract rfl rfl) rfl rfl ?_
 refine seq_pure (pure_assign rfl) rfl rfl ?_
 refine seq_pure (pure_assign rfl) rfl rfl ?_
 refine seq_done (nrm_seq (tri_seq (tri_seq (tri_region (seq_pure (pure_move rfl) rfl rfl ?_)))))
 refine seq_pure (pure_not_f rfl) rfl rfl ?_
 refine seq_done (nrm_seq (tri_cond_t rfl ?_))
 refine tri_seq (tri_region (seq_pure (pure_assign rfl) rfl rfl ?_))
 refine seq_pure (pure_assign rfl) rfl rfl ?_
 refine seq_done (nrm_seq (tri_ret (ret_seq (ret_fin2 (res_tmp rfl) (res_tmp rfl) ?_))))
 (exact DoP.no (mStep_few hl))
end Gw
end Go.Proofs.YtaoaeilognhfpaaDoor
namespace Go.Proofs.YtaoaeilognhfpaaDoor
open Go Go.RowKit
namespace Gw
/-- The library's table of powers of ten lies in memory that no longer changes. -/
def TabG (G : IM) : Prop := ∃ g, Tryd.prog.globalNamed "internal/strconv.uint64pow10" = some g ∧ G g = some (Lib.pow10Tab.map fun z => Value.int .u64 z)
theorem TabG.mono {G G' : IM} (h : TabG G) (hg : IMle G G') : TabG G' := by
 obtain ⟨g, h1, h2⟩ := h
 exact ⟨g, h1, hg g _ h2⟩
theorem res_grow {G : IM} {w : World} (hw : Own [] G w) (k : Nat) (os : Array Obj) : Res [] G w [] G (Sort.grow (w.drewN k) os) := by
 have hb : ∀ b, b < w.heap.size → (Sort.grow (w.drewN k) os).heap[b]? = w.heap[b]? := by
  intro b h
  show (w.heap ++ os)[b]? = _
  rw [Array.getElem?_append_left h]
 refine ⟨⟨?_, by simp, by simp [Fp], by simp [Fp]⟩, ⟨rfl, rfl, rfl, ?_, fun b h _ => hb b h⟩, IMle.refl _, fun _ _ h => .inl h, by simp [Fp], fun b l h h0 => absurd h (by rw [h0]; simp)⟩
 ·intro b l h
  obtain ⟨e, f, hh⟩ := hw.inn b l h
  exact ⟨e, f, by rw [hb b (lt_of_some hh)]; exact hh⟩
 ·show w.heap.size ≤ (w.heap ++ os).size
  simp
theorem itoa_fn (n : Int) (G : IM) (h : TabG G) (h0 : 0 ≤ n) (h1 : n ≤ 999) : Fn Tryd.prog 35 [.int .i64 n] [] G (Val (.string ⟨(Lib.decDigits n.toNat).toArray⟩) G) := by
 refine ⟨fun w hw => ?_⟩
 have ht : Lib.TabIs Tryd.prog w "internal/strconv.uint64pow10" .u64 Lib.pow10Tab := by
  obtain ⟨g, hg, hG⟩ := h
  obtain ⟨e, f, hh⟩ := hw.inn g _ hG
  unfold Lib.TabIs World.var?
  rw [hg]
  simp only [Option.bind_some, hh]
 refine (Tryd.strconv_Itoa n (by omega) (by omega) w ht).mono ?_
 rintro e w' ⟨rfl, k, os, rfl⟩
 refine ⟨_, G, [], rfl, res_grow hw k os, rfl, ?_, rfl⟩
 unfold Lib.itoa
 rw [if_neg (by omega)]
end Gw
end Go.Proofs.YtaoaeilognhfpaaDoor
namespace Go.Proofs.YtaoaeilognhfpaaDoor
open Go Go.RowKit
namespace Gw
set_option maxHeartbeats 0 in
set_option maxRecDepth 100000 in
theorem l14Take1_fn (k a : Int) (s : MSt) (n N : Nat) (v0 : MV) (G : IM) (cells : List Value) (hk : k = 9 ∨ k = 12 ∨ k = 13) (hn : n ≤ 120) (hN : N ≤ 2000) (ho : s.ok n N) (hat : s.at' < n) (hop : mOpOk n s.at'.toNat (k, a) = true) (hd : s.st.drop (s.st.length - 1) = [v0]) (hl : 1 ≤ s.st.length) (hs : RSs kS G s cells) :
  Fn Tryd.prog 29 [.agg ⟨cells⟩, .agg ⟨[.int .i64 k, .int .i64 a]⟩] [] G (StepS kS (mTake k a s) G) := by
 have hp : mPops k = 1 := mPops1 hk
 have hlo := ho.lo; have hhi := ho.hi; have hst := ho.st; have henv := ho.env; have hfr := ho.fr
 obtain ⟨_, _, a1, a2, _, _, _, b4⟩ := mOpOk_at hop (by omega)
 obtain ⟨c1, c2, c3, c4, c5, c6, c7, c8, _, _⟩ := (ho.sto v0 (List.mem_of_mem_drop (i := s.st.length - 1) (by rw [hd]; simp))).spec
 have hP := l14Pop_fn s 1 G cells hs ⟨by omega, hl⟩ (by omega)
 rw [hd] at hP
 have hNd := l14Need_fn k G
 rw [hp] at hNd
 have htl : (s.st.take (s.st.length - 1)).length = s.st.length - 1 := by rw [List.length_take]; omega
 have hs0 := hs
 obtain ⟨pe, ce, ps, cs, pf, cf, ee, es, ef, rfl, _⟩ := hs
 refine fn_enter Tryd.func29 rfl Tryd.ntmps29 Tryd.results29 rfl ?_
 intro w0
 refine tri_seq (tri_region ?_)
 (refine seq_step (step_box_a rfl rfl) rfl ?_; rintro _ ⟨b3, rfl⟩)
 (refine seq_step (step_box_a rfl rfl) rfl ?_; rintro _ ⟨b4, rfl⟩)
 (refine seq_step (step_alloc rfl) rfl ?_; rintro _ ⟨b5, rfl⟩)
 refine seq_pure (pure_assign rfl) rfl rfl ?_
 refine seq_pure (pure_assign rfl) rfl rfl ?_
 refine seq_done (nrm_seq (tri_seq (tri_draw mixed rfl ?_)))
 refine any_load (i := 0) (listed' := [tt,ff,ff,ff,ff,ff,ff,ff,ff,ff]) rfl npI (load_ba rfl rfl (by repeat first | exact mH | apply mT) (by rfl)) rfl (by kernel_rfl) rfl rfl ?_
 refine any_pure (i := 1) (listed' := [tt,tt,ff,ff,ff,ff,ff,ff,ff,ff]) rfl npI (pure_fieldAddr0 rfl) rfl (by kernel_rfl) rfl rfl ?_
 refine any_load (i := 2) (listed' := [tt,tt,tt,ff,ff,ff,ff,ff,ff,ff]) rfl npI (load_bs rfl rfl (by repeat first | exact mH | apply mT) (by rfl)) rfl (by kernel_rfl) rfl rfl ?_
 refine any_one (j := 3) (by kernel_rfl) ?_
 refine one_val (listed' := [tt,tt,tt,tt,ff,ff,ff,ff,ff,ff]) rfl rfl (hNd) rfl rfl rfl ?_
 refine any_one (j := 4) (by kernel_rfl) ?_
 (refine one_imm (listed' := [tt,tt,tt,tt,tt,ff,ff,ff,ff,ff]) rfl rfl hP rfl rfl rfl (fun v G1 hle1 hh => ?_); obtain ⟨c1s, pL, cL, fs, rfl, hs1, hslL, hrL⟩ := hh; obtain ⟨pe1, ce1, ps1, cs1, pf1, cf1, ee1, es1, ef1, rfl, hat1, hse1, hre1, hss1, hrs1, hsf1, hrf1⟩ := hs1.opn; obtain ⟨b0, o0, q0, dd0, q0', dd0', rfl, hv0at, hv0, hg0⟩ := hslL.mvAt hrL (i := 0) (t := v0) rfl)
 refine any_pure (i := 5) (listed' := [tt,tt,tt,tt,tt,tt,ff,ff,ff,ff]) rfl npI (pure_move rfl) rfl (by kernel_rfl) rfl rfl ?_
 refine any_pure (i := 6) (listed' := [tt,tt,tt,tt,tt,tt,tt,ff,ff,ff]) rfl npI (pure_extract rfl rfl) rfl (by kernel_rfl) rfl rfl ?_
 refine any_pure (i := 7) (listed' := [tt,tt,tt,tt,tt,tt,tt,tt,ff,ff]) rfl npI (pure_extract rfl rfl) rfl (by kernel_rfl) rfl rfl ?_
 refine any_one (j := 8) (by kernel_rfl) ?_
 refine one_storeM (listed' := [tt,tt,tt,tt,tt,tt,tt,tt,tt,ff]) rfl rfl rfl rfl rfl rfl rfl rfl (by repeat first | exact Sw.here | apply Sw.there) (by rfl) (by repeat (first | exact HmOk.nil | apply HmOk.dep (by decide +kernel) | apply HmOk.im (by decide +kernel) (by assumption) (by repeat first | exact mH | apply mT) | apply HmOk.blk (by decide +kernel) (by repeat (first | exact Pk.here | apply Pk.there)) (by repeat first | exact mH | apply mT))) ?_
 refine any_pure (i := 9) (listed' := [tt,tt,tt,tt,tt,tt,tt,tt,tt,tt]) rfl npI (pure_assign rfl) rfl (by kernel_rfl) rfl rfl ?_
 refine any_done (by kernel_rfl) ?_
 refine nrm_seq (tri_seq (tri_region (seq_pure (pure_move rfl) rfl rfl ?_)))
 refine seq_pure (pure_indexAddrN (j := 0) rfl rfl rfl (by simp)) rfl rfl ?_
 refine seq_load (load_a rfl rfl (hv0at _) rfl) rfl rfl ?_
 (refine seq_step (step_alloc rfl) rfl ?_; rintro _ ⟨b32, rfl⟩)
 refine seq_store rfl rfl rfl rfl rfl rfl (by repeat first | exact Sw.here | apply Sw.there) (by rfl) ?_
 refine seq_done (nrm_seq (tri_seq (tri_seq (tri_region (seq_pure (pure_fieldAddr0 rfl) rfl rfl ?_)))))
 refine seq_load (load_bs rfl rfl (by repeat first | exact mH | apply mT) (by rfl)) rfl rfl ?_
 refine seq_done (nrm_seq (tri_block (tri_seq (tri_region (seq_pure (pure_eql_f rfl rfl (by omega)) rfl rfl ?_)))))
 refine seq_pure (pure_assign rfl) rfl rfl ?_
 refine seq_done (nrm_seq (tri_cond_f rfl ?_))
 refine tri_seq (tri_seq (tri_region (seq_pure (pure_eql_f rfl rfl (by omega)) rfl rfl ?_)))
 refine seq_pure (pure_assign rfl) rfl rfl ?_
 refine seq_done (nrm_seq (tri_cond_f rfl ?_))
 refine tri_region (seq_pure (pure_eql_f rfl rfl (by omega)) rfl rfl ?_)
 refine seq_pure (pure_assign rfl) rfl rfl ?_
 refine seq_done (nrm_seq (tri_cond_f rfl ?_))
 refine tri_seq (tri_region (seq_pure (pure_eql_f rfl rfl (by omega)) rfl rfl ?_))
 refine seq_pure (pure_assign rfl) rfl rfl ?_
 refine seq_done (nrm_seq (tri_cond_f rfl ?_))
 refine tri_seq (tri_region (seq_bool (pure_eql rfl rfl) rfl rfl (fun h74 => ?_) (fun h74 => ?_)))
 refine seq_pure (pure_assign rfl) rfl rfl ?_
 refine seq_done (nrm_seq (tri_cond_t rfl ?_))
 refine tri_seq (tri_seq (tri_region (seq_pure (pure_fieldAddr0 rfl) rfl rfl ?_)))
 refine seq_load (load_bs rfl rfl (by repeat first | exact mH | apply mT) (by rfl)) rfl rfl ?_
 refine seq_bool (pure_neq rfl rfl) rfl rfl (fun h84 => ?_) (fun h84 => ?_)
 refine seq_done (nrm_seq (tri_cond_t rfl ?_))
 refine tri_seq (tri_region (seq_load (load_ba rfl rfl (by repeat first | exact mH | apply mT) (by rfl)) rfl rfl ?_))
 refine seq_store rfl rfl rfl rfl rfl rfl (by repeat first | exact Sw.here | apply Sw.there) (by rfl) ?_
 refine seq_pure (pure_assign rfl) rfl rfl ?_
 refine seq_pure (pure_assign rfl) rfl rfl ?_
 refine seq_done (nrm_seq (tri_ret (ret_seq (ret_block (ret_seq (ret_fin3 (res_cell rfl (load_ba rfl rfl (by repeat first | exact mH | apply mT) (by rfl))) (res_tmp rfl) (res_tmp rfl) ?_))))))
 (obtain rfl : k = 9 := (by omega); exact StepS.no (by rw [mTake9 hd, if_neg (fun hc => absurd (kS2.2 hc) (by omega))]) rfl rfl)
 refine seq_done (nrm_seq (tri_cond_f rfl ?_))
 refine tri_skip (nrm_seq (tri_seq (tri_region (seq_pure (pure_fieldAddr0 rfl) rfl rfl ?_))))
 refine seq_load (load_bs rfl rfl (by repeat first | exact mH | apply mT) (by rfl)) rfl rfl ?_
 refine seq_pure (pure_add rfl rfl (by omega) (by omega)) rfl rfl ?_
 refine seq_pure (pure_fieldAddr0 rfl) rfl rfl ?_
 refine seq_store rfl rfl rfl rfl rfl rfl (by repeat first | exact Sw.here | apply Sw.there) (by rfl) ?_
 refine seq_done (nrm_seq (tri_seq (tri_seq (tri_region (seq_pure (pure_fieldAddr0 rfl) rfl rfl ?_)))))
 refine seq_load (load_bs rfl rfl (by repeat first | exact mH | apply mT) (by rfl)) rfl rfl ?_
 refine seq_bool (pure_eql rfl rfl) rfl rfl (fun h121 => ?_) (fun h121 => ?_)
 refine seq_done (nrm_seq (tri_cond_t rfl ?_))
 refine tri_region (seq_pure (pure_fieldAddr0 rfl) rfl rfl ?_)
 refine seq_load (load_bs rfl rfl (by repeat first | exact mH | apply mT) (by rfl)) rfl rfl ?_
 refine seq_pure (pure_fieldAddr0 rfl) rfl rfl ?_
 refine seq_load (load_bs rfl rfl (by repeat first | exact mH | apply mT) (by rfl)) rfl rfl ?_
 refine seq_pure (pure_add rfl rfl (by omega) (by omega)) rfl rfl ?_
 refine seq_pure (pure_fieldAddr0 rfl) rfl rfl ?_
 refine seq_store rfl rfl rfl rfl rfl rfl (by repeat first | exact Sw.here | apply Sw.there) (by rfl) ?_
 refine seq_done (nrm_seq (tri_seq (tri_region (seq_load (load_ba rfl rfl (by repeat first | exact mH | apply mT) (by rfl)) rfl rfl ?_))))
 refine seq_store rfl rfl rfl rfl rfl rfl (by repeat first | exact Sw.here | apply Sw.there) (by rfl) ?_
 refine seq_pure (pure_assign rfl) rfl rfl ?_
 refine seq_pure (pure_assign rfl) rfl rfl ?_
 refine seq_done (nrm_seq (tri_ret (ret_block (ret_seq (ret_fin3 (res_cell rfl (load_ba rfl rfl (by repeat first | exact mH | apply mT) (by rfl))) (res_tmp rfl) (res_tmp rfl) ?_)))))
 (obtain rfl : k = 9 := (by omega); exact StepS.go (by rw [mTake9 hd, if_pos (kS2.1 (by omega)), if_pos (by omega)]) (RSs.mk ⟨by omega, by omega⟩ rfl rfl rfl hse1 hre1 hss1 hrs1 hsf1 hrf1))
 refine seq_done (nrm_seq (tri_cond_f rfl ?_))
 refine tri_skip (nrm_seq (tri_seq (tri_region (seq_load (load_ba rfl rfl (by repeat first | exact mH | apply mT) (by rfl)) rfl rfl ?_))))
 refine seq_store rfl rfl rfl rfl rfl rfl (by repeat first | exact Sw.here | apply Sw.there) (by rfl) ?_
 refine seq_pure (pure_assign rfl) rfl rfl ?_
 refine seq_pure (pure_assign rfl) rfl rfl ?_
 refine seq_done (nrm_seq (tri_ret (ret_block (ret_seq (ret_fin3 (res_cell rfl (load_ba rfl rfl (by repeat first | exact mH | apply mT) (by rfl))) (res_tmp rfl) (res_tmp rfl) ?_)))))
 (obtain rfl : k = 9 := (by omega); exact StepS.go (by rw [mTake9 hd, if_pos (kS2.1 (by omega)), if_neg (by omega)]) (RSs.mk ⟨by omega, by omega⟩ rfl rfl rfl hse1 hre1 hss1 hrs1 hsf1 hrf1))
 refine seq_pure (pure_assign rfl) rfl rfl ?_
 refine seq_done (nrm_seq (tri_cond_f rfl ?_))
 refine tri_skip (nrm_block (nrm_seq (tri_seq (tri_seq (tri_region (seq_pure (pure_fieldAddr0 rfl) rfl rfl ?_))))))
 refine seq_load (load_bs rfl rfl (by repeat first | exact mH | apply mT) (by rfl)) rfl rfl ?_
 refine seq_bool (pure_neq rfl rfl) rfl rfl (fun h178 => ?_) (fun h178 => ?_)
 refine seq_done (nrm_seq (tri_cond_t rfl ?_))
 refine tri_seq (tri_region (seq_load (load_ba rfl rfl (by repeat first | exact mH | apply mT) (by rfl)) rfl rfl ?_))
 refine seq_store rfl rfl rfl rfl rfl rfl (by repeat first | exact Sw.here | apply Sw.there) (by rfl) ?_
 refine seq_pure (pure_assign rfl) rfl rfl ?_
 refine seq_pure (pure_assign rfl) rfl rfl ?_
 refine seq_done (nrm_seq (tri_ret (ret_seq (ret_fin3 (res_cell rfl (load_ba rfl rfl (by repeat first | exact mH | apply mT) (by rfl))) (res_tmp rfl) (res_tmp rfl) ?_))))
 (exact StepS.no (by rw [mTake12 (by omega) hd, if_neg (fun hc => absurd ((kS11 ⟨c1, c2⟩).2 hc) (by omega))]) rfl rfl)
 refine seq_done (nrm_seq (tri_cond_f rfl ?_))
 refine tri_skip (nrm_seq (tri_seq ?_))
 (have hk3 : v0.k = 3 := (kS11 ⟨c1, c2⟩).1 (by omega); have hpl : v0.parts.length = 2 := c7 hk3; obtain ⟨_, f0, _, _, hsp0, hrp0⟩ := hv0.kids; have hkn : (k - 12).toNat < v0.parts.length := (by omega); obtain ⟨b2, o2, q2, dd2, q2', dd2', rfl, hv2at, hv2, hg2⟩ := hsp0.mvAt hrp0 (i := (k - 12).toNat) (getD_some' (d := mv0) hkn); refine tri_draw mixed rfl ?_)
 refine any_load (i := 0) (listed' := [tt,ff,ff,ff,ff,ff,ff,ff,ff,ff,ff,ff]) rfl npI (load_ba rfl rfl (by repeat first | exact mH | apply mT) (by rfl)) rfl (by kernel_rfl) rfl rfl ?_
 refine any_pure (i := 1) (listed' := [tt,tt,ff,ff,ff,ff,ff,ff,ff,ff,ff,ff]) rfl npI (pure_fieldAddr0 rfl) rfl (by kernel_rfl) rfl rfl ?_
 refine any_load (i := 2) (listed' := [tt,tt,tt,ff,ff,ff,ff,ff,ff,ff,ff,ff]) rfl npI (load_bs rfl rfl (by repeat first | exact mH | apply mT) (by rfl)) rfl (by kernel_rfl) rfl rfl ?_
 refine any_pure (i := 3) (listed' := [tt,tt,tt,tt,ff,ff,ff,ff,ff,ff,ff,ff]) rfl npI (pure_fieldAddr0 rfl) rfl (by kernel_rfl) rfl rfl ?_
 refine any_load (i := 4) (listed' := [tt,tt,tt,tt,tt,ff,ff,ff,ff,ff,ff,ff]) rfl npI (load_bs rfl rfl (by repeat first | exact mH | apply mT) (by rfl)) rfl (by kernel_rfl) rfl rfl ?_
 refine any_pure (i := 5) (listed' := [tt,tt,tt,tt,tt,tt,ff,ff,ff,ff,ff,ff]) rfl npI (pure_sub_nat (z := (k - 12).toNat) rfl rfl (by omega) (by omega)) rfl (by kernel_rfl) rfl rfl ?_
 refine any_pure (i := 6) (listed' := [tt,tt,tt,tt,tt,tt,tt,ff,ff,ff,ff,ff]) rfl npI (pure_indexAddrN (j := (k - 12).toNat) rfl rfl rfl hkn) rfl (by kernel_rfl) rfl rfl ?_
 refine any_load (i := 7) (listed' := [tt,tt,tt,tt,tt,tt,tt,tt,ff,ff,ff,ff]) rfl npI (load_a rfl rfl (hv2at _) rfl) rfl (by kernel_rfl) rfl rfl ?_
 refine any_one (j := 8) (by kernel_rfl) ?_
 (have hPu := l14Push_fn ⟨s.at', s.st.take (s.st.length - 1), s.env, s.fr⟩ (v0.parts.getD (k - 12).toNat mv0) G1 _ _ hs1 hv2 (by dsimp only; omega) (by dsimp only; omega); refine one_imm (listed' := [tt,tt,tt,tt,tt,tt,tt,tt,tt,ff,ff,ff]) rfl rfl hPu rfl rfl rfl (fun v G2 hle2 hh => ?_); obtain ⟨c2s, rfl, hs2⟩ := hh; obtain ⟨pe2, ce2, ps2, cs2, pf2, cf2, ee2, es2, ef2, rfl, _⟩ := hs2.opn)
 refine any_one (j := 9) (by kernel_rfl) ?_
 refine one_storeM (listed' := [tt,tt,tt,tt,tt,tt,tt,tt,tt,tt,ff,ff]) rfl rfl rfl rfl rfl rfl rfl rfl (by repeat first | exact Sw.here | apply Sw.there) (by rfl) (by repeat (first | exact HmOk.nil | apply HmOk.dep (by decide +kernel) | apply HmOk.im (by decide +kernel) (by assumption) (by repeat first | exact mH | apply mT) | apply HmOk.blk (by decide +kernel) (by repeat (first | exact Pk.here | apply Pk.there)) (by repeat first | exact mH | apply mT))) ?_
 refine any_pure (i := 10) (listed' := [tt,tt,tt,tt,tt,tt,tt,tt,tt,tt,tt,ff]) rfl npI (pure_assign rfl) rfl (by kernel_rfl) rfl rfl ?_
 refine any_pure (i := 11) (listed' := [tt,tt,tt,tt,tt,tt,tt,tt,tt,tt,tt,tt]) rfl npI (pure_assign rfl) rfl (by kernel_rfl) rfl rfl ?_
 refine any_done (by kernel_rfl) ?_
 refine nrm_seq (tri_ret (ret_fin3 (res_cell rfl (load_ba rfl rfl (by repeat first | exact mH | apply mT) (by rfl))) (res_tmp rfl) (res_tmp rfl) ?_))
 (exact StepS.go (by rw [mTake12 (by omega) hd, if_pos hk3]) hs2)
end Gw
end Go.Proofs.YtaoaeilognhfpaaDoor
namespace Go.Proofs.YtaoaeilognhfpaaDoor
open Go Go.RowKit
namespace Gw
abbrev Opl := List (Int × Int)
def opCells (x : Int × Int) : List Value := [.int .i64 x.1, .int .i64 x.2]
/-- A code in memory that no longer changes. -/
structure ROps (G : IM) (ops : Opl) (p : Option Addr) (n c : Nat) : Prop where
 sl : SlE G p n c 2 (ops.map opCells)
 len : n = ops.length
 rng : ∀ x ∈ ops, I64 x.1 ∧ I64 x.2
theorem ROps.mono {G G' : IM} {ops : Opl} {p : Option Addr} {n c : Nat} (h : ROps G ops p n c) (hg : IMle G G') : ROps G' ops p n c := ⟨h.sl.mono hg, h.len, h.rng⟩
theorem ROps.get {G : IM} {ops : Opl} {p : Option Addr} {n c : Nat} (h : ROps G ops p n c) {i : Nat} (hi : i < n) :
  ∃ b o, p = some ⟨b, o, none⟩ ∧ (∀ hp, At hp G b (o + i * 2) [.int .i64 (ops.getD i (0, 0)).1, .int .i64 (ops.getD i (0, 0)).2]) ∧ I64 (ops.getD i (0, 0)).1 ∧ I64 (ops.getD i (0, 0)).2 ∧ G b ≠ none := by
 have hn := h.len
 have hi' : i < ops.length := by omega
 obtain ⟨e, b, o, he, hp, _, _, hat, hg⟩ := h.sl.get hi
 have hx : ops[i]? = some ops[i] := List.getElem?_eq_getElem hi'
 have hd : ops.getD i (0, 0) = ops[i] := by rw [List.getD_eq_getElem?_getD, hx, Option.getD_some]
 rw [List.getElem?_map, hx, Option.map_some] at he
 replace he := Option.some.inj he
 subst he
 have hr := h.rng _ (List.getElem_mem hi')
 rw [hd]
 exact ⟨b, o, hp, hat, hr.1, hr.2, hg⟩
theorem mOps_no {ops : Opl} {i : Nat} (hi : i < ops.length) (h : mOpOk ops.length i (ops.getD i (0, 0)) = false) : mOpsOk ops = false := by
 unfold mOpsOk
 rw [Bool.and_eq_false_iff]; right
 rw [List.all_eq_false]
 exact ⟨i, List.mem_range.2 hi, by rw [h]; exact Bool.false_ne_true⟩
theorem mOps_len {ops : Opl} (h : ¬(1 ≤ ops.length ∧ ops.length ≤ 120)) : mOpsOk ops = false := by
 unfold mOpsOk; rw [decide_eq_false h, Bool.false_and]
theorem mOps_yes {ops : Opl} (h : 1 ≤ ops.length ∧ ops.length ≤ 120) (hj : ∀ j, j < ops.length → mOpOk ops.length j (ops.getD j (0, 0)) = true) : mOpsOk ops = true := by
 unfold mOpsOk
 rw [decide_eq_true h, Bool.true_and, List.all_eq_true]
 exact fun j hm => hj j (List.mem_range.1 hm)
theorem mOps_all {ops : Opl} (h : mOpsOk ops = true) : 1 ≤ ops.length ∧ ops.length ≤ 120 ∧ ∀ j, j < ops.length → mOpOk ops.length j (ops.getD j (0, 0)) = true := by
 unfold mOpsOk at h
 rw [Bool.and_eq_true, decide_eq_true_eq, List.all_eq_true] at h
 exact ⟨h.1.1, h.1.2, fun j hj => h.2 j (List.mem_range.2 hj)⟩
set_option maxHeartbeats 0 in
set_option maxRecDepth 100000 in
theorem l14Own_fn (k a : Int) (i n : Nat) (hi : i < n) (hn : n ≤ 4294967296) (G : IM) (h1 : I64 k) (h2 : I64 a) : Fn Tryd.prog 25 [.agg ⟨[.int .i64 k, .int .i64 a]⟩, .int .i64 (i : Int), .int .i64 (n : Int)] [] G (Val (.bool (mOpOk n i (k, a))) G) := by
 obtain ⟨h1a, h1b⟩ := h1
 obtain ⟨h2a, h2b⟩ := h2
 refine fn_enter Tryd.func25 rfl Tryd.ntmps25 Tryd.results25 rfl ?_
 intro w0
 refine tri_seq (tri_region ?_)
 (refine seq_step (step_box_a rfl rfl) rfl ?_; rintro _ ⟨b3, rfl⟩)
 refine seq_pure (pure_assign rfl) rfl rfl ?_
 refine seq_done (nrm_seq (tri_seq (tri_seq (tri_region (seq_pure (pure_fieldAddr0 rfl) rfl rfl ?_)))))
 refine seq_load (load_bs rfl rfl (by repeat first | exact mH | apply mT) (by rfl)) rfl rfl ?_
 refine seq_done (nrm_seq (tri_block (tri_seq (tri_region (seq_bool (pure_eql rfl rfl) rfl rfl (fun h17 => ?_) (fun h17 => ?_))))))
 refine seq_pure (pure_assign rfl) rfl rfl ?_
 refine seq_done (nrm_seq (tri_cond_t rfl ?_))
 refine tri_seq (tri_region (seq_pure (pure_fieldAddr0 rfl) rfl rfl ?_))
 refine seq_load (load_bs rfl rfl (by repeat first | exact mH | apply mT) (by rfl)) rfl rfl ?_
 refine seq_bool (pure_geq rfl rfl) rfl rfl (fun h26 => ?_) (fun h26 => ?_)
 refine seq_pure (pure_move rfl) rfl rfl ?_
 refine seq_pure (pure_fieldAddr0 rfl) rfl rfl ?_
 refine seq_load (load_bs rfl rfl (by repeat first | exact mH | apply mT) (by rfl)) rfl rfl ?_
 refine seq_bool (pure_leq rfl rfl) rfl rfl (fun h30 => ?_) (fun h30 => ?_)
 refine seq_pure (pure_pick_t rfl rfl) rfl rfl ?_
 refine seq_pure (pure_assign rfl) rfl rfl ?_
 refine seq_done (nrm_seq (tri_ret (ret_block (ret_seq (ret_fin1 (res_tmp rfl) ?_)))))
 exact ⟨rfl, congrArg Value.bool (by (unfold mOpOk mMost; dsimp only; symm; first | (apply decide_eq_true; refine ⟨?_, ?_, ?_, ?_⟩ <;> (repeat' split) <;> omega) | (apply decide_eq_false; rintro ⟨j1, j2, j3, j4⟩; (repeat' split at j4) <;> omega))), rfl⟩
 refine seq_pure (pure_pick_t rfl rfl) rfl rfl ?_
 refine seq_pure (pure_assign rfl) rfl rfl ?_
 refine seq_done (nrm_seq (tri_ret (ret_block (ret_seq (ret_fin1 (res_tmp rfl) ?_)))))
 exact ⟨rfl, congrArg Value.bool (by (unfold mOpOk mMost; dsimp only; symm; first | (apply decide_eq_true; refine ⟨?_, ?_, ?_, ?_⟩ <;> (repeat' split) <;> omega) | (apply decide_eq_false; rintro ⟨j1, j2, j3, j4⟩; (repeat' split at j4) <;> omega))), rfl⟩
 refine seq_pure (pure_move rfl) rfl rfl ?_
 refine seq_skip rfl rfl ?_
 refine seq_skip rfl rfl ?_
 refine seq_skip rfl rfl ?_
 refine seq_pure (pure_pick_f rfl rfl) rfl rfl ?_
 refine seq_pure (pure_assign rfl) rfl rfl ?_
 refine seq_done (nrm_seq (tri_ret (ret_block (ret_seq (ret_fin1 (res_tmp rfl) ?_)))))
 exact ⟨rfl, congrArg Value.bool (by (unfold mOpOk mMost; dsimp only; symm; first | (apply decide_eq_true; refine ⟨?_, ?_, ?_, ?_⟩ <;> (repeat' split) <;> omega) | (apply decide_eq_false; rintro ⟨j1, j2, j3, j4⟩; (repeat' split at j4) <;> omega))), rfl⟩
 refine seq_pure (pure_assign rfl) rfl rfl ?_
 refine seq_done (nrm_seq (tri_cond_f rfl ?_))
 refine tri_seq (tri_region (seq_bool (pure_eql rfl rfl) rfl rfl (fun h68 => ?_) (fun h68 => ?_)))
 refine seq_pure (pure_assign rfl) rfl rfl ?_
 refine seq_done (nrm_seq (tri_cond_t rfl ?_))
 refine tri_seq (tri_region (seq_pure (pure_fieldAddr0 rfl) rfl rfl ?_))
 refine seq_load (load_bs rfl rfl (by repeat first | exact mH | apply mT) (by rfl)) rfl rfl ?_
 refine seq_bool (pure_eql rfl rfl) rfl rfl (fun h77 => ?_) (fun h77 => ?_)
 refine seq_pure (pure_move rfl) rfl rfl ?_
 refine seq_skip rfl rfl ?_
 refine seq_skip rfl rfl ?_
 refine seq_skip rfl rfl ?_
 refine seq_pure (pure_pick_t rfl rfl) rfl rfl ?_
 refine seq_pure (pure_assign rfl) rfl rfl ?_
 refine seq_done (nrm_seq (tri_ret (ret_block (ret_seq (ret_fin1 (res_tmp rfl) ?_)))))
 exact ⟨rfl, congrArg Value.bool (by (unfold mOpOk mMost; dsimp only; symm; first | (apply decide_eq_true; refine ⟨?_, ?_, ?_, ?_⟩ <;> (repeat' split) <;> omega) | (apply decide_eq_false; rintro ⟨j1, j2, j3, j4⟩; (repeat' split at j4) <;> omega))), rfl⟩
 refine seq_pure (pure_move rfl) rfl rfl ?_
 refine seq_pure (pure_fieldAddr0 rfl) rfl rfl ?_
 refine seq_load (load_bs rfl rfl (by repeat first | exact mH | apply mT) (by rfl)) rfl rfl ?_
 refine seq_bool (pure_eql rfl rfl) rfl rfl (fun h94 => ?_) (fun h94 => ?_)
 refine seq_pure (pure_pick_f rfl rfl) rfl rfl ?_
 refine seq_pure (pure_assign rfl) rfl rfl ?_
 refine seq_done (nrm_seq (tri_ret (ret_block (ret_seq (ret_fin1 (res_tmp rfl) ?_)))))
 exact ⟨rfl, congrArg Value.bool (by (unfold mOpOk mMost; dsimp only; symm; first | (apply decide_eq_true; refine ⟨?_, ?_, ?_, ?_⟩ <;> (repeat' split) <;> omega) | (apply decide_eq_false; rintro ⟨j1, j2, j3, j4⟩; (repeat' split at j4) <;> omega))), rfl⟩
 refine seq_pure (pure_pick_f rfl rfl) rfl rfl ?_
 refine seq_pure (pure_assign rfl) rfl rfl ?_
 refine seq_done (nrm_seq (tri_ret (ret_block (ret_seq (ret_fin1 (res_tmp rfl) ?_)))))
 exact ⟨rfl, congrArg Value.bool (by (unfold mOpOk mMost; dsimp only; symm; first | (apply decide_eq_true; refine ⟨?_, ?_, ?_, ?_⟩ <;> (repeat' split) <;> omega) | (apply decide_eq_false; rintro ⟨j1, j2, j3, j4⟩; (repeat' split at j4) <;> omega))), rfl⟩
 refine seq_pure (pure_assign rfl) rfl rfl ?_
 refine seq_done (nrm_seq (tri_cond_f rfl ?_))
 refine tri_seq (tri_region (seq_bool (pure_eql rfl rfl) rfl rfl (fun h119 => ?_) (fun h119 => ?_)))
 refine seq_pure (pure_assign rfl) rfl rfl ?_
 refine seq_done (nrm_seq (tri_cond_t rfl ?_))
 refine tri_seq (tri_region (seq_pure (pure_fieldAddr0 rfl) rfl rfl ?_))
 refine seq_load (load_bs rfl rfl (by repeat first | exact mH | apply mT) (by rfl)) rfl rfl ?_
 refine seq_bool (pure_geq rfl rfl) rfl rfl (fun h128 => ?_) (fun h128 => ?_)
 refine seq_pure (pure_move rfl) rfl rfl ?_
 refine seq_pure (pure_fieldAddr0 rfl) rfl rfl ?_
 refine seq_load (load_bs rfl rfl (by repeat first | exact mH | apply mT) (by rfl)) rfl rfl ?_
 refine seq_bool (pure_lss rfl rfl) rfl rfl (fun h132 => ?_) (fun h132 => ?_)
 refine seq_pure (pure_pick_t rfl rfl) rfl rfl ?_
 refine seq_pure (pure_assign rfl) rfl rfl ?_
 refine seq_done (nrm_seq (tri_ret (ret_block (ret_seq (ret_fin1 (res_tmp rfl) ?_)))))
 exact ⟨rfl, congrArg Value.bool (by (unfold mOpOk mMost; dsimp only; symm; first | (apply decide_eq_true; refine ⟨?_, ?_, ?_, ?_⟩ <;> (repeat' split) <;> omega) | (apply decide_eq_false; rintro ⟨j1, j2, j3, j4⟩; (repeat' split at j4) <;> omega))), rfl⟩
 refine seq_pure (pure_pick_t rfl rfl) rfl rfl ?_
 refine seq_pure (pure_assign rfl) rfl rfl ?_
 refine seq_done (nrm_seq (tri_ret (ret_block (ret_seq (ret_fin1 (res_tmp rfl) ?_)))))
 exact ⟨rfl, congrArg Value.bool (by (unfold mOpOk mMost; dsimp only; symm; first | (apply decide_eq_true; refine ⟨?_, ?_, ?_, ?_⟩ <;> (repeat' split) <;> omega) | (apply decide_eq_false; rintro ⟨j1, j2, j3, j4⟩; (repeat' split at j4) <;> omega))), rfl⟩
 refine seq_pure (pure_move rfl) rfl rfl ?_
 refine seq_skip rfl rfl ?_
 refine seq_skip rfl rfl ?_
 refine seq_skip rfl rfl ?_
 refine seq_pure (pure_pick_f rfl rfl) rfl rfl ?_
 refine seq_pure (pure_assign rfl) rfl rfl ?_
 refine seq_done (nrm_seq (tri_ret (ret_block (ret_seq (ret_fin1 (res_tmp rfl) ?_)))))
 exact ⟨rfl, congrArg Value.bool (by (unfold mOpOk mMost; dsimp only; symm; first | (apply decide_eq_true; refine ⟨?_, ?_, ?_, ?_⟩ <;> (repeat' split) <;> omega) | (apply decide_eq_false; rintro ⟨j1, j2, j3, j4⟩; (repeat' split at j4) <;> omega))), rfl⟩
 refine seq_pure (pure_assign rfl) rfl rfl ?_
 refine seq_done (nrm_seq (tri_cond_f rfl ?_))
 refine tri_seq (tri_seq (tri_region (seq_bool (pure_eql rfl rfl) rfl rfl (fun h171 => ?_) (fun h171 => ?_))))
 refine seq_pure (pure_assign rfl) rfl rfl ?_
 refine seq_done (nrm_seq (tri_cond_t rfl ?_))
 refine tri_skip (nrm_seq (tri_cond_t rfl ?_))
 refine tri_seq (tri_region (seq_pure (pure_fieldAddr0 rfl) rfl rfl ?_))
 refine seq_load (load_bs rfl rfl (by repeat first | exact mH | apply mT) (by rfl)) rfl rfl ?_
 refine seq_bool (pure_geq rfl rfl) rfl rfl (fun h183 => ?_) (fun h183 => ?_)
 refine seq_pure (pure_move rfl) rfl rfl ?_
 refine seq_pure (pure_fieldAddr0 rfl) rfl rfl ?_
 refine seq_load (load_bs rfl rfl (by repeat first | exact mH | apply mT) (by rfl)) rfl rfl ?_
 refine seq_pure (pure_move rfl) rfl rfl ?_
 refine seq_bool (pure_leq rfl rfl) rfl rfl (fun h188 => ?_) (fun h188 => ?_)
 refine seq_pure (pure_pick_t rfl rfl) rfl rfl ?_
 refine seq_pure (pure_move rfl) rfl rfl ?_
 refine seq_pure (pure_move rfl) rfl rfl ?_
 refine seq_pure (pure_add rfl rfl (by omega) (by omega)) rfl rfl ?_
 refine seq_pure (pure_fieldAddr0 rfl) rfl rfl ?_
 refine seq_load (load_bs rfl rfl (by repeat first | exact mH | apply mT) (by rfl)) rfl rfl ?_
 refine seq_pure (pure_add rfl rfl (by omega) (by omega)) rfl rfl ?_
 refine seq_pure (pure_move rfl) rfl rfl ?_
 refine seq_bool (pure_leq rfl rfl) rfl rfl (fun h197 => ?_) (fun h197 => ?_)
 refine seq_pure (pure_pick_t rfl rfl) rfl rfl ?_
 refine seq_pure (pure_assign rfl) rfl rfl ?_
 refine seq_done (nrm_seq (tri_ret (ret_block (ret_seq (ret_fin1 (res_tmp rfl) ?_)))))
 exact ⟨rfl, congrArg Value.bool (by (unfold mOpOk mMost; dsimp only; symm; first | (apply decide_eq_true; refine ⟨?_, ?_, ?_, ?_⟩ <;> (repeat' split) <;> omega) | (apply decide_eq_false; rintro ⟨j1, j2, j3, j4⟩; (repeat' split at j4) <;> omega))), rfl⟩
 refine seq_pure (pure_pick_t rfl rfl) rfl rfl ?_
 refine seq_pure (pure_assign rfl) rfl rfl ?_
 refine seq_done (nrm_seq (tri_ret (ret_block (ret_seq (ret_fin1 (res_tmp rfl) ?_)))))
 exact ⟨rfl, congrArg Value.bool (by (unfold mOpOk mMost; dsimp only; symm; first | (apply decide_eq_true; refine ⟨?_, ?_, ?_, ?_⟩ <;> (repeat' split) <;> omega) | (apply decide_eq_false; rintro ⟨j1, j2, j3, j4⟩; (repeat' split at j4) <;> omega))), rfl⟩
 refine seq_pure (pure_pick_t rfl rfl) rfl rfl ?_
 refine seq_pure (pure_move rfl) rfl rfl ?_
 refine seq_skip rfl rfl ?_
 refine seq_skip rfl rfl ?_
 refine seq_skip rfl rfl ?_
 refine seq_skip rfl rfl ?_
 refine seq_skip rfl rfl ?_
 refine seq_skip rfl rfl ?_
 refine seq_skip rfl rfl ?_
 refine seq_pure (pure_pick_f rfl rfl) rfl rfl ?_
 refine seq_pure (pure_assign rfl) rfl rfl ?_
 refine seq_done (nrm_seq (tri_ret (ret_block (ret_seq (ret_fin1 (res_tmp rfl) ?_)))))
 exact ⟨rfl, congrArg Value.bool (by (unfold mOpOk mMost; dsimp only; symm; first | (apply decide_eq_true; refine ⟨?_, ?_, ?_, ?_⟩ <;> (repeat' split) <;> omega) | (apply decide_eq_false; rintro ⟨j1, j2, j3, j4⟩; (repeat' split at j4) <;> omega))), rfl⟩
 refine seq_pure (pure_move rfl) rfl rfl ?_
 refine seq_skip rfl rfl ?_
 refine seq_skip rfl rfl ?_
 refine seq_skip rfl rfl ?_
 refine seq_skip rfl rfl ?_
 refine seq_pure (pure_pick_f rfl rfl) rfl rfl ?_
 refine seq_pure (pure_move rfl) rfl rfl ?_
 refine seq_skip rfl rfl ?_
 refine seq_skip rfl rfl ?_
 refine seq_skip rfl rfl ?_
 refine seq_skip rfl rfl ?_
 refine seq_skip rfl rfl ?_
 refine seq_skip rfl rfl ?_
 refine seq_skip rfl rfl ?_
 refine seq_pure (pure_pick_f rfl rfl) rfl rfl ?_
 refine seq_pure (pure_assign rfl) rfl rfl ?_
 refine seq_done (nrm_seq (tri_ret (ret_block (ret_seq (ret_fin1 (res_tmp rfl) ?_)))))
 exact ⟨rfl, congrArg Value.bool (by (unfold mOpOk mMost; dsimp only; symm; first | (apply decide_eq_true; refine ⟨?_, ?_, ?_, ?_⟩ <;> (repeat' split) <;> omega) | (apply decide_eq_false; rintro ⟨j1, j2, j3, j4⟩; (repeat' split at j4) <;> omega))), rfl⟩
 refine seq_pure (pure_assign rfl) rfl rfl ?_
 refine seq_done (nrm_seq (tri_cond_f rfl ?_))
 refine tri_seq (tri_region (seq_bool (pure_eql rfl rfl) rfl rfl (fun h263 => ?_) (fun h263 => ?_)))
 refine seq_pure (pure_assign rfl) rfl rfl ?_
 refine seq_done (nrm_seq (tri_cond_t rfl ?_))
 refine tri_skip (nrm_seq (tri_cond_t rfl ?_))
 refine tri_seq (tri_region (seq_pure (pure_fieldAddr0 rfl) rfl rfl ?_))
 refine seq_load (load_bs rfl rfl (by repeat first | exact mH | apply mT) (by rfl)) rfl rfl ?_
 refine seq_bool (pure_geq rfl rfl) rfl rfl (fun h275 => ?_) (fun h275 => ?_)
 refine seq_pure (pure_move rfl) rfl rfl ?_
 refine seq_pure (pure_fieldAddr0 rfl) rfl rfl ?_
 refine seq_load (load_bs rfl rfl (by repeat first | exact mH | apply mT) (by rfl)) rfl rfl ?_
 refine seq_pure (pure_move rfl) rfl rfl ?_
 refine seq_bool (pure_leq rfl rfl) rfl rfl (fun h280 => ?_) (fun h280 => ?_)
 refine seq_pure (pure_pick_t rfl rfl) rfl rfl ?_
 refine seq_pure (pure_move rfl) rfl rfl ?_
 refine seq_pure (pure_move rfl) rfl rfl ?_
 refine seq_pure (pure_add rfl rfl (by omega) (by omega)) rfl rfl ?_
 refine seq_pure (pure_fieldAddr0 rfl) rfl rfl ?_
 refine seq_load (load_bs rfl rfl (by repeat first | exact mH | apply mT) (by rfl)) rfl rfl ?_
 refine seq_pure (pure_add rfl rfl (by omega) (by omega)) rfl rfl ?_
 refine seq_pure (pure_move rfl) rfl rfl ?_
 refine seq_bool (pure_leq rfl rfl) rfl rfl (fun h289 => ?_) (fun h289 => ?_)
 refine seq_pure (pure_pick_t rfl rfl) rfl rfl ?_
 refine seq_pure (pure_assign rfl) rfl rfl ?_
 refine seq_done (nrm_seq (tri_ret (ret_block (ret_seq (ret_fin1 (res_tmp rfl) ?_)))))
 exact ⟨rfl, congrArg Value.bool (by (unfold mOpOk mMost; dsimp only; symm; first | (apply decide_eq_true; refine ⟨?_, ?_, ?_, ?_⟩ <;> (repeat' split) <;> omega) | (apply decide_eq_false; rintro ⟨j1, j2, j3, j4⟩; (repeat' split at j4) <;> omega))), rfl⟩
 refine seq_pure (pure_pick_t rfl rfl) rfl rfl ?_
 refine seq_pure (pure_assign rfl) rfl rfl ?_
 refine seq_done (nrm_seq (tri_ret (ret_block (ret_seq (ret_fin1 (res_tmp rfl) ?_)))))
 exact ⟨rfl, congrArg Value.bool (by (unfold mOpOk mMost; dsimp only; symm; first | (apply decide_eq_true; refine ⟨?_, ?_, ?_, ?_⟩ <;> (repeat' split) <;> omega) | (apply decide_eq_false; rintro ⟨j1, j2, j3, j4⟩; (repeat' split at j4) <;> omega))), rfl⟩
 refine seq_pure (pure_pick_t rfl rfl) rfl rfl ?_
 refine seq_pure (pure_move rfl) rfl rfl ?_
 refine seq_skip rfl rfl ?_
 refine seq_skip rfl rfl ?_
 refine seq_skip rfl rfl ?_
 refine seq_skip rfl rfl ?_
 refine seq_skip rfl rfl ?_
 refine seq_skip rfl rfl ?_
 refine seq_skip rfl rfl ?_
 refine seq_pure (pure_pick_f rfl rfl) rfl rfl ?_
 refine seq_pure (pure_assign rfl) rfl rfl ?_
 refine seq_done (nrm_seq (tri_ret (ret_block (ret_seq (ret_fin1 (res_tmp rfl) ?_)))))
 exact ⟨rfl, congrArg Value.bool (by (unfold mOpOk mMost; dsimp only; symm; first | (apply decide_eq_true; refine ⟨?_, ?_, ?_, ?_⟩ <;> (repeat' split) <;> omega) | (apply decide_eq_false; rintro ⟨j1, j2, j3, j4⟩; (repeat' split at j4) <;> omega))), rfl⟩
 refine seq_pure (pure_move rfl) rfl rfl ?_
 refine seq_skip rfl rfl ?_
 refine seq_skip rfl rfl ?_
 refine seq_skip rfl rfl ?_
 refine seq_skip rfl rfl ?_
 refine seq_pure (pure_pick_f rfl rfl) rfl rfl ?_
 refine seq_pure (pure_move rfl) rfl rfl ?_
 refine seq_skip rfl rfl ?_
 refine seq_skip rfl rfl ?_
 refine seq_skip rfl rfl ?_
 refine seq_skip rfl rfl ?_
 refine seq_skip rfl rfl ?_
 refine seq_skip rfl rfl ?_
 refine seq_skip rfl rfl ?_
 refine seq_pure (pure_pick_f rfl rfl) rfl rfl ?_
 refine seq_pure (pure_assign rfl) rfl rfl ?_
 refine seq_done (nrm_seq (tri_ret (ret_block (ret_seq (ret_fin1 (res_tmp rfl) ?_)))))
 exact ⟨rfl, congrArg Value.bool (by (unfold mOpOk mMost; dsimp only; symm; first | (apply decide_eq_true; refine ⟨?_, ?_, ?_, ?_⟩ <;> (repeat' split) <;> omega) | (apply decide_eq_false; rintro ⟨j1, j2, j3, j4⟩; (repeat' split at j4) <;> omega))), rfl⟩
 refine seq_pure (pure_assign rfl) rfl rfl ?_
 refine seq_done (nrm_seq (tri_cond_f rfl ?_))
 refine tri_region (seq_bool (pure_eql rfl rfl) rfl rfl (fun h354 => ?_) (fun h354 => ?_))
 refine seq_pure (pure_assign rfl) rfl rfl ?_
 refine seq_done (nrm_seq (tri_cond_t rfl ?_))
 refine tri_seq (tri_region (seq_pure (pure_fieldAddr0 rfl) rfl rfl ?_))
 refine seq_load (load_bs rfl rfl (by repeat first | exact mH | apply mT) (by rfl)) rfl rfl ?_
 refine seq_bool (pure_geq rfl rfl) rfl rfl (fun h363 => ?_) (fun h363 => ?_)
 refine seq_pure (pure_move rfl) rfl rfl ?_
 refine seq_pure (pure_fieldAddr0 rfl) rfl rfl ?_
 refine seq_load (load_bs rfl rfl (by repeat first | exact mH | apply mT) (by rfl)) rfl rfl ?_
 refine seq_pure (pure_move rfl) rfl rfl ?_
 refine seq_bool (pure_leq rfl rfl) rfl rfl (fun h368 => ?_) (fun h368 => ?_)
 refine seq_pure (pure_pick_t rfl rfl) rfl rfl ?_
 refine seq_pure (pure_move rfl) rfl rfl ?_
 refine seq_pure (pure_move rfl) rfl rfl ?_
 refine seq_pure (pure_add rfl rfl (by omega) (by omega)) rfl rfl ?_
 refine seq_pure (pure_fieldAddr0 rfl) rfl rfl ?_
 refine seq_load (load_bs rfl rfl (by repeat first | exact mH | apply mT) (by rfl)) rfl rfl ?_
 refine seq_pure (pure_add rfl rfl (by omega) (by omega)) rfl rfl ?_
 refine seq_pure (pure_move rfl) rfl rfl ?_
 refine seq_bool (pure_leq rfl rfl) rfl rfl (fun h377 => ?_) (fun h377 => ?_)
 refine seq_pure (pure_pick_t rfl rfl) rfl rfl ?_
 refine seq_pure (pure_assign rfl) rfl rfl ?_
 refine seq_done (nrm_seq (tri_ret (ret_block (ret_seq (ret_fin1 (res_tmp rfl) ?_)))))
 exact ⟨rfl, congrArg Value.bool (by (unfold mOpOk mMost; dsimp only; symm; first | (apply decide_eq_true; refine ⟨?_, ?_, ?_, ?_⟩ <;> (repeat' split) <;> omega) | (apply decide_eq_false; rintro ⟨j1, j2, j3, j4⟩; (repeat' split at j4) <;> omega))), rfl⟩
 refine seq_pure (pure_pick_t rfl rfl) rfl rfl ?_
 refine seq_pure (pure_assign rfl) rfl rfl ?_
 refine seq_done (nrm_seq (tri_ret (ret_block (ret_seq (ret_fin1 (res_tmp rfl) ?_)))))
 exact ⟨rfl, congrArg Value.bool (by (unfold mOpOk mMost; dsimp only; symm; first | (apply decide_eq_true; refine ⟨?_, ?_, ?_, ?_⟩ <;> (repeat' split) <;> omega) | (apply decide_eq_false; rintro ⟨j1, j2, j3, j4⟩; (repeat' split at j4) <;> omega))), rfl⟩
 refine seq_pure (pure_pick_t rfl rfl) rfl rfl ?_
 refine seq_pure (pure_move rfl) rfl rfl ?_
 refine seq_skip rfl rfl ?_
 refine seq_skip rfl rfl ?_
 refine seq_skip rfl rfl ?_
 refine seq_skip rfl rfl ?_
 refine seq_skip rfl rfl ?_
 refine seq_skip rfl rfl ?_
 refine seq_skip rfl rfl ?_
 refine seq_pure (pure_pick_f rfl rfl) rfl rfl ?_
 refine seq_pure (pure_assign rfl) rfl rfl ?_
 refine seq_done (nrm_seq (tri_ret (ret_block (ret_seq (ret_fin1 (res_tmp rfl) ?_)))))
 exact ⟨rfl, congrArg Value.bool (by (unfold mOpOk mMost; dsimp only; symm; first | (apply decide_eq_true; refine ⟨?_, ?_, ?_, ?_⟩ <;> (repeat' split) <;> omega) | (apply decide_eq_false; rintro ⟨j1, j2, j3, j4⟩; (repeat' split at j4) <;> omega))), rfl⟩
 refine seq_pure (pure_move rfl) rfl rfl ?_
 refine seq_skip rfl rfl ?_
 refine seq_skip rfl rfl ?_
 refine seq_skip rfl rfl ?_
 refine seq_skip rfl rfl ?_
 refine seq_pure (pure_pick_f rfl rfl) rfl rfl ?_
 refine seq_pure (pure_move rfl) rfl rfl ?_
 refine seq_skip rfl rfl ?_
 refine seq_skip rfl rfl ?_
 refine seq_skip rfl rfl ?_
 refine seq_skip rfl rfl ?_
 refine seq_skip rfl rfl ?_
 refine seq_skip rfl rfl ?_
 refine seq_skip rfl rfl ?_
 refine seq_pure (pure_pick_f rfl rfl) rfl rfl ?_
 refine seq_pure (pure_assign rfl) rfl rfl ?_
 refine seq_done (nrm_seq (tri_ret (ret_block (ret_seq (ret_fin1 (res_tmp rfl) ?_)))))
 exact ⟨rfl, congrArg Value.bool (by (unfold mOpOk mMost; dsimp only; symm; first | (apply decide_eq_true; refine ⟨?_, ?_, ?_, ?_⟩ <;> (repeat' split) <;> omega) | (apply decide_eq_false; rintro ⟨j1, j2, j3, j4⟩; (repeat' split at j4) <;> omega))), rfl⟩
 refine seq_pure (pure_assign rfl) rfl rfl ?_
 refine seq_done (nrm_seq (tri_cond_f rfl ?_))
 refine tri_skip (nrm_block (nrm_seq (tri_seq (tri_region (seq_pure (pure_fieldAddr0 rfl) rfl rfl ?_)))))
 refine seq_load (load_bs rfl rfl (by repeat first | exact mH | apply mT) (by rfl)) rfl rfl ?_
 refine seq_bool (pure_geq rfl rfl) rfl rfl (fun h448 => ?_) (fun h448 => ?_)
 refine seq_pure (pure_move rfl) rfl rfl ?_
 refine seq_pure (pure_fieldAddr0 rfl) rfl rfl ?_
 refine seq_load (load_bs rfl rfl (by repeat first | exact mH | apply mT) (by rfl)) rfl rfl ?_
 refine seq_bool (pure_leq rfl rfl) rfl rfl (fun h452 => ?_) (fun h452 => ?_)
 refine seq_pure (pure_pick_t rfl rfl) rfl rfl ?_
 refine seq_pure (pure_move rfl) rfl rfl ?_
 refine seq_pure (pure_fieldAddr0 rfl) rfl rfl ?_
 refine seq_load (load_bs rfl rfl (by repeat first | exact mH | apply mT) (by rfl)) rfl rfl ?_
 refine seq_bool (pure_eql rfl rfl) rfl rfl (fun h457 => ?_) (fun h457 => ?_)
 refine seq_pure (pure_pick_t rfl rfl) rfl rfl ?_
 refine seq_pure (pure_assign rfl) rfl rfl ?_
 refine seq_done (nrm_seq (tri_ret (ret_fin1 (res_tmp rfl) ?_)))
 exact ⟨rfl, congrArg Value.bool (by (unfold mOpOk mMost; dsimp only; symm; first | (apply decide_eq_true; refine ⟨?_, ?_, ?_, ?_⟩ <;> (repeat' split) <;> omega) | (apply decide_eq_false; rintro ⟨j1, j2, j3, j4⟩; (repeat' split at j4) <;> omega))), rfl⟩
 refine seq_pure (pure_pick_t rfl rfl) rfl rfl ?_
 refine seq_pure (pure_assign rfl) rfl rfl ?_
 refine seq_done (nrm_seq (tri_ret (ret_fin1 (res_tmp rfl) ?_)))
 exact ⟨rfl, congrArg Value.bool (by (unfold mOpOk mMost; dsimp only; symm; first | (apply decide_eq_true; refine ⟨?_, ?_, ?_, ?_⟩ <;> (repeat' split) <;> omega) | (apply decide_eq_false; rintro ⟨j1, j2, j3, j4⟩; (repeat' split at j4) <;> omega))), rfl⟩
 refine seq_pure (pure_pick_t rfl rfl) rfl rfl ?_
 refine seq_pure (pure_move rfl) rfl rfl ?_
 refine seq_skip rfl rfl ?_
 refine seq_skip rfl rfl ?_
 refine seq_skip rfl rfl ?_
 refine seq_pure (pure_pick_f rfl rfl) rfl rfl ?_
 refine seq_pure (pure_assign rfl) rfl rfl ?_
 refine seq_done (nrm_seq (tri_ret (ret_fin1 (res_tmp rfl) ?_)))
 exact ⟨rfl, congrArg Value.bool (by (unfold mOpOk mMost; dsimp only; symm; first | (apply decide_eq_true; refine ⟨?_, ?_, ?_, ?_⟩ <;> (repeat' split) <;> omega) | (apply decide_eq_false; rintro ⟨j1, j2, j3, j4⟩; (repeat' split at j4) <;> omega))), rfl⟩
 refine seq_pure (pure_move rfl) rfl rfl ?_
 refine seq_skip rfl rfl ?_
 refine seq_skip rfl rfl ?_
 refine seq_skip rfl rfl ?_
 refine seq_pure (pure_pick_f rfl rfl) rfl rfl ?_
 refine seq_pure (pure_move rfl) rfl rfl ?_
 refine seq_skip rfl rfl ?_
 refine seq_skip rfl rfl ?_
 refine seq_skip rfl rfl ?_
 refine seq_pure (pure_pick_f rfl rfl) rfl rfl ?_
 refine seq_pure (pure_assign rfl) rfl rfl ?_
 refine seq_done (nrm_seq (tri_ret (ret_fin1 (res_tmp rfl) ?_)))
 exact ⟨rfl, congrArg Value.bool (by (unfold mOpOk mMost; dsimp only; symm; first | (apply decide_eq_true; refine ⟨?_, ?_, ?_, ?_⟩ <;> (repeat' split) <;> omega) | (apply decide_eq_false; rintro ⟨j1, j2, j3, j4⟩; (repeat' split at j4) <;> omega))), rfl⟩
set_option maxRecDepth 100000 in
theorem mostA_fn (k b : Int) (G : IM) : Fn Tryd.prog 24 [.int .i64 k, .int .i64 b] [] G (Val (.int .i64 (mMost k b)) G) := by
 refine fn_enter Tryd.func24 rfl Tryd.ntmps24 Tryd.results24 rfl ?_
 intro w0
 refine tri_seq (tri_region (seq_pure (pure_assign rfl) rfl rfl ?_))
 refine seq_done (nrm_seq (tri_seq (tri_seq (tri_region (seq_pure (pure_move rfl) rfl rfl ?_)))))
 refine seq_done (nrm_seq (tri_block (tri_seq (tri_region (seq_bool (pure_eql rfl rfl) rfl rfl (fun h15 => ?_) (fun h15 => ?_))))))
 refine seq_pure (pure_assign rfl) rfl rfl ?_
 refine seq_done (nrm_seq (tri_cond_t rfl ?_))
 refine tri_seq (tri_region (seq_pure (pure_assign rfl) rfl rfl ?_))
 refine seq_done (nrm_seq (tri_ret (ret_block (ret_seq (ret_fin1 (res_tmp rfl) ?_)))))
 exact ⟨rfl, congrArg (Value.int .i64) (by (unfold mMost; (repeat' split) <;> first | rfl | omega)), rfl⟩
 refine seq_pure (pure_assign rfl) rfl rfl ?_
 refine seq_done (nrm_seq (tri_cond_f rfl ?_))
 refine tri_seq (tri_region (seq_bool (pure_eql rfl rfl) rfl rfl (fun h36 => ?_) (fun h36 => ?_)))
 refine seq_pure (pure_assign rfl) rfl rfl ?_
 refine seq_done (nrm_seq (tri_cond_t rfl ?_))
 refine tri_seq (tri_region (seq_pure (pure_assign rfl) rfl rfl ?_))
 refine seq_done (nrm_seq (tri_ret (ret_block (ret_seq (ret_fin1 (res_tmp rfl) ?_)))))
 exact ⟨rfl, congrArg (Value.int .i64) (by (unfold mMost; (repeat' split) <;> first | rfl | omega)), rfl⟩
 refine seq_pure (pure_assign rfl) rfl rfl ?_
 refine seq_done (nrm_seq (tri_cond_f rfl ?_))
 refine tri_seq (tri_region (seq_bool (pure_eql rfl rfl) rfl rfl (fun h57 => ?_) (fun h57 => ?_)))
 refine seq_pure (pure_assign rfl) rfl rfl ?_
 refine seq_done (nrm_seq (tri_cond_t rfl ?_))
 refine tri_seq (tri_region (seq_pure (pure_assign rfl) rfl rfl ?_))
 refine seq_done (nrm_seq (tri_ret (ret_block (ret_seq (ret_fin1 (res_tmp rfl) ?_)))))
 exact ⟨rfl, congrArg (Value.int .i64) (by (unfold mMost; (repeat' split) <;> first | rfl | omega)), rfl⟩
 refine seq_pure (pure_assign rfl) rfl rfl ?_
 refine seq_done (nrm_seq (tri_cond_f rfl ?_))
 refine tri_seq (tri_seq (tri_region (seq_bool (pure_eql rfl rfl) rfl rfl (fun h79 => ?_) (fun h79 => ?_))))
 refine seq_pure (pure_assign rfl) rfl rfl ?_
 refine seq_done (nrm_seq (tri_cond_t rfl ?_))
 refine tri_skip (nrm_seq (tri_cond_t rfl ?_))
 refine tri_seq (tri_region (seq_pure (pure_move rfl) rfl rfl ?_))
 refine seq_pure (pure_assign rfl) rfl rfl ?_
 refine seq_done (nrm_seq (tri_ret (ret_block (ret_seq (ret_fin1 (res_tmp rfl) ?_)))))
 exact ⟨rfl, congrArg (Value.int .i64) (by (unfold mMost; (repeat' split) <;> first | rfl | omega)), rfl⟩
 refine seq_pure (pure_assign rfl) rfl rfl ?_
 refine seq_done (nrm_seq (tri_cond_f rfl ?_))
 refine tri_seq (tri_region (seq_bool (pure_eql rfl rfl) rfl rfl (fun h104 => ?_) (fun h104 => ?_)))
 refine seq_pure (pure_assign rfl) rfl rfl ?_
 refine seq_done (nrm_seq (tri_cond_t rfl ?_))
 refine tri_skip (nrm_seq (tri_cond_t rfl ?_))
 refine tri_seq (tri_region (seq_pure (pure_move rfl) rfl rfl ?_))
 refine seq_pure (pure_assign rfl) rfl rfl ?_
 refine seq_done (nrm_seq (tri_ret (ret_block (ret_seq (ret_fin1 (res_tmp rfl) ?_)))))
 exact ⟨rfl, congrArg (Value.int .i64) (by (unfold mMost; (repeat' split) <;> first | rfl | omega)), rfl⟩
 refine seq_pure (pure_assign rfl) rfl rfl ?_
 refine seq_done (nrm_seq (tri_cond_f rfl ?_))
 refine tri_region (seq_bool (pure_eql rfl rfl) rfl rfl (fun h128 => ?_) (fun h128 => ?_))
 refine seq_pure (pure_assign rfl) rfl rfl ?_
 refine seq_done (nrm_seq (tri_cond_t rfl ?_))
 refine tri_seq (tri_region (seq_pure (pure_move rfl) rfl rfl ?_))
 refine seq_pure (pure_assign rfl) rfl rfl ?_
 refine seq_done (nrm_seq (tri_ret (ret_block (ret_seq (ret_fin1 (res_tmp rfl) ?_)))))
 exact ⟨rfl, congrArg (Value.int .i64) (by (unfold mMost; (repeat' split) <;> first | rfl | omega)), rfl⟩
 refine seq_pure (pure_assign rfl) rfl rfl ?_
 refine seq_done (nrm_seq (tri_cond_f rfl ?_))
 refine tri_skip (nrm_block (nrm_seq (tri_seq (tri_region (seq_pure (pure_assign rfl) rfl rfl ?_)))))
 refine seq_done (nrm_seq (tri_ret (ret_fin1 (res_tmp rfl) ?_)))
 exact ⟨rfl, congrArg (Value.int .i64) (by (unfold mMost; (repeat' split) <;> first | rfl | omega)), rfl⟩
set_option maxHeartbeats 0 in
set_option maxRecDepth 100000 in
theorem sOpsValid_fn (ops : Opl) (G : IM) (p : Option Addr) (n c : Nat) (h : ROps G ops p n c) : Fn Tryd.prog 13 [.slice p n c] [] G (Val (.bool (mOpsOk ops)) G) := by
 have hl := h.sl.le
 have hn := h.len
 refine fn_enter Tryd.func13 rfl Tryd.ntmps13 Tryd.results13 rfl ?_
 intro w0
 refine tri_seq (tri_region (seq_pure (pure_assign rfl) rfl rfl ?_))
 refine seq_done (nrm_seq (tri_seq (tri_seq (tri_region (seq_pure (pure_assign rfl) rfl rfl ?_)))))
 refine seq_done (nrm_seq (tri_block (tri_loopN (fun (i : Nat) => ⟨[(3, .int .i64 (i : Int)), (2, .bool false), (0, .slice p n c)], [], G⟩) (fun i => i ≤ n ∧ ∀ j, j < i → mOpOk ops.length j (ops.getD j (0, 0)) = true) (fun i => n - i) 0 ?_ ?_ ?_)))
 exact sub_mk (by repeat (first | exact SubE.nil | refine SubE.cons rfl ?_)) (by repeat (first | exact SubH.refl | exact SubH.nil | refine SubH.cons (by repeat (first | exact Pk.here | apply Pk.there)) ?_ | apply SubH.drop))
 exact ⟨Nat.zero_le _, by omega⟩
 (rintro i ⟨hi, hj⟩)
 refine tri_seq (tri_seq (tri_region (seq_pure (pure_move rfl) rfl rfl ?_)))
 refine seq_pure (pure_move rfl) rfl rfl ?_
 refine seq_pure (pure_len rfl rfl) rfl rfl ?_
 refine seq_bool (pure_lss rfl rfl) rfl rfl (fun h23 => ?_) (fun h23 => ?_)
 refine seq_pure (pure_move rfl) rfl rfl ?_
 refine seq_pure (pure_move rfl) rfl rfl ?_
 refine seq_pure (pure_len rfl rfl) rfl rfl ?_
 refine seq_bool (pure_leq rfl rfl) rfl rfl (fun h27 => ?_) (fun h27 => ?_)
 refine seq_pure (pure_pick_t rfl rfl) rfl rfl ?_
 refine seq_done (nrm_seq (tri_cond_t rfl ?_))
 refine tri_skip (nrm_seq (tri_seq (tri_block (tri_seq (tri_region (seq_pure (pure_move rfl) rfl rfl ?_))))))
 refine seq_pure (pure_move rfl) rfl rfl ?_
 (obtain ⟨b, o, rfl, hat, hr1, hr2, hgb⟩ := h.get (i := i) (by omega); refine seq_pure (pure_indexAddrN rfl rfl rfl (by omega)) rfl rfl ?_)
 refine seq_load (load_a rfl rfl (hat _) rfl) rfl rfl ?_
 refine seq_pure (pure_move rfl) rfl rfl ?_
 refine seq_pure (pure_move rfl) rfl rfl ?_
 refine seq_pure (pure_len rfl rfl) rfl rfl ?_
 refine seq_valb rfl ((l14Own_fn _ _ i n (by omega) (by omega) G hr1 hr2)) rfl rfl (fun h45 => ?_) (fun h45 => ?_)
 refine seq_pure (pure_not_t rfl) rfl rfl ?_
 refine seq_done (nrm_seq (tri_cond_f rfl ?_))
 refine tri_skip (nrm_block (nrm_seq (tri_region (seq_pure (pure_move rfl) rfl rfl ?_))))
 refine seq_pure (pure_add rfl rfl (by omega) (by omega)) rfl rfl ?_
 refine seq_pure (pure_assign rfl) rfl rfl ?_
 refine seq_done (nrm_loopN (i + 1) ?_ ?_ ?_)
 exact sub_mk (by repeat (first | exact SubE.nil | refine SubE.cons rfl ?_)) (by repeat (first | exact SubH.refl | exact SubH.nil | refine SubH.cons (by repeat (first | exact Pk.here | apply Pk.there)) ?_ | apply SubH.drop))
 (refine ⟨by omega, fun j hj2 => ?_⟩; rcases Nat.lt_or_ge j i with h5 | h5; exact hj j h5; obtain rfl : j = i := (by omega); rw [← hn]; assumption)
 (show n - (i + 1) < n - i; omega)
 refine seq_pure (pure_not_f rfl) rfl rfl ?_
 refine seq_done (nrm_seq (tri_cond_t rfl ?_))
 refine tri_seq (tri_region (seq_pure (pure_assign rfl) rfl rfl ?_))
 refine seq_done (nrm_seq (tri_ret (ret_block (ret_seq (ret_loopN (ret_block ?_))))))
 refine ret_seq (ret_fin1 (res_tmp rfl) ?_)
 (exact ⟨rfl, congrArg Value.bool (mOps_no (i := i) (by omega) (by rw [← hn]; assumption)).symm, rfl⟩)
 refine seq_pure (pure_pick_t rfl rfl) rfl rfl ?_
 refine seq_done (nrm_seq (tri_cond_f rfl ?_))
 refine tri_exit ?_
 refine ext_seq ?_
 refine ext_loopN ?_
 refine ext_block_eq ?_
 refine nrm_seq (tri_seq (tri_region (seq_pure (pure_move rfl) rfl rfl ?_)))
 refine seq_pure (pure_len rfl rfl) rfl rfl ?_
 refine seq_pure (pure_geq_t rfl rfl (by omega)) rfl rfl ?_
 refine seq_pure (pure_move rfl) rfl rfl ?_
 refine seq_pure (pure_move rfl) rfl rfl ?_
 refine seq_pure (pure_len rfl rfl) rfl rfl ?_
 refine seq_pure (pure_leq_f rfl rfl (by omega)) rfl rfl ?_
 refine seq_pure (pure_pick_t rfl rfl) rfl rfl ?_
 refine seq_pure (pure_assign rfl) rfl rfl ?_
 refine seq_done (nrm_seq (tri_ret (ret_fin1 (res_tmp rfl) ?_)))
 (exact ⟨rfl, congrArg Value.bool (mOps_len (by omega)).symm, rfl⟩)
 refine seq_pure (pure_move rfl) rfl rfl ?_
 refine seq_skip rfl rfl ?_
 refine seq_skip rfl rfl ?_
 refine seq_skip rfl rfl ?_
 refine seq_pure (pure_pick_f rfl rfl) rfl rfl ?_
 refine seq_done (nrm_seq (tri_cond_f rfl ?_))
 refine tri_exit ?_
 refine ext_seq ?_
 refine ext_loopN ?_
 refine ext_block_eq ?_
 refine nrm_seq (tri_seq (tri_region (seq_pure (pure_move rfl) rfl rfl ?_)))
 refine seq_pure (pure_len rfl rfl) rfl rfl ?_
 refine seq_bool (pure_geq rfl rfl) rfl rfl (fun h121 => ?_) (fun h121 => ?_)
 refine seq_pure (pure_move rfl) rfl rfl ?_
 refine seq_pure (pure_move rfl) rfl rfl ?_
 refine seq_pure (pure_len rfl rfl) rfl rfl ?_
 refine seq_bool (pure_leq rfl rfl) rfl rfl (fun h125 => ?_) (fun h125 => ?_)
 refine seq_pure (pure_pick_t rfl rfl) rfl rfl ?_
 refine seq_pure (pure_assign rfl) rfl rfl ?_
 refine seq_done (nrm_seq (tri_ret (ret_fin1 (res_tmp rfl) ?_)))
 (exact ⟨rfl, congrArg Value.bool (mOps_yes (by omega) (fun j hj2 => hj j (by omega))).symm, rfl⟩)
 refine seq_pure (pure_pick_t rfl rfl) rfl rfl ?_
 refine seq_pure (pure_assign rfl) rfl rfl ?_
 refine seq_done (nrm_seq (tri_ret (ret_fin1 (res_tmp rfl) ?_)))
 (exact ⟨rfl, congrArg Value.bool (mOps_len (by omega)).symm, rfl⟩)
 refine seq_pure (pure_move rfl) rfl rfl ?_
 refine seq_skip rfl rfl ?_
 refine seq_skip rfl rfl ?_
 refine seq_skip rfl rfl ?_
 refine seq_pure (pure_pick_f rfl rfl) rfl rfl ?_
 refine seq_pure (pure_assign rfl) rfl rfl ?_
 refine seq_done (nrm_seq (tri_ret (ret_fin1 (res_tmp rfl) ?_)))
 (exact ⟨rfl, congrArg Value.bool (mOps_len (by omega)).symm, rfl⟩)
set_option maxHeartbeats 0 in
set_option maxRecDepth 100000 in
theorem opsValid_fn (ops : Opl) (G : IM) (p : Option Addr) (n c : Nat) (h : ROps G ops p n c) : Fn Tryd.prog 12 [.slice p n c] [] G (Val (.bool (mOpsOk ops)) G) := by
 have hl := h.sl.le
 have hn := h.len
 refine fn_enter Tryd.func12 rfl Tryd.ntmps12 Tryd.results12 rfl ?_
 intro w0
 refine tri_seq (tri_region (seq_pure (pure_assign rfl) rfl rfl ?_))
 refine seq_done (nrm_seq (tri_seq (tri_seq (tri_region (seq_pure (pure_move rfl) rfl rfl ?_)))))
 refine seq_pure (pure_len rfl rfl) rfl rfl ?_
 refine seq_pure (pure_move rfl) rfl rfl ?_
 refine seq_done (nrm_seq (tri_block (tri_loopN (fun (i : Nat) => ⟨[(7, .int .i64 (i : Int)), (6, .int .i64 (n : Int)), (5, .slice p n c), (0, .slice p n c)], [], G⟩) (fun i => i ≤ n ∧ ∀ j, j < i → mOpOk ops.length j (ops.getD j (0, 0)) = true) (fun i => n - i) 0 ?_ ?_ ?_)))
 exact sub_mk (by repeat (first | exact SubE.nil | refine SubE.cons rfl ?_)) (by repeat (first | exact SubH.refl | exact SubH.nil | refine SubH.cons (by repeat (first | exact Pk.here | apply Pk.there)) ?_ | apply SubH.drop))
 exact ⟨Nat.zero_le _, by omega⟩
 (rintro i ⟨hi, hj⟩)
 refine tri_seq (tri_region (seq_bool (pure_lss rfl rfl) rfl rfl (fun h21 => ?_) (fun h21 => ?_)))
 refine seq_done (nrm_seq (tri_seq (tri_cond_t rfl ?_)))
 refine tri_skip (nrm_seq (tri_seq (tri_block (tri_seq (tri_region (seq_pure (pure_move rfl) rfl rfl ?_))))))
 (obtain ⟨b, o, rfl, hat, hr1, hr2, hgb⟩ := h.get (i := i) (by omega); refine seq_pure (pure_indexAddrN rfl rfl rfl (by omega)) rfl rfl ?_)
 refine seq_load (load_a rfl rfl (hat _) rfl) rfl rfl ?_
 (refine seq_step (step_alloc rfl) rfl ?_; rintro _ ⟨b35, rfl⟩)
 refine seq_pure (pure_assign rfl) rfl rfl ?_
 refine seq_store rfl rfl rfl rfl rfl rfl (by repeat first | exact Sw.here | apply Sw.there) (by rfl) ?_
 refine seq_done (nrm_seq (tri_seq (tri_draw mixed rfl ?_)))
 refine any_pure (i := 0) (listed' := [tt,ff,ff,ff,ff,ff,ff,ff,ff,ff,ff,ff,ff,ff,ff,ff,ff,ff]) rfl npI (pure_fieldAddr0 rfl) rfl (by kernel_rfl) rfl rfl ?_
 refine any_load (i := 1) (listed' := [tt,tt,ff,ff,ff,ff,ff,ff,ff,ff,ff,ff,ff,ff,ff,ff,ff,ff]) rfl npI (load_bs rfl rfl (by repeat first | exact mH | apply mT) (by rfl)) rfl (by kernel_rfl) rfl rfl ?_
 refine any_one (j := 2) (by kernel_rfl) ?_
 refine one_valb (listed' := [tt,tt,tt,ff,ff,ff,ff,ff,ff,ff,ff,ff,ff,ff,ff,ff,ff,ff]) rfl rfl (within_fn _ _ _ _) rfl rfl rfl (fun h45 => ?_) (fun h45 => ?_)
 refine any_pure (i := 3) (listed' := [tt,tt,tt,tt,ff,ff,ff,ff,ff,ff,ff,ff,ff,ff,ff,ff,ff,ff]) rfl npI (pure_not_t rfl) rfl (by kernel_rfl) rfl rfl ?_
 refine any_pure (i := 4) (listed' := [tt,tt,tt,tt,tt,ff,ff,ff,ff,ff,ff,ff,ff,ff,ff,ff,ff,ff]) rfl npI (pure_move rfl) rfl (by kernel_rfl) rfl rfl ?_
 refine any_pure (i := 5) (listed' := [tt,tt,tt,tt,tt,tt,ff,ff,ff,ff,ff,ff,ff,ff,ff,ff,ff,ff]) rfl npI (pure_fieldAddr0 rfl) rfl (by kernel_rfl) rfl rfl ?_
 refine any_load (i := 6) (listed' := [tt,tt,tt,tt,tt,tt,tt,ff,ff,ff,ff,ff,ff,ff,ff,ff,ff,ff]) rfl npI (load_bs rfl rfl (by repeat first | exact mH | apply mT) (by rfl)) rfl (by kernel_rfl) rfl rfl ?_
 refine any_pure (i := 7) (listed' := [tt,tt,tt,tt,tt,tt,tt,tt,ff,ff,ff,ff,ff,ff,ff,ff,ff,ff]) rfl npI (pure_fieldAddr0 rfl) rfl (by kernel_rfl) rfl rfl ?_
 refine any_load (i := 8) (listed' := [tt,tt,tt,tt,tt,tt,tt,tt,tt,ff,ff,ff,ff,ff,ff,ff,ff,ff]) rfl npI (load_bs rfl rfl (by repeat first | exact mH | apply mT) (by rfl)) rfl (by kernel_rfl) rfl rfl ?_
 refine any_pure (i := 9) (listed' := [tt,tt,tt,tt,tt,tt,tt,tt,tt,tt,ff,ff,ff,ff,ff,ff,ff,ff]) rfl npI (pure_move rfl) rfl (by kernel_rfl) rfl rfl ?_
 refine any_pure (i := 10) (listed' := [tt,tt,tt,tt,tt,tt,tt,tt,tt,tt,tt,ff,ff,ff,ff,ff,ff,ff]) rfl npI (pure_len rfl rfl) rfl (by kernel_rfl) rfl rfl ?_
 refine any_pure (i := 11) (listed' := [tt,tt,tt,tt,tt,tt,tt,tt,tt,tt,tt,tt,ff,ff,ff,ff,ff,ff]) rfl npI (pure_sub rfl rfl (by omega) (by omega)) rfl (by kernel_rfl) rfl rfl ?_
 refine any_pure (i := 12) (listed' := [tt,tt,tt,tt,tt,tt,tt,tt,tt,tt,tt,tt,tt,ff,ff,ff,ff,ff]) rfl npI (pure_move rfl) rfl (by kernel_rfl) rfl rfl ?_
 refine any_pure (i := 13) (listed' := [tt,tt,tt,tt,tt,tt,tt,tt,tt,tt,tt,tt,tt,tt,ff,ff,ff,ff]) rfl npI (pure_sub rfl rfl (by omega) (by omega)) rfl (by kernel_rfl) rfl rfl ?_
 refine any_one (j := 14) (by kernel_rfl) ?_
 refine one_val (listed' := [tt,tt,tt,tt,tt,tt,tt,tt,tt,tt,tt,tt,tt,tt,tt,ff,ff,ff]) rfl rfl ((mostA_fn _ _ _)) rfl rfl rfl ?_
 refine any_one (j := 15) (by kernel_rfl) ?_
 refine one_valb (listed' := [tt,tt,tt,tt,tt,tt,tt,tt,tt,tt,tt,tt,tt,tt,tt,tt,ff,ff]) rfl rfl (within_fn _ _ _ _) rfl rfl rfl (fun h60 => ?_) (fun h60 => ?_)
 refine any_pure (i := 16) (listed' := [tt,tt,tt,tt,tt,tt,tt,tt,tt,tt,tt,tt,tt,tt,tt,tt,tt,ff]) rfl npI (pure_not_t rfl) rfl (by kernel_rfl) rfl rfl ?_
 refine any_pure (i := 17) (listed' := [tt,tt,tt,tt,tt,tt,tt,tt,tt,tt,tt,tt,tt,tt,tt,tt,tt,tt]) rfl npI (pure_pick_f rfl rfl) rfl (by kernel_rfl) rfl rfl ?_
 refine any_done (by kernel_rfl) ?_
 refine nrm_seq (tri_cond_f rfl ?_)
 refine tri_skip (nrm_block (nrm_seq (tri_region (seq_pure (pure_add rfl rfl (by omega) (by omega)) rfl rfl ?_))))
 refine seq_pure (pure_move rfl) rfl rfl ?_
 refine seq_done (nrm_loopN (i + 1) ?_ ?_ ?_)
 exact sub_mk (by repeat (first | exact SubE.nil | refine SubE.cons rfl ?_)) (by repeat (first | exact SubH.refl | exact SubH.nil | refine SubH.cons (by repeat (first | exact Pk.here | apply Pk.there)) ?_ | apply SubH.drop))
 (refine ⟨by omega, fun j hj2 => ?_⟩; rcases Nat.lt_or_ge j i with h5 | h5; exact hj j h5; obtain rfl : j = i := (by omega); simp only [withinB, decide_eq_true_eq] at *; unfold mOpOk; apply decide_eq_true; rw [← hn]; omega)
 (show n - (i + 1) < n - i; omega)
 refine any_pure (i := 16) (listed' := [tt,tt,tt,tt,tt,tt,tt,tt,tt,tt,tt,tt,tt,tt,tt,tt,tt,ff]) rfl npI (pure_not_f rfl) rfl (by kernel_rfl) rfl rfl ?_
 refine any_pure (i := 17) (listed' := [tt,tt,tt,tt,tt,tt,tt,tt,tt,tt,tt,tt,tt,tt,tt,tt,tt,tt]) rfl npI (pure_pick_f rfl rfl) rfl (by kernel_rfl) rfl rfl ?_
 refine any_done (by kernel_rfl) ?_
 refine nrm_seq (tri_cond_t rfl ?_)
 refine tri_seq (tri_region (seq_pure (pure_assign rfl) rfl rfl ?_))
 refine seq_done (nrm_seq (tri_ret (ret_block (ret_seq (ret_loopN (ret_block ?_))))))
 refine ret_seq (ret_fin1 (res_tmp rfl) ?_)
 (refine ⟨rfl, ?_, rfl⟩; rw [mOps_no (i := i) (by omega) ?_]; simp only [withinB, decide_eq_true_eq, decide_eq_false_iff_not] at *; unfold mOpOk; apply decide_eq_false; rw [← hn]; omega)
 refine any_pure (i := 3) (listed' := [tt,tt,tt,tt,ff,ff,ff,ff,ff,ff,ff,ff,ff,ff,ff,ff,ff,ff]) rfl npI (pure_not_f rfl) rfl (by kernel_rfl) rfl rfl ?_
 refine any_pure (i := 4) (listed' := [tt,tt,tt,tt,tt,ff,ff,ff,ff,ff,ff,ff,ff,ff,ff,ff,ff,ff]) rfl npI (pure_move rfl) rfl (by kernel_rfl) rfl rfl ?_
 refine any_skip (i := 5) (listed' := [tt,tt,tt,tt,tt,tt,ff,ff,ff,ff,ff,ff,ff,ff,ff,ff,ff,ff]) rfl npI rfl (by kernel_rfl) rfl rfl ?_
 refine any_skip (i := 6) (listed' := [tt,tt,tt,tt,tt,tt,tt,ff,ff,ff,ff,ff,ff,ff,ff,ff,ff,ff]) rfl npI rfl (by kernel_rfl) rfl rfl ?_
 refine any_skip (i := 7) (listed' := [tt,tt,tt,tt,tt,tt,tt,tt,ff,ff,ff,ff,ff,ff,ff,ff,ff,ff]) rfl npI rfl (by kernel_rfl) rfl rfl ?_
 refine any_skip (i := 8) (listed' := [tt,tt,tt,tt,tt,tt,tt,tt,tt,ff,ff,ff,ff,ff,ff,ff,ff,ff]) rfl npI rfl (by kernel_rfl) rfl rfl ?_
 refine any_skip (i := 9) (listed' := [tt,tt,tt,tt,tt,tt,tt,tt,tt,tt,ff,ff,ff,ff,ff,ff,ff,ff]) rfl npI rfl (by kernel_rfl) rfl rfl ?_
 refine any_skip (i := 10) (listed' := [tt,tt,tt,tt,tt,tt,tt,tt,tt,tt,tt,ff,ff,ff,ff,ff,ff,ff]) rfl npI rfl (by kernel_rfl) rfl rfl ?_
 refine any_skip (i := 11) (listed' := [tt,tt,tt,tt,tt,tt,tt,tt,tt,tt,tt,tt,ff,ff,ff,ff,ff,ff]) rfl npI rfl (by kernel_rfl) rfl rfl ?_
 refine any_skip (i := 12) (listed' := [tt,tt,tt,tt,tt,tt,tt,tt,tt,tt,tt,tt,tt,ff,ff,ff,ff,ff]) rfl npI rfl (by kernel_rfl) rfl rfl ?_
 refine any_skip (i := 13) (listed' := [tt,tt,tt,tt,tt,tt,tt,tt,tt,tt,tt,tt,tt,tt,ff,ff,ff,ff]) rfl npI rfl (by kernel_rfl) rfl rfl ?_
 refine any_skip (i := 14) (listed' := [tt,tt,tt,tt,tt,tt,tt,tt,tt,tt,tt,tt,tt,tt,tt,ff,ff,ff]) rfl npI rfl (by kernel_rfl) rfl rfl ?_
 refine any_skip (i := 15) (listed' := [tt,tt,tt,tt,tt,tt,tt,tt,tt,tt,tt,tt,tt,tt,tt,tt,ff,ff]) rfl npI rfl (by kernel_rfl) rfl rfl ?_
 refine any_skip (i := 16) (listed' := [tt,tt,tt,tt,tt,tt,tt,tt,tt,tt,tt,tt,tt,tt,tt,tt,tt,ff]) rfl npI rfl (by kernel_rfl) rfl rfl ?_
 refine any_pure (i := 17) (listed' := [tt,tt,tt,tt,tt,tt,tt,tt,tt,tt,tt,tt,tt,tt,tt,tt,tt,tt]) rfl npI (pure_pick_t rfl rfl) rfl (by kernel_rfl) rfl rfl ?_
 refine any_done (by kernel_rfl) ?_
 refine nrm_seq (tri_cond_t rfl ?_)
 refine tri_seq (tri_region (seq_pure (pure_assign rfl) rfl rfl ?_))
 refine seq_done (nrm_seq (tri_ret (ret_block (ret_seq (ret_loopN (ret_block ?_))))))
 refine ret_seq (ret_fin1 (res_tmp rfl) ?_)
 (refine ⟨rfl, ?_, rfl⟩; rw [mOps_no (i := i) (by omega) ?_]; simp only [withinB, decide_eq_true_eq, decide_eq_false_iff_not] at *; unfold mOpOk; apply decide_eq_false; rw [← hn]; omega)
 refine seq_done (nrm_seq (tri_seq (tri_cond_f rfl ?_)))
 refine tri_exit ?_
 refine ext_seq ?_
 refine ext_loopN ?_
 refine ext_block_eq ?_
 refine nrm_seq (tri_seq (tri_region (seq_pure (pure_move rfl) rfl rfl ?_)))
 refine seq_pure (pure_len rfl rfl) rfl rfl ?_
 refine seq_valb rfl (within_fn _ _ _ _) rfl rfl (fun h139 => ?_) (fun h139 => ?_)
 refine seq_pure (pure_assign rfl) rfl rfl ?_
 refine seq_done (nrm_seq (tri_ret (ret_fin1 (res_tmp rfl) ?_)))
 (refine ⟨rfl, congrArg Value.bool ?_, rfl⟩; simp only [withinB, decide_eq_true_eq, decide_eq_false_iff_not] at *; first | exact (mOps_yes (by omega) (fun j hj2 => hj j (by omega))).symm | exact (mOps_len (by omega)).symm)
 refine seq_pure (pure_assign rfl) rfl rfl ?_
 refine seq_done (nrm_seq (tri_ret (ret_fin1 (res_tmp rfl) ?_)))
 (refine ⟨rfl, congrArg Value.bool ?_, rfl⟩; simp only [withinB, decide_eq_true_eq, decide_eq_false_iff_not] at *; first | exact (mOps_yes (by omega) (fun j hj2 => hj j (by omega))).symm | exact (mOps_len (by omega)).symm)
end Gw
end Go.Proofs.YtaoaeilognhfpaaDoor
namespace Go.Proofs.YtaoaeilognhfpaaDoor
open Go Go.RowKit
namespace Gw
set_option maxHeartbeats 0 in
set_option maxRecDepth 100000 in
theorem l14Text_fn (v : MV) (n : Int) (N : Nat) (G : IM) (cells : List Value) (ho : v.ok n N) (hv : RMv kS G v cells) : Fn Tryd.prog 14 [.agg ⟨cells⟩] [] G (Val (.string (mvText v)) G) := by
 obtain ⟨c1, c2, c3, c4, c5, _, _, _, _, _⟩ := ho.spec
 obtain ⟨j, hj⟩ : ∃ j : Nat, v.num = j := ⟨v.num.toNat, by omega⟩
 obtain ⟨p, c, e1, q, d, f1, rfl, _⟩ := hv.open
 rw [hj]
 refine fn_enter Tryd.func14 rfl Tryd.ntmps14 Tryd.results14 rfl ?_
 intro w0
 refine tri_seq (tri_region ?_)
 (refine seq_step (step_box_a rfl rfl) rfl ?_; rintro _ ⟨b3, rfl⟩)
 refine seq_pure (pure_assign rfl) rfl rfl ?_
 refine seq_done (nrm_seq (tri_seq (tri_seq (tri_region (seq_pure (pure_fieldAddr0 rfl) rfl rfl ?_)))))
 refine seq_load (load_bs rfl rfl (by repeat first | exact mH | apply mT) (by rfl)) rfl rfl ?_
 refine seq_done (nrm_seq (tri_block (tri_seq (tri_region (seq_bool (pure_eql rfl rfl) rfl rfl (fun h17 => ?_) (fun h17 => ?_))))))
 refine seq_pure (pure_assign rfl) rfl rfl ?_
 refine seq_done (nrm_seq (tri_cond_t rfl ?_))
 refine tri_seq (tri_region (seq_pure (pure_fieldAddr0 rfl) rfl rfl ?_))
 refine seq_load (load_bs rfl rfl (by repeat first | exact mH | apply mT) (by rfl)) rfl rfl ?_
 refine seq_val rfl ((dec_fn j (by omega) G)) rfl rfl ?_
 refine seq_pure (pure_assign rfl) rfl rfl ?_
 refine seq_done (nrm_seq (tri_ret (ret_block (ret_seq (ret_fin1 (res_tmp rfl) ?_)))))
 (exact ⟨rfl, congrArg Value.string (mvText0 (kS1.1 (by omega)) hj).symm, rfl⟩)
 refine seq_pure (pure_assign rfl) rfl rfl ?_
 refine seq_done (nrm_seq (tri_cond_f rfl ?_))
 refine tri_seq (tri_region (seq_bool (pure_eql rfl rfl) rfl rfl (fun h41 => ?_) (fun h41 => ?_)))
 refine seq_pure (pure_assign rfl) rfl rfl ?_
 refine seq_done (nrm_seq (tri_cond_t rfl ?_))
 refine tri_seq (tri_region (seq_pure (pure_fieldAddr0 rfl) rfl rfl ?_))
 refine seq_load (load_bs rfl rfl (by repeat first | exact mH | apply mT) (by rfl)) rfl rfl ?_
 refine seq_pure (pure_fieldAddr0 rfl) rfl rfl ?_
 refine seq_load (load_bs rfl rfl (by repeat first | exact mH | apply mT) (by rfl)) rfl rfl ?_
 refine seq_pure (pure_add rfl rfl (by omega) (by omega)) rfl rfl ?_
 (have hk1 : v.k = 1 := kS2.1 (by omega); have hj1 := c5 hk1; refine seq_pure (pure_sslice (l := j) (h := j + 1) rfl rfl rfl rfl (by omega) (by show j + 1 ≤ 2; omega)) rfl rfl ?_)
 refine seq_pure (pure_assign rfl) rfl rfl ?_
 refine seq_done (nrm_seq (tri_ret (ret_block (ret_seq (ret_fin1 (res_tmp rfl) ?_)))))
 (exact ⟨rfl, congrArg Value.string (ft_cut (kS2.1 (by omega)) hj (by omega)), rfl⟩)
 refine seq_pure (pure_assign rfl) rfl rfl ?_
 refine seq_done (nrm_seq (tri_cond_f rfl ?_))
 refine tri_seq (tri_region (seq_bool (pure_eql rfl rfl) rfl rfl (fun h68 => ?_) (fun h68 => ?_)))
 refine seq_pure (pure_assign rfl) rfl rfl ?_
 refine seq_done (nrm_seq (tri_cond_t rfl ?_))
 refine tri_seq (tri_region (seq_pure (pure_assign rfl) rfl rfl ?_))
 refine seq_done (nrm_seq (tri_ret (ret_block (ret_seq (ret_fin1 (res_tmp rfl) ?_)))))
 (exact ⟨rfl, congrArg Value.string (mvText3 ((kS11 ⟨c1, c2⟩).1 (by omega))).symm, rfl⟩)
 refine seq_pure (pure_assign rfl) rfl rfl ?_
 refine seq_done (nrm_seq (tri_cond_f rfl ?_))
 refine tri_skip (nrm_block (nrm_seq (tri_seq (tri_region (seq_pure (pure_assign rfl) rfl rfl ?_)))))
 refine seq_done (nrm_seq (tri_ret (ret_fin1 (res_tmp rfl) ?_)))
 (have hk2 : v.k = 2 := (by have h1 := @kS1 v.k; have h2 := @kS2 v.k; have h3 := @kS11 v.k ⟨c1, c2⟩; omega); exact ⟨rfl, congrArg Value.string (mvText2 hk2).symm, rfl⟩)
theorem l14Take_fn (k a : Int) (s : MSt) (n N : Nat) (G : IM) (cells : List Value) (hk : (k = 6 ∨ k = 7 ∨ k = 8 ∨ k = 11) ∨ (k = 9 ∨ k = 12 ∨ k = 13)) (hn : n ≤ 120) (hN : N ≤ 2000) (ho : s.ok n N) (hat : s.at' < n) (hop : mOpOk n s.at'.toNat (k, a) = true) (hl : mPops k ≤ s.st.length) (hs : RSs kS G s cells) :
  Fn Tryd.prog 29 [.agg ⟨cells⟩, .agg ⟨[.int .i64 k, .int .i64 a]⟩] [] G (StepS kS (mTake k a s) G) := by
 rcases hk with hk | hk
 ·have hp := mPops2 hk
  obtain ⟨v0, v1, hd, _, _⟩ := two_of (l := s.st) (by omega)
  exact l14Take2_fn k a s n N v0 v1 G cells hk hn hN ho hd (by omega) hs
 ·have hp := mPops1 hk
  obtain ⟨v0, hd, _⟩ := one_of (l := s.st) (by omega)
  exact l14Take1_fn k a s n N v0 G cells hk hn hN ho hat hop hd (by omega) hs
set_option maxHeartbeats 0 in
set_option maxRecDepth 100000 in
theorem l14Exec_fn (k a : Int) (s : MSt) (n N : Nat) (G : IM) (cells : List Value) (hn : n ≤ 120) (hN : N ≤ 2000) (ho : s.ok n N) (hat : s.at' < n) (hop : mOpOk n s.at'.toNat (k, a) = true) (hs : RSs kS G s cells) :
  Fn Tryd.prog 15 [.agg ⟨cells⟩, .agg ⟨[.int .i64 k, .int .i64 a]⟩] [] G (StepS kS (mStep k a s) G) := by
 have hlo := ho.lo; have hhi := ho.hi; have hst := ho.st; have henv := ho.env; have hfr := ho.fr
 obtain ⟨k1, k2, a1, a2, _, _, _, b4⟩ := mOpOk_at hop (by omega)
 have hp2 := @mPops2 k
 have hp1 := @mPops1 k
 have hs0 := hs
 obtain ⟨pe, ce, ps, cs, pf, cf, ee, es, ef, rfl, hati, hse, hre, hss, hrs, hsf, hrf⟩ := hs
 refine fn_enter Tryd.func15 rfl Tryd.ntmps15 Tryd.results15 rfl ?_
 intro w0
 refine tri_seq (tri_region ?_)
 (refine seq_step (step_box_a rfl rfl) rfl ?_; rintro _ ⟨b3, rfl⟩)
 (refine seq_step (step_box_a rfl rfl) rfl ?_; rintro _ ⟨b4, rfl⟩)
 (refine seq_step (step_alloc rfl) rfl ?_; rintro _ ⟨b5, rfl⟩)
 refine seq_pure (pure_assign rfl) rfl rfl ?_
 refine seq_pure (pure_assign rfl) rfl rfl ?_
 refine seq_done (nrm_seq (tri_seq (tri_seq (tri_draw mixed rfl ?_))))
 refine any_pure (i := 0) (listed' := [tt,ff,ff,ff,ff,ff,ff]) rfl npI (pure_fieldAddr0 rfl) rfl (by kernel_rfl) rfl rfl ?_
 refine any_load (i := 1) (listed' := [tt,tt,ff,ff,ff,ff,ff]) rfl npI (load_bs rfl rfl (by repeat first | exact mH | apply mT) (by rfl)) rfl (by kernel_rfl) rfl rfl ?_
 refine any_pure (i := 3) (listed' := [tt,tt,ff,tt,ff,ff,ff]) rfl npI (pure_fieldAddr0 rfl) rfl (by kernel_rfl) rfl rfl ?_
 refine any_load (i := 4) (listed' := [tt,tt,ff,tt,tt,ff,ff]) rfl npI (load_bs rfl rfl (by repeat first | exact mH | apply mT) (by rfl)) rfl (by kernel_rfl) rfl rfl ?_
 refine any_pure (i := 5) (listed' := [tt,tt,ff,tt,tt,tt,ff]) rfl npI (pure_len rfl rfl) rfl (by kernel_rfl) rfl rfl ?_
 refine any_one (j := 2) (by kernel_rfl) ?_
 refine one_val (listed' := [tt,tt,tt,tt,tt,tt,ff]) rfl rfl ((l14Need_fn k G)) rfl rfl rfl ?_
 refine any_bool (i := 6) (listed' := [tt,tt,tt,tt,tt,tt,tt]) rfl npI (pure_gtr rfl rfl) rfl (by kernel_rfl) rfl rfl (fun h20 => ?_) (fun h20 => ?_)
 refine any_done (by kernel_rfl) ?_
 refine nrm_seq (tri_cond_t rfl ?_)
 refine tri_seq (tri_region (seq_load (load_ba rfl rfl (by repeat first | exact mH | apply mT) (by rfl)) rfl rfl ?_))
 refine seq_store rfl rfl rfl rfl rfl rfl (by repeat first | exact Sw.here | apply Sw.there) (by rfl) ?_
 refine seq_pure (pure_assign rfl) rfl rfl ?_
 refine seq_pure (pure_assign rfl) rfl rfl ?_
 refine seq_done (nrm_seq (tri_ret (ret_seq (ret_fin3 (res_cell rfl (load_ba rfl rfl (by repeat first | exact mH | apply mT) (by rfl))) (res_tmp rfl) (res_tmp rfl) ?_))))
 (exact StepS.no (mStep_few (by omega)) rfl rfl)
 refine any_done (by kernel_rfl) ?_
 refine nrm_seq (tri_cond_f rfl ?_)
 refine tri_skip (nrm_seq (tri_seq (tri_seq (tri_region (seq_pure (pure_fieldAddr0 rfl) rfl rfl ?_)))))
 refine seq_load (load_bs rfl rfl (by repeat first | exact mH | apply mT) (by rfl)) rfl rfl ?_
 refine seq_done (nrm_seq (tri_block (tri_seq (tri_seq (tri_region (seq_bool (pure_eql rfl rfl) rfl rfl (fun h52 => ?_) (fun h52 => ?_)))))))
 refine seq_pure (pure_assign rfl) rfl rfl ?_
 refine seq_done (nrm_seq (tri_cond_t rfl ?_))
 refine tri_skip (nrm_seq (tri_cond_t rfl ?_))
 refine tri_seq (tri_region (seq_load (load_ba rfl rfl (by repeat first | exact mH | apply mT) (by rfl)) rfl rfl ?_))
 refine seq_pure (pure_fieldAddr0 rfl) rfl rfl ?_
 refine seq_load (load_bs rfl rfl (by repeat first | exact mH | apply mT) (by rfl)) rfl rfl ?_
 refine seq_pure (pure_fieldAddr0 rfl) rfl rfl ?_
 refine seq_load (load_bs rfl rfl (by repeat first | exact mH | apply mT) (by rfl)) rfl rfl ?_
 refine seq_pure (pure_build rfl rfl) rfl rfl ?_
 (obtain rfl : k = 1 := (by omega); have hPu := l14Push_fn s (.mk 0 a [] []) G _ _ hs0 (RMv.leaf (k := 0) ⟨by omega, by omega⟩ (kS_i64 _)) (by omega) (by omega); refine seq_imm rfl hPu rfl rfl (fun v G2 hle2 hh => ?_); obtain ⟨c2s, rfl, hs2⟩ := hh; obtain ⟨pe2, ce2, ps2, cs2, pf2, cf2, ee2, es2, ef2, rfl, _⟩ := hs2.opn)
 refine seq_store rfl rfl rfl rfl rfl rfl (by repeat first | exact Sw.here | apply Sw.there) (by rfl) ?_
 refine seq_pure (pure_assign rfl) rfl rfl ?_
 refine seq_pure (pure_assign rfl) rfl rfl ?_
 refine seq_done (nrm_seq (tri_ret (ret_block (ret_seq (ret_fin3 (res_cell rfl (load_ba rfl rfl (by repeat first | exact mH | apply mT) (by rfl))) (res_tmp rfl) (res_tmp rfl) ?_)))))
 (exact StepS.go (by rw [mStep_take (by omega), mTake1]) hs2)
 refine seq_pure (pure_assign rfl) rfl rfl ?_
 refine seq_done (nrm_seq (tri_cond_f rfl ?_))
 refine tri_region (seq_bool (pure_eql rfl rfl) rfl rfl (fun h84 => ?_) (fun h84 => ?_))
 refine seq_pure (pure_assign rfl) rfl rfl ?_
 refine seq_done (nrm_seq (tri_cond_t rfl ?_))
 refine tri_seq (tri_region (seq_load (load_ba rfl rfl (by repeat first | exact mH | apply mT) (by rfl)) rfl rfl ?_))
 refine seq_pure (pure_fieldAddr0 rfl) rfl rfl ?_
 refine seq_load (load_bs rfl rfl (by repeat first | exact mH | apply mT) (by rfl)) rfl rfl ?_
 refine seq_pure (pure_fieldAddr0 rfl) rfl rfl ?_
 refine seq_load (load_bs rfl rfl (by repeat first | exact mH | apply mT) (by rfl)) rfl rfl ?_
 refine seq_pure (pure_build rfl rfl) rfl rfl ?_
 (obtain rfl : k = 2 := (by omega); have hPu := l14Push_fn s (.mk 1 a [] []) G _ _ hs0 (RMv.leaf (k := 1) ⟨by omega, by omega⟩ (kS_i64 _)) (by omega) (by omega); refine seq_imm rfl hPu rfl rfl (fun v G2 hle2 hh => ?_); obtain ⟨c2s, rfl, hs2⟩ := hh; obtain ⟨pe2, ce2, ps2, cs2, pf2, cf2, ee2, es2, ef2, rfl, _⟩ := hs2.opn)
 refine seq_store rfl rfl rfl rfl rfl rfl (by repeat first | exact Sw.here | apply Sw.there) (by rfl) ?_
 refine seq_pure (pure_assign rfl) rfl rfl ?_
 refine seq_pure (pure_assign rfl) rfl rfl ?_
 refine seq_done (nrm_seq (tri_ret (ret_block (ret_seq (ret_fin3 (res_cell rfl (load_ba rfl rfl (by repeat first | exact mH | apply mT) (by rfl))) (res_tmp rfl) (res_tmp rfl) ?_)))))
 (exact StepS.go (by rw [mStep_take (by omega), mTake2]) hs2)
 refine seq_pure (pure_assign rfl) rfl rfl ?_
 refine seq_done (nrm_seq (tri_cond_f rfl ?_))
 refine tri_seq (tri_region (seq_bool (pure_eql rfl rfl) rfl rfl (fun h114 => ?_) (fun h114 => ?_)))
 refine seq_pure (pure_assign rfl) rfl rfl ?_
 refine seq_done (nrm_seq (tri_cond_t rfl ?_))
 refine tri_seq (tri_region (seq_pure (pure_fieldAddr0 rfl) rfl rfl ?_))
 refine seq_load (load_bs rfl rfl (by repeat first | exact mH | apply mT) (by rfl)) rfl rfl ?_
 refine seq_pure (pure_len rfl rfl) rfl rfl ?_
 refine seq_pure (pure_sub rfl rfl (by omega) (by omega)) rfl rfl ?_
 refine seq_pure (pure_fieldAddr0 rfl) rfl rfl ?_
 refine seq_load (load_bs rfl rfl (by repeat first | exact mH | apply mT) (by rfl)) rfl rfl ?_
 refine seq_pure (pure_sub rfl rfl (by omega) (by omega)) rfl rfl ?_
 refine seq_pure (pure_assign rfl) rfl rfl ?_
 refine seq_done (nrm_seq (tri_seq (tri_seq (tri_region (seq_pure (pure_move rfl) rfl rfl ?_)))))
 refine seq_bool (pure_lss rfl rfl) rfl rfl (fun h135 => ?_) (fun h135 => ?_)
 refine seq_done (nrm_seq (tri_cond_t rfl ?_))
 refine tri_seq (tri_region (seq_load (load_ba rfl rfl (by repeat first | exact mH | apply mT) (by rfl)) rfl rfl ?_))
 refine seq_store rfl rfl rfl rfl rfl rfl (by repeat first | exact Sw.here | apply Sw.there) (by rfl) ?_
 refine seq_pure (pure_assign rfl) rfl rfl ?_
 refine seq_pure (pure_assign rfl) rfl rfl ?_
 refine seq_done (nrm_seq (tri_ret (ret_seq (ret_block (ret_seq (ret_fin3 (res_cell rfl (load_ba rfl rfl (by repeat first | exact mH | apply mT) (by rfl))) (res_tmp rfl) (res_tmp rfl) ?_))))))
 (obtain rfl : k = 3 := (by omega); exact StepS.no (by rw [mStep_take (by omega), mTake3, if_pos (by omega)]) rfl rfl)
 refine seq_done (nrm_seq (tri_cond_f rfl ?_))
 refine tri_skip (nrm_seq (tri_seq ?_))
 (have hk3 : k = 3 := (by omega); obtain ⟨j, hj⟩ : ∃ j : Nat, (s.env.length : Int) - 1 - a = j := ⟨((s.env.length : Int) - 1 - a).toNat, by omega⟩; have hjl : j < s.env.length := (by omega); rw [hj]; obtain ⟨b2, o2, q2, dd2, q2', dd2', rfl, hv2at, hv2, hg2⟩ := hse.mvAt hre (i := j) (getD_some' (d := mv0) hjl); refine tri_draw mixed rfl ?_)
 refine any_load (i := 0) (listed' := [tt,ff,ff,ff,ff,ff,ff,ff,ff,ff]) rfl npI (load_ba rfl rfl (by repeat first | exact mH | apply mT) (by rfl)) rfl (by kernel_rfl) rfl rfl ?_
 refine any_pure (i := 1) (listed' := [tt,tt,ff,ff,ff,ff,ff,ff,ff,ff]) rfl npI (pure_fieldAddr0 rfl) rfl (by kernel_rfl) rfl rfl ?_
 refine any_load (i := 2) (listed' := [tt,tt,tt,ff,ff,ff,ff,ff,ff,ff]) rfl npI (load_bs rfl rfl (by repeat first | exact mH | apply mT) (by rfl)) rfl (by kernel_rfl) rfl rfl ?_
 refine any_pure (i := 3) (listed' := [tt,tt,tt,tt,ff,ff,ff,ff,ff,ff]) rfl npI (pure_move rfl) rfl (by kernel_rfl) rfl rfl ?_
 refine any_pure (i := 4) (listed' := [tt,tt,tt,tt,tt,ff,ff,ff,ff,ff]) rfl npI (pure_indexAddrN (j := j) rfl rfl rfl hjl) rfl (by kernel_rfl) rfl rfl ?_
 refine any_load (i := 5) (listed' := [tt,tt,tt,tt,tt,tt,ff,ff,ff,ff]) rfl npI (load_a rfl rfl (hv2at _) rfl) rfl (by kernel_rfl) rfl rfl ?_
 refine any_one (j := 6) (by kernel_rfl) ?_
 (have hPu := l14Push_fn s (s.env.getD j mv0) G _ _ hs0 hv2 (by omega) (by omega); refine one_imm (listed' := [tt,tt,tt,tt,tt,tt,tt,ff,ff,ff]) rfl rfl hPu rfl rfl rfl (fun v G2 hle2 hh => ?_); obtain ⟨c2s, rfl, hs2⟩ := hh; obtain ⟨pe2, ce2, ps2, cs2, pf2, cf2, ee2, es2, ef2, rfl, _⟩ := hs2.opn)
 refine any_one (j := 7) (by kernel_rfl) ?_
 refine one_storeM (listed' := [tt,tt,tt,tt,tt,tt,tt,tt,ff,ff]) rfl rfl rfl rfl rfl rfl rfl rfl (by repeat first | exact Sw.here | apply Sw.there) (by rfl) (by repeat (first | exact HmOk.nil | apply HmOk.dep (by decide +kernel) | apply HmOk.im (by decide +kernel) (by assumption) (by repeat first | exact mH | apply mT) | apply HmOk.blk (by decide +kernel) (by repeat (first | exact Pk.here | apply Pk.there)) (by repeat first | exact mH | apply mT))) ?_
 refine any_pure (i := 8) (listed' := [tt,tt,tt,tt,tt,tt,tt,tt,tt,ff]) rfl npI (pure_assign rfl) rfl (by kernel_rfl) rfl rfl ?_
 refine any_pure (i := 9) (listed' := [tt,tt,tt,tt,tt,tt,tt,tt,tt,tt]) rfl npI (pure_assign rfl) rfl (by kernel_rfl) rfl rfl ?_
 refine any_done (by kernel_rfl) ?_
 refine nrm_seq (tri_ret (ret_block (ret_seq (ret_fin3 (res_cell rfl (load_ba rfl rfl (by repeat first | exact mH | apply mT) (by rfl))) (res_tmp rfl) (res_tmp rfl) ?_))))
 (obtain rfl : k = 3 := (by omega); exact StepS.go (by rw [mStep_take (by omega), mTake3, if_neg (by omega), hj, Int.toNat_natCast]) hs2)
 refine seq_pure (pure_assign rfl) rfl rfl ?_
 refine seq_done (nrm_seq (tri_cond_f rfl ?_))
 refine tri_seq (tri_region (seq_bool (pure_eql rfl rfl) rfl rfl (fun h185 => ?_) (fun h185 => ?_)))
 refine seq_pure (pure_assign rfl) rfl rfl ?_
 refine seq_done (nrm_seq (tri_cond_t rfl ?_))
 refine tri_seq (tri_region (seq_load (load_ba rfl rfl (by repeat first | exact mH | apply mT) (by rfl)) rfl rfl ?_))
 refine seq_pure (pure_fieldAddr0 rfl) rfl rfl ?_
 refine seq_load (load_bs rfl rfl (by repeat first | exact mH | apply mT) (by rfl)) rfl rfl ?_
 refine seq_pure (pure_add rfl rfl (by omega) (by omega)) rfl rfl ?_
 refine seq_pure (pure_fieldAddr0 rfl) rfl rfl ?_
 refine seq_load (load_bs rfl rfl (by repeat first | exact mH | apply mT) (by rfl)) rfl rfl ?_
 refine seq_pure (pure_build rfl rfl) rfl rfl ?_
 (obtain rfl : k = 4 := (by omega); have hPu := l14Push_fn s (.mk 2 (s.at' + 1) s.env []) G _ _ hs0 (RMv.mk (k := 2) ⟨by omega, by omega⟩ (kS_i64 _) rfl rfl hse hre (SlE.nil G 4) rfl) (by omega) (by omega); refine seq_imm rfl hPu rfl rfl (fun v G2 hle2 hh => ?_); obtain ⟨c2s, rfl, hs2⟩ := hh; obtain ⟨pe2, ce2, ps2, cs2, pf2, cf2, ee2, es2, ef2, rfl, hat2, hse2, hre2, hss2, hrs2, hsf2, hrf2⟩ := hs2.opn)
 refine seq_store rfl rfl rfl rfl rfl rfl (by repeat first | exact Sw.here | apply Sw.there) (by rfl) ?_
 refine seq_done (nrm_seq (tri_seq (tri_region (seq_pure (pure_fieldAddr0 rfl) rfl rfl ?_))))
 refine seq_load (load_bs rfl rfl (by repeat first | exact mH | apply mT) (by rfl)) rfl rfl ?_
 refine seq_pure (pure_fieldAddr0 rfl) rfl rfl ?_
 refine seq_load (load_bs rfl rfl (by repeat first | exact mH | apply mT) (by rfl)) rfl rfl ?_
 refine seq_pure (pure_add rfl rfl (by omega) (by omega)) rfl rfl ?_
 refine seq_pure (pure_fieldAddr0 rfl) rfl rfl ?_
 refine seq_store rfl rfl rfl rfl rfl rfl (by repeat first | exact Sw.here | apply Sw.there) (by rfl) ?_
 refine seq_done (nrm_seq (tri_seq (tri_region (seq_load (load_ba rfl rfl (by repeat first | exact mH | apply mT) (by rfl)) rfl rfl ?_))))
 refine seq_store rfl rfl rfl rfl rfl rfl (by repeat first | exact Sw.here | apply Sw.there) (by rfl) ?_
 refine seq_pure (pure_assign rfl) rfl rfl ?_
 refine seq_pure (pure_assign rfl) rfl rfl ?_
 refine seq_done (nrm_seq (tri_ret (ret_block (ret_seq (ret_fin3 (res_cell rfl (load_ba rfl rfl (by repeat first | exact mH | apply mT) (by rfl))) (res_tmp rfl) (res_tmp rfl) ?_)))))
 (exact StepS.go (by rw [mStep_take (by omega), mTake4]) (RSs.mk ⟨by omega, by omega⟩ rfl rfl rfl hse2 hre2 hss2 hrs2 hsf2 hrf2))
 refine seq_pure (pure_assign rfl) rfl rfl ?_
 refine seq_done (nrm_seq (tri_cond_f rfl ?_))
 refine tri_seq (tri_region (seq_bool (pure_eql rfl rfl) rfl rfl (fun h233 => ?_) (fun h233 => ?_)))
 refine seq_pure (pure_assign rfl) rfl rfl ?_
 refine seq_done (nrm_seq (tri_cond_t rfl ?_))
 refine tri_seq (tri_region (seq_pure (pure_fieldAddr0 rfl) rfl rfl ?_))
 refine seq_load (load_bs rfl rfl (by repeat first | exact mH | apply mT) (by rfl)) rfl rfl ?_
 refine seq_pure (pure_add rfl rfl (by omega) (by omega)) rfl rfl ?_
 refine seq_pure (pure_fieldAddr0 rfl) rfl rfl ?_
 refine seq_load (load_bs rfl rfl (by repeat first | exact mH | apply mT) (by rfl)) rfl rfl ?_
 refine seq_pure (pure_add rfl rfl (by omega) (by omega)) rfl rfl ?_
 refine seq_pure (pure_fieldAddr0 rfl) rfl rfl ?_
 refine seq_store rfl rfl rfl rfl rfl rfl (by repeat first | exact Sw.here | apply Sw.there) (by rfl) ?_
 refine seq_done (nrm_seq (tri_seq (tri_region (seq_load (load_ba rfl rfl (by repeat first | exact mH | apply mT) (by rfl)) rfl rfl ?_))))
 refine seq_store rfl rfl rfl rfl rfl rfl (by repeat first | exact Sw.here | apply Sw.there) (by rfl) ?_
 refine seq_pure (pure_assign rfl) rfl rfl ?_
 refine seq_pure (pure_assign rfl) rfl rfl ?_
 refine seq_done (nrm_seq (tri_ret (ret_block (ret_seq (ret_fin3 (res_cell rfl (load_ba rfl rfl (by repeat first | exact mH | apply mT) (by rfl))) (res_tmp rfl) (res_tmp rfl) ?_)))))
 (obtain rfl : k = 10 := (by omega); exact StepS.go (by rw [mStep_take (by omega), mTake10]) (RSs.mk ⟨by omega, by omega⟩ rfl rfl rfl hse hre hss hrs hsf hrf))
 refine seq_pure (pure_assign rfl) rfl rfl ?_
 refine seq_done (nrm_seq (tri_cond_f rfl ?_))
 refine tri_seq (tri_region (seq_bool (pure_eql rfl rfl) rfl rfl (fun h269 => ?_) (fun h269 => ?_)))
 refine seq_pure (pure_assign rfl) rfl rfl ?_
 refine seq_done (nrm_seq (tri_cond_t rfl ?_))
 refine tri_seq (tri_region (seq_pure (pure_fieldAddr0 rfl) rfl rfl ?_))
 refine seq_load (load_bs rfl rfl (by repeat first | exact mH | apply mT) (by rfl)) rfl rfl ?_
 refine seq_pure (pure_len rfl rfl) rfl rfl ?_
 refine seq_pure (pure_assign rfl) rfl rfl ?_
 refine seq_done (nrm_seq (tri_seq (tri_seq (tri_region (seq_pure (pure_move rfl) rfl rfl ?_)))))
 refine seq_bool (pure_eql rfl rfl) rfl rfl (fun h286 => ?_) (fun h286 => ?_)
 refine seq_done (nrm_seq (tri_cond_t rfl ?_))
 refine tri_seq (tri_region (seq_load (load_ba rfl rfl (by repeat first | exact mH | apply mT) (by rfl)) rfl rfl ?_))
 refine seq_store rfl rfl rfl rfl rfl rfl (by repeat first | exact Sw.here | apply Sw.there) (by rfl) ?_
 refine seq_pure (pure_assign rfl) rfl rfl ?_
 refine seq_pure (pure_assign rfl) rfl rfl ?_
 refine seq_done (nrm_seq (tri_ret (ret_seq (ret_block (ret_seq (ret_fin3 (res_cell rfl (load_ba rfl rfl (by repeat first | exact mH | apply mT) (by rfl))) (res_tmp rfl) (res_tmp rfl) ?_))))))
 (obtain rfl : k = 5 := (by omega); exact StepS.no (by rw [mStep_take (by omega), mTake5, if_pos (by omega)]) rfl rfl)
 refine seq_done (nrm_seq (tri_cond_f rfl ?_))
 refine tri_skip (nrm_seq (tri_seq (tri_region (seq_pure (pure_fieldAddr0 rfl) rfl rfl ?_))))
 refine seq_load (load_bs rfl rfl (by repeat first | exact mH | apply mT) (by rfl)) rfl rfl ?_
 refine seq_pure (pure_move rfl) rfl rfl ?_
 (have hf0 : 0 < s.fr.length := (by omega); have hk5 : k = 5 := (by omega); refine seq_pure (pure_sub_nat (z := s.fr.length - 1) rfl rfl (by omega) (by omega)) rfl rfl ?_)
 (obtain ⟨b2, o2, q2, dd2, rfl, hf2at, hf2i, ⟨fs2, hsf2, hrf2⟩, hg2⟩ := hsf.frAt hrf (i := s.fr.length - 1) (getD_some' (d := (0, [])) (by omega)); refine seq_pure (pure_indexAddrN (j := s.fr.length - 1) rfl rfl rfl (by omega)) rfl rfl ?_)
 refine seq_pure (pure_fieldAddr rfl) rfl rfl ?_
 refine seq_load (load_s rfl rfl ((hf2at _).sub (j := 0) rfl)) rfl rfl ?_
 refine seq_pure (pure_fieldAddr0 rfl) rfl rfl ?_
 refine seq_store rfl rfl rfl rfl rfl rfl (by repeat first | exact Sw.here | apply Sw.there) (by rfl) ?_
 refine seq_done (nrm_seq (tri_seq (tri_region (seq_pure (pure_fieldAddr0 rfl) rfl rfl ?_))))
 refine seq_load (load_bs rfl rfl (by repeat first | exact mH | apply mT) (by rfl)) rfl rfl ?_
 refine seq_pure (pure_move rfl) rfl rfl ?_
 (have hf0 : 0 < s.fr.length := (by omega); have hk5 : k = 5 := (by omega); refine seq_pure (pure_sub_nat (z := s.fr.length - 1) rfl rfl (by omega) (by omega)) rfl rfl ?_)
 (refine seq_pure (pure_indexAddrN (j := s.fr.length - 1) rfl rfl rfl (by omega)) rfl rfl ?_)
 refine seq_pure (pure_fieldAddr rfl) rfl rfl ?_
 refine seq_load (load_s rfl rfl ((hf2at _).sub (j := 1) rfl)) rfl rfl ?_
 refine seq_pure (pure_fieldAddr0 rfl) rfl rfl ?_
 refine seq_store rfl rfl rfl rfl rfl rfl (by repeat first | exact Sw.here | apply Sw.there) (by rfl) ?_
 refine seq_done (nrm_seq (tri_seq (tri_region (seq_pure (pure_fieldAddr0 rfl) rfl rfl ?_))))
 refine seq_load (load_bs rfl rfl (by repeat first | exact mH | apply mT) (by rfl)) rfl rfl ?_
 refine seq_pure (pure_move rfl) rfl rfl ?_
 (have hf0 : 0 < s.fr.length := (by omega); have hk5 : k = 5 := (by omega); refine seq_pure (pure_sub_nat (z := s.fr.length - 1) rfl rfl (by omega) (by omega)) rfl rfl ?_)
 refine seq_pure (pure_slice_to rfl rfl rfl (by have := hsf.sl.2.1; omega)) rfl rfl ?_
 refine seq_pure (pure_fieldAddr0 rfl) rfl rfl ?_
 refine seq_store rfl rfl rfl rfl rfl rfl (by repeat first | exact Sw.here | apply Sw.there) (by rfl) ?_
 refine seq_done (nrm_seq (tri_seq (tri_region (seq_load (load_ba rfl rfl (by repeat first | exact mH | apply mT) (by rfl)) rfl rfl ?_))))
 refine seq_store rfl rfl rfl rfl rfl rfl (by repeat first | exact Sw.here | apply Sw.there) (by rfl) ?_
 refine seq_pure (pure_assign rfl) rfl rfl ?_
 refine seq_pure (pure_assign rfl) rfl rfl ?_
 refine seq_done (nrm_seq (tri_ret (ret_block (ret_seq (ret_fin3 (res_cell rfl (load_ba rfl rfl (by repeat first | exact mH | apply mT) (by rfl))) (res_tmp rfl) (res_tmp rfl) ?_)))))
 (obtain rfl : k = 5 := (by omega); exact StepS.go (by rw [mStep_take (by omega), mTake5, if_neg (by omega)]) (RSs.mk hf2i rfl rfl (by rw [List.length_take]; omega) hsf2 hrf2 hss hrs (hsf.to (by omega)) (hrf.take _)))
 refine seq_pure (pure_assign rfl) rfl rfl ?_
 refine seq_done (nrm_seq (tri_cond_f rfl ?_))
 refine tri_skip (nrm_block (nrm_seq (tri_seq (tri_region (seq_load (load_ba rfl rfl (by repeat first | exact mH | apply mT) (by rfl)) rfl rfl ?_)))))
 refine seq_load (load_ba rfl rfl (by repeat first | exact mH | apply mT) (by rfl)) rfl rfl ?_
 (have hT := l14Take_fn k a s n N G _ (by omega) hn hN ho hat hop (by omega) hs0; rw [← mStep_take (by omega)] at hT; refine seq_imm rfl hT rfl rfl (fun v GT hleT hh => ?_); obtain ⟨cT, c, e, rfl, hlT, hoT, hgo, hno⟩ := hh)
 refine seq_pure (pure_extract rfl rfl) rfl rfl ?_
 refine seq_pure (pure_extract rfl rfl) rfl rfl ?_
 refine seq_pure (pure_extract rfl rfl) rfl rfl ?_
 refine seq_store rfl rfl rfl hlT hoT rfl (by repeat first | exact Sw.here | apply Sw.there) (by exact upd_all hlT.symm) ?_
 refine seq_pure (pure_assign rfl) rfl rfl ?_
 refine seq_pure (pure_assign rfl) rfl rfl ?_
 refine seq_done (nrm_seq (tri_ret (ret_fin3 (res_cell rfl (load_a rfl rfl (at_blk_all (by repeat first | exact mH | apply mT)) hlT)) (res_tmp rfl) (res_tmp rfl) ?_)))
 (exact ⟨rfl, cT, c, e, rfl, hlT, hoT, hgo, hno⟩)
end Gw
end Go.Proofs.YtaoaeilognhfpaaDoor
namespace Go.Proofs.YtaoaeilognhfpaaDoor
open Go Go.RowKit
namespace Gw
/-- What a run gives. -/
def RunP (r : ByteArray × Int × Int) : IM → Value → List Ent → Prop := Imm fun _ v => v = .tuple ⟨[.string r.1, .int .i64 r.2.1, .int .i64 r.2.2]⟩
theorem mRunOps_no {ops : Opl} {ticks : Int} (h : ¬(mOpsOk ops = true ∧ 0 ≤ ticks ∧ ticks ≤ 2000)) : mRunOps ops ticks = (⟨#[]⟩, 3, 0) := by unfold mRunOps; rw [if_neg h]
theorem mRunOps_yes {ops : Opl} {t : Nat} (h : mOpsOk ops = true) (ht : t ≤ 2000) : mRunOps ops (t : Int) = mRun ops t ⟨0, [], [], []⟩ := by unfold mRunOps; rw [if_pos ⟨h, by omega, by omega⟩, Int.toNat_natCast]
theorem run_is {r : ByteArray × Int × Int} {G' : IM} {a : ByteArray} {c e : Int} (h : r = (a, c, e)) : RunP r G' (.tuple ⟨[.string a, .int .i64 c, .int .i64 e]⟩) [] := by subst h; exact ⟨rfl, rfl⟩
theorem RSs.zero (kc : Int → Int) (G : IM) : RSs kc G ⟨0, [], [], []⟩ [.int .i64 0, .slice none 0 0, .slice none 0 0, .slice none 0 0] := RSs.mk ⟨by omega, by omega⟩ rfl rfl rfl (SlE.nil G 4) rfl (SlE.nil G 4) rfl (SlE.nil G 2) rfl
theorem mEnd_no {s : MSt} (h : s.st.length ≠ 1 ∨ 0 < s.fr.length) : mEnd s = (⟨#[]⟩, 3, 0) := by unfold mEnd; rw [if_pos h]
theorem mEnd_yes {s : MSt} (h : s.st.length = 1) (h2 : s.fr.length = 0) : mEnd s = (mvText (s.st.getD 0 mv0), 0, 0) := by unfold mEnd; rw [if_neg (by omega)]
set_option maxHeartbeats 0 in
set_option maxRecDepth 100000 in
theorem sRunOps_fn (ops : Opl) (ticks : Int) (G : IM) (p : Option Addr) (n c : Nat) (h : ROps G ops p n c) (hti : I64 ticks) : Fn Tryd.prog 7 [.slice p n c, .int .i64 ticks] [] G (RunP (mRunOps ops ticks)) := by
 have hl := h.sl.le
 have hn := h.len
 obtain ⟨ht1, ht2⟩ := hti
 have hok := @mOps_all ops
 refine fn_enter Tryd.func7 rfl Tryd.ntmps7 Tryd.results7 rfl ?_
 intro w0
 refine tri_seq (tri_region (seq_pure (pure_assign rfl) rfl rfl ?_))
 refine seq_pure (pure_assign rfl) rfl rfl ?_
 refine seq_pure (pure_assign rfl) rfl rfl ?_
 refine seq_done (nrm_seq (tri_seq (tri_seq (tri_region (seq_pure (pure_move rfl) rfl rfl ?_)))))
 refine seq_valb rfl ((sOpsValid_fn ops G p n c h)) rfl rfl (fun h12 => ?_) (fun h12 => ?_)
 refine seq_pure (pure_not_t rfl) rfl rfl ?_
 refine seq_pure (pure_move rfl) rfl rfl ?_
 refine seq_pure (pure_move rfl) rfl rfl ?_
 refine seq_bool (pure_lss rfl rfl) rfl rfl (fun h16 => ?_) (fun h16 => ?_)
 refine seq_pure (pure_pick_f rfl rfl) rfl rfl ?_
 refine seq_pure (pure_move rfl) rfl rfl ?_
 refine seq_skip rfl rfl ?_
 refine seq_skip rfl rfl ?_
 refine seq_pure (pure_pick_t rfl rfl) rfl rfl ?_
 refine seq_done (nrm_seq (tri_cond_t rfl ?_))
 refine tri_seq (tri_region (seq_pure (pure_assign rfl) rfl rfl ?_))
 refine seq_pure (pure_assign rfl) rfl rfl ?_
 refine seq_pure (pure_assign rfl) rfl rfl ?_
 refine seq_done (nrm_seq (tri_ret (ret_seq (ret_fin3 (res_tmp rfl) (res_tmp rfl) (res_tmp rfl) ?_))))
 (exact run_is (mRunOps_no (by rintro ⟨h1, h2, h3⟩; first | omega | exact Bool.noConfusion (h1.symm.trans (show mOpsOk ops = false from (by assumption))))))
 refine seq_pure (pure_pick_f rfl rfl) rfl rfl ?_
 refine seq_pure (pure_move rfl) rfl rfl ?_
 refine seq_pure (pure_move rfl) rfl rfl ?_
 refine seq_bool (pure_gtr rfl rfl) rfl rfl (fun h39 => ?_) (fun h39 => ?_)
 refine seq_pure (pure_pick_f rfl rfl) rfl rfl ?_
 refine seq_done (nrm_seq (tri_cond_t rfl ?_))
 refine tri_seq (tri_region (seq_pure (pure_assign rfl) rfl rfl ?_))
 refine seq_pure (pure_assign rfl) rfl rfl ?_
 refine seq_pure (pure_assign rfl) rfl rfl ?_
 refine seq_done (nrm_seq (tri_ret (ret_seq (ret_fin3 (res_tmp rfl) (res_tmp rfl) (res_tmp rfl) ?_))))
 (exact run_is (mRunOps_no (by rintro ⟨h1, h2, h3⟩; first | omega | exact Bool.noConfusion (h1.symm.trans (show mOpsOk ops = false from (by assumption))))))
 refine seq_pure (pure_pick_f rfl rfl) rfl rfl ?_
 refine seq_done (nrm_seq (tri_cond_f rfl ?_))
 refine tri_skip (nrm_seq (tri_seq (tri_region (seq_pure (pure_build rfl rfl) rfl rfl ?_))))
 (refine seq_step (step_alloc rfl) rfl ?_; rintro _ ⟨b64, rfl⟩)
 refine seq_store rfl rfl rfl rfl rfl rfl (by repeat first | exact Sw.here | apply Sw.there) (by rfl) ?_
 refine seq_done (nrm_seq (tri_seq (tri_region (seq_pure (pure_assign rfl) rfl rfl ?_))))
 refine seq_done (nrm_seq (tri_block ?_))
 (have hval : mOpsOk ops = true := (by assumption); obtain ⟨hn1, hn2, hops⟩ := hok hval; obtain ⟨T, rfl⟩ : ∃ T : Nat, ticks = T := ⟨ticks.toNat, by omega⟩; refine tri_loopN (fun (x : Nat × MSt × (Option Addr × Nat) × (Option Addr × Nat) × (Option Addr × Nat) × IM) => ⟨[(8, .int .i64 (x.1 : Int)), (7, .pointer (some ⟨b64, 0, none⟩)), (0, .slice p n c), (1, .int .i64 (T : Int))], [.blk b64 [.int .i64 x.2.1.at', .slice x.2.2.1.1 x.2.1.env.length x.2.2.1.2, .slice x.2.2.2.1.1 x.2.1.st.length x.2.2.2.1.2, .slice x.2.2.2.2.1.1 x.2.1.fr.length x.2.2.2.2.1.2]], x.2.2.2.2.2⟩) (fun x => x.1 ≤ T ∧ x.2.1.ok n x.1 ∧ IMle G x.2.2.2.2.2 ∧ RSs kS x.2.2.2.2.2 x.2.1 [.int .i64 x.2.1.at', .slice x.2.2.1.1 x.2.1.env.length x.2.2.1.2, .slice x.2.2.2.1.1 x.2.1.st.length x.2.2.2.1.2, .slice x.2.2.2.2.1.1 x.2.1.fr.length x.2.2.2.2.1.2] ∧ mRun ops (T - x.1) x.2.1 = mRunOps ops T) (fun x => T - x.1) (0, ⟨0, [], [], []⟩, (none, 0), (none, 0), (none, 0), G) ?_ ?_ ?_)
 (simp only [flat_snoc]; exact sub_mk (by repeat (first | exact SubE.nil | refine SubE.cons rfl ?_)) (by repeat (first | exact SubH.refl | exact SubH.nil | refine SubH.cons (by repeat (first | exact Pk.here | apply Pk.there)) ?_ | apply SubH.drop)))
 (exact ⟨Nat.zero_le _, st0_ok n, IMle.refl _, RSs.zero kS G, by dsimp only; rw [mRunOps_yes hval (by omega)]; rfl⟩)
 (rintro ⟨j, s, ⟨pe, ce⟩, ⟨ps, cs⟩, ⟨pf, cf⟩, Gj⟩ ⟨hj, ho, hle, hs, hrun⟩; simp only [] at hj ho hle hs hrun ⊢; have hlo := ho.lo; have hhi := ho.hi; have hst := ho.st; replace h := h.mono hle)
 refine tri_seq (tri_block (tri_seq (tri_seq (tri_region (seq_pure (pure_fieldAddr0 rfl) rfl rfl ?_)))))
 refine seq_load (load_bs rfl rfl (by repeat first | exact mH | apply mT) (by rfl)) rfl rfl ?_
 refine seq_pure (pure_move rfl) rfl rfl ?_
 refine seq_pure (pure_len rfl rfl) rfl rfl ?_
 refine seq_bool (pure_geq rfl rfl) rfl rfl (fun h87 => ?_) (fun h87 => ?_)
 refine seq_done (nrm_seq (tri_cond_t rfl ?_))
 refine tri_seq (tri_seq (tri_region (seq_pure (pure_fieldAddr0 rfl) rfl rfl ?_)))
 refine seq_load (load_bs rfl rfl (by repeat first | exact mH | apply mT) (by rfl)) rfl rfl ?_
 refine seq_pure (pure_len rfl rfl) rfl rfl ?_
 refine seq_bool (pure_neq rfl rfl) rfl rfl (fun h97 => ?_) (fun h97 => ?_)
 refine seq_pure (pure_move rfl) rfl rfl ?_
 refine seq_skip rfl rfl ?_
 refine seq_skip rfl rfl ?_
 refine seq_skip rfl rfl ?_
 refine seq_skip rfl rfl ?_
 refine seq_pure (pure_pick_t rfl rfl) rfl rfl ?_
 refine seq_done (nrm_seq (tri_cond_t rfl ?_))
 refine tri_seq (tri_region (seq_pure (pure_assign rfl) rfl rfl ?_))
 refine seq_pure (pure_assign rfl) rfl rfl ?_
 refine seq_pure (pure_assign rfl) rfl rfl ?_
 refine seq_done (nrm_seq (tri_ret (ret_seq (ret_seq (ret_block (ret_seq ?_))))))
 refine ret_loopN (ret_block (ret_fin3 (res_tmp rfl) (res_tmp rfl) (res_tmp rfl) ?_))
 (exact run_is (by rw [← hrun, mRun_end (by omega), mEnd_no (by omega)]))
 refine seq_pure (pure_move rfl) rfl rfl ?_
 refine seq_pure (pure_fieldAddr0 rfl) rfl rfl ?_
 refine seq_load (load_bs rfl rfl (by repeat first | exact mH | apply mT) (by rfl)) rfl rfl ?_
 refine seq_pure (pure_len rfl rfl) rfl rfl ?_
 refine seq_bool (pure_neq rfl rfl) rfl rfl (fun h127 => ?_) (fun h127 => ?_)
 refine seq_pure (pure_pick_f rfl rfl) rfl rfl ?_
 refine seq_done (nrm_seq (tri_cond_t rfl ?_))
 refine tri_seq (tri_region (seq_pure (pure_assign rfl) rfl rfl ?_))
 refine seq_pure (pure_assign rfl) rfl rfl ?_
 refine seq_pure (pure_assign rfl) rfl rfl ?_
 refine seq_done (nrm_seq (tri_ret (ret_seq (ret_seq (ret_block (ret_seq ?_))))))
 refine ret_loopN (ret_block (ret_fin3 (res_tmp rfl) (res_tmp rfl) (res_tmp rfl) ?_))
 (exact run_is (by rw [← hrun, mRun_end (by omega), mEnd_no (by omega)]))
 refine seq_pure (pure_pick_f rfl rfl) rfl rfl ?_
 refine seq_done (nrm_seq (tri_cond_f rfl ?_))
 refine tri_skip (nrm_seq (tri_seq (tri_region (seq_pure (pure_fieldAddr0 rfl) rfl rfl ?_))))
 refine seq_load (load_bs rfl rfl (by repeat first | exact mH | apply mT) (by rfl)) rfl rfl ?_
 (have h1s : s.st.length = 1 := (by omega); obtain ⟨_, _, _, _, _, _, _, es, _, hce, _, _, _, hss, hrs, _, _⟩ := id hs; simp only [List.cons.injEq, Value.slice.injEq, and_true, true_and] at hce; obtain ⟨_, ⟨rfl, rfl⟩, _⟩ := hce; obtain ⟨b0, o0, q0, dd0, q0', dd0', rfl, hv0at, hv0, hg0⟩ := hss.mvAt hrs (i := 0) (getD_some' (d := mv0) (by omega)); refine seq_pure (pure_indexAddrN (j := 0) rfl rfl rfl (by omega)) rfl rfl ?_)
 refine seq_load (load_a rfl rfl (hv0at _) rfl) rfl rfl ?_
 refine seq_val rfl ((l14Text_fn (s.st.getD 0 mv0) n j Gj _ (ho.sto _ (getD_mem' (by omega))) hv0)) rfl rfl ?_
 refine seq_pure (pure_assign rfl) rfl rfl ?_
 refine seq_pure (pure_assign rfl) rfl rfl ?_
 refine seq_pure (pure_assign rfl) rfl rfl ?_
 refine seq_done (nrm_seq (tri_ret (ret_seq (ret_block (ret_seq (ret_loopN ?_))))))
 refine ret_block (ret_fin3 (res_tmp rfl) (res_tmp rfl) (res_tmp rfl) ?_)
 (exact run_is (by rw [← hrun, mRun_end (by omega), mEnd_yes h1s (by omega)]))
 refine seq_done (nrm_seq (tri_cond_f rfl ?_))
 refine tri_skip (nrm_seq (tri_seq (tri_seq (tri_region (seq_pure (pure_move rfl) rfl rfl ?_)))))
 refine seq_pure (pure_move rfl) rfl rfl ?_
 refine seq_bool (pure_eql rfl rfl) rfl rfl (fun h184 => ?_) (fun h184 => ?_)
 refine seq_done (nrm_seq (tri_cond_t rfl ?_))
 refine tri_seq (tri_region (seq_pure (pure_assign rfl) rfl rfl ?_))
 refine seq_pure (pure_assign rfl) rfl rfl ?_
 refine seq_pure (pure_assign rfl) rfl rfl ?_
 refine seq_done (nrm_seq (tri_ret (ret_seq (ret_block (ret_seq (ret_loopN ?_))))))
 refine ret_block (ret_fin3 (res_tmp rfl) (res_tmp rfl) (res_tmp rfl) ?_)
 (exact run_is (by rw [← hrun, show T - j = 0 from by omega, mRun_much (by omega)]))
 refine seq_done (nrm_seq (tri_cond_f rfl ?_))
 refine tri_skip (nrm_seq (tri_seq (tri_region (seq_pure (pure_assign rfl) rfl rfl ?_))))
 refine seq_done (nrm_seq (tri_seq (tri_region (seq_pure (pure_assign rfl) rfl rfl ?_))))
 refine seq_done (nrm_seq (tri_seq ?_))
 (obtain ⟨i, hi⟩ : ∃ i : Nat, s.at' = i := ⟨s.at'.toNat, by omega⟩; have hin : i < n := (by omega); obtain ⟨b1, o1, rfl, hop1, hr1, hr2, hgo⟩ := h.get hin; have hOK : mOpOk n s.at'.toNat ((ops.getD i (0, 0)).1, (ops.getD i (0, 0)).2) = true := (by rw [hi, Int.toNat_natCast, hn]; exact hops i (by omega)); have hE := l14Exec_fn (ops.getD i (0, 0)).1 (ops.getD i (0, 0)).2 s n j Gj _ (by omega) (by omega) ho (by omega) hOK hs; rw [hi] at hE; rw [hi]; refine tri_draw mixed rfl ?_)
 refine any_load (i := 0) (listed' := [tt,ff,ff,ff,ff,ff,ff,ff,ff,ff,ff,ff,ff,ff]) rfl npI (load_ba rfl rfl (by repeat first | exact mH | apply mT) (by rfl)) rfl (by kernel_rfl) rfl rfl ?_
 refine any_pure (i := 1) (listed' := [tt,tt,ff,ff,ff,ff,ff,ff,ff,ff,ff,ff,ff,ff]) rfl npI (pure_move rfl) rfl (by kernel_rfl) rfl rfl ?_
 refine any_pure (i := 2) (listed' := [tt,tt,tt,ff,ff,ff,ff,ff,ff,ff,ff,ff,ff,ff]) rfl npI (pure_fieldAddr0 rfl) rfl (by kernel_rfl) rfl rfl ?_
 refine any_load (i := 3) (listed' := [tt,tt,tt,tt,ff,ff,ff,ff,ff,ff,ff,ff,ff,ff]) rfl npI (load_bs rfl rfl (by repeat first | exact mH | apply mT) (by rfl)) rfl (by kernel_rfl) rfl rfl ?_
 refine any_pure (i := 4) (listed' := [tt,tt,tt,tt,tt,ff,ff,ff,ff,ff,ff,ff,ff,ff]) rfl npI (pure_indexAddrN (j := i) rfl rfl rfl hin) rfl (by kernel_rfl) rfl rfl ?_
 refine any_load (i := 5) (listed' := [tt,tt,tt,tt,tt,tt,ff,ff,ff,ff,ff,ff,ff,ff]) rfl npI (load_a rfl rfl (hop1 _) rfl) rfl (by kernel_rfl) rfl rfl ?_
 refine any_one (j := 6) (by kernel_rfl) ?_
 focus (refine one_imm (listed' := [tt,tt,tt,tt,tt,tt,tt,ff,ff,ff,ff,ff,ff,ff]) rfl rfl hE rfl rfl rfl (fun v GT hleT hh => ?_); obtain ⟨cT, cc, ee, rfl, hlT, hoT, hgo', hno⟩ := hh; rcases hstp : mStep (ops.getD i (0, 0)).1 (ops.getD i (0, 0)).2 s with s' | ⟨c2, e2⟩; rotate_left; obtain ⟨rfl, rfl⟩ := hno _ hstp; have hc2 := mStep_err hstp; rotate_left; obtain ⟨rfl, rfl, hs'⟩ := hgo' _ hstp; obtain ⟨pe', ce', ps', cs', pf', cf', ee', es', ef', rfl, _⟩ := id hs')
 refine any_pure (i := 7) (listed' := [tt,tt,tt,tt,tt,tt,tt,tt,ff,ff,ff,ff,ff,ff]) rfl npI (pure_move rfl) rfl (by kernel_rfl) rfl rfl ?_
 refine any_pure (i := 8) (listed' := [tt,tt,tt,tt,tt,tt,tt,tt,tt,ff,ff,ff,ff,ff]) rfl npI (pure_extract rfl rfl) rfl (by kernel_rfl) rfl rfl ?_
 refine any_pure (i := 9) (listed' := [tt,tt,tt,tt,tt,tt,tt,tt,tt,tt,ff,ff,ff,ff]) rfl npI (pure_extract rfl rfl) rfl (by kernel_rfl) rfl rfl ?_
 refine any_pure (i := 10) (listed' := [tt,tt,tt,tt,tt,tt,tt,tt,tt,tt,tt,ff,ff,ff]) rfl npI (pure_extract rfl rfl) rfl (by kernel_rfl) rfl rfl ?_
 refine any_one (j := 11) (by kernel_rfl) ?_
 (refine one_storeM (listed' := [tt,tt,tt,tt,tt,tt,tt,tt,tt,tt,tt,tt,ff,ff]) rfl rfl rfl rfl hlT hoT rfl rfl (by repeat first | exact Sw.here | apply Sw.there) (by exact upd_all hlT.symm) (by repeat (first | exact HmOk.nil | apply HmOk.dep (by decide +kernel) | apply HmOk.im (by decide +kernel) (by assumption) (by repeat first | exact mH | apply mT) | apply HmOk.blk (by decide +kernel) (by repeat (first | exact Pk.here | apply Pk.there)) (by repeat first | exact mH | apply mT))) ?_)
 refine any_pure (i := 12) (listed' := [tt,tt,tt,tt,tt,tt,tt,tt,tt,tt,tt,tt,tt,ff]) rfl npI (pure_assign rfl) rfl (by kernel_rfl) rfl rfl ?_
 refine any_pure (i := 13) (listed' := [tt,tt,tt,tt,tt,tt,tt,tt,tt,tt,tt,tt,tt,tt]) rfl npI (pure_assign rfl) rfl (by kernel_rfl) rfl rfl ?_
 refine any_done (by kernel_rfl) ?_
 refine nrm_seq (tri_seq (tri_region (seq_pure (pure_move rfl) rfl rfl ?_)))
 refine seq_pure (pure_neq_f rfl rfl (by omega)) rfl rfl ?_
 refine seq_done (nrm_seq (tri_cond_f rfl ?_))
 refine tri_skip (nrm_block (nrm_seq (tri_region (seq_pure (pure_move rfl) rfl rfl ?_))))
 refine seq_pure (pure_add rfl rfl (by omega) (by omega)) rfl rfl ?_
 refine seq_pure (pure_assign rfl) rfl rfl ?_
 refine seq_done (nrm_loopN (j + 1, s', (pe', ce'), (ps', cs'), (pf', cf'), GT) ?_ ?_ ?_)
 (simp only [flat_snoc]; exact sub_mk (by repeat (first | exact SubE.nil | refine SubE.cons rfl ?_)) (by repeat (first | exact SubH.refl | exact SubH.nil | refine SubH.cons (by repeat (first | exact Pk.here | apply Pk.there)) ?_ | apply SubH.drop)))
 (dsimp only; exact ⟨by omega, step_ok (by omega) ho (by omega) hOK hstp, hle.trans hleT, hs', by rw [← hrun, show T - j = (T - (j + 1)) + 1 from by omega]; exact (mRun_go (by omega) (by rw [hi, Int.toNat_natCast]; exact hstp)).symm⟩)
 (show T - (j + 1) < T - j; omega)
 refine any_pure (i := 7) (listed' := [tt,tt,tt,tt,tt,tt,tt,tt,ff,ff,ff,ff,ff,ff]) rfl npI (pure_move rfl) rfl (by kernel_rfl) rfl rfl ?_
 refine any_pure (i := 8) (listed' := [tt,tt,tt,tt,tt,tt,tt,tt,tt,ff,ff,ff,ff,ff]) rfl npI (pure_extract rfl rfl) rfl (by kernel_rfl) rfl rfl ?_
 refine any_pure (i := 9) (listed' := [tt,tt,tt,tt,tt,tt,tt,tt,tt,tt,ff,ff,ff,ff]) rfl npI (pure_extract rfl rfl) rfl (by kernel_rfl) rfl rfl ?_
 refine any_pure (i := 10) (listed' := [tt,tt,tt,tt,tt,tt,tt,tt,tt,tt,tt,ff,ff,ff]) rfl npI (pure_extract rfl rfl) rfl (by kernel_rfl) rfl rfl ?_
 refine any_one (j := 11) (by kernel_rfl) ?_
 (refine one_storeM (listed' := [tt,tt,tt,tt,tt,tt,tt,tt,tt,tt,tt,tt,ff,ff]) rfl rfl rfl rfl hlT hoT rfl rfl (by repeat first | exact Sw.here | apply Sw.there) (by exact upd_all hlT.symm) (by repeat (first | exact HmOk.nil | apply HmOk.dep (by decide +kernel) | apply HmOk.im (by decide +kernel) (by assumption) (by repeat first | exact mH | apply mT) | apply HmOk.blk (by decide +kernel) (by repeat (first | exact Pk.here | apply Pk.there)) (by repeat first | exact mH | apply mT))) ?_)
 refine any_pure (i := 12) (listed' := [tt,tt,tt,tt,tt,tt,tt,tt,tt,tt,tt,tt,tt,ff]) rfl npI (pure_assign rfl) rfl (by kernel_rfl) rfl rfl ?_
 refine any_pure (i := 13) (listed' := [tt,tt,tt,tt,tt,tt,tt,tt,tt,tt,tt,tt,tt,tt]) rfl npI (pure_assign rfl) rfl (by kernel_rfl) rfl rfl ?_
 refine any_done (by kernel_rfl) ?_
 refine nrm_seq (tri_seq (tri_region (seq_pure (pure_move rfl) rfl rfl ?_)))
 refine seq_pure (pure_neq_t rfl rfl (by omega)) rfl rfl ?_
 refine seq_done (nrm_seq (tri_cond_t rfl ?_))
 refine tri_seq (tri_region (seq_pure (pure_move rfl) rfl rfl ?_))
 refine seq_pure (pure_move rfl) rfl rfl ?_
 refine seq_pure (pure_assign rfl) rfl rfl ?_
 refine seq_pure (pure_assign rfl) rfl rfl ?_
 refine seq_pure (pure_assign rfl) rfl rfl ?_
 refine seq_done (nrm_seq (tri_ret (ret_block (ret_seq (ret_loopN (ret_block ?_))))))
 refine ret_fin3 (res_tmp rfl) (res_tmp rfl) (res_tmp rfl) ?_
 (exact run_is (by rw [← hrun, show T - j = (T - j - 1) + 1 from by omega, mRun_stop (by omega) (by rw [hi, Int.toNat_natCast]; exact hstp)]))
 refine seq_pure (pure_not_f rfl) rfl rfl ?_
 refine seq_pure (pure_move rfl) rfl rfl ?_
 refine seq_skip rfl rfl ?_
 refine seq_skip rfl rfl ?_
 refine seq_pure (pure_pick_t rfl rfl) rfl rfl ?_
 refine seq_pure (pure_move rfl) rfl rfl ?_
 refine seq_skip rfl rfl ?_
 refine seq_skip rfl rfl ?_
 refine seq_pure (pure_pick_t rfl rfl) rfl rfl ?_
 refine seq_done (nrm_seq (tri_cond_t rfl ?_))
 refine tri_seq (tri_region (seq_pure (pure_assign rfl) rfl rfl ?_))
 refine seq_pure (pure_assign rfl) rfl rfl ?_
 refine seq_pure (pure_assign rfl) rfl rfl ?_
 refine seq_done (nrm_seq (tri_ret (ret_seq (ret_fin3 (res_tmp rfl) (res_tmp rfl) (res_tmp rfl) ?_))))
 (exact run_is (mRunOps_no (by rintro ⟨h1, h2, h3⟩; first | omega | exact Bool.noConfusion (h1.symm.trans (show mOpsOk ops = false from (by assumption))))))
end Gw
end Go.Proofs.YtaoaeilognhfpaaDoor
namespace Go.Proofs.YtaoaeilognhfpaaDoor
open Go Go.RowKit
namespace Gw
/-- An instruction of the program's machine. -/
theorem do_fn (k a : Int) (s : MSt) (b n N : Nat) (G : IM) (hp0 : List Ent) (hn : n ≤ 120) (hN : N ≤ 2000) (ho : s.ok n N) (hat : s.at' < n) (hop : mOpOk n s.at'.toNat (k, a) = true) (hM : Mc G s b hp0) :
  Fn Tryd.prog 18 [.pointer (some ⟨b, 0, none⟩), .agg ⟨[.int .i64 k, .int .i64 a]⟩] hp0 G (DoP (mStep k a s) b) := by
 have hlo := ho.lo
 obtain ⟨k1, k2, _⟩ := mOpOk_at hop (by omega)
 by_cases hl : s.st.length < mPops k
 ·exact doFew_fn k a s b N G hp0 hN ho.st hl hM
 ·by_cases hk : k = 6 ∨ k = 7 ∨ k = 8 ∨ k = 11
  ·have hp := mPops2 hk
   obtain ⟨v0, v1, hd, _, _⟩ := two_of (l := s.st) (by omega)
   exact do2_fn k a s b n N v0 v1 G hp0 hk hn hN ho hd (by omega) hM
  ·by_cases hk1 : k = 9 ∨ k = 12 ∨ k = 13
   ·have hp := mPops1 hk1
    obtain ⟨v0, hd, _⟩ := one_of (l := s.st) (by omega)
    exact do1_fn k a s b n N v0 G hp0 hk1 hn hN ho hd hat hop (by omega) hM
   ·exact do0_fn k a s b n N G hp0 (by omega) hn hN ho hat hop hM
set_option maxHeartbeats 0 in
set_option maxRecDepth 100000 in
theorem text_fn (v : MV) (n : Int) (N : Nat) (G : IM) (cells : List Value) (hT : TabG G) (ho : v.ok n N) (hv : RMv kI G v cells) : Fn Tryd.prog 19 [.agg ⟨cells⟩] [] G (Val (.string (mvText v)) G) := by
 obtain ⟨c1, c2, c3, c4, c5, _, _, _, _, _⟩ := ho.spec
 obtain ⟨j, hj⟩ : ∃ j : Nat, v.num = j := ⟨v.num.toNat, by omega⟩
 obtain ⟨p, c, e1, q, d, f1, rfl, _⟩ := hv.open
 rw [hj]
 have hI : Fn Tryd.prog 35 [.int .i64 (j : Int)] [] G (Val (.string ⟨(Lib.decDigits j).toArray⟩) G) := by
  have h := itoa_fn (j : Int) G hT (by omega) (by omega)
  rwa [Int.toNat_natCast] at h
 obtain ⟨m, hm⟩ : ∃ m : Int, v.k = m := ⟨_, rfl⟩
 rw [show kI v.k = m from hm]
 rw [hm] at c1 c2
 refine fn_enter Tryd.func19 rfl Tryd.ntmps19 Tryd.results19 rfl ?_
 intro w0
 refine tri_seq (tri_region ?_)
 (refine seq_step (step_box_a rfl rfl) rfl ?_; rintro _ ⟨b3, rfl⟩)
 refine seq_pure (pure_assign rfl) rfl rfl ?_
 refine seq_done (nrm_seq (tri_seq (tri_seq (tri_region (seq_pure (pure_fieldAddr0 rfl) rfl rfl ?_)))))
 refine seq_load (load_bs rfl rfl (by repeat first | exact mH | apply mT) (by rfl)) rfl rfl ?_
 refine seq_done (nrm_seq (tri_block (tri_seq (tri_region (seq_bool (pure_eql rfl rfl) rfl rfl (fun h17 => ?_) (fun h17 => ?_))))))
 refine seq_pure (pure_assign rfl) rfl rfl ?_
 refine seq_done (nrm_seq (tri_cond_t rfl ?_))
 refine tri_seq (tri_region (seq_pure (pure_fieldAddr0 rfl) rfl rfl ?_))
 refine seq_load (load_bs rfl rfl (by repeat first | exact mH | apply mT) (by rfl)) rfl rfl ?_
 refine seq_val rfl (hI) rfl rfl ?_
 refine seq_pure (pure_assign rfl) rfl rfl ?_
 refine seq_done (nrm_seq (tri_ret (ret_block (ret_seq (ret_fin1 (res_tmp rfl) ?_)))))
 (exact ⟨rfl, congrArg Value.string (mvText0 (by omega) hj).symm, rfl⟩)
 refine seq_pure (pure_assign rfl) rfl rfl ?_
 refine seq_done (nrm_seq (tri_cond_f rfl ?_))
 refine tri_seq (tri_region (seq_bool (pure_eql rfl rfl) rfl rfl (fun h41 => ?_) (fun h41 => ?_)))
 refine seq_pure (pure_assign rfl) rfl rfl ?_
 refine seq_done (nrm_seq (tri_cond_t rfl ?_))
 refine tri_seq (tri_region (seq_pure (pure_fieldAddr0 rfl) rfl rfl ?_))
 refine seq_load (load_bs rfl rfl (by repeat first | exact mH | apply mT) (by rfl)) rfl rfl ?_
 refine seq_pure (pure_fieldAddr0 rfl) rfl rfl ?_
 refine seq_load (load_bs rfl rfl (by repeat first | exact mH | apply mT) (by rfl)) rfl rfl ?_
 refine seq_pure (pure_add rfl rfl (by omega) (by omega)) rfl rfl ?_
 (have hk1 : m = 1 := (by omega); have hj1 := c5 (hm.trans hk1); refine seq_pure (pure_sslice (l := j) (h := j + 1) rfl rfl rfl rfl (by omega) (by show j + 1 ≤ 2; omega)) rfl rfl ?_)
 refine seq_pure (pure_assign rfl) rfl rfl ?_
 refine seq_done (nrm_seq (tri_ret (ret_block (ret_seq (ret_fin1 (res_tmp rfl) ?_)))))
 (exact ⟨rfl, congrArg Value.string (ft_cut (by omega) hj (by omega)), rfl⟩)
 refine seq_pure (pure_assign rfl) rfl rfl ?_
 refine seq_done (nrm_seq (tri_cond_f rfl ?_))
 refine tri_seq (tri_region (seq_bool (pure_eql rfl rfl) rfl rfl (fun h68 => ?_) (fun h68 => ?_)))
 refine seq_pure (pure_assign rfl) rfl rfl ?_
 refine seq_done (nrm_seq (tri_cond_t rfl ?_))
 refine tri_seq (tri_region (seq_pure (pure_assign rfl) rfl rfl ?_))
 refine seq_done (nrm_seq (tri_ret (ret_block (ret_seq (ret_fin1 (res_tmp rfl) ?_)))))
 (exact ⟨rfl, congrArg Value.string (mvText2 (by omega)).symm, rfl⟩)
 refine seq_pure (pure_assign rfl) rfl rfl ?_
 refine seq_done (nrm_seq (tri_cond_f rfl ?_))
 refine tri_skip (nrm_block (nrm_seq (tri_seq (tri_region (seq_pure (pure_assign rfl) rfl rfl ?_)))))
 refine seq_done (nrm_seq (tri_ret (ret_fin1 (res_tmp rfl) ?_)))
 (exact ⟨rfl, congrArg Value.string (mvText3 (by omega)).symm, rfl⟩)
section
variable {ops : Opl} {t : Nat} {s s' : MSt}
theorem mRun_go' (ht : 0 < t) (h : ¬(ops.length : Int) ≤ s.at') (hs : mStep (ops.getD s.at'.toNat (0, 0)).1 (ops.getD s.at'.toNat (0, 0)).2 s = .inl s') : mRun ops (t - 1) s' = mRun ops t s := by
 obtain ⟨r, rfl⟩ : ∃ r, t = r + 1 := ⟨t - 1, by omega⟩
 exact (mRun_go h hs).symm
theorem mRun_stop' {c e : Int} (ht : 0 < t) (h : ¬(ops.length : Int) ≤ s.at') (hs : mStep (ops.getD s.at'.toNat (0, 0)).1 (ops.getD s.at'.toNat (0, 0)).2 s = .inr (c, e)) : mRun ops t s = (⟨#[]⟩, c, e) := by
 obtain ⟨r, rfl⟩ : ∃ r, t = r + 1 := ⟨t - 1, by omega⟩
 exact mRun_stop h hs
end
set_option maxHeartbeats 0 in
set_option maxRecDepth 100000 in
theorem runOps_fn (ops : Opl) (ticks : Int) (G : IM) (p : Option Addr) (n c : Nat) (hT : TabG G) (h : ROps G ops p n c) (hti : I64 ticks) : Fn Tryd.prog 9 [.slice p n c, .int .i64 ticks] [] G (RunP (mRunOps ops ticks)) := by
 have hl := h.sl.le
 have hn := h.len
 obtain ⟨ht1, ht2⟩ := hti
 have hok := @mOps_all ops
 refine fn_enter Tryd.func9 rfl Tryd.ntmps9 Tryd.results9 rfl ?_
 intro w0
 refine tri_seq (tri_region (seq_pure (pure_assign rfl) rfl rfl ?_))
 refine seq_pure (pure_assign rfl) rfl rfl ?_
 refine seq_pure (pure_assign rfl) rfl rfl ?_
 refine seq_done (nrm_seq (tri_seq (tri_seq (tri_region (seq_pure (pure_move rfl) rfl rfl ?_)))))
 refine seq_valb rfl ((opsValid_fn ops G p n c h)) rfl rfl (fun h12 => ?_) (fun h12 => ?_)
 refine seq_pure (pure_not_t rfl) rfl rfl ?_
 refine seq_pure (pure_move rfl) rfl rfl ?_
 refine seq_pure (pure_move rfl) rfl rfl ?_
 refine seq_valb rfl ((within_fn ticks 0 2000 G)) rfl rfl (fun h16 => ?_) (fun h16 => ?_)
 refine seq_pure (pure_not_t rfl) rfl rfl ?_
 refine seq_pure (pure_pick_f rfl rfl) rfl rfl ?_
 refine seq_done (nrm_seq (tri_cond_f rfl ?_))
 refine tri_skip (nrm_seq (tri_seq (tri_region (seq_pure (pure_build rfl rfl) rfl rfl ?_))))
 (refine seq_step (step_box_a rfl rfl) rfl ?_; rintro _ ⟨b27, rfl⟩)
 refine seq_pure (pure_assign rfl) rfl rfl ?_
 refine seq_done (nrm_seq (tri_seq (tri_block ?_)))
 (have hval : mOpsOk ops = true := (by assumption); obtain ⟨hn1, hn2, hops⟩ := hok hval; have hwt : 0 ≤ ticks ∧ ticks ≤ 2000 := (by simp only [withinB, decide_eq_true_eq] at *; omega); obtain ⟨T, rfl⟩ : ∃ T : Nat, ticks = T := ⟨ticks.toNat, by omega⟩; refine tri_nil 79 2 ?_; refine tri_nil 58 4 ?_; refine tri_loopN (fun (x : Nat × MSt × (Option Addr × Nat) × (Option Addr × Nat) × (Option Addr × Nat) × List (List Value) × List (List Value) × IM) => ⟨[(7, .pointer (some ⟨b27, 0, none⟩)), (0, .slice p n c), (1, .int .i64 (x.1 : Int))], [.blk b27 [.int .i64 x.2.1.at', .slice x.2.2.1.1 x.2.1.st.length x.2.2.1.2, .slice x.2.2.2.1.1 x.2.1.env.length x.2.2.2.1.2, .slice x.2.2.2.2.1.1 x.2.1.fr.length x.2.2.2.2.1.2], .slc x.2.2.1.1 x.2.2.1.2 58 4 x.2.1.st.length x.2.2.2.2.2.1.flatten, .slc x.2.2.2.2.1.1 x.2.2.2.2.1.2 79 2 x.2.1.fr.length x.2.2.2.2.2.2.1.flatten], x.2.2.2.2.2.2.2⟩) (fun x => x.1 ≤ T ∧ x.2.1.ok n (T - x.1) ∧ IMle G x.2.2.2.2.2.2.2 ∧ RMvL kI x.2.2.2.2.2.2.2 x.2.1.st x.2.2.2.2.2.1 ∧ (∃ ee, SlE x.2.2.2.2.2.2.2 x.2.2.2.1.1 x.2.1.env.length x.2.2.2.1.2 4 ee ∧ RMvL kI x.2.2.2.2.2.2.2 x.2.1.env ee) ∧ RFrL kI x.2.2.2.2.2.2.2 x.2.1.fr x.2.2.2.2.2.2.1 ∧ mRun ops x.1 x.2.1 = mRunOps ops T) (fun x => x.1) (T, ⟨0, [], [], []⟩, (none, 0), (none, 0), (none, 0), [], [], G) ?_ ?_ ?_)
 (simp only [flat_snoc]; exact sub_mk (by repeat (first | exact SubE.nil | refine SubE.cons rfl ?_)) (by repeat (first | exact SubH.refl | exact SubH.nil | refine SubH.cons (by repeat (first | exact Pk.here | apply Pk.there)) ?_ | apply SubH.drop)))
 (exact ⟨Nat.le_refl _, by rw [Nat.sub_self]; exact st0_ok n, IMle.refl _, rfl, ⟨[], SlE.nil _ 4, rfl⟩, rfl, (mRunOps_yes hval (by omega)).symm⟩)
 (rintro ⟨r, s, ⟨ps, cs⟩, ⟨pe, ce⟩, ⟨pf, cf⟩, es, ef, Gj⟩ ⟨hr, ho, hle, hrs, ⟨ee, hse, hre⟩, hrf, hrun⟩; simp only [] at hr ho hle hrs hse hre hrf hrun ⊢; have hlo := ho.lo; have hhi := ho.hi; have hst := ho.st; replace h := h.mono hle; replace hT := hT.mono hle)
 refine tri_seq (tri_seq (tri_region (seq_pure (pure_move rfl) rfl rfl ?_)))
 refine seq_pure (pure_nilCheck rfl) rfl rfl ?_
 refine seq_pure (pure_fieldAddr0 rfl) rfl rfl ?_
 refine seq_load (load_bs rfl rfl (by repeat first | exact mH | apply mT) (by rfl)) rfl rfl ?_
 refine seq_pure (pure_move rfl) rfl rfl ?_
 refine seq_pure (pure_len rfl rfl) rfl rfl ?_
 refine seq_bool (pure_lss rfl rfl) rfl rfl (fun h46 => ?_) (fun h46 => ?_)
 refine seq_done (nrm_seq (tri_cond_t rfl ?_))
 refine tri_skip (nrm_seq (tri_seq (tri_block (tri_seq (tri_seq ?_)))))
 (obtain ⟨i, hi⟩ : ∃ i : Nat, s.at' = i := ⟨s.at'.toNat, by omega⟩; have hin : i < n := (by omega); obtain ⟨b1, o1, rfl, hop1, hr1, hr2, hgo⟩ := h.get hin; have hOK : mOpOk n s.at'.toNat ((ops.getD i (0, 0)).1, (ops.getD i (0, 0)).2) = true := (by rw [hi, Int.toNat_natCast, hn]; exact hops i (by omega)); have hE := do_fn (ops.getD i (0, 0)).1 (ops.getD i (0, 0)).2 s b27 n (T - r) Gj _ (by omega) (by omega) ho (by omega) hOK ⟨ps, cs, es, pe, ce, ee, pf, cf, ef, rfl, hrs, hse, hre, hrf⟩; rw [hi] at hE; rw [hi])
 refine tri_region (seq_pure (pure_move rfl) rfl rfl ?_)
 refine seq_bool (pure_eql rfl rfl) rfl rfl (fun h59 => ?_) (fun h59 => ?_)
 refine seq_done (nrm_seq (tri_cond_t rfl ?_))
 refine tri_seq (tri_region (seq_pure (pure_assign rfl) rfl rfl ?_))
 refine seq_pure (pure_assign rfl) rfl rfl ?_
 refine seq_pure (pure_assign rfl) rfl rfl ?_
 refine seq_done (nrm_seq (tri_ret (ret_seq (ret_block (ret_seq (ret_loopN ?_))))))
 refine ret_block (ret_seq (ret_fin3 (res_tmp rfl) (res_tmp rfl) (res_tmp rfl) ?_))
 (exact run_is (by rw [← hrun, show r = 0 from by omega, mRun_much (by omega)]))
 refine seq_done (nrm_seq (tri_cond_f rfl ?_))
 refine tri_skip (nrm_seq (tri_seq (tri_region (seq_pure (pure_move rfl) rfl rfl ?_))))
 refine seq_pure (pure_move rfl) rfl rfl ?_
 refine seq_pure (pure_move rfl) rfl rfl ?_
 refine seq_pure (pure_nilCheck rfl) rfl rfl ?_
 refine seq_pure (pure_fieldAddr0 rfl) rfl rfl ?_
 refine seq_load (load_bs rfl rfl (by repeat first | exact mH | apply mT) (by rfl)) rfl rfl ?_
 refine seq_pure (pure_indexAddrN (j := i) rfl rfl rfl hin) rfl rfl ?_
 refine seq_load (load_a rfl rfl (hop1 _) rfl) rfl rfl ?_
 focus (refine seq_take rfl hE (Pk3 (by repeat (first | exact Pk.here | apply Pk.there)) (by repeat (first | exact Pk.here | apply Pk.there)) (by repeat (first | exact Pk.here | apply Pk.there))) rfl rfl (fun v GT outs hleT hh => ?_); obtain ⟨cc, ee', rfl, hno, hgo'⟩ := hh; rcases hstp : mStep (ops.getD i (0, 0)).1 (ops.getD i (0, 0)).2 s with s' | ⟨c2, e2⟩; rotate_left; obtain ⟨rfl, rfl⟩ := hno _ hstp; have hc2 := mStep_err hstp; rotate_left; obtain ⟨rfl, rfl, ps', cs', es', pe', ce', ee2, pf', cf', ef', rfl, hrs', hse', hre', hrf'⟩ := hgo' _ hstp)
 refine seq_pure (pure_move rfl) rfl rfl ?_
 refine seq_pure (pure_extract rfl rfl) rfl rfl ?_
 refine seq_pure (pure_extract rfl rfl) rfl rfl ?_
 refine seq_pure (pure_assign rfl) rfl rfl ?_
 refine seq_pure (pure_assign rfl) rfl rfl ?_
 refine seq_done (nrm_seq (tri_seq (tri_region (seq_pure (pure_move rfl) rfl rfl ?_))))
 refine seq_pure (pure_neq_f rfl rfl (by omega)) rfl rfl ?_
 refine seq_done (nrm_seq (tri_cond_f rfl ?_))
 refine tri_skip (nrm_block (nrm_seq (tri_region (seq_pure (pure_move rfl) rfl rfl ?_))))
 refine seq_pure (pure_sub_nat (z := r - 1) rfl rfl (by omega) (by omega)) rfl rfl ?_
 refine seq_pure (pure_assign rfl) rfl rfl ?_
 refine seq_done (nrm_loopN (r - 1, s', (ps', cs'), (pe', ce'), (pf', cf'), es', ef', GT) ?_ ?_ ?_)
 (simp only [flat_snoc]; exact sub_mk (by repeat (first | exact SubE.nil | refine SubE.cons rfl ?_)) (by repeat (first | exact SubH.refl | exact SubH.nil | refine SubH.cons (by repeat (first | exact Pk.here | apply Pk.there)) ?_ | apply SubH.drop)))
 (dsimp only; exact ⟨by omega, by have h9 := step_ok (by omega) ho (by omega) hOK hstp; rwa [show T - r + 1 = T - (r - 1) from by omega] at h9, hle.trans hleT, hrs', ⟨ee2, hse', hre'⟩, hrf', by rw [← hrun]; exact mRun_go' (by omega) (by omega) (by rw [hi, Int.toNat_natCast]; exact hstp)⟩)
 (show r - 1 < r; omega)
 refine seq_pure (pure_move rfl) rfl rfl ?_
 refine seq_pure (pure_extract rfl rfl) rfl rfl ?_
 refine seq_pure (pure_extract rfl rfl) rfl rfl ?_
 refine seq_pure (pure_assign rfl) rfl rfl ?_
 refine seq_pure (pure_assign rfl) rfl rfl ?_
 refine seq_done (nrm_seq (tri_seq (tri_region (seq_pure (pure_move rfl) rfl rfl ?_))))
 refine seq_pure (pure_neq_t rfl rfl (by omega)) rfl rfl ?_
 refine seq_done (nrm_seq (tri_cond_t rfl ?_))
 refine tri_seq (tri_region (seq_pure (pure_move rfl) rfl rfl ?_))
 refine seq_pure (pure_move rfl) rfl rfl ?_
 refine seq_pure (pure_assign rfl) rfl rfl ?_
 refine seq_pure (pure_assign rfl) rfl rfl ?_
 refine seq_pure (pure_assign rfl) rfl rfl ?_
 refine seq_done (nrm_seq (tri_ret (ret_block (ret_seq (ret_loopN (ret_block ?_))))))
 refine ret_seq (ret_fin3 (res_tmp rfl) (res_tmp rfl) (res_tmp rfl) ?_)
 (exact run_is (by rw [← hrun]; exact mRun_stop' (by omega) (by omega) (by rw [hi, Int.toNat_natCast]; exact hstp)))
 refine seq_done (nrm_seq (tri_cond_f rfl ?_))
 refine tri_exit ?_
 refine ext_seq ?_
 refine ext_loopN ?_
 refine ext_block_eq ?_
 refine nrm_seq (tri_seq (tri_seq (tri_region (seq_pure (pure_move rfl) rfl rfl ?_))))
 refine seq_pure (pure_nilCheck rfl) rfl rfl ?_
 refine seq_pure (pure_fieldAddr0 rfl) rfl rfl ?_
 refine seq_load (load_bs rfl rfl (by repeat first | exact mH | apply mT) (by rfl)) rfl rfl ?_
 refine seq_pure (pure_len rfl rfl) rfl rfl ?_
 refine seq_bool (pure_neq rfl rfl) rfl rfl (fun h168 => ?_) (fun h168 => ?_)
 refine seq_pure (pure_move rfl) rfl rfl ?_
 refine seq_skip rfl rfl ?_
 refine seq_skip rfl rfl ?_
 refine seq_skip rfl rfl ?_
 refine seq_skip rfl rfl ?_
 refine seq_skip rfl rfl ?_
 refine seq_skip rfl rfl ?_
 refine seq_pure (pure_pick_t rfl rfl) rfl rfl ?_
 refine seq_done (nrm_seq (tri_cond_t rfl ?_))
 refine tri_seq (tri_region (seq_pure (pure_assign rfl) rfl rfl ?_))
 refine seq_pure (pure_assign rfl) rfl rfl ?_
 refine seq_pure (pure_assign rfl) rfl rfl ?_
 refine seq_done (nrm_seq (tri_ret (ret_seq (ret_fin3 (res_tmp rfl) (res_tmp rfl) (res_tmp rfl) ?_))))
 (exact run_is (by rw [← hrun, mRun_end (by omega), mEnd_no (by omega)]))
 refine seq_pure (pure_move rfl) rfl rfl ?_
 refine seq_pure (pure_move rfl) rfl rfl ?_
 refine seq_pure (pure_nilCheck rfl) rfl rfl ?_
 refine seq_pure (pure_fieldAddr0 rfl) rfl rfl ?_
 refine seq_load (load_bs rfl rfl (by repeat first | exact mH | apply mT) (by rfl)) rfl rfl ?_
 refine seq_pure (pure_len rfl rfl) rfl rfl ?_
 refine seq_bool (pure_gtr rfl rfl) rfl rfl (fun h197 => ?_) (fun h197 => ?_)
 refine seq_pure (pure_pick_f rfl rfl) rfl rfl ?_
 refine seq_done (nrm_seq (tri_cond_t rfl ?_))
 refine tri_seq ?_
 (have h1s : s.st.length = 1 := (by omega); refine tri_know (fun a w hs => hs.slc_form (p := ps) (c := cs) (el := 58) (sz := 4) (n := s.st.length) (cs := es.flatten) (by repeat first | exact mH | apply mT)) (fun hq => ?_); obtain ⟨_, _, hps⟩ := hq; obtain ⟨gs, rfl⟩ := hps (by omega); obtain ⟨e0, he0, hv0⟩ := hrs.get (i := 0) (getD_some' (d := mv0) (by omega)); have hv0' := hv0; obtain ⟨_, _, _, _, _, _, rfl, _⟩ := hv0'.open; have hsv := (fun (j : Nat) (v : Value) hj => flat_get hrs.all he0 j v hj))
 refine tri_region (seq_pure (pure_assign rfl) rfl rfl ?_)
 refine seq_pure (pure_assign rfl) rfl rfl ?_
 refine seq_pure (pure_assign rfl) rfl rfl ?_
 refine seq_done (nrm_seq (tri_ret (ret_seq (ret_fin3 (res_tmp rfl) (res_tmp rfl) (res_tmp rfl) ?_))))
 (exact run_is (by rw [← hrun, mRun_end (by omega), mEnd_no (by omega)]))
 refine seq_pure (pure_pick_f rfl rfl) rfl rfl ?_
 refine seq_done (nrm_seq (tri_cond_f rfl ?_))
 refine tri_skip (nrm_seq (tri_seq ?_))
 (have h1s : s.st.length = 1 := (by omega); refine tri_know (fun a w hs => hs.slc_form (p := ps) (c := cs) (el := 58) (sz := 4) (n := s.st.length) (cs := es.flatten) (by repeat first | exact mH | apply mT)) (fun hq => ?_); obtain ⟨_, _, hps⟩ := hq; obtain ⟨gs, rfl⟩ := hps (by omega); obtain ⟨e0, he0, hv0⟩ := hrs.get (i := 0) (getD_some' (d := mv0) (by omega)); have hv0' := hv0; obtain ⟨_, _, _, _, _, _, rfl, _⟩ := hv0'.open; have hsv := (fun (j : Nat) (v : Value) hj => flat_get hrs.all he0 j v hj))
 refine tri_region (seq_pure (pure_move rfl) rfl rfl ?_)
 refine seq_pure (pure_nilCheck rfl) rfl rfl ?_
 refine seq_pure (pure_fieldAddr0 rfl) rfl rfl ?_
 refine seq_load (load_bs rfl rfl (by repeat first | exact mH | apply mT) (by rfl)) rfl rfl ?_
 refine seq_pure (pure_indexAddrN (j := 0) rfl rfl rfl (by omega)) rfl rfl ?_
 refine seq_load (load_a rfl rfl (at_slc (by repeat first | exact mH | apply mT) hsv) rfl) rfl rfl ?_
 refine seq_val rfl ((text_fn (s.st.getD 0 mv0) n (T - r) Gj _ hT (ho.sto _ (getD_mem' (by omega))) hv0)) rfl rfl ?_
 refine seq_pure (pure_assign rfl) rfl rfl ?_
 refine seq_pure (pure_assign rfl) rfl rfl ?_
 refine seq_pure (pure_assign rfl) rfl rfl ?_
 refine seq_done (nrm_seq (tri_ret (ret_fin3 (res_tmp rfl) (res_tmp rfl) (res_tmp rfl) ?_)))
 (exact run_is (by rw [← hrun, mRun_end (by omega), mEnd_yes h1s (by omega)]))
 refine seq_pure (pure_not_f rfl) rfl rfl ?_
 refine seq_pure (pure_pick_f rfl rfl) rfl rfl ?_
 refine seq_done (nrm_seq (tri_cond_t rfl ?_))
 refine tri_seq (tri_region (seq_pure (pure_assign rfl) rfl rfl ?_))
 refine seq_pure (pure_assign rfl) rfl rfl ?_
 refine seq_pure (pure_assign rfl) rfl rfl ?_
 refine seq_done (nrm_seq (tri_ret (ret_seq (ret_fin3 (res_tmp rfl) (res_tmp rfl) (res_tmp rfl) ?_))))
 (exact run_is (mRunOps_no (by rintro ⟨h1, h2, h3⟩; first | (simp only [withinB, decide_eq_false_iff_not] at *; omega) | exact Bool.noConfusion (h1.symm.trans (show mOpsOk ops = false from (by assumption))))))
 refine seq_pure (pure_not_f rfl) rfl rfl ?_
 refine seq_pure (pure_move rfl) rfl rfl ?_
 refine seq_skip rfl rfl ?_
 refine seq_skip rfl rfl ?_
 refine seq_skip rfl rfl ?_
 refine seq_pure (pure_pick_t rfl rfl) rfl rfl ?_
 refine seq_done (nrm_seq (tri_cond_t rfl ?_))
 refine tri_seq (tri_region (seq_pure (pure_assign rfl) rfl rfl ?_))
 refine seq_pure (pure_assign rfl) rfl rfl ?_
 refine seq_pure (pure_assign rfl) rfl rfl ?_
 refine seq_done (nrm_seq (tri_ret (ret_seq (ret_fin3 (res_tmp rfl) (res_tmp rfl) (res_tmp rfl) ?_))))
 (exact run_is (mRunOps_no (by rintro ⟨h1, h2, h3⟩; first | (simp only [withinB, decide_eq_false_iff_not] at *; omega) | exact Bool.noConfusion (h1.symm.trans (show mOpsOk ops = false from (by assumption))))))
end Gw
end Go.Proofs.YtaoaeilognhfpaaDoor
namespace Go.Proofs.YtaoaeilognhfpaaDoor
open Go Go.RowKit
namespace Gw
end Gw
end Go.Proofs.YtaoaeilognhfpaaDoor
namespace Go.Proofs.YtaoaeilognhfpaaDoor
open Go Go.RowKit Go.ChangeShapes Go.WideShapes Go.ChangeAt
namespace Gw
section read
variable {H : Type} {enc : TypeId × Value → H} {w : World} {sp : Nat → Bool} {held : Bool}
end read
theorem gPow : Tryd.prog.globalNamed "internal/strconv.uint64pow10" = some 0 := by kernel_rfl
theorem gPowT : (Tryd.prog.globals[0]?).map (·.type) = some 138 := by kernel_rfl
theorem cellsPow : Tryd.prog.cellsOf 138 = 20 := by kernel_rfl
theorem cellsU64 : Tryd.prog.cellsOf 128 = 1 := by kernel_rfl
/-- What the rows list. -/
def laidTabs : List (String × DataW Unit) := [("math/bits.deBruijn32tab", Rows.laid_math_bits_deBruijn32tab), ("math/bits.deBruijn64tab", Rows.laid_math_bits_deBruijn64tab), ("internal/strconv.uint64pow10", Rows.laid_internal_strconv_uint64pow10)]
theorem tabG_of_laid {W : World} (h : laidMetH Tryd.prog laidTabs W) : TabG (GW W) := by
 have h1 : laidMet Tryd.prog laidTabs W := h
 have h3 := h1.tail.tail
 have ht : Lib.TabIs Tryd.prog W "internal/strconv.uint64pow10" .u64 Lib.pow10Tab :=
  Lib.tabIs_of_head (rest := []) gPow gPowT Tryd.underlying138 Tryd.underlying128 cellsU64 cellsPow h3
 refine ⟨0, gPow, ?_⟩
 unfold Lib.TabIs World.var? at ht
 rw [gPow] at ht
 simp only [Option.bind_some] at ht
 unfold GW
 split at ht
 ·rename_i c e f hb
  rw [hb]
  have := Option.some.inj ht
  simp [this]
 ·cases ht
def tabVals : DataW Unit → Array Value
 | .agg xs => (xs.map fun | .lit (.int k n) => Value.int k n | _ => .int .i64 0).toArray
 | _ => #[]
def putTab (xs : Array Value) : Obj → Obj
 | .cells _ t f => .cells xs t f
 | o => o
/-- A world for the witness: the settled one, the tables holding what their initialisers lay. -/
noncomputable def laidWorld (os : Os) : World :=
 { World.holding Tryd.prog os ⟨#[], #[], []⟩ with heap := (((World.holding Tryd.prog os ⟨#[], #[], []⟩).heap.modify 0 (putTab (tabVals Rows.laid_internal_strconv_uint64pow10))).modify 1 (putTab (tabVals Rows.laid_math_bits_deBruijn32tab))).modify 2 (putTab (tabVals Rows.laid_math_bits_deBruijn64tab)) }
end Gw
end Go.Proofs.YtaoaeilognhfpaaDoor
namespace Go.Proofs.YtaoaeilognhfpaaDoor
open Go Go.RowKit Go.ChangeShapes Go.WideShapes Go.ChangeAt
namespace Gw
section read2
variable {H : Type} {enc : TypeId × Value → H} {w : World} {sp : Nat → Bool} {held : Bool}
end read2
end Gw
end Go.Proofs.YtaoaeilognhfpaaDoor
namespace Go.Proofs.YtaoaeilognhfpaaDoor
open Go Go.RowKit Go.ChangeShapes Go.WideShapes Go.ChangeAt
namespace Gw
theorem cellsU : Tryd.prog.cellsOf 5 = 1 := by kernel_rfl
theorem build_byte {q : Nat → Value → Prop} : ∀ {n : Nat}, (∀ i, i < n → ∃ k : UInt8, q i (.int .u8 (k.toNat : Int))) → ∃ l : List UInt8, l.length = n ∧ ∀ i v, (byts l)[i]? = some v → q i v
 | 0, _ => ⟨[], rfl, by simp [byts]⟩
 | n + 1, h => by
  obtain ⟨l, h1, h2⟩ := build_byte (n := n) fun i hi => h i (by omega)
  obtain ⟨k, hk⟩ := h n (by omega)
  refine ⟨l ++ [k], by simp [h1], fun i v hv => ?_⟩
  rw [show byts (l ++ [k]) = byts l ++ [.int .u8 (k.toNat : Int)] from by simp [byts], List.getElem?_append] at hv
  split at hv
  ·exact h2 i v hv
  ·rename_i hi
   rw [byts_len] at hi hv
   have : i - l.length = 0 := by
    have := (List.getElem?_eq_some_iff.1 hv).1; simp at this; omega
   rw [this] at hv; simp at hv; subst hv
   rw [show i = n by omega]; exact hk
section read2
variable {H : Type} {enc : TypeId × Value → H} {w : World} {sp : Nat → Bool} {held : Bool}
set_option maxRecDepth 100000 in
theorem read_bytes (n : Nat) (cs : List Value) (x : DataW H × List MemPlace) (h : DataW.trod enc Tryd.prog w 0 sp held n 30 cs = some x) : ∃ (l : List UInt8) (p : Option Addr) (c : Nat), cs = [.slice p l.length c] ∧ Sl (GW w) p l.length c 1 (byts l) := by
 rcases DataW.trod_slice Tryd.underlying30 h with ⟨rfl, _⟩ | ⟨ad, len, cap, elems, rest, n', rfl, rfl, _, _, hlc, hcm, hel, hele, _, _⟩
 ·exact ⟨[], none, 0, rfl, Sl.nil _ _⟩
 ·rw [cellsU] at hele
  obtain ⟨l, h1, h2⟩ := build_byte (q := fun i v => w.cells? 0 (ad.add (i * 1)) 1 = some [v]) (n := len) fun i hi => by
   have := hele i hi
   rw [List.getElem?_eq_getElem (by omega)] at this
   obtain ⟨cs', c1, c2⟩ := Option.bind_eq_some_iff.1 this
   obtain ⟨k, rfl, _, hw⟩ := DataW.trod_int Tryd.underlying5 c2
   have hk : 0 ≤ k ∧ k < 256 := by
    have hw2 : (decide ((0 : Int) ≤ k) && decide (k ≤ (255 : Int))) = true := hw
    simp only [Bool.and_eq_true, decide_eq_true_eq] at hw2
    omega
   refine ⟨UInt8.ofNat k.toNat, ?_⟩
   rw [show ((UInt8.ofNat k.toNat).toNat : Int) = k from by
    rw [UInt8.toNat_ofNat']; omega]
   exact c1
  subst h1
  refine ⟨l, some ad, cap, rfl, ?_⟩
  have := sl_read (w := w) (a := ad) (n := l.length) (c := cap) (sz := 1) (es := (byts l).map fun v => [v]) (by simp [byts_len]) (by omega) hlc hcm fun i e he => by
   rw [List.getElem?_map] at he
   cases hv : (byts l)[i]? with
   | none => rw [hv] at he; simp at he
   | some v => rw [hv] at he; simp at he; subst he; exact h2 i v hv
  have hf : ((byts l).map fun v => [v]).flatten = byts l := by
   generalize byts l = L
   induction L with
   | nil => rfl
   | cons a L ih => simp [ih]
  rwa [hf] at this
end read2
end Gw
end Go.Proofs.YtaoaeilognhfpaaDoor
namespace Go.Proofs.YtaoaeilognhfpaaDoor
open Go Go.RowKit
namespace Gw
section
variable {ops : Opl}
/-- With more instructions, a run that ended has the same result. -/
theorem mRun_more : ∀ (t : Nat) (s : MSt) (m : Nat), (mRun ops t s).2.1 ≠ 5 → mRun ops (t + m) s = mRun ops t s
 | 0, s, m, h => by
  by_cases he : (ops.length : Int) ≤ s.at'
  ·rw [mRun_end he, mRun_end he]
  ·rw [mRun_much he] at h; exact absurd rfl h
 | t + 1, s, m, h => by
  by_cases he : (ops.length : Int) ≤ s.at'
  ·rw [mRun_end he, mRun_end he]
  ·rw [show t + 1 + m = (t + m) + 1 from by omega]
   rcases hs : mStep (ops.getD s.at'.toNat (0, 0)).1 (ops.getD s.at'.toNat (0, 0)).2 s with s' | ⟨c, e⟩
   ·rw [mRun_go he hs] at h
    rw [mRun_go he hs, mRun_go he hs]
    exact mRun_more t s' m h
   ·rw [mRun_stop he hs, mRun_stop he hs]
theorem mRunOps_more {ticks : Int} {m : Nat} (h0 : 0 ≤ ticks) (h1 : ticks ≤ 1900) (hm : m < 100) (h : (mRunOps ops ticks).2.1 ≠ 5) : mRunOps ops (ticks + m) = mRunOps ops ticks := by
 unfold mRunOps at h ⊢
 by_cases hv : mOpsOk ops = true
 ·rw [if_pos ⟨hv, by omega, by omega⟩] at h
  rw [if_pos ⟨hv, by omega, by omega⟩, if_pos ⟨hv, by omega, by omega⟩, show (ticks + m).toNat = ticks.toNat + m from by omega]
  exact mRun_more _ _ _ h
 ·rw [if_neg (fun h => hv h.1), if_neg (fun h => hv h.1)]
theorem dec_ne (n : Nat) : Lib.decDigits n ≠ [] := by
 unfold Lib.decDigits
 split <;> simp
theorem mvText_ne (v : MV) : mvText v ≠ ⟨#[]⟩ := by
 unfold mvText
 intro h
 split at h
 ·have h2 := congrArg ByteArray.data h
  simp only at h2
  have h3 := congrArg Array.toList h2
  simp only [List.toList_toArray] at h3
  exact dec_ne _ h3
 ·split at h
  ·split at h <;> exact absurd (congrArg ByteArray.size h) (by decide)
  ·split at h <;> exact absurd (congrArg ByteArray.size h) (by decide)
theorem mStep_err2 {k a : Int} {s : MSt} {c e : Int} (h : mStep k a s = .inr (c, e)) : (c = 3 ∧ e = 0) ∨ (c = 2 ∧ e ≠ 0) := by
 unfold mStep at h
 split at h
 ·cases h; exact .inl ⟨rfl, rfl⟩
 ·split at h
  ·have := mGo_err h; cases this; exact .inl ⟨rfl, rfl⟩
  ·rename_i hk
   cases h
   right
   refine ⟨rfl, fun h0 => hk ?_⟩
   have hw : (mWant k).2.1 = 0 := by
    unfold mWant at h0 ⊢
    (repeat' split at h0) <;> first | (exfalso; revert h0; decide) | skip
    rename_i h1 h2 h3 h4
    rw [if_neg h1, if_neg h2, if_neg h3, if_neg h4]
   unfold mKinds
   rw [hw]; simp
/-- What a result says: a text where it is a value, an error where it is a blame. -/
def Said (r : ByteArray × Int × Int) : Prop := (r.1 ≠ ⟨#[]⟩ ↔ r.2.1 = 0) ∧ (r.2.2 ≠ 0 ↔ r.2.1 = 2)
theorem Said.stuck : Said (⟨#[]⟩, 3, 0) := by unfold Said; simp
theorem Said.much : Said (⟨#[]⟩, 5, 0) := by unfold Said; simp
theorem mEnd_said (s : MSt) : Said (mEnd s) := by
 unfold mEnd; split
 ·exact Said.stuck
 ·have := mvText_ne (s.st.getD 0 mv0)
  exact ⟨⟨fun _ => rfl, fun _ => this⟩, ⟨fun h => absurd rfl h, fun h => absurd h (by show ¬((0 : Int) = 2); decide)⟩⟩
theorem mRun_said : ∀ (t : Nat) (s : MSt), Said (mRun ops t s)
 | 0, s => by
  by_cases he : (ops.length : Int) ≤ s.at'
  ·rw [mRun_end he]; exact mEnd_said s
  ·rw [mRun_much he]; exact Said.much
 | t + 1, s => by
  by_cases he : (ops.length : Int) ≤ s.at'
  ·rw [mRun_end he]; exact mEnd_said s
  ·rcases hs : mStep (ops.getD s.at'.toNat (0, 0)).1 (ops.getD s.at'.toNat (0, 0)).2 s with s' | ⟨c, e⟩
   ·rw [mRun_go he hs]; exact mRun_said t s'
   ·rw [mRun_stop he hs]
    rcases mStep_err2 hs with ⟨rfl, rfl⟩ | ⟨rfl, h⟩
    ·exact Said.stuck
    ·unfold Said; simp [h]
theorem mRunOps_said (ops : Opl) (ticks : Int) : Said (mRunOps ops ticks) := by
 unfold mRunOps; split
 ·exact mRun_said _ _
 ·exact Said.stuck
end
/- Values with the indices of functions one more. -/
mutual
def sh : MV → MV
 | .mk k num env parts => .mk k (if k = 2 then num + 1 else num) (shL env) (shL parts)
def shL : List MV → List MV
 | [] => []
 | v :: vs => sh v :: shL vs
end
def shF (f : Int × List MV) : Int × List MV := (f.1 + 1, f.2.map sh)
def shS (s : MSt) : MSt := ⟨s.at' + 1, s.st.map sh, s.env.map sh, s.fr.map shF⟩
def shR : MSt ⊕ (Int × Int) → MSt ⊕ (Int × Int)
 | .inl s => .inl (shS s)
 | .inr x => .inr x
section
variable {ops : Opl}
end
end Gw
end Go.Proofs.YtaoaeilognhfpaaDoor
