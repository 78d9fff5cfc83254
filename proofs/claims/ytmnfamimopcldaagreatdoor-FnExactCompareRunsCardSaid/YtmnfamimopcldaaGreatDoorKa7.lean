/-
  The reference's StepCast, EvalCast, RunTerm. CompareRuns, on both sides. The law FnExactCompareRuns: its walk.
-/
import Derived.Test.YtmnfamimopcldaaGreatDoorKa6
import Derived.Test.YtmnfamimopcldaaGreatDoorKa3
import Derived.Test.YtmnfamimopcldaaGreatDoorKa5
import Derived.Test.YtmnfamimopcldaaGreatDoorKa1
import Derived.Test.YtmnfamimopcldaaGreatDoorKa2
set_option linter.unusedVariables false
set_option linter.unusedSimpArgs false
set_option maxHeartbeats 0
set_option maxRecDepth 100000
set_option synthInstance.maxSize 4000
set_option synthInstance.maxHeartbeats 0
namespace Go.Proofs.YtmnfamimopcldaaGreatDoor
open Go Go.RowKit
namespace Gw
theorem stp_cnt {t : Tm} (h : castValid t = true) : (mStp t).1.small ∧ tmCount (mStp t).1 ≤ 40300 := by
 obtain ⟨h1, h2⟩ := cv_of h
 have := stp_small t (cv_small t h1) h2
 exact ⟨this.1, by omega⟩
theorem sStepCast_fn (t : Tm) (G : IM) (cells : List Value) (hcnt : tmCount t ≤ 4294967296) (hr : RTm G t cells) : Fn Tryz.prog 105 [.agg ⟨cells⟩] [] G (StpX (mStepCast t)) := by
 have hRl := hr.len
 have hRo := hr.one
 have hV := sCastValid_fn t G cells hcnt hr
 have e1 := @stepCast_1 t
 have e2 := @stepCast_2 t
 have e3 := @stepCast_3 t
 have e4 := @stepCast_4 t
 have e5 := @stepCast_5 t
 have hsc := @stp_cnt t
 refine fn_enter Tryz.func105 rfl Tryz.ntmps105 Tryz.results105 rfl ?_
 intro w0
 refine tS (tR ?_)
 refine sE (step_box_a rfl rfl) rfl (fun b3 => ?_)
 refine sE (step_alloc rfl) rfl (fun b4 => ?_)
 refine sQ (pA rfl) rfl (sQ (pA rfl) rfl (sD (nS (tS (tS (tR ?_))))))
 refine sL (load_a rfl rfl (at_blk_all (by repeat first | exact mH | apply mT)) hRl) rfl rfl ?_
 refine seq_valb rfl (hV) rfl rfl (fun h13 => ?_) (fun h13 => ?_)
 refine sQ (pNt rfl) rfl (sD (nS (cF rfl ?_)))
 refine tK (nS (tS (tS (tR (sL (load_a rfl rfl (at_blk_all (by repeat first | exact mH | apply mT)) hRl) rfl rfl ?_)))))
 refine seq_valb rfl ((l5Value_fn t G cells (cv_of (by assumption)).1 hr)) rfl rfl (fun h24 => ?_) (fun h24 => ?_)
 refine sD (nS (cT rfl ?_))
 refine tS (tR (sL (load_a rfl rfl (at_blk_all (by repeat first | exact mH | apply mT)) hRl) rfl rfl ?_))
 (refine seq_imm rfl (l2Copy_fn t G cells (cV_small (by assumption)) hr) rfl rfl (fun v G1 hle1 hh => ?_); obtain ⟨cs1, F1, rfl, hs1, hn1⟩ := hh; have hul := hs1.R.len; have huo := hs1.R.one)
 refine sS rfl rfl rfl hul huo rfl ?_ (hu := by exact upd_all hul.symm)
 refine sQ (pA rfl) rfl (sQ (pA rfl) rfl (sD (nS (tT (rS (rF3 (rC rfl (load_a rfl rfl (at_blk_all (by repeat first | exact mH | apply mT)) hul)) (rT rfl) (rT rfl) ?_))))))
 (exact StpX.mk (e2 (by assumption) (by assumption)) (hs1.R.mono (Dif.le _ _)))
 refine sD (nS (cF rfl ?_))
 refine tK (nS (tS (tR (sL (load_a rfl rfl (at_blk_all (by repeat first | exact mH | apply mT)) hRl) rfl rfl ?_))))
 (have hcv : castValid t = true := (by assumption); have hnv : mVal t = false := (by assumption); obtain ⟨hsc1, hsc2⟩ := hsc hcv; replace e3 := e3 hcv hnv; replace e4 := e4 hcv hnv; replace e5 := e5 hcv hnv; refine seq_imm rfl (l5Step_fn t G cells (cv_of hcv).1 hnv hr) rfl rfl (fun v G1 hle1 hh => ?_); obtain ⟨uc, hvv, hru⟩ := hh; have hul := hru.len; have huo := hru.one; generalize mStp t = r at hvv hru hsc1 hsc2 e3 e4 e5; obtain ⟨u, cc, ll⟩ := r; simp only at hvv hru hsc1 hsc2 e3 e4 e5; subst hvv; have hVu := sCastValid_fn u G1 uc (by omega) hru)
 refine sQ (pM rfl) rfl (sQ (pX rfl rfl) rfl (sQ (pX rfl rfl) rfl (sQ (pX rfl rfl) rfl ?_)))
 refine sE (step_alloc rfl) rfl (fun b54 => ?_)
 refine sS rfl rfl rfl hul huo rfl ?_ (hu := by exact upd_all hul.symm)
 refine sQ (pA rfl) rfl (sQ (pA rfl) rfl (sD (nS (tS (tS (tR ?_))))))
 refine sQ (pM rfl) rfl (sB (pure_neq rfl rfl) rfl rfl (fun h64 => ?_) (fun h64 => ?_))
 refine sD (nS (cT rfl ?_))
 refine tS (tR (sQ (pBd rfl rfl) rfl (sQ (pM rfl) rfl (sQ (pM rfl) rfl (sS' ?_)))))
 refine sQ (pA rfl) rfl (sQ (pA rfl) rfl (sD (nS (tT (rS (rF3 (rC rfl (lBa rfl rfl)) (rT rfl) (rT rfl) ?_))))))
 (exact StpX.mk (e3 (by omega)) (tm0_r _))
 refine sD (nS (cF rfl ?_))
 refine tK (nS (tS (tS (tR (sL (load_a rfl rfl (at_blk_all (by repeat first | exact mH | apply mT)) hul) rfl rfl ?_)))))
 refine seq_valb rfl (hVu) rfl rfl (fun h91 => ?_) (fun h91 => ?_)
 refine sQ (pNt rfl) rfl (sD (nS (cF rfl ?_)))
 refine tK (nS (tS (tR (sL (load_a rfl rfl (at_blk_all (by repeat first | exact mH | apply mT)) hul) rfl rfl ?_))))
 (refine seq_imm rfl (l2Copy_fn u G1 uc hsc1 hru) rfl rfl (fun v G2 hle2 hh => ?_); obtain ⟨cs2, F2, rfl, hs2, hn2⟩ := hh; have hwl := hs2.R.len; have hwo := hs2.R.one)
 refine sS rfl rfl rfl hwl hwo rfl ?_ (hu := by exact upd_all hwl.symm)
 refine sQ (pA rfl) rfl (sQ (pA rfl) rfl (sD (nS (tT (rF3 (rC rfl (load_a rfl rfl (at_blk_all (by repeat first | exact mH | apply mT)) hwl)) (rT rfl) (rT rfl) ?_)))))
 (exact StpX.mk (e5 (by omega) (by assumption)) (hs2.R.mono (Dif.le _ _)))
 refine sQ (pNf rfl) rfl (sD (nS (cT rfl ?_)))
 refine tS (tR (sQ (pBd rfl rfl) rfl (sS' ?_)))
 refine sQ (pA rfl) rfl (sQ (pA rfl) rfl (sD (nS (tT (rS (rF3 (rC rfl (lBa rfl rfl)) (rT rfl) (rT rfl) ?_))))))
 (exact StpX.mk (e4 (by omega) (by assumption)) (tm0_r _))
 refine sQ (pNf rfl) rfl (sD (nS (cT rfl ?_)))
 refine tS (tR (sQ (pBd rfl rfl) rfl (sS' ?_)))
 refine sQ (pA rfl) rfl (sQ (pA rfl) rfl (sD (nS (tT (rS (rF3 (rC rfl (lBa rfl rfl)) (rT rfl) (rT rfl) ?_))))))
 (exact StpX.mk (e1 (by assumption)) (tm0_r _))
theorem evE_end {m i : Nat} {e : Tm} (h : (mStepCast e).2.1 ≠ 1) : evAdd i (mEv m e) = ((mStepCast e).1, (mStepCast e).2.1, (mStepCast e).2.2, i) := by
 cases m with
 | zero => rw [mEv, if_neg h]; simp [evAdd]
 | succ m => rw [mEv, if_neg h]; simp [evAdd]
theorem evE_much {m i : Nat} {e : Tm} (h : (mStepCast e).2.1 = 1) (hm : m = 0) : evAdd i (mEv m e) = (tm0, 5, 0, i) := by
 subst hm; rw [mEv, if_pos h]; simp [evAdd]
theorem evE_go {m i : Nat} {e : Tm} (h : (mStepCast e).2.1 = 1) (hm : 0 < m) : evAdd i (mEv m e) = evAdd (i + 1) (mEv (m - 1) (mStepCast e).1) := by
 obtain ⟨k, rfl⟩ : ∃ k, m = k + 1 := ⟨m - 1, by omega⟩
 rw [mEv, if_pos h]; simp only [evAdd, Nat.add_sub_cancel, Nat.add_assoc, Nat.add_comm 1 i]
theorem l5Eval_fn (e : Tm) (n : Nat) (hn : n ≤ 300) (G : IM) (cells : List Value) (hcnt : tmCount e ≤ 4294967296) (hr : RTm G e cells) : Fn Tryz.prog 67 [.agg ⟨cells⟩, .int .i64 (n : Int)] [] G (EvP (mEv n e)) := by
 have hRl := hr.len
 have hRo := hr.one
 refine fn_enter Tryz.func67 rfl Tryz.ntmps67 Tryz.results67 rfl ?_
 intro w0
 refine tS (tR ?_)
 refine sE (step_box_a rfl rfl) rfl (fun b3 => ?_)
 refine sE (step_alloc rfl) rfl (fun b4 => ?_)
 refine sQ (pA rfl) rfl (sQ (pA rfl) rfl (sQ (pA rfl) rfl (sD (nS (tS (tR ?_))))))
 refine sQ (pA rfl) rfl (sD (nS (tri_block ?_)))
 (refine tri_loopN (fun (x : Nat × Tm × List Value × IM) => ⟨[(8, .int .i64 (x.1 : Int)), (1, .int .i64 (n : Int)), (2, .pointer (some ⟨b3, 0, none⟩)), (4, .pointer (some ⟨b4, 0, none⟩))], [.blk b3 x.2.2.1, .blk b4 [.int .i64 0, .string ⟨⟨[]⟩⟩, .int .i64 0, .int .i64 0, .slice none 0 0, .int .i64 0, .slice none 0 0, .int .i64 0, .slice none 0 0]], x.2.2.2⟩) (fun x => x.1 ≤ n ∧ IMle G x.2.2.2 ∧ RTm x.2.2.2 x.2.1 x.2.2.1 ∧ tmCount x.2.1 ≤ 4294967296 ∧ evAdd x.1 (mEv (n - x.1) x.2.1) = mEv n e) (fun x => n - x.1) (0, e, cells, G) ?_ ?_ ?_)
 (simp only [flat_snoc]; exact sMk)
 (exact ⟨Nat.zero_le _, IMle.refl _, hr, hcnt, rfl⟩)
 (rintro ⟨i, u, uc, Gi⟩ ⟨hi, hle, hru, hcu, hev⟩; simp only [] at hi hle hru hcu hev ⊢; have hul := hru.len; have huo := hru.one)
 refine tS (tri_block (tS (tR (sL (load_a rfl rfl (at_blk_all (by repeat first | exact mH | apply mT)) hul) rfl rfl ?_))))
 (refine seq_imm rfl (sStepCast_fn u Gi uc hcu hru) rfl rfl (fun v G1 hle1 hh => ?_); obtain ⟨wc, hv, hrw⟩ := hh; have hwl := hrw.len; have hwo := hrw.one; have hend := @evE_end (n - i) i u; have hmu := @evE_much (n - i) i u; have hgo := @evE_go (n - i) i u; have hval := @stepCast_valid u; generalize mStepCast u = r at hv hrw hend hmu hgo hval; obtain ⟨w, c, l⟩ := r; simp only at hv hrw hend hmu hgo hval; subst hv)
 refine sQ (pM rfl) rfl (sQ (pX rfl rfl) rfl (sQ (pX rfl rfl) rfl (sQ (pX rfl rfl) rfl ?_)))
 refine sE (step_alloc rfl) rfl (fun b30 => ?_)
 refine sS rfl rfl rfl hwl hwo rfl ?_ (hu := by exact upd_all hwl.symm)
 refine sQ (pA rfl) rfl (sQ (pA rfl) rfl (sD (nS (tS (tS (tR ?_))))))
 refine sQ (pM rfl) rfl (sB (pure_neq rfl rfl) rfl rfl (fun h40 => ?_) (fun h40 => ?_))
 refine sD (nS (cT rfl ?_))
 refine tS (tR (sL (load_a rfl rfl (at_blk_all (by repeat first | exact mH | apply mT)) hwl) rfl rfl ?_))
 refine sQ (pM rfl) rfl (sQ (pM rfl) rfl (sQ (pM rfl) rfl (sS rfl rfl rfl hwl hwo rfl ?_ (hu := by exact upd_all hwl.symm))))
 refine sQ (pA rfl) rfl (sQ (pA rfl) rfl (sQ (pA rfl) rfl (sD (nS (tT (rS ?_))))))
 refine rB (rS (ret_loopN (rB (ret_fin4 (rC rfl (load_a rfl rfl (at_blk_all (by repeat first | exact mH | apply mT)) hwl)) (rT rfl) (rT rfl) (rT rfl) ?_))))
 (exact EvP.mk (by rw [← hev]; exact hend (by omega)) hrw)
 refine sD (nS (cF rfl ?_))
 refine tK (nS (tS (tS (tR (sQ (pM rfl) rfl (sQ (pM rfl) rfl ?_))))))
 refine sB (pE rfl rfl) rfl rfl (fun h74 => ?_) (fun h74 => ?_)
 refine sD (nS (cT rfl ?_))
 refine tS (tR (sQ (pBd rfl rfl) rfl (sQ (pM rfl) rfl (sS' ?_))))
 refine sQ (pA rfl) rfl (sQ (pA rfl) rfl (sQ (pA rfl) rfl (sD (nS (tT (rS ?_))))))
 refine rB (rS (ret_loopN (rB (ret_fin4 (rC rfl (lBa rfl rfl)) (rT rfl) (rT rfl) (rT rfl) ?_))))
 (exact EvP.mk (by rw [← hev]; exact hmu (by omega) (by omega)) (tm0_r _))
 refine sD (nS (cF rfl ?_))
 refine tK (nS (tR (sL (load_a rfl rfl (at_blk_all (by repeat first | exact mH | apply mT)) hwl) rfl rfl ?_)))
 refine seq_store rfl rfl rfl hwl hwo rfl (by repeat first | exact Sw.here | apply Sw.there) (by exact upd_all (hul.trans hwl.symm)) ?_
 refine sD (nrm_block (nS (tR (sQ (pM rfl) rfl (sP (pure_add rfl rfl (by omega) (by omega)) rfl rfl ?_)))))
 refine sQ (pA rfl) rfl (sD (nrm_loopN (i + 1, w, wc, G1) ?_ ?_ ?_))
 (simp only [flat_snoc]; exact sMk)
 (dsimp only; exact ⟨by omega, hle.trans hle1, hrw, by have := castValid_count (hval (by omega)); omega, by rw [← hev, hgo (by omega) (by omega), show n - (i + 1) = n - i - 1 by omega]⟩)
 (show n - (i + 1) < n - i; omega)
theorem evalCast_in {e : Tm} {fuel : Int} (h : withinB fuel 0 300 = true) : mEvalCast e fuel = ((mEv fuel.toNat e).1, (mEv fuel.toNat e).2.1, (mEv fuel.toNat e).2.2.1) := by
 unfold mEvalCast; rw [if_pos (withinB_t h)]
theorem within_no {fuel : Int} (h : fuel < 0 ∨ 300 < fuel) : withinB fuel 0 300 = false := by unfold withinB; rw [decide_eq_false (by omega)]
theorem within_yes {fuel : Int} (h : 0 ≤ fuel) (h2 : fuel ≤ 300) : withinB fuel 0 300 = true := by unfold withinB; rw [decide_eq_true ⟨h, h2⟩]
theorem sEvalCast_fn (e : Tm) (fuel : Int) (G : IM) (cells : List Value) (hcnt : tmCount e ≤ 4294967296) (hr : RTm G e cells) : Fn Tryz.prog 40 [.agg ⟨cells⟩, .int .i64 fuel] [] G (StpX (mEvalCast e fuel)) := by
 have hRl := hr.len
 have hRo := hr.one
 have hno := @evalCast_no e fuel
 have hin := @evalCast_in e fuel
 refine fn_enter Tryz.func40 rfl Tryz.ntmps40 Tryz.results40 rfl ?_
 intro w0
 refine tS (tR ?_)
 refine sE (step_box_a rfl rfl) rfl (fun b3 => ?_)
 refine sE (step_alloc rfl) rfl (fun b4 => ?_)
 refine sQ (pA rfl) rfl (sQ (pA rfl) rfl (sD (nS (tS (tS (tR ?_))))))
 refine sQ (pM rfl) rfl (sB (pure_lss rfl rfl) rfl rfl (fun h13 => ?_) (fun h13 => ?_))
 refine sQ (pM rfl) rfl (sK rfl rfl (sK rfl rfl (sQ (pPt rfl rfl) rfl (sD (nS (cT rfl ?_))))))
 refine tS (tR (sQ (pBd rfl rfl) rfl (sS' ?_)))
 refine sQ (pA rfl) rfl (sQ (pA rfl) rfl (sD (nS (tT (rS (rF3 (rC rfl (lBa rfl rfl)) (rT rfl) (rT rfl) ?_))))))
 (exact StpX.mk (hno (within_no (by omega))) (tm0_r _))
 refine sQ (pM rfl) rfl (sQ (pM rfl) rfl (sB (pure_gtr rfl rfl) rfl rfl (fun h35 => ?_) (fun h35 => ?_)))
 refine sQ (pPf rfl rfl) rfl (sD (nS (cT rfl ?_)))
 refine tS (tR (sQ (pBd rfl rfl) rfl (sS' ?_)))
 refine sQ (pA rfl) rfl (sQ (pA rfl) rfl (sD (nS (tT (rS (rF3 (rC rfl (lBa rfl rfl)) (rT rfl) (rT rfl) ?_))))))
 (exact StpX.mk (hno (within_no (by omega))) (tm0_r _))
 refine sQ (pPf rfl rfl) rfl (sD (nS (cF rfl ?_)))
 refine tK (nS (tS (tR (sL (load_a rfl rfl (at_blk_all (by repeat first | exact mH | apply mT)) hRl) rfl rfl ?_))))
 refine sQ (pM rfl) rfl ?_
 (have hE := l5Eval_fn e fuel.toNat (by omega) G cells hcnt hr; rw [Int.toNat_of_nonneg (by omega)] at hE; have hin := hin (within_yes (by omega) (by omega)); refine seq_imm rfl hE rfl rfl (fun v G1 hle1 hh => ?_); obtain ⟨wc, hv, hrw⟩ := hh; have hwl := hrw.len; have hwo := hrw.one; generalize mEv fuel.toNat e = r at hv hrw hin; obtain ⟨w, c, l, i⟩ := r; simp only at hv hrw hin; subst hv)
 refine sQ (pM rfl) rfl (sQ (pX rfl rfl) rfl (sQ (pX rfl rfl) rfl (sQ (pX rfl rfl) rfl (sQ (pX rfl rfl) rfl ?_))))
 refine sE (step_alloc rfl) rfl (fun b68 => ?_)
 refine sS rfl rfl rfl hwl hwo rfl ?_ (hu := by exact upd_all hwl.symm)
 refine sQ (pA rfl) rfl (sQ (pA rfl) rfl (sQ (pA rfl) rfl (sD (nS (tS (tR ?_))))))
 refine sL (load_a rfl rfl (at_blk_all (by repeat first | exact mH | apply mT)) hwl) rfl rfl ?_
 refine sQ (pM rfl) rfl (sQ (pM rfl) rfl (sS rfl rfl rfl hwl hwo rfl ?_ (hu := by exact upd_all hwl.symm)))
 refine sQ (pA rfl) rfl (sQ (pA rfl) rfl (sD (nS (tT (rF3 (rC rfl (load_a rfl rfl (at_blk_all (by repeat first | exact mH | apply mT)) hwl)) (rT rfl) (rT rfl) ?_)))))
 (exact StpX.mk hin hrw)
theorem l5Text_fn : ∀ (t : Tm) (G : IM) (cells : List Value), cv t → mVal t = true → RTm G t cells → Fn Tryz.prog 41 [.agg ⟨cells⟩] [] G (Val (.string (mVText t)) G) := by
 refine Tm.ind fun k nm num ty fr lb ks ih G cells hc hv hr => ?_
 have hr0 := hr
 have hP := l5Proxy_fn _ G _ hr
 obtain ⟨hN, hkk⟩ := hc.node
 have hI := l5Inject_fn (.mk k nm num ty fr lb ks) G _ hN.frA hr
 have hop := hN.ops
 have hnum0 := hN.num0
 have h14 : k = 14 → ks.length = 1 := fun h => by rw [h] at hop; have : tmOps 14 = 1 := rfl; omega
 have hvp := @vt_pair k nm num ty fr lb ks
 have hvf := @vt_fun k nm num ty fr lb ks
 have hvc := @vt_cast k nm num ty fr lb ks
 have hvl := @vt_leaf k nm num ty fr lb ks
 have hvn := @val_no k nm num ty fr lb ks
 have hvy := @v_cast k nm num ty fr lb ks
 have hprx := prx_mk k nm num ty fr lb ks
 have hinj := inj_mk k nm num ty fr lb ks
 have h5 : k ≠ 10 → prx (.mk k nm num ty fr lb ks) = false → inj (.mk k nm num ty fr lb ks) = false → k = 2 ∨ k = 3 ∨ k = 4 ∨ k = 5 := fun h1 h2 h3 => by
  have := hvn h1 h2 h3; rw [hv] at this; exact of_decide_eq_true this.symm
 have hdis : prx (.mk k nm num ty fr lb ks) = true → inj (.mk k nm num ty fr lb ks) = false := fun h => by
  rw [hprx] at h; have := of_decide_eq_true h; rw [hinj, decide_eq_false (by omega)]; rfl
 have hik : inj (.mk k nm num ty fr lb ks) = true → k = 14 := fun h => inj_k h
 have hpk : prx (.mk k nm num ty fr lb ks) = true → k = 14 ∧ ty.k = fr.k := fun h => by rw [hprx] at h; have := of_decide_eq_true h; exact ⟨this.1, this.2.1.symm⟩
 have hkv := fun (h : inj (.mk k nm num ty fr lb ks) = true) => (hvy (.inr h) (h14 (hik h))).symm.trans hv
 obtain ⟨j, hj⟩ : ∃ j : Nat, num = j := ⟨num.toNat, by omega⟩
 have hdec := dec_fn j (by omega) G
 generalize hpx : prx (.mk k nm num ty fr lb ks) = bp at *
 generalize hij : inj (.mk k nm num ty fr lb ks) = bi at *
 subst hj
 obtain ⟨tk, tks⟩ := ty
 obtain ⟨fk, fks⟩ := fr
 obtain ⟨pt, ct, pf, cf, p, c, es, rfl, hk, hnum, hlb, hty, hfr, hsl, hkl⟩ := hr.open9
 refine fn_enter Tryz.func41 rfl Tryz.ntmps41 Tryz.results41 rfl ?_
 intro w0
 refine tS (tR ?_)
 refine sE (step_box_a rfl rfl) rfl (fun b3 => ?_)
 refine sQ (pA rfl) rfl (sD (nS (tS (tri_block (tS (tR ?_))))))
 refine sQ (pF0 rfl) rfl (sL (lBs rfl rfl) rfl rfl ?_)
 refine sB (pE rfl rfl) rfl rfl (fun h13 => ?_) (fun h13 => ?_)
 refine sQ (pA rfl) rfl (sD (nS (cT rfl ?_)))
 refine tS (tR (sQ (pF0 rfl) rfl (sL (lBs rfl rfl) rfl rfl ?_)))
 refine seq_val rfl (hdec) rfl rfl ?_
 refine sQ (pA rfl) rfl (sD (nS (tT (rB (rS (rF1 (rT rfl) ?_))))))
 (have hbp : bp = false := (by cases hb : bp with | false => rfl | true => (have := (hpk hb).1; omega)); refine ⟨rfl, congrArg Value.string ?_, rfl⟩; rw [hvl hbp (by omega) (by omega) (by omega)]; unfold mLeaf; first | (rw [if_pos (by omega)]; rfl) | (rw [if_neg (by omega), if_pos (by omega)]; rfl) | (rw [if_neg (by omega), if_neg (by omega)]; rfl))
 refine sQ (pA rfl) rfl (sD (nS (cF rfl ?_)))
 refine tS (tR (sQ (pF0 rfl) rfl (sL (lBs rfl rfl) rfl rfl ?_)))
 refine sB (pE rfl rfl) rfl rfl (fun h39 => ?_) (fun h39 => ?_)
 refine sQ (pA rfl) rfl (sD (nS (cT rfl ?_)))
 refine tS (tR (sQ (pA rfl) rfl (sD (nS (tT (rB ?_))))))
 refine rS (rF1 (rT rfl) ?_)
 (have hbp : bp = false := (by cases hb : bp with | false => rfl | true => (have := (hpk hb).1; omega)); refine ⟨rfl, congrArg Value.string ?_, rfl⟩; rw [hvl hbp (by omega) (by omega) (by omega)]; unfold mLeaf; first | (rw [if_pos (by omega)]; rfl) | (rw [if_neg (by omega), if_pos (by omega)]; rfl) | (rw [if_neg (by omega), if_neg (by omega)]; rfl))
 refine sQ (pA rfl) rfl (sD (nS (cF rfl ?_)))
 refine tS (tR (sQ (pF0 rfl) rfl (sL (lBs rfl rfl) rfl rfl ?_)))
 refine sB (pE rfl rfl) rfl rfl (fun h62 => ?_) (fun h62 => ?_)
 refine sQ (pA rfl) rfl (sD (nS (cT rfl ?_)))
 refine tS (tR (sQ (pA rfl) rfl (sD (nS (tT (rB ?_))))))
 refine rS (rF1 (rT rfl) ?_)
 (have hbp : bp = false := (by cases hb : bp with | false => rfl | true => (have := (hpk hb).1; omega)); refine ⟨rfl, congrArg Value.string ?_, rfl⟩; rw [hvl hbp (by omega) (by omega) (by omega)]; unfold mLeaf; first | (rw [if_pos (by omega)]; rfl) | (rw [if_neg (by omega), if_pos (by omega)]; rfl) | (rw [if_neg (by omega), if_neg (by omega)]; rfl))
 refine sQ (pA rfl) rfl (sD (nS (cF rfl ?_)))
 refine tS (tR (sQ (pF0 rfl) rfl (sL (lBs rfl rfl) rfl rfl ?_)))
 refine sB (pE rfl rfl) rfl rfl (fun h85 => ?_) (fun h85 => ?_)
 refine sQ (pM rfl) rfl (sK rfl rfl (sK rfl rfl (sK rfl rfl (sK rfl rfl (sK rfl rfl (sK rfl rfl ?_))))))
 refine sK rfl rfl (sK rfl rfl (sQ (pPt rfl rfl) rfl (sQ (pA rfl) rfl (sD (nS (cT rfl ?_))))))
 refine tS (tR (sQ (pA rfl) rfl (sD (nS (tT (rB ?_))))))
 refine rS (rF1 (rT rfl) ?_)
 (refine ⟨rfl, congrArg Value.string ?_, rfl⟩; rw [hvp (by first | exact .inl (by omega) | exact .inr ⟨by assumption, by have := (hpk (by assumption)).2; simp only [Ty.k] at this ⊢; omega⟩)]; rfl)
 refine sQ (pM rfl) rfl (sL (lBa rfl rfl) rfl rfl ?_)
 refine seq_valb rfl (hP) rfl rfl (fun h112 => ?_) (fun h112 => ?_)
 refine sQ (pM rfl) rfl (sQ (pF0 rfl) rfl (sQ (pF rfl) rfl (sL (lBs rfl rfl) rfl rfl ?_)))
 refine sB (pE rfl rfl) rfl rfl (fun h117 => ?_) (fun h117 => ?_)
 refine sQ (pPt rfl rfl) rfl (sQ (pPf rfl rfl) rfl (sQ (pA rfl) rfl (sD (nS (cT rfl ?_)))))
 refine tS (tR (sQ (pA rfl) rfl (sD (nS (tT (rB ?_))))))
 refine rS (rF1 (rT rfl) ?_)
 (refine ⟨rfl, congrArg Value.string ?_, rfl⟩; rw [hvp (by first | exact .inl (by omega) | exact .inr ⟨by assumption, by have := (hpk (by assumption)).2; simp only [Ty.k] at this ⊢; omega⟩)]; rfl)
 refine sQ (pPt rfl rfl) rfl (sQ (pPf rfl rfl) rfl (sQ (pA rfl) rfl (sD (nS (cF rfl ?_)))))
 refine tS (tR (sL (lBa rfl rfl) rfl rfl ?_))
 refine seq_valb rfl (hI) rfl rfl (fun h143 => ?_) (fun h143 => ?_)
 refine sQ (pA rfl) rfl (sD (nS (cT rfl ?_)))
 refine tS (tR (sQ (pF0 rfl) rfl (sL (lBs rfl rfl) rfl rfl ?_)))
 (have hl1 := h14 (hik (by assumption)); obtain ⟨bx, ox, e, rfl, hl, hat, hre, hgb⟩ := hsl.kidTm hkl (i := 0) (by omega) (by omega); have hih := ih ks[0] (List.getElem_mem (by omega)) G e (hkk _ (List.getElem_mem (by omega))) (hkv (by assumption)) hre; refine sP (pIN (j := 0) rfl rfl rfl (by omega)) rfl rfl ?_)
 refine sL (load_a rfl rfl (hat _) hl) rfl rfl ?_
 refine seq_val rfl (hih) rfl rfl ?_
 refine sQ (pA rfl) rfl (sD (nS (tT (rB (rS (rF1 (rT rfl) ?_))))))
 (have hbp : bp = false := (by cases hb : bp with | false => rfl | true => (have := hdis hb; have h9 : bi = true := (by assumption); rw [h9] at this; cases this)); refine ⟨rfl, congrArg Value.string ?_, rfl⟩; rw [hvc hbp (hik (by assumption)) (by omega)])
 refine sQ (pA rfl) rfl (sD (nS (cF rfl ?_)))
 refine tK (nrm_block (nS (tS (tR (sQ (pA rfl) rfl (sD ?_))))))
 refine nS (tT (rF1 (rT rfl) ?_))
 (refine ⟨rfl, congrArg Value.string ?_, rfl⟩; rw [hvf (by rintro (h | ⟨h1, h2⟩) <;> first | omega | exact Bool.noConfusion (h1.symm.trans (show bp = false by assumption)) | (have := (hpk h1).2; simp only [Ty.k] at this h2; omega)) (by cases hb : bp with | true => exact .inr rfl | false => exact .inl (by have := h5 (by omega) hb (by assumption); omega))]; rfl)
 refine sQ (pM rfl) rfl (sK rfl rfl (sK rfl rfl (sK rfl rfl (sK rfl rfl (sQ (pPf rfl rfl) rfl (sQ (pPf rfl rfl) rfl ?_))))))
 refine sQ (pA rfl) rfl (sD (nS (cF rfl ?_)))
 refine tS (tR (sL (lBa rfl rfl) rfl rfl ?_))
 refine seq_valb rfl (hI) rfl rfl (fun h192 => ?_) (fun h192 => ?_)
 refine sQ (pA rfl) rfl (sD (nS (cT rfl ?_)))
 refine tS (tR (sQ (pF0 rfl) rfl (sL (lBs rfl rfl) rfl rfl ?_)))
 (have hl1 := h14 (hik (by assumption)); obtain ⟨bx, ox, e, rfl, hl, hat, hre, hgb⟩ := hsl.kidTm hkl (i := 0) (by omega) (by omega); have hih := ih ks[0] (List.getElem_mem (by omega)) G e (hkk _ (List.getElem_mem (by omega))) (hkv (by assumption)) hre; refine sP (pIN (j := 0) rfl rfl rfl (by omega)) rfl rfl ?_)
 refine sL (load_a rfl rfl (hat _) hl) rfl rfl ?_
 refine seq_val rfl (hih) rfl rfl ?_
 refine sQ (pA rfl) rfl (sD (nS (tT (rB (rS (rF1 (rT rfl) ?_))))))
 (have hbp : bp = false := (by cases hb : bp with | false => rfl | true => (have := hdis hb; have h9 : bi = true := (by assumption); rw [h9] at this; cases this)); refine ⟨rfl, congrArg Value.string ?_, rfl⟩; rw [hvc hbp (hik (by assumption)) (by omega)])
 refine sQ (pA rfl) rfl (sD (nS (cF rfl ?_)))
 refine tK (nrm_block (nS (tS (tR (sQ (pA rfl) rfl (sD ?_))))))
 refine nS (tT (rF1 (rT rfl) ?_))
 (refine ⟨rfl, congrArg Value.string ?_, rfl⟩; rw [hvf (by rintro (h | ⟨h1, h2⟩) <;> first | omega | exact Bool.noConfusion (h1.symm.trans (show bp = false by assumption)) | (have := (hpk h1).2; simp only [Ty.k] at this h2; omega)) (by cases hb : bp with | true => exact .inr rfl | false => exact .inl (by have := h5 (by omega) hb (by assumption); omega))]; rfl)
theorem sRunTerm_fn (e : Tm) (fuel : Int) (G : IM) (cells : List Value) (hcnt : tmCount e ≤ 4294967296) (hr : RTm G e cells) : Fn Tryz.prog 20 [.agg ⟨cells⟩, .int .i64 fuel] [] G (RunX (mRunTerm e fuel) G) := by
 have hRl := hr.len
 have hRo := hr.one
 have hno := @runTerm_no e fuel
 have hyv := fun u t => @runTerm_v e u t fuel
 have hyn := fun u t => @runTerm_n e u t fuel
 refine fn_enter Tryz.func20 rfl Tryz.ntmps20 Tryz.results20 rfl ?_
 intro w0
 refine tS (tR ?_)
 refine sE (step_box_a rfl rfl) rfl (fun b3 => ?_)
 refine sQ (pA rfl) rfl (sQ (pA rfl) rfl (sQ (pA rfl) rfl (sD (nS (tS (tR ?_))))))
 refine sL (load_a rfl rfl (at_blk_all (by repeat first | exact mH | apply mT)) hRl) rfl rfl ?_
 focus (refine seq_imm rfl (sInsertCastsX_fn e G cells hcnt hr) rfl rfl (fun v G1 hle1 hh => ?_); obtain ⟨cu, ct, rfl, hru, hrt⟩ := hh; rcases hI : mInsert e with _ | ⟨u, t⟩; rotate_left; rw [hI] at hru hrt; simp only [Option.getD_some] at hru hrt; have hgI := insert_good hI; rotate_left; rw [hI] at hru hrt; simp only [Option.getD_none] at hru hrt; simp only [Option.isSome]; rotate_left; simp only [Option.isSome]; rotate_left; all_goals (have hul := hru.len; have huo := hru.one; obtain ⟨p3, c3, e3, rfl, _⟩ := hrt.open))
 refine sQ (pM rfl) rfl (sQ (pX rfl rfl) rfl (sQ (pX rfl rfl) rfl (sQ (pX rfl rfl) rfl ?_)))
 refine sE (step_alloc rfl) rfl (fun b17 => ?_)
 refine sE (step_alloc rfl) rfl (fun b18 => ?_)
 refine sS rfl rfl rfl hul huo rfl ?_ (hu := by exact upd_all hul.symm)
 refine sS' ?_
 refine sQ (pA rfl) rfl (sD (nS (tS (tS (tR (sQ (pM rfl) rfl ?_))))))
 refine sQ (pNf rfl) rfl (sD (nS (cT rfl ?_)))
 refine tS (tR (sQ (pA rfl) rfl (sQ (pA rfl) rfl (sQ (pA rfl) rfl (sD (nS ?_))))))
 refine tT (rS (rF3 (rT rfl) (rT rfl) (rT rfl) ?_))
 (exact ⟨rfl, by rw [hno (by first | exact hI | rfl | assumption)]⟩)
 refine sQ (pM rfl) rfl (sQ (pX rfl rfl) rfl (sQ (pX rfl rfl) rfl (sQ (pX rfl rfl) rfl ?_)))
 refine sE (step_alloc rfl) rfl (fun b47 => ?_)
 refine sE (step_alloc rfl) rfl (fun b48 => ?_)
 refine sS rfl rfl rfl hul huo rfl ?_ (hu := by exact upd_all hul.symm)
 refine sS' ?_
 refine sQ (pA rfl) rfl (sD (nS (tS (tS (tR (sQ (pM rfl) rfl ?_))))))
 refine sQ (pNt rfl) rfl (sD (nS (cF rfl ?_)))
 refine tK (nS (tS (tR (sL (load_a rfl rfl (at_blk_all (by repeat first | exact mH | apply mT)) hul) rfl rfl ?_))))
 refine sQ (pM rfl) rfl ?_
 (have hyv := hyv u t hI; have hyn := hyn u t hI; have hev := @evalCast_val u fuel; refine seq_imm rfl (sEvalCast_fn u fuel G1 cu (by have := castValid_count hgI.1; omega) hru) rfl rfl (fun v G2 hle2 hh => ?_); obtain ⟨wc, hvv, hrw⟩ := hh; have hwl := hrw.len; have hwo := hrw.one; generalize mEvalCast u fuel = r at hvv hrw hyv hyn hev; obtain ⟨w, c, l⟩ := r; simp only at hvv hrw hyv hyn hev; subst hvv)
 refine sQ (pM rfl) rfl (sQ (pX rfl rfl) rfl (sQ (pX rfl rfl) rfl (sQ (pX rfl rfl) rfl ?_)))
 refine sE (step_alloc rfl) rfl (fun b73 => ?_)
 refine sS rfl rfl rfl hwl hwo rfl ?_ (hu := by exact upd_all hwl.symm)
 refine sQ (pA rfl) rfl (sQ (pA rfl) rfl (sD (nS (tS (tS (tR ?_))))))
 refine sQ (pM rfl) rfl (sB (pure_neq rfl rfl) rfl rfl (fun h83 => ?_) (fun h83 => ?_))
 refine sD (nS (cT rfl ?_))
 refine tS (tR (sQ (pM rfl) rfl (sQ (pM rfl) rfl (sQ (pA rfl) rfl (sQ (pA rfl) rfl (sQ (pA rfl) rfl ?_))))))
 refine sD (nS (tT (rS (rF3 (rT rfl) (rT rfl) (rT rfl) ?_))))
 (exact ⟨rfl, by rw [hyn (by omega)]⟩)
 refine sD (nS (cF rfl ?_))
 refine tK (nS (tS (tR (sL (load_a rfl rfl (at_blk_all (by repeat first | exact mH | apply mT)) hwl) rfl rfl ?_))))
 (obtain ⟨he1, he2, he3⟩ := hev (by omega); refine seq_val rfl (l5Text_fn w G2 wc (cv_of he1).1 he2 hrw) rfl rfl ?_)
 refine sQ (pM rfl) rfl (sQ (pA rfl) rfl (sQ (pA rfl) rfl (sQ (pA rfl) rfl (sD (nS (tT ?_))))))
 refine rF3 (rT rfl) (rT rfl) (rT rfl) ?_
 (obtain rfl : c = 0 := (by omega); subst he3; exact ⟨rfl, by rw [hyv rfl]⟩)
/-- What the comparison of two runs says, out of the two runs. -/
def cmpOf (r s : ByteArray × Int × Int) : Int := if r.2.1 = 2 then 2 else if r.2.1 ≠ 0 ∨ s.2.1 = 4 ∨ s.2.1 = 5 then 3 else if s.2.1 = 0 ∧ r.1 = s.1 then 1 else 4
def mCmp (a b : Tm) (fuel : Int) : Int := if (mTypeOf a).isSome = true ∧ tmPrecise a b = true ∧ withinB fuel 0 300 = true then cmpOf (mRunTerm a fuel) (mRunTerm b fuel) else 0
theorem cmp_no {a b : Tm} {fuel : Int} (h : ¬ ((mTypeOf a).isSome = true ∧ tmPrecise a b = true ∧ withinB fuel 0 300 = true)) : mCmp a b fuel = 0 := by unfold mCmp; rw [if_neg h]
theorem cmp_yes {a b : Tm} {fuel : Int} {s s' : ByteArray} {c c' l l' : Int} (h : (mTypeOf a).isSome = true ∧ tmPrecise a b = true ∧ withinB fuel 0 300 = true) (h1 : mRunTerm a fuel = (s, c, l)) (h2 : mRunTerm b fuel = (s', c', l')) :
  mCmp a b fuel = if c = 2 then 2 else if c ≠ 0 ∨ c' = 4 ∨ c' = 5 then 3 else if c' = 0 ∧ s = s' then 1 else 4 := by unfold mCmp; rw [if_pos h, h1, h2]; rfl
theorem compareRuns_fn (a b : Tm) (fuel : Int) (G : IM) (ca cb : List Value) (hT : TabG G) (ha : RTm G a ca) (hb : RTm G b cb) : Fn Tryz.prog 8 [.agg ⟨ca⟩, .agg ⟨cb⟩, .int .i64 fuel] [] G (Imm fun _ v => v = .int .i64 (mCmp a b fuel)) := by
 have hal := ha.len
 have hbl := hb.len
 have hao := ha.one
 have hbo := hb.one
 have hno := @cmp_no a b fuel
 have hyes := @cmp_yes a b fuel
 obtain ⟨R, hR⟩ : ∃ R, mCmp a b fuel = R := ⟨_, rfl⟩
 rw [hR] at hno
 simp only [hR] at hyes
 rw [hR]
 refine fn_enter Tryz.func8 rfl Tryz.ntmps8 Tryz.results8 rfl ?_
 intro w0
 refine tS (tR ?_)
 refine sE (step_box_a rfl rfl) rfl (fun b3 => ?_)
 refine sE (step_box_a rfl rfl) rfl (fun b4 => ?_)
 refine sQ (pA rfl) rfl (sD (nS (tS (tS (tR (sL (load_a rfl rfl (at_blk_all (by repeat first | exact mH | apply mT)) hal) rfl rfl ?_))))))
 (refine seq_imm rfl (pTypeOf_fn a G ca ha) rfl rfl (fun v1 G1 hle1 hh => ?_); obtain ⟨ct, u, rfl, hru, _⟩ := hh; obtain ⟨qt, dt, et2, rfl, _⟩ := hru.open; have ha1 := ha.mono hle1; have hb1 := hb.mono hle1; have hP := termPrecise_fn a b G1 ca cb ha1 hb1; generalize (mTypeOf a).isSome = A1 at *; generalize tmPrecise a b = A2 at *; cases A1)
 refine sQ (pM rfl) rfl (sQ (pX rfl rfl) rfl (sQ (pX rfl rfl) rfl ?_))
 refine sE (step_alloc rfl) rfl (fun b16 => ?_)
 refine sS' ?_
 refine sQ (pA rfl) rfl (sD (nS (tS (tR (sQ (pM rfl) rfl (sQ (pNf rfl) rfl ?_))))))
 refine sQ (pM rfl) rfl (sK rfl rfl (sK rfl rfl (sK rfl rfl (sK rfl rfl (sQ (pPt rfl rfl) rfl (sQ (pM rfl) rfl ?_))))))
 refine sK rfl rfl (sK rfl rfl (sK rfl rfl (sQ (pPt rfl rfl) rfl (sD (nS (cT rfl ?_))))))
 refine tS (tR (sQ (pA rfl) rfl (sD (nS (tT (rS ?_))))))
 refine rF1 (rT rfl) ?_
 (rw [hno (fun hc => by first | exact Bool.noConfusion hc.1 | exact Bool.noConfusion (hc.2.1.symm.trans (show A2 = false by assumption)) | exact Bool.noConfusion (hc.2.2.symm.trans (show withinB fuel 0 300 = false by assumption)))]; exact ⟨rfl, rfl⟩)
 refine sQ (pM rfl) rfl (sQ (pX rfl rfl) rfl (sQ (pX rfl rfl) rfl ?_))
 refine sE (step_alloc rfl) rfl (fun b51 => ?_)
 refine sS' ?_
 refine sQ (pA rfl) rfl (sD (nS (tS (tR (sQ (pM rfl) rfl (sQ (pNt rfl) rfl ?_))))))
 refine sQ (pM rfl) rfl (sL (load_a rfl rfl (at_blk_all (by repeat first | exact mH | apply mT)) hal) rfl rfl ?_)
 refine sL (load_a rfl rfl (at_blk_all (by repeat first | exact mH | apply mT)) hbl) rfl rfl ?_
 refine seq_valb rfl (hP) rfl rfl (fun h63 => ?_) (fun h63 => ?_)
 refine sQ (pNt rfl) rfl (sQ (pPf rfl rfl) rfl (sQ (pM rfl) rfl (sQ (pM rfl) rfl (seq_valb rfl (isFuel_fn fuel _) rfl rfl (fun h68 => ?_) (fun h68 => ?_)))))
 refine sQ (pNt rfl) rfl (sQ (pPf rfl rfl) rfl (sD (nS (cF rfl ?_))))
 refine tK (nS (tS (tR (sL (load_a rfl rfl (at_blk_all (by repeat first | exact mH | apply mT)) hal) rfl rfl ?_))))
 refine sQ (pM rfl) rfl ?_
 (refine seq_imm rfl (runTerm_fn a fuel G1 ca (hT.mono hle1) ha1) rfl rfl (fun v2 G2 hle2 hh => ?_); obtain ⟨s, c, l, hRa⟩ : ∃ s c l, mRunTerm a fuel = (s, c, l) := ⟨_, _, _, rfl⟩; rw [hRa] at hh; replace hh : v2 = .tuple ⟨[.string s, .int .i64 c, .int .i64 l]⟩ := hh; subst hh; have hb2 := hb1.mono hle2)
 refine sQ (pM rfl) rfl (sQ (pX rfl rfl) rfl (sQ (pX rfl rfl) rfl (sQ (pX rfl rfl) rfl (sQ (pA rfl) rfl (sQ (pA rfl) rfl (sQ (pA rfl) rfl ?_))))))
 refine sD (nS (tS (tR (sL (load_a rfl rfl (at_blk_all (by repeat first | exact mH | apply mT)) hbl) rfl rfl ?_))))
 refine sQ (pM rfl) rfl ?_
 (refine seq_imm rfl (runTerm_fn b fuel G2 cb ((hT.mono hle1).mono hle2) hb2) rfl rfl (fun v3 G3 hle3 hh => ?_); obtain ⟨s', c', l', hRb⟩ : ∃ s c l, mRunTerm b fuel = (s, c, l) := ⟨_, _, _, rfl⟩; rw [hRb] at hh; replace hh : v3 = .tuple ⟨[.string s', .int .i64 c', .int .i64 l']⟩ := hh; subst hh; have hy := fun h => hyes h hRa hRb)
 refine sQ (pM rfl) rfl (sQ (pX rfl rfl) rfl (sQ (pX rfl rfl) rfl (sQ (pX rfl rfl) rfl (sQ (pA rfl) rfl (sQ (pA rfl) rfl (sQ (pA rfl) rfl ?_))))))
 refine sD (nS (tS (tri_block (tS (tR (sQ (pM rfl) rfl ?_))))))
 refine sB (pE rfl rfl) rfl rfl (fun h109 => ?_) (fun h109 => ?_)
 refine sQ (pA rfl) rfl (sD (nS (cT rfl ?_)))
 refine tS (tR (sQ (pA rfl) rfl (sD (nS (tT (rB ?_))))))
 refine rS (rF1 (rT rfl) ?_)
 (rw [hy ⟨rfl, by assumption, by assumption⟩]; first | (rw [if_pos (by omega)]; exact ⟨rfl, rfl⟩) | (rw [if_neg (by omega), if_pos (by omega)]; exact ⟨rfl, rfl⟩) | (rw [if_neg (by omega), if_neg (by omega), if_pos ⟨by omega, by assumption⟩]; exact ⟨rfl, rfl⟩) | (rw [if_neg (by omega), if_neg (by omega), if_neg (fun hc => by first | omega | exact absurd hc.2 (by assumption))]; exact ⟨rfl, rfl⟩))
 refine sQ (pA rfl) rfl (sD (nS (cF rfl ?_)))
 refine tS (tR (sQ (pM rfl) rfl (sB (pure_neq rfl rfl) rfl rfl (fun h131 => ?_) (fun h131 => ?_))))
 refine sQ (pM rfl) rfl (sK rfl rfl (sK rfl rfl (sQ (pPt rfl rfl) rfl (sQ (pM rfl) rfl (sK rfl rfl (sK rfl rfl ?_))))))
 refine sQ (pPt rfl rfl) rfl (sQ (pA rfl) rfl (sD (nS (cT rfl ?_))))
 refine tS (tR (sQ (pA rfl) rfl (sD (nS (tT (rB ?_))))))
 refine rS (rF1 (rT rfl) ?_)
 (rw [hy ⟨rfl, by assumption, by assumption⟩]; first | (rw [if_pos (by omega)]; exact ⟨rfl, rfl⟩) | (rw [if_neg (by omega), if_pos (by omega)]; exact ⟨rfl, rfl⟩) | (rw [if_neg (by omega), if_neg (by omega), if_pos ⟨by omega, by assumption⟩]; exact ⟨rfl, rfl⟩) | (rw [if_neg (by omega), if_neg (by omega), if_neg (fun hc => by first | omega | exact absurd hc.2 (by assumption))]; exact ⟨rfl, rfl⟩))
 refine sQ (pM rfl) rfl (sQ (pM rfl) rfl (sB (pE rfl rfl) rfl rfl (fun h156 => ?_) (fun h156 => ?_)))
 refine sQ (pPf rfl rfl) rfl (sQ (pM rfl) rfl (sK rfl rfl (sK rfl rfl (sQ (pPt rfl rfl) rfl (sQ (pA rfl) rfl (sD ?_))))))
 refine nS (cT rfl ?_)
 refine tS (tR (sQ (pA rfl) rfl (sD (nS (tT (rB ?_))))))
 refine rS (rF1 (rT rfl) ?_)
 (rw [hy ⟨rfl, by assumption, by assumption⟩]; first | (rw [if_pos (by omega)]; exact ⟨rfl, rfl⟩) | (rw [if_neg (by omega), if_pos (by omega)]; exact ⟨rfl, rfl⟩) | (rw [if_neg (by omega), if_neg (by omega), if_pos ⟨by omega, by assumption⟩]; exact ⟨rfl, rfl⟩) | (rw [if_neg (by omega), if_neg (by omega), if_neg (fun hc => by first | omega | exact absurd hc.2 (by assumption))]; exact ⟨rfl, rfl⟩))
 refine sQ (pPf rfl rfl) rfl (sQ (pM rfl) rfl (sQ (pM rfl) rfl (sB (pE rfl rfl) rfl rfl (fun h179 => ?_) (fun h179 => ?_))))
 refine sQ (pPf rfl rfl) rfl (sQ (pA rfl) rfl (sD (nS (cT rfl ?_))))
 refine tS (tR (sQ (pA rfl) rfl (sD (nS (tT (rB ?_))))))
 refine rS (rF1 (rT rfl) ?_)
 (rw [hy ⟨rfl, by assumption, by assumption⟩]; first | (rw [if_pos (by omega)]; exact ⟨rfl, rfl⟩) | (rw [if_neg (by omega), if_pos (by omega)]; exact ⟨rfl, rfl⟩) | (rw [if_neg (by omega), if_neg (by omega), if_pos ⟨by omega, by assumption⟩]; exact ⟨rfl, rfl⟩) | (rw [if_neg (by omega), if_neg (by omega), if_neg (fun hc => by first | omega | exact absurd hc.2 (by assumption))]; exact ⟨rfl, rfl⟩))
 refine sQ (pPf rfl rfl) rfl (sQ (pA rfl) rfl (sD (nS (cF rfl ?_))))
 refine tS (tR (sQ (pM rfl) rfl (sB (pE rfl rfl) rfl rfl (fun h203 => ?_) (fun h203 => ?_))))
 refine sQ (pM rfl) rfl (sQ (pM rfl) rfl (sQ (pM rfl) rfl (sB (pure_seql rfl rfl) rfl rfl (fun h207 => ?_) (fun h207 => ?_))))
 refine sQ (pPt rfl rfl) rfl (sQ (pA rfl) rfl (sD (nS (cT rfl ?_))))
 refine tS (tR (sQ (pA rfl) rfl (sD (nS (tT (rB ?_))))))
 refine rS (rF1 (rT rfl) ?_)
 (rw [hy ⟨rfl, by assumption, by assumption⟩]; first | (rw [if_pos (by omega)]; exact ⟨rfl, rfl⟩) | (rw [if_neg (by omega), if_pos (by omega)]; exact ⟨rfl, rfl⟩) | (rw [if_neg (by omega), if_neg (by omega), if_pos ⟨by omega, by assumption⟩]; exact ⟨rfl, rfl⟩) | (rw [if_neg (by omega), if_neg (by omega), if_neg (fun hc => by first | omega | exact absurd hc.2 (by assumption))]; exact ⟨rfl, rfl⟩))
 refine sQ (pPt rfl rfl) rfl (sQ (pA rfl) rfl (sD (nS (cF rfl ?_))))
 refine tK (nrm_block (nS (tS (tR (sQ (pA rfl) rfl (sD ?_))))))
 refine nS (tT (rF1 (rT rfl) ?_))
 (rw [hy ⟨rfl, by assumption, by assumption⟩]; first | (rw [if_pos (by omega)]; exact ⟨rfl, rfl⟩) | (rw [if_neg (by omega), if_pos (by omega)]; exact ⟨rfl, rfl⟩) | (rw [if_neg (by omega), if_neg (by omega), if_pos ⟨by omega, by assumption⟩]; exact ⟨rfl, rfl⟩) | (rw [if_neg (by omega), if_neg (by omega), if_neg (fun hc => by first | omega | exact absurd hc.2 (by assumption))]; exact ⟨rfl, rfl⟩))
 refine sQ (pM rfl) rfl (sK rfl rfl (sK rfl rfl (sK rfl rfl (sQ (pPf rfl rfl) rfl (sQ (pA rfl) rfl (sD ?_))))))
 refine nS (cF rfl ?_)
 refine tK (nrm_block (nS (tS (tR (sQ (pA rfl) rfl (sD ?_))))))
 refine nS (tT (rF1 (rT rfl) ?_))
 (rw [hy ⟨rfl, by assumption, by assumption⟩]; first | (rw [if_pos (by omega)]; exact ⟨rfl, rfl⟩) | (rw [if_neg (by omega), if_pos (by omega)]; exact ⟨rfl, rfl⟩) | (rw [if_neg (by omega), if_neg (by omega), if_pos ⟨by omega, by assumption⟩]; exact ⟨rfl, rfl⟩) | (rw [if_neg (by omega), if_neg (by omega), if_neg (fun hc => by first | omega | exact absurd hc.2 (by assumption))]; exact ⟨rfl, rfl⟩))
 refine sQ (pNf rfl) rfl (sQ (pPf rfl rfl) rfl (sD (nS (cT rfl ?_))))
 refine tS (tR (sQ (pA rfl) rfl (sD (nS (tT (rS ?_))))))
 refine rF1 (rT rfl) ?_
 (rw [hno (fun hc => by first | exact Bool.noConfusion hc.1 | exact Bool.noConfusion (hc.2.1.symm.trans (show A2 = false by assumption)) | exact Bool.noConfusion (hc.2.2.symm.trans (show withinB fuel 0 300 = false by assumption)))]; exact ⟨rfl, rfl⟩)
 refine sQ (pNf rfl) rfl (sQ (pPf rfl rfl) rfl (sQ (pM rfl) rfl (sK rfl rfl (sK rfl rfl (sK rfl rfl (sQ (pPt rfl rfl) rfl ?_))))))
 refine sD (nS (cT rfl ?_))
 refine tS (tR (sQ (pA rfl) rfl (sD (nS (tT (rS ?_))))))
 refine rF1 (rT rfl) ?_
 (rw [hno (fun hc => by first | exact Bool.noConfusion hc.1 | exact Bool.noConfusion (hc.2.1.symm.trans (show A2 = false by assumption)) | exact Bool.noConfusion (hc.2.2.symm.trans (show withinB fuel 0 300 = false by assumption)))]; exact ⟨rfl, rfl⟩)
theorem sCompareRuns_fn (a b : Tm) (fuel : Int) (G : IM) (ca cb : List Value) (hc1 : tmCount a ≤ 4294967296) (hc2 : tmCount b ≤ 4294967296) (ha : RTm G a ca) (hb : RTm G b cb) : Fn Tryz.prog 6 [.agg ⟨ca⟩, .agg ⟨cb⟩, .int .i64 fuel] [] G (Imm fun _ v => v = .int .i64 (mCmp a b fuel)) := by
 have hal := ha.len
 have hbl := hb.len
 have hao := ha.one
 have hbo := hb.one
 have hno := @cmp_no a b fuel
 have hyes := @cmp_yes a b fuel
 have hw : withinB fuel 0 300 = true ↔ 0 ≤ fuel ∧ fuel ≤ 300 := withinB_iff
 obtain ⟨R, hR⟩ : ∃ R, mCmp a b fuel = R := ⟨_, rfl⟩
 rw [hR] at hno
 simp only [hR] at hyes
 rw [hR]
 refine fn_enter Tryz.func6 rfl Tryz.ntmps6 Tryz.results6 rfl ?_
 intro w0
 refine tS (tR ?_)
 refine sE (step_box_a rfl rfl) rfl (fun b3 => ?_)
 refine sE (step_box_a rfl rfl) rfl (fun b4 => ?_)
 refine sQ (pA rfl) rfl (sD (nS (tS (tR (sL (load_a rfl rfl (at_blk_all (by repeat first | exact mH | apply mT)) hal) rfl rfl ?_)))))
 (refine seq_imm rfl (typeOfX_fn a G ca hc1 ha) rfl rfl (fun v1 G1 hle1 hh => ?_); obtain ⟨mc, mt, rfl, hmr, hmu⟩ := hh; obtain ⟨qt, dt, et2, rfl, _⟩ := hmr.open; have ha1 := ha.mono hle1; have hb1 := hb.mono hle1; have hP := sTermPrecise_fn a b G1 ca cb hc1 hc2 ha1 hb1; generalize (mTypeOf a).isSome = A1 at *; generalize tmPrecise a b = A2 at *; cases A1)
 refine sQ (pM rfl) rfl (sQ (pX rfl rfl) rfl (sQ (pX rfl rfl) rfl ?_))
 refine sE (step_alloc rfl) rfl (fun b15 => ?_)
 refine sS' ?_
 refine sQ (pA rfl) rfl (sD (nS (tS (tS (tR (sL (load_a rfl rfl (at_blk_all (by repeat first | exact mH | apply mT)) hal) rfl rfl ?_))))))
 refine sL (load_a rfl rfl (at_blk_all (by repeat first | exact mH | apply mT)) hbl) rfl rfl ?_
 refine seq_valb rfl (hP) rfl rfl (fun h25 => ?_) (fun h25 => ?_)
 refine sQ (pNt rfl) rfl (sQ (pM rfl) rfl (sQ (pM rfl) rfl (sQ (pNf rfl) rfl (sQ (pPf rfl rfl) rfl (sQ (pM rfl) rfl (sK rfl rfl ?_))))))
 refine sK rfl rfl (sQ (pPt rfl rfl) rfl (sQ (pM rfl) rfl (sK rfl rfl (sK rfl rfl (sQ (pPt rfl rfl) rfl (sD ?_))))))
 refine nS (cT rfl ?_)
 refine tS (tR (sQ (pA rfl) rfl (sD (nS (tT (rS ?_))))))
 refine rF1 (rT rfl) ?_
 (rw [hno (fun hc => by first | (have := hw.1 hc.2.2; omega) | exact Bool.noConfusion hc.1 | exact Bool.noConfusion (hc.2.1.symm.trans (show A2 = false by assumption)))]; exact ⟨rfl, rfl⟩)
 refine sQ (pNf rfl) rfl (sQ (pM rfl) rfl (sK rfl rfl (sK rfl rfl (sQ (pPt rfl rfl) rfl (sQ (pM rfl) rfl (sK rfl rfl ?_))))))
 refine sK rfl rfl (sQ (pPt rfl rfl) rfl (sQ (pM rfl) rfl (sK rfl rfl (sK rfl rfl (sQ (pPt rfl rfl) rfl (sD ?_))))))
 refine nS (cT rfl ?_)
 refine tS (tR (sQ (pA rfl) rfl (sD (nS (tT (rS ?_))))))
 refine rF1 (rT rfl) ?_
 (rw [hno (fun hc => by first | (have := hw.1 hc.2.2; omega) | exact Bool.noConfusion hc.1 | exact Bool.noConfusion (hc.2.1.symm.trans (show A2 = false by assumption)))]; exact ⟨rfl, rfl⟩)
 refine sQ (pM rfl) rfl (sQ (pX rfl rfl) rfl (sQ (pX rfl rfl) rfl ?_))
 refine sE (step_alloc rfl) rfl (fun b79 => ?_)
 refine sS' ?_
 refine sQ (pA rfl) rfl (sD (nS (tS (tS (tR (sL (load_a rfl rfl (at_blk_all (by repeat first | exact mH | apply mT)) hal) rfl rfl ?_))))))
 refine sL (load_a rfl rfl (at_blk_all (by repeat first | exact mH | apply mT)) hbl) rfl rfl ?_
 refine seq_valb rfl (hP) rfl rfl (fun h89 => ?_) (fun h89 => ?_)
 refine sQ (pNt rfl) rfl (sQ (pM rfl) rfl (sQ (pM rfl) rfl (sQ (pNt rfl) rfl (sQ (pPf rfl rfl) rfl (sQ (pM rfl) rfl (sQ (pM rfl) rfl ?_))))))
 refine sB (pure_lss rfl rfl) rfl rfl (fun h97 => ?_) (fun h97 => ?_)
 refine sQ (pPf rfl rfl) rfl (sQ (pM rfl) rfl (sK rfl rfl (sK rfl rfl (sQ (pPt rfl rfl) rfl (sD (nS ?_))))))
 refine cT rfl ?_
 refine tS (tR (sQ (pA rfl) rfl (sD (nS (tT (rS ?_))))))
 refine rF1 (rT rfl) ?_
 (rw [hno (fun hc => by first | (have := hw.1 hc.2.2; omega) | exact Bool.noConfusion hc.1 | exact Bool.noConfusion (hc.2.1.symm.trans (show A2 = false by assumption)))]; exact ⟨rfl, rfl⟩)
 refine sQ (pPf rfl rfl) rfl (sQ (pM rfl) rfl (sQ (pM rfl) rfl (sB (pure_gtr rfl rfl) rfl rfl (fun h118 => ?_) (fun h118 => ?_))))
 refine sQ (pPf rfl rfl) rfl (sD (nS (cT rfl ?_)))
 refine tS (tR (sQ (pA rfl) rfl (sD (nS (tT (rS ?_))))))
 refine rF1 (rT rfl) ?_
 (rw [hno (fun hc => by first | (have := hw.1 hc.2.2; omega) | exact Bool.noConfusion hc.1 | exact Bool.noConfusion (hc.2.1.symm.trans (show A2 = false by assumption)))]; exact ⟨rfl, rfl⟩)
 refine sQ (pPf rfl rfl) rfl (sD (nS (cF rfl ?_)))
 refine tK (nS (tS (tR (sL (load_a rfl rfl (at_blk_all (by repeat first | exact mH | apply mT)) hal) rfl rfl ?_))))
 refine sQ (pM rfl) rfl ?_
 (refine seq_imm rfl (sRunTerm_fn a fuel G1 ca hc1 ha1) rfl rfl (fun v2 G2 hle2 hh => ?_); obtain ⟨s, c, l, hRa⟩ : ∃ s c l, mRunTerm a fuel = (s, c, l) := ⟨_, _, _, rfl⟩; rw [hRa] at hh; replace hh : v2 = .tuple ⟨[.string s, .int .i64 c, .int .i64 l]⟩ := hh; subst hh; have hb2 := hb1.mono hle2)
 refine sQ (pM rfl) rfl (sQ (pX rfl rfl) rfl (sQ (pX rfl rfl) rfl (sQ (pX rfl rfl) rfl (sQ (pA rfl) rfl (sQ (pA rfl) rfl (sQ (pA rfl) rfl ?_))))))
 refine sD (nS (tS (tR (sL (load_a rfl rfl (at_blk_all (by repeat first | exact mH | apply mT)) hbl) rfl rfl ?_))))
 refine sQ (pM rfl) rfl ?_
 (refine seq_imm rfl (sRunTerm_fn b fuel G2 cb hc2 hb2) rfl rfl (fun v3 G3 hle3 hh => ?_); obtain ⟨s', c', l', hRb⟩ : ∃ s c l, mRunTerm b fuel = (s, c, l) := ⟨_, _, _, rfl⟩; rw [hRb] at hh; replace hh : v3 = .tuple ⟨[.string s', .int .i64 c', .int .i64 l']⟩ := hh; subst hh; have hy := fun h => hyes h hRa hRb)
 refine sQ (pM rfl) rfl (sQ (pX rfl rfl) rfl (sQ (pX rfl rfl) rfl (sQ (pX rfl rfl) rfl (sQ (pA rfl) rfl (sQ (pA rfl) rfl (sQ (pA rfl) rfl ?_))))))
 refine sD (nS (tS (tri_block (tS (tR (sQ (pM rfl) rfl ?_))))))
 refine sB (pE rfl rfl) rfl rfl (fun h171 => ?_) (fun h171 => ?_)
 refine sQ (pA rfl) rfl (sD (nS (cT rfl ?_)))
 refine tS (tR (sQ (pA rfl) rfl (sD (nS (tT (rB ?_))))))
 refine rS (rF1 (rT rfl) ?_)
 (rw [hy ⟨rfl, by assumption, hw.2 ⟨by omega, by omega⟩⟩]; first | (rw [if_pos (by omega)]; exact ⟨rfl, rfl⟩) | (rw [if_neg (by omega), if_pos (by omega)]; exact ⟨rfl, rfl⟩) | (rw [if_neg (by omega), if_neg (by omega), if_pos ⟨by omega, by assumption⟩]; exact ⟨rfl, rfl⟩) | (rw [if_neg (by omega), if_neg (by omega), if_neg (fun hc => by first | omega | exact absurd hc.2 (by assumption))]; exact ⟨rfl, rfl⟩))
 refine sQ (pA rfl) rfl (sD (nS (cF rfl ?_)))
 refine tS (tR (sQ (pM rfl) rfl (sB (pure_neq rfl rfl) rfl rfl (fun h193 => ?_) (fun h193 => ?_))))
 refine sQ (pM rfl) rfl (sK rfl rfl (sK rfl rfl (sQ (pPt rfl rfl) rfl (sQ (pM rfl) rfl (sK rfl rfl (sK rfl rfl ?_))))))
 refine sQ (pPt rfl rfl) rfl (sQ (pA rfl) rfl (sD (nS (cT rfl ?_))))
 refine tS (tR (sQ (pA rfl) rfl (sD (nS (tT (rB ?_))))))
 refine rS (rF1 (rT rfl) ?_)
 (rw [hy ⟨rfl, by assumption, hw.2 ⟨by omega, by omega⟩⟩]; first | (rw [if_pos (by omega)]; exact ⟨rfl, rfl⟩) | (rw [if_neg (by omega), if_pos (by omega)]; exact ⟨rfl, rfl⟩) | (rw [if_neg (by omega), if_neg (by omega), if_pos ⟨by omega, by assumption⟩]; exact ⟨rfl, rfl⟩) | (rw [if_neg (by omega), if_neg (by omega), if_neg (fun hc => by first | omega | exact absurd hc.2 (by assumption))]; exact ⟨rfl, rfl⟩))
 refine sQ (pM rfl) rfl (sQ (pM rfl) rfl (sB (pE rfl rfl) rfl rfl (fun h218 => ?_) (fun h218 => ?_)))
 refine sQ (pPf rfl rfl) rfl (sQ (pM rfl) rfl (sK rfl rfl (sK rfl rfl (sQ (pPt rfl rfl) rfl (sQ (pA rfl) rfl (sD ?_))))))
 refine nS (cT rfl ?_)
 refine tS (tR (sQ (pA rfl) rfl (sD (nS (tT (rB ?_))))))
 refine rS (rF1 (rT rfl) ?_)
 (rw [hy ⟨rfl, by assumption, hw.2 ⟨by omega, by omega⟩⟩]; first | (rw [if_pos (by omega)]; exact ⟨rfl, rfl⟩) | (rw [if_neg (by omega), if_pos (by omega)]; exact ⟨rfl, rfl⟩) | (rw [if_neg (by omega), if_neg (by omega), if_pos ⟨by omega, by assumption⟩]; exact ⟨rfl, rfl⟩) | (rw [if_neg (by omega), if_neg (by omega), if_neg (fun hc => by first | omega | exact absurd hc.2 (by assumption))]; exact ⟨rfl, rfl⟩))
 refine sQ (pPf rfl rfl) rfl (sQ (pM rfl) rfl (sQ (pM rfl) rfl (sB (pE rfl rfl) rfl rfl (fun h241 => ?_) (fun h241 => ?_))))
 refine sQ (pPf rfl rfl) rfl (sQ (pA rfl) rfl (sD (nS (cT rfl ?_))))
 refine tS (tR (sQ (pA rfl) rfl (sD (nS (tT (rB ?_))))))
 refine rS (rF1 (rT rfl) ?_)
 (rw [hy ⟨rfl, by assumption, hw.2 ⟨by omega, by omega⟩⟩]; first | (rw [if_pos (by omega)]; exact ⟨rfl, rfl⟩) | (rw [if_neg (by omega), if_pos (by omega)]; exact ⟨rfl, rfl⟩) | (rw [if_neg (by omega), if_neg (by omega), if_pos ⟨by omega, by assumption⟩]; exact ⟨rfl, rfl⟩) | (rw [if_neg (by omega), if_neg (by omega), if_neg (fun hc => by first | omega | exact absurd hc.2 (by assumption))]; exact ⟨rfl, rfl⟩))
 refine sQ (pPf rfl rfl) rfl (sQ (pA rfl) rfl (sD (nS (cF rfl ?_))))
 refine tS (tR (sQ (pM rfl) rfl (sB (pE rfl rfl) rfl rfl (fun h265 => ?_) (fun h265 => ?_))))
 refine sQ (pM rfl) rfl (sQ (pM rfl) rfl (sQ (pM rfl) rfl (sB (pure_seql rfl rfl) rfl rfl (fun h269 => ?_) (fun h269 => ?_))))
 refine sQ (pPt rfl rfl) rfl (sQ (pA rfl) rfl (sD (nS (cT rfl ?_))))
 refine tS (tR (sQ (pA rfl) rfl (sD (nS (tT (rB ?_))))))
 refine rS (rF1 (rT rfl) ?_)
 (rw [hy ⟨rfl, by assumption, hw.2 ⟨by omega, by omega⟩⟩]; first | (rw [if_pos (by omega)]; exact ⟨rfl, rfl⟩) | (rw [if_neg (by omega), if_pos (by omega)]; exact ⟨rfl, rfl⟩) | (rw [if_neg (by omega), if_neg (by omega), if_pos ⟨by omega, by assumption⟩]; exact ⟨rfl, rfl⟩) | (rw [if_neg (by omega), if_neg (by omega), if_neg (fun hc => by first | omega | exact absurd hc.2 (by assumption))]; exact ⟨rfl, rfl⟩))
 refine sQ (pPt rfl rfl) rfl (sQ (pA rfl) rfl (sD (nS (cF rfl ?_))))
 refine tK (nrm_block (nS (tS (tR (sQ (pA rfl) rfl (sD ?_))))))
 refine nS (tT (rF1 (rT rfl) ?_))
 (rw [hy ⟨rfl, by assumption, hw.2 ⟨by omega, by omega⟩⟩]; first | (rw [if_pos (by omega)]; exact ⟨rfl, rfl⟩) | (rw [if_neg (by omega), if_pos (by omega)]; exact ⟨rfl, rfl⟩) | (rw [if_neg (by omega), if_neg (by omega), if_pos ⟨by omega, by assumption⟩]; exact ⟨rfl, rfl⟩) | (rw [if_neg (by omega), if_neg (by omega), if_neg (fun hc => by first | omega | exact absurd hc.2 (by assumption))]; exact ⟨rfl, rfl⟩))
 refine sQ (pM rfl) rfl (sK rfl rfl (sK rfl rfl (sK rfl rfl (sQ (pPf rfl rfl) rfl (sQ (pA rfl) rfl (sD ?_))))))
 refine nS (cF rfl ?_)
 refine tK (nrm_block (nS (tS (tR (sQ (pA rfl) rfl (sD ?_))))))
 refine nS (tT (rF1 (rT rfl) ?_))
 (rw [hy ⟨rfl, by assumption, hw.2 ⟨by omega, by omega⟩⟩]; first | (rw [if_pos (by omega)]; exact ⟨rfl, rfl⟩) | (rw [if_neg (by omega), if_pos (by omega)]; exact ⟨rfl, rfl⟩) | (rw [if_neg (by omega), if_neg (by omega), if_pos ⟨by omega, by assumption⟩]; exact ⟨rfl, rfl⟩) | (rw [if_neg (by omega), if_neg (by omega), if_neg (fun hc => by first | omega | exact absurd hc.2 (by assumption))]; exact ⟨rfl, rfl⟩))
 refine sQ (pNf rfl) rfl (sQ (pM rfl) rfl (sK rfl rfl (sK rfl rfl (sQ (pPt rfl rfl) rfl (sQ (pM rfl) rfl (sK rfl rfl ?_))))))
 refine sK rfl rfl (sQ (pPt rfl rfl) rfl (sQ (pM rfl) rfl (sK rfl rfl (sK rfl rfl (sQ (pPt rfl rfl) rfl (sD ?_))))))
 refine nS (cT rfl ?_)
 refine tS (tR (sQ (pA rfl) rfl (sD (nS (tT (rS ?_))))))
 refine rF1 (rT rfl) ?_
 (rw [hno (fun hc => by first | (have := hw.1 hc.2.2; omega) | exact Bool.noConfusion hc.1 | exact Bool.noConfusion (hc.2.1.symm.trans (show A2 = false by assumption)))]; exact ⟨rfl, rfl⟩)
theorem exactCompareRuns_fn (a b : Tm) (fuel : Int) (G : IM) (ca cb : List Value) (hT : TabG G) (hna : a.nok) (hra : RTm G a ca) (hnb : b.nok) (hrb : RTm G b cb) (hf : I64 fuel) :
  Fn Tryz.prog 3 [.agg ⟨ca⟩, .agg ⟨cb⟩, .int .i64 fuel] [] G (Imm fun _ v => v = .bool true) := by
 have hla := hra.len
 have hoa := hra.one
 have hlb := hrb.len
 have hob := hrb.one
 have hz := szTerm_fn a 1048576 G ca (by omega) (by omega) hna hra
 have hzn := szTm_nn a
 have hznb := szTm_nn b
 have hcsa := count_sz a
 have hcsb := count_sz b
 obtain ⟨R, hR⟩ : ∃ R, mCmp a b fuel = R := ⟨_, rfl⟩
 refine fn_enter Tryz.func3 rfl Tryz.ntmps3 Tryz.results3 rfl ?_
 intro w0
 refine tS (tR ?_)
 refine sE (step_box_a rfl rfl) rfl (fun b3 => ?_)
 refine sE (step_box_a rfl rfl) rfl (fun b4 => ?_)
 refine sQ (pA rfl) rfl (sD (nS (tS (tR (sQ (pA rfl) rfl (sD ?_))))))
 refine nS (tS (tR (sL (load_a rfl rfl (at_blk_all (by repeat first | exact mH | apply mT)) hla) rfl rfl ?_)))
 refine sQ (pM rfl) rfl ?_
 (rcases res_cases 1048576 (szTm a) with ⟨hc, hrs⟩ | ⟨hc, hrs⟩ <;> (rw [hrs] at hz; refine seq_val rfl hz rfl rfl ?_))
 refine sQ (pA rfl) rfl (sD (nS (tS (tS (tR (sQ (pM rfl) rfl ?_))))))
 refine sP (pure_lss_f rfl rfl (by omega)) rfl rfl ?_
 refine sD (nS (cF rfl ?_))
 refine tK (nS (tS (tR (sL (load_a rfl rfl (at_blk_all (by repeat first | exact mH | apply mT)) hlb) rfl rfl ?_))))
 refine sQ (pM rfl) rfl ?_
 (have hz2 := szTerm_fn b (1048576 - szTm a) G cb (by omega) (by omega) hnb hrb; rcases res_cases (1048576 - szTm a) (szTm b) with ⟨hcx, hrzx⟩ | ⟨hcx, hrzx⟩ <;> (rw [hrzx] at hz2; refine seq_val rfl hz2 rfl rfl ?_))
 refine sQ (pA rfl) rfl (sD (nS (tS (tS (tR (sQ (pM rfl) rfl ?_))))))
 refine sP (pure_lss_f rfl rfl (by omega)) rfl rfl ?_
 refine sD (nS (cF rfl ?_))
 refine tK (nS (tS (tri_draw mixed rfl ?_)))
 refine any_load (i := 0) (l' := [tt,ff,ff,ff,ff,ff,ff]) rfl npI (load_a rfl rfl (at_blk_all (by repeat first | exact mH | apply mT)) hla) rfl (by kernel_rfl) rfl rfl ?_
 refine aL 2 rfl (load_a rfl rfl (at_blk_all (by repeat first | exact mH | apply mT)) hlb) rfl ?_
 refine aP 4 rfl (pM rfl) rfl ?_
 refine aO' 1 ?_
 (refine one_imm rfl rfl (toTerm_fn a G ca (small_tm a (by omega)) hra) rfl rfl rfl (fun v1 G1 hle1 hh => ?_); obtain ⟨cs1, F1, rfl, hs1, hn1⟩ := hh; have hra1 := hra.mono hle1; have hrb1 := hrb.mono hle1)
 refine aO' 3 ?_
 (refine one_imm rfl rfl (toTerm_fn b G1 cb (small_tm b (by omega)) hrb1) rfl rfl rfl (fun v2 G2 hle2 hh => ?_); obtain ⟨cs2, F2, rfl, hs2, hn2⟩ := hh; have hra2 := hra1.mono hle2; have hrb2 := hrb1.mono hle2; have hA := sCompareRuns_fn a b fuel G2 cs1 cs2 (by omega) (by omega) ((hs1.R.mono (Dif.le _ _)).mono hle2) (hs2.R.mono (Dif.le _ _)))
 refine aO' 5 ?_
 (refine one_imm rfl rfl hA rfl rfl rfl (fun v3 G3 hle3 hh => ?_); rw [hR] at hh; subst hh; have hra3 := hra2.mono hle3; have hrb3 := hrb2.mono hle3)
 refine aP 6 rfl (pA rfl) rfl ?_
 refine aD' ?_
 refine nS (tS (tR (sL (load_a rfl rfl (at_blk_all (by repeat first | exact mH | apply mT)) hla) rfl rfl ?_)))
 (refine seq_imm rfl (toTerm_fn a G3 ca (small_tm a (by omega)) hra3) rfl rfl (fun v4 G4 hle4 hh => ?_); obtain ⟨cs4, F4, rfl, hs4, hn4⟩ := hh; have hl4 := hs4.R.len; have ho4 := hs4.R.one; have hra4 := hra3.mono hle4; have hrb4 := hrb3.mono hle4)
 refine sE (step_alloc rfl) rfl (fun b67 => ?_)
 refine seq_store rfl rfl rfl (by assumption) (by assumption) rfl (by repeat first | exact Sw.here | apply Sw.there) (by exact upd_all (by symm; assumption)) ?_
 refine sD (nS (tS (tR (sL (load_a rfl rfl (at_blk_all (by repeat first | exact mH | apply mT)) hlb) rfl rfl ?_))))
 (refine seq_imm rfl (toTerm_fn b G4 cb (small_tm b (by omega)) hrb4) rfl rfl (fun v5 G5 hle5 hh => ?_); obtain ⟨cs5, F5, rfl, hs5, hn5⟩ := hh; have hl5 := hs5.R.len; have ho5 := hs5.R.one; have hra5 := hra4.mono hle5; have hrb5 := hrb4.mono hle5; have hI := compareRuns_fn a b fuel G5 cs4 cs5 (((((hT.mono hle1).mono hle2).mono hle3).mono hle4).mono hle5) ((hs4.R.mono (Dif.le _ _)).mono hle5) (hs5.R.mono (Dif.le _ _)))
 refine sE (step_alloc rfl) rfl (fun b75 => ?_)
 refine seq_store rfl rfl rfl (by assumption) (by assumption) rfl (by repeat first | exact Sw.here | apply Sw.there) (by exact upd_all (by symm; assumption)) ?_
 refine sD (nS (tS (tR (sL (load_a rfl rfl (at_blk_all (by repeat first | exact mH | apply mT)) hl4) rfl rfl ?_))))
 refine sL (load_a rfl rfl (at_blk_all (by repeat first | exact mH | apply mT)) hl5) rfl rfl ?_
 refine sQ (pM rfl) rfl ?_
 (refine seq_imm rfl hI rfl rfl (fun v6 G6 hle6 hh => ?_); rw [hR] at hh; subst hh; have hra6 := hra5.mono hle6; have hrb6 := hrb5.mono hle6)
 refine sQ (pA rfl) rfl (sD (nS (tS (tS (tR (sQ (pM rfl) rfl ?_))))))
 refine sQ (pM rfl) rfl (sP (pure_neq_f rfl rfl (by omega)) rfl rfl ?_)
 refine sD (nS (cF rfl ?_))
 refine tK (nS (tS (tS (tri_draw mixed rfl ?_))))
 refine any_load (i := 0) (l' := [tt,ff,ff,ff,ff]) rfl npI (load_a rfl rfl (at_blk_all (by repeat first | exact mH | apply mT)) hl4) rfl (by kernel_rfl) rfl rfl ?_
 refine aL 1 rfl (load_a rfl rfl (at_blk_all (by repeat first | exact mH | apply mT)) hla) rfl ?_
 refine aO' 2 ?_
 (refine one_imm rfl rfl (toTerm_fn a G6 ca (small_tm a (by omega)) hra6) rfl rfl rfl (fun v7 G7 hle7 hh => ?_); obtain ⟨cs7, F7, rfl, hs7, hn7⟩ := hh; have hrb7 := hrb6.mono hle7)
 refine aO' 3 ?_
 refine one_val rfl rfl (eqTerm_fn a G7 cs4 cs7 (hs4.R.mono ((Dif.le _ _).trans (hle5.trans (hle6.trans hle7)))) (hs7.R.mono (Dif.le _ _))) rfl rfl rfl ?_
 refine aP 4 rfl (pNt rfl) rfl ?_
 refine aD' ?_
 refine nS (cF rfl ?_)
 refine tK (nS (tS (tS (tri_draw mixed rfl ?_))))
 refine any_load (i := 0) (l' := [tt,ff,ff,ff,ff]) rfl npI (load_a rfl rfl (at_blk_all (by repeat first | exact mH | apply mT)) hl5) rfl (by kernel_rfl) rfl rfl ?_
 refine aL 1 rfl (load_a rfl rfl (at_blk_all (by repeat first | exact mH | apply mT)) hlb) rfl ?_
 refine aO' 2 ?_
 (refine one_imm rfl rfl (toTerm_fn b G7 cb (small_tm b (by omega)) hrb7) rfl rfl rfl (fun v8 G8 hle8 hh => ?_); obtain ⟨cs8, F8, rfl, hs8, hn8⟩ := hh)
 refine aO' 3 ?_
 refine one_val rfl rfl (eqTerm_fn b G8 cs5 cs8 (hs5.R.mono ((Dif.le _ _).trans (hle6.trans (hle7.trans hle8)))) (hs8.R.mono (Dif.le _ _))) rfl rfl rfl ?_
 refine aP 4 rfl (pNt rfl) rfl ?_
 refine aD' ?_
 refine nS (cF rfl ?_)
 refine tK (nS (tS (tR (sQ (pA rfl) rfl (sD (nS ?_))))))
 refine tT (rF1 (rT rfl) ?_)
 (exact ⟨rfl, rfl⟩)
 refine sQ (pA rfl) rfl (sD (nS (tS (tS (tR (sQ (pM rfl) rfl ?_))))))
 refine sP (pure_lss_t rfl rfl (by omega)) rfl rfl ?_
 refine sD (nS (cT rfl ?_))
 refine tS (tR (sQ (pA rfl) rfl (sD (nS (tT (rS ?_))))))
 refine rF1 (rT rfl) ?_
 (exact ⟨rfl, rfl⟩)
 refine sQ (pA rfl) rfl (sD (nS (tS (tS (tR (sQ (pM rfl) rfl ?_))))))
 refine sP (pure_lss_t rfl rfl (by omega)) rfl rfl ?_
 refine sD (nS (cT rfl ?_))
 refine tS (tR (sQ (pA rfl) rfl (sD (nS (tT (rS ?_))))))
 refine rF1 (rT rfl) ?_
 (exact ⟨rfl, rfl⟩)
end Gw
end Go.Proofs.YtmnfamimopcldaaGreatDoor
