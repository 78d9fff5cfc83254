/-
  The program's evaluator: the rules of casts, selections and casts themselves. The program's evaluator: a step. The program's evaluator: step. The program's evaluator: StepCast, runs of steps, their results. Types are kept by steps; a closed term with a type does not get stuck, and what is blamed is a label of its casts. Casts put into a term: operand by operand. A term with its casts put in is valid, and has the type that the term has. The reference's typing, exactly. The reference's typing, exactly: meets, the types of nodes. The program's insertion of casts: a cast.
-/
import Derived.Test.YtmnfamimopcldaaGreatDoorKb4
import Derived.Test.YtmnfamimopcldaaGreatDoorKb3
set_option linter.unusedVariables false
set_option linter.unusedSimpArgs false
set_option maxHeartbeats 0
set_option maxRecDepth 100000
set_option synthInstance.maxSize 4000
set_option synthInstance.maxHeartbeats 0
namespace Go.Proofs.YtmnfamimopcldaaGreatDoor
open Go Go.RowKit
namespace Gw
theorem crule11_fn (k : Int) (a : Tm) (nm : ByteArray) (num : Int) (ty fr : Ty) (lb : Int) (G : IM) (cells : List Value) (hk1 : k = 11 ∨ k = 12) (hca : cv a) (hr : RTm G (.mk k nm num ty fr lb [a]) cells) : Fn Tryz.prog 157 [.agg ⟨cells⟩] [] G (StpP (mCRule k ty fr lb [a])) := by
 obtain ⟨ak, anm, anum, ⟨atk, atks⟩, ⟨afk, afks⟩, alb, aks⟩ := a
 obtain ⟨hN, hkk⟩ := hca.node
 have hops := hN.ops
 have hbl := hN.lbB
 have htyA := hN.tyA
 have hfrA := hN.frA
 rw [tAr] at htyA hfrA
 have h14 : ak = 14 → aks.length = 1 := fun h => by rw [h] at hops; have : tmOps 14 = 1 := rfl; omega
 obtain ⟨tk, tks⟩ := ty
 obtain ⟨fk, fks⟩ := fr
 obtain ⟨pt, ct, pf, cf, p, c, es, rfl, hk, hnum, hlb, hty, hfr, hsl, hkl⟩ := hr.open9
 obtain ⟨bx, ox, e0, rfl, hl0, hat0, hre0, hgb0⟩ := hsl.kidTm hkl (i := 0) (by simp) (by simp)
 replace hre0 : RTm G (Tm.mk ak anm anum (.mk atk atks) (.mk afk afks) alb aks) e0 := hre0
 have hP : Fn Tryz.prog 80 [.agg ⟨e0⟩] [] G (Val (.bool (decide (ak = 14 ∧ afk = atk ∧ (atk = 4 ∨ atk = 5)))) G) := isProxy_fn _ G _ hre0
 have hI := isInjection_fn _ G _ hre0
 have ho0 := hre0.one
 obtain ⟨apt, act, apf, acf, ap, ac, aes, rfl, hak, hanum, halb, haty, hafr, hasl, hakl⟩ := hre0.open9
 have hfk64 : I64 fk := by obtain ⟨_, _, _, _, h, _⟩ := hfr.open; exact h
 have htk64 : I64 tk := by obtain ⟨_, _, _, _, h, _⟩ := hty.open; exact h
 obtain ⟨tes, htS, htL⟩ := haty.kids
 obtain ⟨fes, hfS, hfL⟩ := hafr.kids
 simp only [Ty.ks] at htS htL hfS hfL
 obtain ⟨i, hi⟩ : ∃ i : Nat, (k - 11).toNat = i := ⟨_, rfl⟩
 have hR : mCRule k (.mk tk tks) (.mk fk fks) lb [Tm.mk ak anm anum (.mk atk atks) (.mk afk afks) alb aks] = (if (ak = 14 ∧ afk = atk ∧ (atk = 4 ∨ atk = 5)) ∧ atk = 5 then (mCst (mNod k [kd aks 0]) (kt afks i) (kt atks i) alb, 1, 0) else stuck) := by
  unfold mCRule
  rw [if_neg (by omega), if_pos hk1, hi, show kd [Tm.mk ak anm anum (.mk atk atks) (.mk afk afks) alb aks] 0 = Tm.mk ak anm anum (.mk atk atks) (.mk afk afks) alb aks from rfl, prx_mk]
  simp only [decide_eq_true_eq]
  rfl
 rw [hR]
 refine fn_enter Tryz.func157 rfl Tryz.ntmps157 Tryz.results157 rfl ?_
 intro w0
 refine tS (tR ?_)
 refine sE (step_box_a rfl rfl) rfl (fun b3 => ?_)
 refine sE (step_alloc rfl) rfl (fun b4 => ?_)
 refine sQ (pA rfl) rfl (sQ (pA rfl) rfl (sD (nS (tS (tR (sQ (pF0 rfl) rfl ?_))))))
 refine sL (lBs rfl rfl) rfl rfl ?_
 refine sP (pIN (j := 0) rfl rfl rfl (by simp)) rfl rfl ?_
 refine sL (load_a rfl rfl (hat0 _) rfl) rfl rfl ?_
 refine sE (step_alloc rfl) rfl (fun b15 => ?_)
 refine sS' ?_
 refine sD (nS (tS (tri_block (tS (tR (sQ (pF0 rfl) rfl ?_))))))
 refine sL (lBs rfl rfl) rfl rfl ?_
 refine sP (pure_eql_f rfl rfl (by omega)) rfl rfl ?_
 refine sQ (pM rfl) rfl (sK rfl rfl (sK rfl rfl (sQ (pPf rfl rfl) rfl (sQ (pM rfl) rfl (sK rfl rfl (sK rfl rfl ?_))))))
 refine sK rfl rfl (sK rfl rfl (sQ (pPf rfl rfl) rfl (sQ (pA rfl) rfl (sD (nS (cF rfl ?_))))))
 refine tS (tR (sQ (pF0 rfl) rfl (sL (lBs rfl rfl) rfl rfl ?_)))
 refine sB (pE rfl rfl) rfl rfl (fun h44 => ?_) (fun h44 => ?_)
 refine sQ (pM rfl) rfl (sK rfl rfl (sK rfl rfl (sK rfl rfl (sQ (pPt rfl rfl) rfl (sQ (pM rfl) rfl (sL (lBa rfl rfl) rfl rfl ?_))))))
 focus (by_cases hpx : (ak = 14 ∧ afk = atk ∧ (atk = 4 ∨ atk = 5)); rw [decide_eq_true hpx] at hP; rotate_left; rw [decide_eq_false hpx] at hP; rotate_left; all_goals (refine seq_val rfl hP rfl rfl ?_))
 refine sQ (pPt rfl rfl) rfl (sQ (pM rfl) rfl (sQ (pF0 rfl) rfl (sQ (pF rfl) rfl (sL (lBs rfl rfl) rfl rfl ?_))))
 refine sB (pE rfl rfl) rfl rfl (fun h58 => ?_) (fun h58 => ?_)
 refine sQ (pPt rfl rfl) rfl (sQ (pA rfl) rfl (sD (nS (cT rfl ?_))))
 refine tS (tR (sQ (pF0 rfl) rfl (sL (lBs rfl rfl) rfl rfl ?_)))
 refine sP (pure_sub rfl rfl (by omega) (by omega)) rfl rfl ?_
 refine sQ (pA rfl) rfl (sD (nS (tS ?_)))
 (have hq : (ak = 14 ∧ afk = atk ∧ (atk = 4 ∨ atk = 5)) ∧ atk = 5 := ⟨hpx, by omega⟩; have hq1 := h14 hq.1.1; have hq2 := htyA.1 (by omega); have hq3 := hfrA.1 (by omega); rw [show (k - 11 : Int) = ((i : Nat) : Int) from (by omega)]; obtain ⟨bq, oq, e3, rfl, hl3, hat3, hre3, hgb3⟩ := hasl.kidTm hakl (i := 0) (by omega) (by omega); have ho3 := hre3.one; obtain ⟨b5, o5, q5, d5, rfl, hat5, hre5, hgb5⟩ := htS.kidTy htL (i := i) (by omega) (by omega); obtain ⟨b7, o7, q7, d7, rfl, hat7, hre7, hgb7⟩ := hfS.kidTy hfL (i := i) (by omega) (by omega); obtain ⟨x1, x2, x3, x4, x5, x6, x7, x8, x9, rfl⟩ := nine hl3; refine tri_draw mixed rfl ?_)
 refine any_pure (i := 0) (l' := [tt,ff,ff,ff,ff,ff,ff,ff,ff,ff,ff,ff,ff,ff,ff,ff,ff,ff,ff,ff,ff,ff,ff,ff,ff,ff]) rfl npI (pF0 rfl) rfl (by kernel_rfl) rfl rfl ?_
 refine aL 1 rfl (lBs rfl rfl) rfl ?_
 refine aP 2 rfl (pF0 rfl) rfl ?_
 refine aL 3 rfl (lBs rfl rfl) rfl ?_
 refine aP 4 rfl (pIN (j := 0) rfl rfl rfl (by omega)) rfl ?_
 refine aL 5 rfl (load_a rfl rfl (hat3 _) rfl) rfl ?_
 refine aP 8 rfl (pF0 rfl) rfl ?_
 refine aP 9 rfl (pF rfl) rfl ?_
 refine aL 10 rfl (lBs rfl rfl) rfl ?_
 refine aP 11 rfl (pM rfl) rfl ?_
 refine aP 12 rfl (pIN (j := i) rfl rfl rfl (by omega)) rfl ?_
 refine aL 13 rfl (load_a rfl rfl (hat7 _) rfl) rfl ?_
 refine aP 14 rfl (pF0 rfl) rfl ?_
 refine aP 15 rfl (pF rfl) rfl ?_
 refine aL 16 rfl (lBs rfl rfl) rfl ?_
 refine aP 17 rfl (pM rfl) rfl ?_
 refine aP 18 rfl (pIN (j := i) rfl rfl rfl (by omega)) rfl ?_
 refine aL 19 rfl (load_a rfl rfl (hat5 _) rfl) rfl ?_
 refine aP 20 rfl (pF0 rfl) rfl ?_
 refine aL 21 rfl (lBs rfl rfl) rfl ?_
 refine aO' 6 ?_
 (refine one_step0 rfl (step_buildSlice rfl rfl rfl (by omega) (by unfold maxLen; omega) rfl) rfl rfl ?_; rintro _ ⟨b95, rfl⟩)
 refine aO' 7 ?_
 (refine one_freeze (cs := [x1, x2, x3, x4, x5, x6, x7, x8, x9]) (by repeat (first | exact Pk.here | apply Pk.there)) (fun G2 hle2 hsl2 hno2 => ?_); have hrN := rtm_nod (k := k) (ks := [aks[0]]) (es := [[x1, x2, x3, x4, x5, x6, x7, x8, x9]]) hk rfl (SlE.of hsl2 rfl (by simp) (by intro x hx; obtain rfl := List.mem_singleton.1 hx; exact ho3)) (by simp only [RTmL]; exact ⟨_, _, rfl, hre3.mono hle2, rfl⟩); replace hre5 := hre5.mono hle2; replace hre7 := hre7.mono hle2; refine one_val rfl rfl (node_fn _ _ _ _ _) rfl rfl rfl ?_)
 refine aO' 22 ?_
 (refine one_imm rfl rfl (casted_fn _ afks[i] atks[i] alb G2 _ _ _ ⟨by omega, by omega⟩ hrN hre7 hre5) rfl rfl rfl (fun u G3 hle3 hh => ?_); obtain ⟨wc, rfl, hrw⟩ := hh; have hwl := hrw.len; have hwo := hrw.one)
 refine aO' 23 ?_
 (refine oS rfl rfl rfl rfl hwl hwo rfl rfl ?_ (hu := by exact upd_all hwl.symm))
 refine aP 24 rfl (pA rfl) rfl ?_
 refine aP 25 rfl (pA rfl) rfl ?_
 refine aD' ?_
 refine nS (tT (rB (rS (rF3 (rC rfl (load_a rfl rfl (at_blk_all (by repeat first | exact mH | apply mT)) hwl)) (rT rfl) (rT rfl) ?_))))
 (exact StpP.mk (by rw [if_pos hq, kd_at (by omega), kt_at (by omega), kt_at (by omega)]) hrw)
 refine sQ (pPt rfl rfl) rfl (sQ (pA rfl) rfl (sD (nS (cF rfl ?_))))
 refine tS (tR (sQ (pF0 rfl) rfl (sL (lBs rfl rfl) rfl rfl ?_)))
 refine sP (pure_neq_t rfl rfl (by omega)) rfl rfl ?_
 refine sQ (pA rfl) rfl (sD (nS (cT rfl ?_)))
 refine tS (tR (sQ (pBd rfl rfl) rfl (sS' ?_)))
 refine sQ (pA rfl) rfl (sQ (pA rfl) rfl (sD (nS (tT (rB (rS ?_))))))
 refine rF3 (rC rfl (lBa rfl rfl)) (rT rfl) (rT rfl) ?_
 (exact StpP.mk (by rw [if_neg (by omega)]; rfl) (tm0_r _))
 refine sQ (pPt rfl rfl) rfl (sQ (pM rfl) rfl (sK rfl rfl (sK rfl rfl (sK rfl rfl (sK rfl rfl (sQ (pPf rfl rfl) rfl ?_))))))
 refine sQ (pA rfl) rfl (sD (nS (cF rfl ?_)))
 refine tS (tR (sQ (pF0 rfl) rfl (sL (lBs rfl rfl) rfl rfl ?_)))
 refine sP (pure_neq_t rfl rfl (by omega)) rfl rfl ?_
 refine sQ (pA rfl) rfl (sD (nS (cT rfl ?_)))
 refine tS (tR (sQ (pBd rfl rfl) rfl (sS' ?_)))
 refine sQ (pA rfl) rfl (sQ (pA rfl) rfl (sD (nS (tT (rB (rS ?_))))))
 refine rF3 (rC rfl (lBa rfl rfl)) (rT rfl) (rT rfl) ?_
 (exact StpP.mk (by rw [if_neg (by omega)]; rfl) (tm0_r _))
 refine sQ (pM rfl) rfl (sQ (pF0 rfl) rfl (sL (lBs rfl rfl) rfl rfl ?_))
 refine sP (pure_eql_t rfl rfl (by omega)) rfl rfl ?_
 refine sQ (pPf rfl rfl) rfl (sQ (pM rfl) rfl (sL (lBa rfl rfl) rfl rfl ?_))
 focus (by_cases hpx : (ak = 14 ∧ afk = atk ∧ (atk = 4 ∨ atk = 5)); rw [decide_eq_true hpx] at hP; rotate_left; rw [decide_eq_false hpx] at hP; rotate_left; all_goals (refine seq_val rfl hP rfl rfl ?_))
 refine sQ (pPt rfl rfl) rfl (sQ (pM rfl) rfl (sQ (pF0 rfl) rfl (sQ (pF rfl) rfl (sL (lBs rfl rfl) rfl rfl ?_))))
 refine sB (pE rfl rfl) rfl rfl (fun h184 => ?_) (fun h184 => ?_)
 refine sQ (pPt rfl rfl) rfl (sQ (pA rfl) rfl (sD (nS (cT rfl ?_))))
 refine tS (tR (sQ (pF0 rfl) rfl (sL (lBs rfl rfl) rfl rfl ?_)))
 refine sP (pure_sub rfl rfl (by omega) (by omega)) rfl rfl ?_
 refine sQ (pA rfl) rfl (sD (nS (tS ?_)))
 (have hq : (ak = 14 ∧ afk = atk ∧ (atk = 4 ∨ atk = 5)) ∧ atk = 5 := ⟨hpx, by omega⟩; have hq1 := h14 hq.1.1; have hq2 := htyA.1 (by omega); have hq3 := hfrA.1 (by omega); rw [show (k - 11 : Int) = ((i : Nat) : Int) from (by omega)]; obtain ⟨bq, oq, e3, rfl, hl3, hat3, hre3, hgb3⟩ := hasl.kidTm hakl (i := 0) (by omega) (by omega); have ho3 := hre3.one; obtain ⟨b5, o5, q5, d5, rfl, hat5, hre5, hgb5⟩ := htS.kidTy htL (i := i) (by omega) (by omega); obtain ⟨b7, o7, q7, d7, rfl, hat7, hre7, hgb7⟩ := hfS.kidTy hfL (i := i) (by omega) (by omega); obtain ⟨x1, x2, x3, x4, x5, x6, x7, x8, x9, rfl⟩ := nine hl3; refine tri_draw mixed rfl ?_)
 refine any_pure (i := 0) (l' := [tt,ff,ff,ff,ff,ff,ff,ff,ff,ff,ff,ff,ff,ff,ff,ff,ff,ff,ff,ff,ff,ff,ff,ff,ff,ff]) rfl npI (pF0 rfl) rfl (by kernel_rfl) rfl rfl ?_
 refine aL 1 rfl (lBs rfl rfl) rfl ?_
 refine aP 2 rfl (pF0 rfl) rfl ?_
 refine aL 3 rfl (lBs rfl rfl) rfl ?_
 refine aP 4 rfl (pIN (j := 0) rfl rfl rfl (by omega)) rfl ?_
 refine aL 5 rfl (load_a rfl rfl (hat3 _) rfl) rfl ?_
 refine aP 8 rfl (pF0 rfl) rfl ?_
 refine aP 9 rfl (pF rfl) rfl ?_
 refine aL 10 rfl (lBs rfl rfl) rfl ?_
 refine aP 11 rfl (pM rfl) rfl ?_
 refine aP 12 rfl (pIN (j := i) rfl rfl rfl (by omega)) rfl ?_
 refine aL 13 rfl (load_a rfl rfl (hat7 _) rfl) rfl ?_
 refine aP 14 rfl (pF0 rfl) rfl ?_
 refine aP 15 rfl (pF rfl) rfl ?_
 refine aL 16 rfl (lBs rfl rfl) rfl ?_
 refine aP 17 rfl (pM rfl) rfl ?_
 refine aP 18 rfl (pIN (j := i) rfl rfl rfl (by omega)) rfl ?_
 refine aL 19 rfl (load_a rfl rfl (hat5 _) rfl) rfl ?_
 refine aP 20 rfl (pF0 rfl) rfl ?_
 refine aL 21 rfl (lBs rfl rfl) rfl ?_
 refine aO' 6 ?_
 (refine one_step0 rfl (step_buildSlice rfl rfl rfl (by omega) (by unfold maxLen; omega) rfl) rfl rfl ?_; rintro _ ⟨b221, rfl⟩)
 refine aO' 7 ?_
 (refine one_freeze (cs := [x1, x2, x3, x4, x5, x6, x7, x8, x9]) (by repeat (first | exact Pk.here | apply Pk.there)) (fun G2 hle2 hsl2 hno2 => ?_); have hrN := rtm_nod (k := k) (ks := [aks[0]]) (es := [[x1, x2, x3, x4, x5, x6, x7, x8, x9]]) hk rfl (SlE.of hsl2 rfl (by simp) (by intro x hx; obtain rfl := List.mem_singleton.1 hx; exact ho3)) (by simp only [RTmL]; exact ⟨_, _, rfl, hre3.mono hle2, rfl⟩); replace hre5 := hre5.mono hle2; replace hre7 := hre7.mono hle2; refine one_val rfl rfl (node_fn _ _ _ _ _) rfl rfl rfl ?_)
 refine aO' 22 ?_
 (refine one_imm rfl rfl (casted_fn _ afks[i] atks[i] alb G2 _ _ _ ⟨by omega, by omega⟩ hrN hre7 hre5) rfl rfl rfl (fun u G3 hle3 hh => ?_); obtain ⟨wc, rfl, hrw⟩ := hh; have hwl := hrw.len; have hwo := hrw.one)
 refine aO' 23 ?_
 (refine oS rfl rfl rfl rfl hwl hwo rfl rfl ?_ (hu := by exact upd_all hwl.symm))
 refine aP 24 rfl (pA rfl) rfl ?_
 refine aP 25 rfl (pA rfl) rfl ?_
 refine aD' ?_
 refine nS (tT (rB (rS (rF3 (rC rfl (load_a rfl rfl (at_blk_all (by repeat first | exact mH | apply mT)) hwl)) (rT rfl) (rT rfl) ?_))))
 (exact StpP.mk (by rw [if_pos hq, kd_at (by omega), kt_at (by omega), kt_at (by omega)]) hrw)
 refine sQ (pPt rfl rfl) rfl (sQ (pA rfl) rfl (sD (nS (cF rfl ?_))))
 refine tS (tR (sQ (pF0 rfl) rfl (sL (lBs rfl rfl) rfl rfl ?_)))
 refine sP (pure_neq_t rfl rfl (by omega)) rfl rfl ?_
 refine sQ (pA rfl) rfl (sD (nS (cT rfl ?_)))
 refine tS (tR (sQ (pBd rfl rfl) rfl (sS' ?_)))
 refine sQ (pA rfl) rfl (sQ (pA rfl) rfl (sD (nS (tT (rB (rS ?_))))))
 refine rF3 (rC rfl (lBa rfl rfl)) (rT rfl) (rT rfl) ?_
 (exact StpP.mk (by rw [if_neg (by omega)]; rfl) (tm0_r _))
 refine sQ (pPt rfl rfl) rfl (sQ (pM rfl) rfl (sK rfl rfl (sK rfl rfl (sK rfl rfl (sK rfl rfl (sQ (pPf rfl rfl) rfl ?_))))))
 refine sQ (pA rfl) rfl (sD (nS (cF rfl ?_)))
 refine tS (tR (sQ (pF0 rfl) rfl (sL (lBs rfl rfl) rfl rfl ?_)))
 refine sP (pure_neq_t rfl rfl (by omega)) rfl rfl ?_
 refine sQ (pA rfl) rfl (sD (nS (cT rfl ?_)))
 refine tS (tR (sQ (pBd rfl rfl) rfl (sS' ?_)))
 refine sQ (pA rfl) rfl (sQ (pA rfl) rfl (sD (nS (tT (rB (rS ?_))))))
 refine rF3 (rC rfl (lBa rfl rfl)) (rT rfl) (rT rfl) ?_
 (exact StpP.mk (by rw [if_neg (by omega)]; rfl) (tm0_r _))
theorem inj_k {t : Tm} (h : inj t = true) : t.k = 14 := by
 unfold inj at h
 simp only [Bool.and_eq_true, decide_eq_true_eq] at h
 exact h.1.1
theorem same_k {t u : Ty} (h : isGrd t = true) (h' : isGrd u = true) : tSame t u = decide (t.k = u.k) := by
 have e1 := grd_eq h
 have e2 := grd_eq h'
 by_cases hk : t.k = u.k
 ·rw [decide_eq_true hk, tSame_iff, e1, e2]
  unfold mGround; rw [hk]
 ·rw [decide_eq_false hk]
  cases hs : tSame t u with
  | false => rfl
  | true => exact absurd (congrArg Ty.k ((tSame_iff _ _).1 hs)) hk
theorem inj_grd {t : Tm} (h : inj t = true) : isGrd t.fr = true := by
 unfold inj at h
 rw [Bool.and_eq_true] at h
 exact h.2
theorem crule14_fn (a : Tm) (nm : ByteArray) (num : Int) (ty fr : Ty) (lb : Int) (G : IM) (cells : List Value) (hca : cv a) (hlb9 : -99 ≤ lb ∧ lb ≤ 99) (hr : RTm G (.mk 14 nm num ty fr lb [a]) cells) : Fn Tryz.prog 157 [.agg ⟨cells⟩] [] G (StpP (mCRule 14 ty fr lb [a])) := by
 have hji := @inj_grd a
 have hjk := @inj_k a
 obtain ⟨ak, anm, anum, ⟨atk, atks⟩, ⟨afk, afks⟩, alb, aks⟩ := a
 obtain ⟨hN, hkk⟩ := hca.node
 have hops := hN.ops
 have hbl := hN.lbB
 have htyA := hN.tyA
 have hfrA := hN.frA
 rw [tAr] at htyA hfrA
 have h14 : ak = 14 → aks.length = 1 := fun h => by rw [h] at hops; have : tmOps 14 = 1 := rfl; omega
 obtain ⟨tk, tks⟩ := ty
 obtain ⟨fk, fks⟩ := fr
 obtain ⟨pt, ct, pf, cf, p, c, es, rfl, hk, hnum, hlb, hty, hfr, hsl, hkl⟩ := hr.open9
 obtain ⟨bx, ox, e0, rfl, hl0, hat0, hre0, hgb0⟩ := hsl.kidTm hkl (i := 0) (by simp) (by simp)
 replace hre0 : RTm G (Tm.mk ak anm anum (.mk atk atks) (.mk afk afks) alb aks) e0 := hre0
 have hP : Fn Tryz.prog 80 [.agg ⟨e0⟩] [] G (Val (.bool (decide (ak = 14 ∧ afk = atk ∧ (atk = 4 ∨ atk = 5)))) G) := isProxy_fn _ G _ hre0
 have hI := isInjection_fn _ G _ hre0
 have ho0 := hre0.one
 obtain ⟨apt, act, apf, acf, ap, ac, aes, rfl, hak, hanum, halb, haty, hafr, hasl, hakl⟩ := hre0.open9
 have hfk64 : I64 fk := by obtain ⟨_, _, _, _, h, _⟩ := hfr.open; exact h
 have htk64 : I64 tk := by obtain ⟨_, _, _, _, h, _⟩ := hty.open; exact h
 obtain ⟨tes, htS, htL⟩ := haty.kids
 obtain ⟨fes, hfS, hfL⟩ := hafr.kids
 simp only [Ty.ks] at htS htL hfS hfL
 obtain ⟨J, hJ⟩ : ∃ J, inj (Tm.mk ak anm anum (.mk atk atks) (.mk afk afks) alb aks) = J := ⟨_, rfl⟩
 obtain ⟨D, hD⟩ : ∃ D, isGrd (.mk tk tks) = D := ⟨_, rfl⟩
 have hGr := isGround_fn _ G _ hty
 rw [hD] at hGr
 rw [hJ] at hI hji hjk
 have hR : mCRule 14 (.mk tk tks) (.mk fk fks) lb [Tm.mk ak anm anum (.mk atk atks) (.mk afk afks) alb aks] = (if fk = tk then (Tm.mk ak anm anum (.mk atk atks) (.mk afk afks) alb aks, 1, 0)
   else if tk = 1 then (mCst (mCst (Tm.mk ak anm anum (.mk atk atks) (.mk afk afks) alb aks) (.mk fk fks) (mGk fk) lb) (mGk fk) (.mk tk tks) lb, 1, 0)
   else if D = false then (mCst (mCst (Tm.mk ak anm anum (.mk atk atks) (.mk afk afks) alb aks) (.mk fk fks) (mGk tk) lb) (mGk tk) (.mk tk tks) lb, 1, 0)
   else if J = false then stuck
   else if afk = tk then (kd aks 0, 1, 0)
   else (tm0, 2, lb)) := by
  rw [← hJ, ← hD]; rfl
 rw [hR]
 have hSm : J = true → D = true → tSame (.mk afk afks) (.mk tk tks) = decide (afk = tk) := fun h1 h2 => same_k (hji h1) (hD.trans h2)
 have hTS := typeSameX_fn (.mk afk afks) (.mk tk tks) G _ _ hafr hty
 refine fn_enter Tryz.func157 rfl Tryz.ntmps157 Tryz.results157 rfl ?_
 intro w0
 refine tS (tR ?_)
 refine sE (step_box_a rfl rfl) rfl (fun b3 => ?_)
 refine sE (step_alloc rfl) rfl (fun b4 => ?_)
 refine sQ (pA rfl) rfl (sQ (pA rfl) rfl (sD (nS (tS (tR (sQ (pF0 rfl) rfl ?_))))))
 refine sL (lBs rfl rfl) rfl rfl ?_
 refine sP (pIN (j := 0) rfl rfl rfl (by simp)) rfl rfl ?_
 refine sL (load_a rfl rfl (hat0 _) rfl) rfl rfl ?_
 refine sE (step_alloc rfl) rfl (fun b15 => ?_)
 refine sS' ?_
 refine sD (nS (tS (tri_block (tS (tR (sQ (pF0 rfl) rfl ?_))))))
 refine sL (lBs rfl rfl) rfl rfl ?_
 refine sP (pure_eql_f rfl rfl (by omega)) rfl rfl ?_
 refine sQ (pM rfl) rfl (sK rfl rfl (sK rfl rfl (sQ (pPf rfl rfl) rfl (sQ (pM rfl) rfl (sK rfl rfl (sK rfl rfl ?_))))))
 refine sK rfl rfl (sK rfl rfl (sQ (pPf rfl rfl) rfl (sQ (pA rfl) rfl (sD (nS (cF rfl ?_))))))
 refine tS (tR (sQ (pF0 rfl) rfl (sL (lBs rfl rfl) rfl rfl ?_)))
 refine sP (pure_eql_f rfl rfl (by omega)) rfl rfl ?_
 refine sQ (pM rfl) rfl (sQ (pF0 rfl) rfl (sL (lBs rfl rfl) rfl rfl ?_))
 refine sP (pure_eql_f rfl rfl (by omega)) rfl rfl ?_
 refine sQ (pPf rfl rfl) rfl (sQ (pM rfl) rfl (sK rfl rfl (sK rfl rfl (sQ (pPf rfl rfl) rfl (sQ (pM rfl) rfl (sK rfl rfl ?_))))))
 refine sK rfl rfl (sK rfl rfl (sK rfl rfl (sQ (pPf rfl rfl) rfl (sQ (pA rfl) rfl (sD (nS ?_))))))
 refine cF rfl ?_
 refine tS (tR (sQ (pF0 rfl) rfl (sL (lBs rfl rfl) rfl rfl ?_)))
 refine sP (pure_neq_f rfl rfl (by omega)) rfl rfl ?_
 refine sQ (pA rfl) rfl (sD (nS (cF rfl ?_)))
 refine tS (tR (sQ (pF0 rfl) rfl (sQ (pF rfl) rfl (sL (lBs rfl rfl) rfl rfl ?_))))
 refine sQ (pF0 rfl) rfl (sQ (pF rfl) rfl (sL (lBs rfl rfl) rfl rfl ?_))
 refine sB (pE rfl rfl) rfl rfl (fun h81 => ?_) (fun h81 => ?_)
 refine sQ (pA rfl) rfl (sD (nS (cT rfl ?_)))
 refine tS (tR (sL (lBa rfl rfl) rfl rfl ?_))
 refine sS' ?_
 refine sQ (pA rfl) rfl (sQ (pA rfl) rfl (sD (nS (tT (rB (rS ?_))))))
 refine rF3 (rC rfl (lBa rfl rfl)) (rT rfl) (rT rfl) ?_
 (exact StpP.mk (by rw [if_pos (by omega)]) hre0)
 refine sQ (pA rfl) rfl (sD (nS (cF rfl ?_)))
 refine tS (tR (sQ (pF0 rfl) rfl (sQ (pF rfl) rfl (sL (lBs rfl rfl) rfl rfl ?_))))
 refine sB (pE rfl rfl) rfl rfl (fun h108 => ?_) (fun h108 => ?_)
 refine sQ (pA rfl) rfl (sD (nS (cT rfl ?_)))
 refine tS (tR (sQ (pF0 rfl) rfl (sQ (pF rfl) rfl (sL (lBs rfl rfl) rfl rfl ?_))))
 (refine seq_imm rfl (ground_fn fk G hfk64) rfl rfl (fun u G1 hle1 hh => ?_); obtain ⟨gc, rfl, hrg⟩ := hh; obtain ⟨pg, cg, eg, rfl, _⟩ := hrg.open; have hgk : tk = 1 := (by omega); replace hre0 := hre0.mono hle1; replace hfr := hfr.mono hle1; replace hty := hty.mono hle1)
 refine sE (step_alloc rfl) rfl (fun b119 => ?_)
 refine sS' ?_
 refine sD (nS (tS (tri_draw mixed rfl ?_)))
 refine any_load (i := 0) (l' := [tt,ff,ff,ff,ff,ff,ff,ff,ff,ff,ff,ff,ff,ff,ff,ff]) rfl npI (load_a rfl rfl (at_blk_all (by repeat first | exact mH | apply mT)) rfl) rfl (by kernel_rfl) rfl rfl ?_
 refine aL 3 rfl (load_a rfl rfl (at_blk_all (by repeat first | exact mH | apply mT)) rfl) rfl ?_
 refine aL 7 rfl (load_a rfl rfl (at_blk_all (by repeat first | exact mH | apply mT)) rfl) rfl ?_
 refine aP 1 rfl (pF0 rfl) rfl ?_
 refine aL 2 rfl (lBa rfl rfl) rfl ?_
 refine aP 4 rfl (pF0 rfl) rfl ?_
 refine aL 5 rfl (lBs rfl rfl) rfl ?_
 refine aP 8 rfl (pF0 rfl) rfl ?_
 refine aL 9 rfl (lBa rfl rfl) rfl ?_
 refine aP 10 rfl (pF0 rfl) rfl ?_
 refine aL 11 rfl (lBs rfl rfl) rfl ?_
 refine aO' 6 ?_
 (refine one_imm rfl rfl (casted_fn _ (.mk fk fks) _ lb G1 _ _ _ ⟨by omega, by omega⟩ hre0 hfr hrg) rfl rfl rfl (fun u G3 hle3 hh => ?_); obtain ⟨wc, rfl, hrw⟩ := hh; have hwl := hrw.len; have hwo := hrw.one; replace hrg := hrg.mono hle3; replace hty := hty.mono hle3)
 refine aO' 12 ?_
 (refine one_imm rfl rfl (casted_fn _ _ (.mk tk tks) lb G3 _ _ _ ⟨by omega, by omega⟩ hrw hrg hty) rfl rfl rfl (fun u G4 hle4 hh => ?_); obtain ⟨xc, rfl, hrx⟩ := hh; have hxl := hrx.len; have hxo := hrx.one)
 refine aO' 13 ?_
 (refine oS rfl rfl rfl rfl hxl hxo rfl rfl ?_ (hu := by exact upd_all hxl.symm))
 refine aP 14 rfl (pA rfl) rfl ?_
 refine aP 15 rfl (pA rfl) rfl ?_
 refine aD' ?_
 refine nS (tT (rB (rS (rF3 (rC rfl (load_a rfl rfl (at_blk_all (by repeat first | exact mH | apply mT)) hxl)) (rT rfl) (rT rfl) ?_))))
 (exact StpP.mk (by rw [if_neg (by omega), if_pos (by omega)]) hrx)
 refine sQ (pA rfl) rfl (sD (nS (cF rfl ?_)))
 refine tS (tR (sQ (pF0 rfl) rfl (sL (lBa rfl rfl) rfl rfl ?_)))
 focus (cases hDD : D; all_goals (rw [hDD] at hGr; refine seq_val rfl hGr rfl rfl ?_))
 refine sQ (pNf rfl) rfl (sQ (pA rfl) rfl (sD (nS (cT rfl ?_))))
 refine tS (tR (sQ (pF0 rfl) rfl (sQ (pF rfl) rfl (sL (lBs rfl rfl) rfl rfl ?_))))
 (refine seq_imm rfl (ground_fn tk G htk64) rfl rfl (fun u G1 hle1 hh => ?_); obtain ⟨gc, rfl, hrg⟩ := hh; obtain ⟨pg, cg, eg, rfl, _⟩ := hrg.open; replace hre0 := hre0.mono hle1; replace hfr := hfr.mono hle1; replace hty := hty.mono hle1)
 refine sE (step_alloc rfl) rfl (fun b171 => ?_)
 refine sS' ?_
 refine sD (nS (tS (tri_draw mixed rfl ?_)))
 refine any_load (i := 0) (l' := [tt,ff,ff,ff,ff,ff,ff,ff,ff,ff,ff,ff,ff,ff,ff,ff]) rfl npI (load_a rfl rfl (at_blk_all (by repeat first | exact mH | apply mT)) rfl) rfl (by kernel_rfl) rfl rfl ?_
 refine aL 3 rfl (load_a rfl rfl (at_blk_all (by repeat first | exact mH | apply mT)) rfl) rfl ?_
 refine aL 7 rfl (load_a rfl rfl (at_blk_all (by repeat first | exact mH | apply mT)) rfl) rfl ?_
 refine aP 1 rfl (pF0 rfl) rfl ?_
 refine aL 2 rfl (lBa rfl rfl) rfl ?_
 refine aP 4 rfl (pF0 rfl) rfl ?_
 refine aL 5 rfl (lBs rfl rfl) rfl ?_
 refine aP 8 rfl (pF0 rfl) rfl ?_
 refine aL 9 rfl (lBa rfl rfl) rfl ?_
 refine aP 10 rfl (pF0 rfl) rfl ?_
 refine aL 11 rfl (lBs rfl rfl) rfl ?_
 refine aO' 6 ?_
 (refine one_imm rfl rfl (casted_fn _ (.mk fk fks) _ lb G1 _ _ _ ⟨by omega, by omega⟩ hre0 hfr hrg) rfl rfl rfl (fun u G3 hle3 hh => ?_); obtain ⟨wc, rfl, hrw⟩ := hh; have hwl := hrw.len; have hwo := hrw.one; replace hrg := hrg.mono hle3; replace hty := hty.mono hle3)
 refine aO' 12 ?_
 (refine one_imm rfl rfl (casted_fn _ _ (.mk tk tks) lb G3 _ _ _ ⟨by omega, by omega⟩ hrw hrg hty) rfl rfl rfl (fun u G4 hle4 hh => ?_); obtain ⟨xc, rfl, hrx⟩ := hh; have hxl := hrx.len; have hxo := hrx.one)
 refine aO' 13 ?_
 (refine oS rfl rfl rfl rfl hxl hxo rfl rfl ?_ (hu := by exact upd_all hxl.symm))
 refine aP 14 rfl (pA rfl) rfl ?_
 refine aP 15 rfl (pA rfl) rfl ?_
 refine aD' ?_
 refine nS (tT (rB (rS (rF3 (rC rfl (load_a rfl rfl (at_blk_all (by repeat first | exact mH | apply mT)) hxl)) (rT rfl) (rT rfl) ?_))))
 (exact StpP.mk (by rw [if_neg (by omega), if_neg (by omega), if_pos rfl]) hrx)
 refine sQ (pNt rfl) rfl (sQ (pA rfl) rfl (sD (nS (cF rfl ?_))))
 refine tS (tR (sL (lBa rfl rfl) rfl rfl ?_))
 focus (cases hJJ : J; all_goals (rw [hJJ] at hI; refine seq_val rfl hI rfl rfl ?_))
 refine sQ (pNf rfl) rfl (sQ (pA rfl) rfl (sD (nS (cT rfl ?_))))
 refine tS (tR (sQ (pBd rfl rfl) rfl (sS' ?_)))
 refine sQ (pA rfl) rfl (sQ (pA rfl) rfl (sD (nS (tT (rB (rS ?_))))))
 refine rF3 (rC rfl (lBa rfl rfl)) (rT rfl) (rT rfl) ?_
 (exact StpP.mk (by rw [if_neg (by omega), if_neg (by omega), if_neg (by decide), if_pos rfl]; rfl) (tm0_r _))
 refine sQ (pNt rfl) rfl (sQ (pA rfl) rfl (sD (nS (cF rfl ?_))))
 refine tS (tR (sQ (pF0 rfl) rfl (sL (lBa rfl rfl) rfl rfl ?_)))
 refine sQ (pF0 rfl) rfl (sL (lBa rfl rfl) rfl rfl ?_)
 focus (rw [hSm hJJ hDD] at hTS; by_cases hfk : afk = tk; rw [decide_eq_true hfk] at hTS; rotate_left; rw [decide_eq_false hfk] at hTS; rotate_left; all_goals (refine seq_val rfl hTS rfl rfl ?_))
 refine sQ (pA rfl) rfl (sD (nS (cT rfl ?_)))
 refine tS (tR (sQ (pF0 rfl) rfl (sL (lBs rfl rfl) rfl rfl ?_)))
 (have hq1 := h14 (hjk (by assumption)); obtain ⟨bq, oq, e3, rfl, hl3, hat3, hre3, hgb3⟩ := hasl.kidTm hakl (i := 0) (by omega) (by omega); have ho3 := hre3.one; refine sP (pIN (j := 0) rfl rfl rfl (by omega)) rfl rfl ?_)
 refine sL (load_a rfl rfl (hat3 _) hl3) rfl rfl ?_
 refine sS rfl rfl rfl hl3 ho3 rfl ?_ (hu := by exact upd_all hl3.symm)
 refine sQ (pA rfl) rfl (sQ (pA rfl) rfl (sD (nS (tT (rB (rS ?_))))))
 refine rF3 (rC rfl (load_a rfl rfl (at_blk_all (by repeat first | exact mH | apply mT)) hl3)) (rT rfl) (rT rfl) ?_
 (exact StpP.mk (by rw [if_neg (by omega), if_neg (by omega), if_neg (by decide), if_neg (by decide), if_pos hfk, kd_at (by omega)]) hre3)
 refine sQ (pA rfl) rfl (sD (nS (cF rfl ?_)))
 refine tK (nrm_block (nS (tS (tri_draw mixed rfl ?_))))
 refine any_pure (i := 0) (l' := [tt,ff,ff,ff,ff,ff]) rfl npI (pBd rfl rfl) rfl (by kernel_rfl) rfl rfl ?_
 refine aP 1 rfl (pF0 rfl) rfl ?_
 refine aL 2 rfl (lBs rfl rfl) rfl ?_
 refine aO' 3 ?_
 refine oT' rfl ?_
 refine aP 4 rfl (pA rfl) rfl ?_
 refine aP 5 rfl (pA rfl) rfl ?_
 refine aD' ?_
 refine nS (tT (rF3 (rC rfl (lBa rfl rfl)) (rT rfl) (rT rfl) ?_))
 (exact StpP.mk (by rw [if_neg (by omega), if_neg (by omega), if_neg (by decide), if_neg (by decide), if_neg hfk]) (tm0_r _))
theorem crule78_fn (k : Int) (a b : Tm) (nm : ByteArray) (num : Int) (ty fr : Ty) (lb : Int) (G : IM) (cells : List Value) (hk1 : k = 7 ∨ k = 8) (hca : cv a) (hr : RTm G (.mk k nm num ty fr lb [a, b]) cells) : Fn Tryz.prog 157 [.agg ⟨cells⟩] [] G (StpP (mCRule k ty fr lb [a, b])) := by
 have hR : mCRule k ty fr lb [a, b] = stuck := by unfold mCRule; rw [if_neg (by omega), if_neg (by omega), if_neg (by omega)]
 rw [hR]
 obtain ⟨ak, anm, anum, ⟨atk, atks⟩, ⟨afk, afks⟩, alb, aks⟩ := a
 obtain ⟨hN, hkk⟩ := hca.node
 have hops := hN.ops
 have hbl := hN.lbB
 have htyA := hN.tyA
 have hfrA := hN.frA
 rw [tAr] at htyA hfrA
 have h14 : ak = 14 → aks.length = 1 := fun h => by rw [h] at hops; have : tmOps 14 = 1 := rfl; omega
 obtain ⟨tk, tks⟩ := ty
 obtain ⟨fk, fks⟩ := fr
 obtain ⟨pt, ct, pf, cf, p, c, es, rfl, hk, hnum, hlb, hty, hfr, hsl, hkl⟩ := hr.open9
 obtain ⟨bx, ox, e0, rfl, hl0, hat0, hre0, hgb0⟩ := hsl.kidTm hkl (i := 0) (by simp) (by simp)
 replace hre0 : RTm G (Tm.mk ak anm anum (.mk atk atks) (.mk afk afks) alb aks) e0 := hre0
 have hP : Fn Tryz.prog 80 [.agg ⟨e0⟩] [] G (Val (.bool (decide (ak = 14 ∧ afk = atk ∧ (atk = 4 ∨ atk = 5)))) G) := isProxy_fn _ G _ hre0
 have hI := isInjection_fn _ G _ hre0
 have ho0 := hre0.one
 obtain ⟨apt, act, apf, acf, ap, ac, aes, rfl, hak, hanum, halb, haty, hafr, hasl, hakl⟩ := hre0.open9
 have hfk64 : I64 fk := by obtain ⟨_, _, _, _, h, _⟩ := hfr.open; exact h
 have htk64 : I64 tk := by obtain ⟨_, _, _, _, h, _⟩ := hty.open; exact h
 obtain ⟨tes, htS, htL⟩ := haty.kids
 obtain ⟨fes, hfS, hfL⟩ := hafr.kids
 simp only [Ty.ks] at htS htL hfS hfL
 refine fn_enter Tryz.func157 rfl Tryz.ntmps157 Tryz.results157 rfl ?_
 intro w0
 refine tS (tR ?_)
 refine sE (step_box_a rfl rfl) rfl (fun b3 => ?_)
 refine sE (step_alloc rfl) rfl (fun b4 => ?_)
 refine sQ (pA rfl) rfl (sQ (pA rfl) rfl (sD (nS (tS (tR (sQ (pF0 rfl) rfl ?_))))))
 refine sL (lBs rfl rfl) rfl rfl ?_
 refine sP (pIN (j := 0) rfl rfl rfl (by simp)) rfl rfl ?_
 refine sL (load_a rfl rfl (hat0 _) rfl) rfl rfl ?_
 refine sE (step_alloc rfl) rfl (fun b15 => ?_)
 refine sS' ?_
 refine sD (nS (tS (tri_block (tS (tR (sQ (pF0 rfl) rfl ?_))))))
 refine sL (lBs rfl rfl) rfl rfl ?_
 refine sP (pure_eql_f rfl rfl (by omega)) rfl rfl ?_
 refine sQ (pM rfl) rfl (sK rfl rfl (sK rfl rfl (sQ (pPf rfl rfl) rfl (sQ (pM rfl) rfl (sK rfl rfl (sK rfl rfl ?_))))))
 refine sK rfl rfl (sK rfl rfl (sQ (pPf rfl rfl) rfl (sQ (pA rfl) rfl (sD (nS (cF rfl ?_))))))
 refine tS (tR (sQ (pF0 rfl) rfl (sL (lBs rfl rfl) rfl rfl ?_)))
 refine sP (pure_eql_f rfl rfl (by omega)) rfl rfl ?_
 refine sQ (pM rfl) rfl (sQ (pF0 rfl) rfl (sL (lBs rfl rfl) rfl rfl ?_))
 refine sP (pure_eql_f rfl rfl (by omega)) rfl rfl ?_
 refine sQ (pPf rfl rfl) rfl (sQ (pM rfl) rfl (sK rfl rfl (sK rfl rfl (sQ (pPf rfl rfl) rfl (sQ (pM rfl) rfl (sK rfl rfl ?_))))))
 refine sK rfl rfl (sK rfl rfl (sK rfl rfl (sQ (pPf rfl rfl) rfl (sQ (pA rfl) rfl (sD (nS ?_))))))
 refine cF rfl ?_
 refine tS (tR (sQ (pF0 rfl) rfl (sL (lBs rfl rfl) rfl rfl ?_)))
 refine sP (pure_neq_t rfl rfl (by omega)) rfl rfl ?_
 refine sQ (pA rfl) rfl (sD (nS (cT rfl ?_)))
 refine tS (tR (sQ (pBd rfl rfl) rfl (sS' ?_)))
 refine sQ (pA rfl) rfl (sQ (pA rfl) rfl (sD (nS (tT (rB (rS ?_))))))
 refine rF3 (rC rfl (lBa rfl rfl)) (rT rfl) (rT rfl) ?_
 (exact StpP.mk rfl (tm0_r _))
theorem crule9_fn (a b c0 : Tm) (nm : ByteArray) (num : Int) (ty fr : Ty) (lb : Int) (G : IM) (cells : List Value) (hca : cv a) (hr : RTm G (.mk 9 nm num ty fr lb [a, b, c0]) cells) : Fn Tryz.prog 157 [.agg ⟨cells⟩] [] G (StpP (mCRule 9 ty fr lb [a, b, c0])) := by
 have hR : mCRule 9 ty fr lb [a, b, c0] = stuck := by unfold mCRule; rw [if_neg (by omega), if_neg (by omega), if_neg (by omega)]
 rw [hR]
 obtain ⟨ak, anm, anum, ⟨atk, atks⟩, ⟨afk, afks⟩, alb, aks⟩ := a
 obtain ⟨hN, hkk⟩ := hca.node
 have hops := hN.ops
 have hbl := hN.lbB
 have htyA := hN.tyA
 have hfrA := hN.frA
 rw [tAr] at htyA hfrA
 have h14 : ak = 14 → aks.length = 1 := fun h => by rw [h] at hops; have : tmOps 14 = 1 := rfl; omega
 obtain ⟨tk, tks⟩ := ty
 obtain ⟨fk, fks⟩ := fr
 obtain ⟨pt, ct, pf, cf, p, c, es, rfl, hk, hnum, hlb, hty, hfr, hsl, hkl⟩ := hr.open9
 obtain ⟨bx, ox, e0, rfl, hl0, hat0, hre0, hgb0⟩ := hsl.kidTm hkl (i := 0) (by simp) (by simp)
 replace hre0 : RTm G (Tm.mk ak anm anum (.mk atk atks) (.mk afk afks) alb aks) e0 := hre0
 have hP : Fn Tryz.prog 80 [.agg ⟨e0⟩] [] G (Val (.bool (decide (ak = 14 ∧ afk = atk ∧ (atk = 4 ∨ atk = 5)))) G) := isProxy_fn _ G _ hre0
 have hI := isInjection_fn _ G _ hre0
 have ho0 := hre0.one
 obtain ⟨apt, act, apf, acf, ap, ac, aes, rfl, hak, hanum, halb, haty, hafr, hasl, hakl⟩ := hre0.open9
 have hfk64 : I64 fk := by obtain ⟨_, _, _, _, h, _⟩ := hfr.open; exact h
 have htk64 : I64 tk := by obtain ⟨_, _, _, _, h, _⟩ := hty.open; exact h
 obtain ⟨tes, htS, htL⟩ := haty.kids
 obtain ⟨fes, hfS, hfL⟩ := hafr.kids
 simp only [Ty.ks] at htS htL hfS hfL
 refine fn_enter Tryz.func157 rfl Tryz.ntmps157 Tryz.results157 rfl ?_
 intro w0
 refine tS (tR ?_)
 refine sE (step_box_a rfl rfl) rfl (fun b3 => ?_)
 refine sE (step_alloc rfl) rfl (fun b4 => ?_)
 refine sQ (pA rfl) rfl (sQ (pA rfl) rfl (sD (nS (tS (tR (sQ (pF0 rfl) rfl ?_))))))
 refine sL (lBs rfl rfl) rfl rfl ?_
 refine sP (pIN (j := 0) rfl rfl rfl (by simp)) rfl rfl ?_
 refine sL (load_a rfl rfl (hat0 _) rfl) rfl rfl ?_
 refine sE (step_alloc rfl) rfl (fun b15 => ?_)
 refine sS' ?_
 refine sD (nS (tS (tri_block (tS (tR (sQ (pF0 rfl) rfl ?_))))))
 refine sL (lBs rfl rfl) rfl rfl ?_
 refine sP (pure_eql_f rfl rfl (by omega)) rfl rfl ?_
 refine sQ (pM rfl) rfl (sK rfl rfl (sK rfl rfl (sQ (pPf rfl rfl) rfl (sQ (pM rfl) rfl (sK rfl rfl (sK rfl rfl ?_))))))
 refine sK rfl rfl (sK rfl rfl (sQ (pPf rfl rfl) rfl (sQ (pA rfl) rfl (sD (nS (cF rfl ?_))))))
 refine tS (tR (sQ (pF0 rfl) rfl (sL (lBs rfl rfl) rfl rfl ?_)))
 refine sP (pure_eql_f rfl rfl (by omega)) rfl rfl ?_
 refine sQ (pM rfl) rfl (sQ (pF0 rfl) rfl (sL (lBs rfl rfl) rfl rfl ?_))
 refine sP (pure_eql_f rfl rfl (by omega)) rfl rfl ?_
 refine sQ (pPf rfl rfl) rfl (sQ (pM rfl) rfl (sK rfl rfl (sK rfl rfl (sQ (pPf rfl rfl) rfl (sQ (pM rfl) rfl (sK rfl rfl ?_))))))
 refine sK rfl rfl (sK rfl rfl (sK rfl rfl (sQ (pPf rfl rfl) rfl (sQ (pA rfl) rfl (sD (nS ?_))))))
 refine cF rfl ?_
 refine tS (tR (sQ (pF0 rfl) rfl (sL (lBs rfl rfl) rfl rfl ?_)))
 refine sP (pure_neq_t rfl rfl (by omega)) rfl rfl ?_
 refine sQ (pA rfl) rfl (sD (nS (cT rfl ?_)))
 refine tS (tR (sQ (pBd rfl rfl) rfl (sS' ?_)))
 refine sQ (pA rfl) rfl (sQ (pA rfl) rfl (sD (nS (tT (rB (rS ?_))))))
 refine rF3 (rC rfl (lBa rfl rfl)) (rT rfl) (rT rfl) ?_
 (exact StpP.mk rfl (tm0_r _))
theorem rule1_fn (nm : ByteArray) (num : Int) (ty fr : Ty) (lb : Int) (G : IM) (cells : List Value) (hr : RTm G (.mk 1 nm num ty fr lb []) cells) : Fn Tryz.prog 156 [.agg ⟨cells⟩] [] G (RulP (mRule 1 [])) := by
 rw [show mRule 1 [] = none from rfl]
 obtain ⟨tk, tks⟩ := ty
 obtain ⟨fk, fks⟩ := fr
 obtain ⟨pt, ct, pf, cf, p, c, es, rfl, hk, hnum, hlb, hty, hfr, hsl, hkl⟩ := hr.open9
 have hL : ([] : List Tm).length = 0 := rfl
 refine fn_enter Tryz.func156 rfl Tryz.ntmps156 Tryz.results156 rfl ?_
 intro w0
 refine tS (tR ?_)
 refine sE (step_box_a rfl rfl) rfl (fun b3 => ?_)
 refine sE (step_alloc rfl) rfl (fun b4 => ?_)
 refine sQ (pA rfl) rfl (sD (nS (tS (tR (sQ (pBd rfl rfl) rfl ?_)))))
 refine sE (step_alloc rfl) rfl (fun b11 => ?_)
 refine sS' ?_
 refine sD (nS (tS (tS (tR (sQ (pF0 rfl) rfl (sL (lBs rfl rfl) rfl rfl ?_))))))
 refine sQ (pLn rfl rfl) rfl (sP (pure_gtr_f rfl rfl (by omega)) rfl rfl ?_)
 refine sD (nS (cF rfl ?_))
 refine tK (nS (tS (tS (tR (sQ (pF0 rfl) rfl (sL (lBs rfl rfl) rfl rfl ?_))))))
 refine sD (nS (tri_block (tS (tR (sP (pure_eql_f rfl rfl (by omega)) rfl rfl ?_)))))
 refine sQ (pA rfl) rfl (sD (nS (cF rfl ?_)))
 refine tS (tS (tR (sP (pure_eql_f rfl rfl (by omega)) rfl rfl ?_)))
 refine sQ (pA rfl) rfl (sD (nS (cF rfl ?_)))
 refine tR (sP (pure_eql_f rfl rfl (by omega)) rfl rfl ?_)
 refine sQ (pA rfl) rfl (sD (nS (cF rfl ?_)))
 refine tS (tR (sP (pure_eql_f rfl rfl (by omega)) rfl rfl ?_))
 refine sQ (pA rfl) rfl (sD (nS (cF rfl ?_)))
 refine tS (tS (tR (sP (pure_eql_f rfl rfl (by omega)) rfl rfl ?_)))
 refine sQ (pA rfl) rfl (sD (nS (cF rfl ?_)))
 refine tR (sP (pure_eql_f rfl rfl (by omega)) rfl rfl ?_)
 refine sQ (pA rfl) rfl (sD (nS (cF rfl ?_)))
 refine tK (nrm_block (nS (tS (tR (sQ (pBd rfl rfl) rfl (sS' ?_))))))
 refine sQ (pA rfl) rfl (sD (nS (tT (rF2 (rC rfl (lBa rfl rfl)) (rT rfl) ?_))))
 (exact RulP.no rfl (tm0_r _))
theorem rule14_fn (a : Tm) (nm : ByteArray) (num : Int) (ty fr : Ty) (lb : Int) (G : IM) (cells : List Value) (hr : RTm G (.mk 14 nm num ty fr lb [a]) cells) : Fn Tryz.prog 156 [.agg ⟨cells⟩] [] G (RulP (mRule 14 [a])) := by
 rw [show mRule 14 [a] = none from rfl]
 obtain ⟨tk, tks⟩ := ty
 obtain ⟨fk, fks⟩ := fr
 obtain ⟨pt, ct, pf, cf, p, c, es, rfl, hk, hnum, hlb, hty, hfr, hsl, hkl⟩ := hr.open9
 obtain ⟨bx, ox, e0, rfl, hl0, hat0, hre0, hgb0⟩ := hsl.kidTm hkl (i := 0) (by simp) (by simp)
 have ho0 : e0.all (·.oneCell') = true := (show RTm G a e0 from hre0).one
 refine fn_enter Tryz.func156 rfl Tryz.ntmps156 Tryz.results156 rfl ?_
 intro w0
 refine tS (tR ?_)
 refine sE (step_box_a rfl rfl) rfl (fun b3 => ?_)
 refine sE (step_alloc rfl) rfl (fun b4 => ?_)
 refine sQ (pA rfl) rfl (sD (nS (tS (tR (sQ (pBd rfl rfl) rfl ?_)))))
 refine sE (step_alloc rfl) rfl (fun b11 => ?_)
 refine sS' ?_
 refine sD (nS (tS (tS (tR (sQ (pF0 rfl) rfl (sL (lBs rfl rfl) rfl rfl ?_))))))
 refine sQ (pLn rfl rfl) rfl (sB (pure_gtr rfl rfl) rfl rfl (fun h21 => ?_) (fun h21 => ?_))
 refine sD (nS (cT rfl ?_))
 refine tR (sQ (pF0 rfl) rfl (sL (lBs rfl rfl) rfl rfl ?_))
 refine sP (pIN (j := 0) rfl rfl rfl (by simp)) rfl rfl ?_
 refine sL (load_a rfl rfl (hat0 _) hl0) rfl rfl ?_
 refine sS rfl rfl rfl hl0 ho0 rfl ?_ (hu := by exact upd_all hl0.symm)
 refine sD (nS (tS (tS (tR (sQ (pF0 rfl) rfl (sL (lBs rfl rfl) rfl rfl ?_))))))
 refine sD (nS (tri_block (tS (tR (sP (pure_eql_f rfl rfl (by omega)) rfl rfl ?_)))))
 refine sQ (pA rfl) rfl (sD (nS (cF rfl ?_)))
 refine tS (tS (tR (sP (pure_eql_f rfl rfl (by omega)) rfl rfl ?_)))
 refine sQ (pA rfl) rfl (sD (nS (cF rfl ?_)))
 refine tR (sP (pure_eql_f rfl rfl (by omega)) rfl rfl ?_)
 refine sQ (pA rfl) rfl (sD (nS (cF rfl ?_)))
 refine tS (tR (sP (pure_eql_f rfl rfl (by omega)) rfl rfl ?_))
 refine sQ (pA rfl) rfl (sD (nS (cF rfl ?_)))
 refine tS (tS (tR (sP (pure_eql_f rfl rfl (by omega)) rfl rfl ?_)))
 refine sQ (pA rfl) rfl (sD (nS (cF rfl ?_)))
 refine tR (sP (pure_eql_f rfl rfl (by omega)) rfl rfl ?_)
 refine sQ (pA rfl) rfl (sD (nS (cF rfl ?_)))
 refine tK (nrm_block (nS (tS (tR (sQ (pBd rfl rfl) rfl (sS' ?_))))))
 refine sQ (pA rfl) rfl (sD (nS (tT (rF2 (rC rfl (lBa rfl rfl)) (rT rfl) ?_))))
 (exact RulP.no rfl (tm0_r _))
 refine sD (nS (cF rfl ?_))
 refine tK (nS (tS (tS (tR (sQ (pF0 rfl) rfl (sL (lBs rfl rfl) rfl rfl ?_))))))
 refine sD (nS (tri_block (tS (tR (sP (pure_eql_f rfl rfl (by omega)) rfl rfl ?_)))))
 refine sQ (pA rfl) rfl (sD (nS (cF rfl ?_)))
 refine tS (tS (tR (sP (pure_eql_f rfl rfl (by omega)) rfl rfl ?_)))
 refine sQ (pA rfl) rfl (sD (nS (cF rfl ?_)))
 refine tR (sP (pure_eql_f rfl rfl (by omega)) rfl rfl ?_)
 refine sQ (pA rfl) rfl (sD (nS (cF rfl ?_)))
 refine tS (tR (sP (pure_eql_f rfl rfl (by omega)) rfl rfl ?_))
 refine sQ (pA rfl) rfl (sD (nS (cF rfl ?_)))
 refine tS (tS (tR (sP (pure_eql_f rfl rfl (by omega)) rfl rfl ?_)))
 refine sQ (pA rfl) rfl (sD (nS (cF rfl ?_)))
 refine tR (sP (pure_eql_f rfl rfl (by omega)) rfl rfl ?_)
 refine sQ (pA rfl) rfl (sD (nS (cF rfl ?_)))
 refine tK (nrm_block (nS (tS (tR (sQ (pBd rfl rfl) rfl (sS' ?_))))))
 refine sQ (pA rfl) rfl (sD (nS (tT (rF2 (rC rfl (lBa rfl rfl)) (rT rfl) ?_))))
 (exact RulP.no rfl (tm0_r _))
theorem ks1 {ks : List Tm} (h : ks.length = 1) : ∃ a, ks = [a] := by
 match ks, h with
 | [a], _ => exact ⟨a, rfl⟩
theorem ks2 {ks : List Tm} (h : ks.length = 2) : ∃ a b, ks = [a, b] := by
 match ks, h with
 | [a, b], _ => exact ⟨a, b, rfl⟩
theorem ks3 {ks : List Tm} (h : ks.length = 3) : ∃ a b c, ks = [a, b, c] := by
 match ks, h with
 | [a, b, c], _ => exact ⟨a, b, c, rfl⟩
/-- The rules, whatever the node. -/
theorem ruleAll {k : Int} {nm : ByteArray} {num : Int} {ty fr : Ty} {lb : Int} {ks : List Tm} {G : IM} {cells : List Value} (hc : cv (.mk k nm num ty fr lb ks)) (hk : k = 1 ∨ k = 6 ∨ k = 7 ∨ k = 8 ∨ k = 9 ∨ k = 11 ∨ k = 12 ∨ k = 14) (hr : RTm G (.mk k nm num ty fr lb ks) cells) :
  Fn Tryz.prog 156 [.agg ⟨cells⟩] [] G (RulP (mRule k ks)) := by
 obtain ⟨hN, hkk⟩ := hc.node
 have hops := hN.ops
 rcases hk with rfl | rfl | rfl | rfl | rfl | rfl | rfl | rfl
 ·obtain rfl : ks = [] := List.length_eq_zero_iff.1 (by have : tmOps 1 = 0 := rfl; omega)
  exact rule1_fn _ _ _ _ _ _ _ hr
 ·obtain ⟨a, b, rfl⟩ := ks2 (ks := ks) (by have : tmOps 6 = 2 := rfl; omega)
  exact rule6_fn a b _ _ _ _ _ _ _ (hkk a (by simp)) hr
 ·obtain ⟨a, b, rfl⟩ := ks2 (ks := ks) (by have : tmOps 7 = 2 := rfl; omega)
  exact rule78_fn 7 a b _ _ _ _ _ _ _ (.inl rfl) (hkk a (by simp)) (hkk b (by simp)) hr
 ·obtain ⟨a, b, rfl⟩ := ks2 (ks := ks) (by have : tmOps 8 = 2 := rfl; omega)
  exact rule78_fn 8 a b _ _ _ _ _ _ _ (.inr rfl) (hkk a (by simp)) (hkk b (by simp)) hr
 ·obtain ⟨a, b, c, rfl⟩ := ks3 (ks := ks) (by have : tmOps 9 = 3 := rfl; omega)
  exact rule9_fn a b c _ _ _ _ _ _ _ hr
 ·obtain ⟨a, rfl⟩ := ks1 (ks := ks) (by have : tmOps 11 = 1 := rfl; omega)
  exact rule11_fn 11 a _ _ _ _ _ _ _ (.inl rfl) (hkk a (by simp)) hr
 ·obtain ⟨a, rfl⟩ := ks1 (ks := ks) (by have : tmOps 12 = 1 := rfl; omega)
  exact rule11_fn 12 a _ _ _ _ _ _ _ (.inr rfl) (hkk a (by simp)) hr
 ·obtain ⟨a, rfl⟩ := ks1 (ks := ks) (by have : tmOps 14 = 1 := rfl; omega)
  exact rule14_fn a _ _ _ _ _ _ _ hr
theorem castAll {k : Int} {nm : ByteArray} {num : Int} {ty fr : Ty} {lb : Int} {ks : List Tm} {G : IM} {cells : List Value} (hc : cv (.mk k nm num ty fr lb ks)) (hk : k = 6 ∨ k = 7 ∨ k = 8 ∨ k = 9 ∨ k = 11 ∨ k = 12 ∨ k = 14) (hr : RTm G (.mk k nm num ty fr lb ks) cells) :
  Fn Tryz.prog 157 [.agg ⟨cells⟩] [] G (StpP (mCRule k ty fr lb ks)) := by
 obtain ⟨hN, hkk⟩ := hc.node
 have hops := hN.ops
 rcases hk with rfl | rfl | rfl | rfl | rfl | rfl | rfl
 ·obtain ⟨a, b, rfl⟩ := ks2 (ks := ks) (by have : tmOps 6 = 2 := rfl; omega)
  exact crule6_fn a b _ _ _ _ _ _ _ (hkk a (by simp)) hr
 ·obtain ⟨a, b, rfl⟩ := ks2 (ks := ks) (by have : tmOps 7 = 2 := rfl; omega)
  exact crule78_fn 7 a b _ _ _ _ _ _ _ (.inl rfl) (hkk a (by simp)) hr
 ·obtain ⟨a, b, rfl⟩ := ks2 (ks := ks) (by have : tmOps 8 = 2 := rfl; omega)
  exact crule78_fn 8 a b _ _ _ _ _ _ _ (.inr rfl) (hkk a (by simp)) hr
 ·obtain ⟨a, b, c, rfl⟩ := ks3 (ks := ks) (by have : tmOps 9 = 3 := rfl; omega)
  exact crule9_fn a b c _ _ _ _ _ _ _ (hkk a (by simp)) hr
 ·obtain ⟨a, rfl⟩ := ks1 (ks := ks) (by have : tmOps 11 = 1 := rfl; omega)
  exact crule11_fn 11 a _ _ _ _ _ _ _ (.inl rfl) (hkk a (by simp)) hr
 ·obtain ⟨a, rfl⟩ := ks1 (ks := ks) (by have : tmOps 12 = 1 := rfl; omega)
  exact crule11_fn 12 a _ _ _ _ _ _ _ (.inr rfl) (hkk a (by simp)) hr
 ·obtain ⟨a, rfl⟩ := ks1 (ks := ks) (by have : tmOps 14 = 1 := rfl; omega)
  exact crule14_fn a _ _ _ _ _ _ _ (hkk a (by simp)) hN.lbB hr
/- The operands' steps. -/
theorem stpL_cons (n : Nat) (t : Tm) (ts : List Tm) : mStpL (n + 1) (t :: ts) = if mVal t = true then (match mStpL n ts with | some (us, c, l) => some (t :: us, c, l) | none => none) else some ((mStp t).1 :: ts, (mStp t).2.1, (mStp t).2.2) := by
 rw [mStpL]; rfl
theorem stpL_none : ∀ (n : Nat) (ks : List Tm), (∀ i, i < n → (h : i < ks.length) → mVal ks[i] = true) → mStpL n ks = none
 | n, [], _ => by cases n <;> rfl
 | 0, t :: ts, _ => rfl
 | n + 1, t :: ts, h => by
  rw [stpL_cons, if_pos (show mVal t = true from h 0 (by omega) (by simp)), stpL_none n ts (fun i hi hl => h (i + 1) (by omega) (by simpa using hl))]
theorem stpL_at : ∀ (n : Nat) (ks : List Tm) (i : Nat) (hi : i < ks.length), i < n → (∀ j, j < i → (h : j < ks.length) → mVal ks[j] = true) → mVal ks[i] = false → mStpL n ks = some (ks.set i (mStp ks[i]).1, (mStp ks[i]).2.1, (mStp ks[i]).2.2)
 | n, [], i, hi, _, _, _ => by simp at hi
 | 0, t :: ts, i, _, hn, _, _ => by omega
 | n + 1, t :: ts, 0, _, _, _, hv => by
  rw [stpL_cons, if_neg (by rw [show mVal t = false from hv]; decide)]; rfl
 | n + 1, t :: ts, i + 1, hi, hn, hj, hv => by
  rw [stpL_cons, if_pos (show mVal t = true from hj 0 (by omega) (by simp)), stpL_at n ts i (by simpa using hi) (by omega) (fun j hji hl => hj (j + 1) (by omega) (by simpa using hl)) hv]
  rfl
theorem red_lab {k : Int} {ty fr : Ty} {lb : Int} {ks : List Tm} (h : (mRed k ty fr lb ks).2.1 = 1) : (mRed k ty fr lb ks).2.2 = 0 := by
 revert h
 unfold mRed stuck
 repeat' split
 all_goals first | (intro _; rfl) | (intro h; exfalso; revert h; simp)
theorem stp_lab {k : Int} {nm : ByteArray} {num : Int} {ty fr : Ty} {lb : Int} {ks : List Tm} (h : (mStp (.mk k nm num ty fr lb ks)).2.1 = 1) : (mStp (.mk k nm num ty fr lb ks)).2.2 = 0 := by
 rw [mStp] at h ⊢
 cases hL : mStpL (if k = 9 then 1 else ks.length) ks with
 | none => rw [hL] at h; exact red_lab h
 | some p =>
  obtain ⟨us, c, l⟩ := p
  rw [hL] at h
  simp only at h ⊢
  by_cases hc : c = 1
  ·rw [if_pos hc]
  ·rw [if_neg hc] at h; exact absurd h hc
theorem stp_lab' {t : Tm} (h : (mStp t).2.1 = 1) : (mStp t).2.2 = 0 := by cases t; exact stp_lab h
/-- The step at an operand. -/
theorem stp_kid {k : Int} {nm : ByteArray} {num : Int} {ty fr : Ty} {lb : Int} {ks : List Tm} {i : Nat} (hi : i < ks.length) (hn : i < (if k = 9 then 1 else ks.length)) (hj : ∀ j, j < i → (h : j < ks.length) → mVal ks[j] = true) (hv : mVal ks[i] = false) :
  (mStp (.mk k nm num ty fr lb ks)).2.1 = (mStp ks[i]).2.1 ∧ (mStp (.mk k nm num ty fr lb ks)).2.2 = (mStp ks[i]).2.2 ∧ ((mStp ks[i]).2.1 = 1 → (mStp (.mk k nm num ty fr lb ks)).1 = .mk k nm num ty fr lb (ks.set i (mStp ks[i]).1)) := by
 rw [mStp, stpL_at _ ks i hi hn hj hv]
 simp only
 by_cases hc : (mStp ks[i]).2.1 = 1
 ·rw [if_pos hc]
  exact ⟨hc.symm, (stp_lab' hc).symm, fun _ => rfl⟩
 ·rw [if_neg hc]
  exact ⟨rfl, rfl, fun h => absurd h hc⟩
theorem stp_red {k : Int} {nm : ByteArray} {num : Int} {ty fr : Ty} {lb : Int} {ks : List Tm} (h : ∀ i, i < (if k = 9 then 1 else ks.length) → (hl : i < ks.length) → mVal ks[i] = true) : mStp (.mk k nm num ty fr lb ks) = match mRule k ks with | some u => (u, 1, 0) | none => mCRule k ty fr lb ks := by
 rw [mStp, stpL_none _ _ h]
 exact red_rule k ty fr lb ks
/-- Which nodes are no values, though their operands are. -/
theorem tmOps_rng {k : Int} (h : 0 ≤ tmOps k) : 1 ≤ k ∧ k ≤ 14 := by
 by_cases hk : 1 ≤ k ∧ k ≤ 14
 ·exact hk
 ·rw [tmOps_no hk] at h; omega
theorem stp_kinds {k : Int} {nm : ByteArray} {num : Int} {ty fr : Ty} {lb : Int} {ks : List Tm} (hc : cv (.mk k nm num ty fr lb ks)) (hv : mVal (.mk k nm num ty fr lb ks) = false) (h : ∀ i, i < (if k = 9 then 1 else ks.length) → (hl : i < ks.length) → mVal ks[i] = true) : k = 1 ∨ k = 6 ∨ k = 7 ∨ k = 8 ∨ k = 9 ∨ k = 11 ∨ k = 12 ∨ k = 14 := by
 obtain ⟨hN, _⟩ := hc.node
 have hr := tmOps_rng (by rw [hN.ops]; omega : 0 ≤ tmOps k)
 have h13 := hN.ne
 have h25 : ¬(k = 2 ∨ k = 3 ∨ k = 4 ∨ k = 5) := by
  intro hk
  rw [mVal, if_neg (by omega)] at hv
  rw [decide_eq_true hk] at hv
  cases hv
 have h10 : k ≠ 10 := by
  rintro rfl
  rw [val_yes (.inl rfl), List.all_eq_false] at hv
  obtain ⟨t, ht, hn⟩ := hv
  obtain ⟨i, hi, rfl⟩ := List.mem_iff_getElem.1 ht
  exact hn (h i (by rw [if_neg (by decide)]; exact hi) hi)
 omega
theorem counts_fn (t : Tm) (G : IM) (cells : List Value) (hr : RTm G t cells) : Fn Tryz.prog 154 [.agg ⟨cells⟩] [] G (Val (.int .i64 ((if t.k = 9 then 1 else t.ks.length : Nat) : Int)) G) := by
 obtain ⟨k, nm, num, ⟨tk, tks⟩, ⟨fk, fks⟩, lb, ks⟩ := t
 obtain ⟨pt, ct, pf, cf, p, c, es, rfl, hk, hnum, hlb, hty, hfr, hsl, hkl⟩ := hr.open9
 rw [show (Tm.mk k nm num (.mk tk tks) (.mk fk fks) lb ks).k = k from rfl, show (Tm.mk k nm num (.mk tk tks) (.mk fk fks) lb ks).ks = ks from rfl]
 refine fn_enter Tryz.func154 rfl Tryz.ntmps154 Tryz.results154 rfl ?_
 intro w0
 refine tS (tR ?_)
 refine sE (step_box_a rfl rfl) rfl (fun b3 => ?_)
 refine sQ (pA rfl) rfl (sD (nS (tS (tS (tR (sQ (pF0 rfl) rfl ?_))))))
 refine sL (lBs rfl rfl) rfl rfl ?_
 refine sB (pE rfl rfl) rfl rfl (fun h12 => ?_) (fun h12 => ?_)
 refine sD (nS (cT rfl ?_))
 refine tS (tR (sQ (pA rfl) rfl (sD (nS (tT (rS ?_))))))
 refine rF1 (rT rfl) ?_
 (exact ⟨rfl, by rw [if_pos (by omega)]; rfl, rfl⟩)
 refine sD (nS (cF rfl ?_))
 refine tK (nS (tS (tR (sQ (pF0 rfl) rfl (sL (lBs rfl rfl) rfl rfl ?_)))))
 refine sQ (pLn rfl rfl) rfl (sQ (pA rfl) rfl (sD (nS (tT (rF1 (rT rfl) ?_)))))
 (exact ⟨rfl, by rw [if_neg (by omega)], rfl⟩)
theorem ops0 {k : Int} (h8 : k = 1 ∨ k = 6 ∨ k = 7 ∨ k = 8 ∨ k = 9 ∨ k = 11 ∨ k = 12 ∨ k = 14) (h : tmOps k = 0) : k = 1 := by
 rcases h8 with rfl | rfl | rfl | rfl | rfl | rfl | rfl | rfl
 ·rfl
 all_goals exact absurd h (by decide)
theorem stpP_kid {G : IM} {r r' : Stp} {u : Tm} {cells : List Value} {c l : Int} (h1 : r.2.1 = c) (h2 : r.2.2 = l) (hr : RTm G u cells) (h3 : c = 1 → u = r.1) : StpP r G (.tuple ⟨[.agg ⟨cells⟩, .int .i64 c, .int .i64 l]⟩) [] := by
 subst h1 h2; exact ⟨rfl, u, cells, rfl, hr, h3⟩
theorem step_fn : ∀ (t : Tm) (G : IM) (cells : List Value), cv t → mVal t = false → RTm G t cells → Fn Tryz.prog 141 [.agg ⟨cells⟩] [] G (StpP (mStp t)) := by
 refine Tm.ind fun k nm num ty fr lb ks ih G cells hc hv hr => ?_
 have hr0 := hr
 have hN := hc.node.1
 have hkk := hc.node.2
 have hsm := cv_small _ hc
 obtain ⟨_, _, _, _, hksm⟩ := small_mk.1 hsm
 have hops := hN.ops
 have hle3 := tmOps_le k
 have hkd := @stp_kinds k nm num ty fr lb ks hc hv
 have hrd := @stp_red k nm num ty fr lb ks
 have hkidS := fun (i : Nat) => @stp_kid k nm num ty fr lb ks i
 have hRA := fun h => @ruleAll k nm num ty fr lb ks G cells hc h hr
 have hCA := fun h (G1 : IM) (hle : IMle G G1) => @castAll k nm num ty fr lb ks G1 cells hc h (hr.mono hle)
 have hCt := counts_fn _ G _ hr
 rw [show (Tm.mk k nm num ty fr lb ks).k = k from rfl, show (Tm.mk k nm num ty fr lb ks).ks = ks from rfl] at hCt
 obtain ⟨C, hC⟩ : ∃ C : Nat, (if k = 9 then 1 else ks.length : Nat) = C := ⟨_, rfl⟩
 rw [hC] at hCt hkd hrd
 have hkidS' := fun (i : Nat) (hi : i < ks.length) (hn : i < C) => hkidS i hi (by rw [hC]; exact hn)
 have hC9 : C ≤ ks.length := by rw [← hC]; split; (have : tmOps k = 3 := by (rename_i h9; rw [h9]; rfl)); omega; omega
 have hrul := hkd
 obtain ⟨tk, tks⟩ := ty
 obtain ⟨fk, fks⟩ := fr
 obtain ⟨pt, ct, pf, cf, p, c, es, rfl, hk, hnum, hlb, hty, hfr, hsl, hkl⟩ := hr.open9
 have hn := hsl.le
 have hnc := hsl.sl.2.1
 refine fn_enter Tryz.func141 rfl Tryz.ntmps141 Tryz.results141 rfl ?_
 intro w0
 refine tS (tR ?_)
 refine sE (step_box_a rfl rfl) rfl (fun b3 => ?_)
 refine sE (step_alloc rfl) rfl (fun b4 => ?_)
 refine sQ (pA rfl) rfl (sQ (pA rfl) rfl (sD (nS (tS (tS (tri_draw mixed rfl ?_))))))
 refine any_pure (i := 0) (l' := [tt,ff,ff,ff,ff,ff,ff]) rfl npI (pF0 rfl) rfl (by kernel_rfl) rfl rfl ?_
 refine aL 1 rfl (lBs rfl rfl) rfl ?_
 refine aL 2 rfl (lBa rfl rfl) rfl ?_
 refine aP 6 rfl (pM rfl) rfl ?_
 refine aO' 3 ?_
 refine one_val rfl rfl (hCt) rfl rfl rfl ?_
 refine aP 4 rfl (pure_slice_to (l := C) rfl rfl rfl (by omega)) rfl ?_
 refine aP 5 rfl (pLn rfl rfl) rfl ?_
 refine aD' ?_
 refine nS (tri_block ?_)
 (refine tri_loopN (fun (i : Nat) => ⟨[(19, .int .i64 (i : Int)), (18, .int .i64 (C : Int)), (17, .slice p C c), (1, .pointer (some ⟨b3, 0, none⟩)), (2, .pointer (some ⟨b4, 0, none⟩))], [.blk b4 [.int .i64 0, .string ⟨⟨[]⟩⟩, .int .i64 0, .int .i64 0, .slice none 0 0, .int .i64 0, .slice none 0 0, .int .i64 0, .slice none 0 0], .blk b3 [.int .i64 k, .string nm, .int .i64 num, .int .i64 tk, .slice pt tks.length ct, .int .i64 fk, .slice pf fks.length cf, .int .i64 lb, .slice p ks.length c]], G⟩) (fun i => i ≤ C ∧ ∀ j, j < i → (h : j < ks.length) → mVal ks[j] = true) (fun i => C - i) 0 ?_ ?_ ?_)
 exact sMk
 (exact ⟨Nat.zero_le _, fun j hj => absurd hj (Nat.not_lt_zero j)⟩)
 (rintro i ⟨hi, hj⟩)
 refine tS (tR (sB (pure_lss rfl rfl) rfl rfl (fun h29 => ?_) (fun h29 => ?_)))
 refine sD (nS (tS (cT rfl ?_)))
 refine tK (nS (tS (tri_block (tS (tR (sQ (pM rfl) rfl ?_))))))
 (have hiC : i < C := (by omega); obtain ⟨bx, ox, e, rfl, hl, hat, hre, hgb⟩ := hsl.kidTm hkl (i := i) (by omega) (by omega); have heo := hre.one; have hVi := isValue_fn ks[i] G e hre; refine sP (pIN (j := i) rfl rfl rfl hiC) rfl rfl ?_)
 refine sL (load_a rfl rfl (hat _) hl) rfl rfl ?_
 refine sE (step_alloc rfl) rfl (fun b43 => ?_)
 refine sQ (pA rfl) rfl (sS rfl rfl rfl hl heo rfl ?_ (hu := by exact upd_all hl.symm))
 refine sD (nS (tS (tS (tR (sL (load_a rfl rfl (at_blk_all (by repeat first | exact mH | apply mT)) hl) rfl rfl ?_)))))
 refine seq_valb rfl (hVi) rfl rfl (fun h52 => ?_) (fun h52 => ?_)
 refine sD (nS (cT rfl ?_))
 refine tri_exit ?_
 refine ext_seq ?_
 refine ext_block_eq ?_
 refine nS (tR (sP (pure_add rfl rfl (by omega) (by omega)) rfl rfl ?_))
 refine sQ (pM rfl) rfl (sD (nrm_loopN (i + 1) ?_ ?_ ?_))
 exact sMk
 (exact ⟨by omega, fun j hji hl2 => (by by_cases he : j = i; (subst he; assumption); exact hj j (by omega) hl2)⟩)
 (show C - (i + 1) < C - i; omega)
 refine sD (nS (cF rfl ?_))
 refine tK (nS (tS (tR (sL (load_a rfl rfl (at_blk_all (by repeat first | exact mH | apply mT)) hl) rfl rfl ?_))))
 (have hvF : mVal ks[i] = false := (by assumption); obtain ⟨hs1, hs2, hs3⟩ := hkidS' i (by omega) hiC (fun j hji hl2 => hj j hji hl2) hvF; refine seq_imm rfl (ih ks[i] (List.getElem_mem (by omega)) G e (hkk _ (List.getElem_mem (by omega))) hvF hre) rfl rfl (fun v G1 hle1 hh => ?_); obtain ⟨u, uc, rfl, hru, hu1⟩ := hh; have hul := hru.len; have huo := hru.one; have hClo := clone_tm G1 _ ks.length c es (hsl.mono hle1) (by omega) (by omega))
 refine sQ (pM rfl) rfl (sQ (pX rfl rfl) rfl (sQ (pX rfl rfl) rfl (sQ (pX rfl rfl) rfl ?_)))
 refine sE (step_alloc rfl) rfl (fun b81 => ?_)
 refine sS rfl rfl rfl hul huo rfl ?_ (hu := by exact upd_all hul.symm)
 refine sQ (pA rfl) rfl (sQ (pA rfl) rfl (sD (nS (tS (tR (sL (lBa rfl rfl) rfl rfl ?_))))))
 refine sE (step_alloc rfl) rfl (fun b90 => ?_)
 refine sS' ?_
 refine sD (nS (tS (tR (sQ (pF0 rfl) rfl (sL (lBs rfl rfl) rfl rfl ?_)))))
 (refine seq_own rfl hClo rfl rfl (fun v98 G98 outs98 hle98 h98 => ?_); obtain ⟨hG, p1, c1, rfl, rfl⟩ := h98; replace hG := hG.symm; subst hG; refine triL_open (cs := es.flatten) (by repeat (first | exact Pk.here | apply Pk.there)) (by omega) (fun bc Cc hpe hnc1 hcm => ?_); subst hpe)
 replace hru := hru.mono hle98
 refine sQ (pF0 rfl) rfl (sS' ?_)
 refine sD (nS (tS (tR (sQ (pF0 rfl) rfl (sL (lBs rfl rfl) rfl rfl ?_)))))
 refine sQ (pM rfl) rfl (sL (load_a rfl rfl (at_blk_all (by repeat first | exact mH | apply mT)) hul) rfl rfl ?_)
 refine sP (pIN (j := i) rfl rfl rfl (by omega)) rfl rfl ?_
 refine seq_store rfl rfl rfl hul huo rfl (by repeat first | exact Sw.here | apply Sw.there) (by exact upd_set (by rw [hkl.len]; omega) (fun e he => (hsl.all e he)) hul) ?_
 refine sD (nS (tS (tR (sL (lBa rfl rfl) rfl rfl ?_))))
 refine sQ (pM rfl) rfl (sQ (pM rfl) rfl (sS' ?_))
 refine sQ (pA rfl) rfl (sQ (pA rfl) rfl (sD (nS ?_)))
 (refine tri_freezes (bs := [(bc, (es.set i uc).flatten ++ Cc)]) (Pk.perm (by repeat (first | exact Pk.here | apply Pk.there))) (fun hn2 hd2 hle2 => ?_))
 refine tT (rB (rS (ret_loopN (rB (rS (rF3 (rC rfl (lBa rfl rfl)) (rT rfl) (rT rfl) ?_))))))
 (have hks2 := RTmL.set (j := i) ((hkl.mono hle1).mono hle2) (hru.mono hle2); refine stpP_kid (r' := stuck) hs1 hs2 (RTm.put (us := ks.set i u) (es := es.set i uc) hk hnum hlb ((hty.mono hle1).mono hle2) ((hfr.mono hle1).mono hle2) (by rw [List.length_set]) (SlE.of (Sl.of_blk (A := []) (by rw [flat_len hks2.all, hks2.len, List.length_set]) (by omega) hcm (Wi.in hn2 List.mem_cons_self)) (by rw [hks2.len, List.length_set]) hks2.all (fun e he => by obtain ⟨q, hq⟩ := List.getElem?_of_mem he; exact (hks2.inv hq tm0).2.one)) hks2) (fun h1 => by rw [hs3 h1, hu1 h1]))
 refine sD (nS (tS (cF rfl ?_)))
 refine tri_exit ?_
 refine ext_seq ?_
 refine ext_loopN ?_
 refine ext_block_eq ?_
 refine nS (tS (tS (tR (sL (lBa rfl rfl) rfl rfl ?_))))
 focus (have hall : ∀ i, i < C → (hl : i < ks.length) → mVal ks[i] = true := (fun j hjc hl2 => hj j (by omega) hl2); have hk8 := hkd hall; have hrd' := hrd hall; refine seq_imm rfl (hRA hk8) rfl rfl (fun v G1 hle1 hh => ?_); obtain ⟨u, uc, cc, rfl, hru, hy, hno⟩ := hh; have hul := hru.len; have huo := hru.one; rcases hm : mRule k ks with _ | x; rotate_left; obtain ⟨rfl, rfl⟩ := hy _ hm; rotate_left; obtain rfl := hno hm; rw [hm] at hrd')
 refine sQ (pM rfl) rfl (sQ (pX rfl rfl) rfl (sQ (pX rfl rfl) rfl ?_))
 refine sE (step_alloc rfl) rfl (fun b149 => ?_)
 refine sS rfl rfl rfl hul huo rfl ?_ (hu := by exact upd_all hul.symm)
 refine sQ (pA rfl) rfl (sD (nS (tS (tR (sQ (pM rfl) rfl (sP (pure_eql_f rfl rfl (by omega)) rfl rfl ?_))))))
 refine sD (nS (cF rfl ?_))
 refine tK (nS (tS (tS (tR (sQ (pF0 rfl) rfl (sL (lBs rfl rfl) rfl rfl ?_))))))
 refine sQ (pLn rfl rfl) rfl (sB (pE rfl rfl) rfl rfl (fun h169 => ?_) (fun h169 => ?_))
 refine sD (nS (cT rfl ?_))
 refine tS (tR (sQ (pBd rfl rfl) rfl (sS' ?_)))
 refine sQ (pA rfl) rfl (sQ (pA rfl) rfl (sD (nS (tT (rS (rF3 (rC rfl (lBa rfl rfl)) (rT rfl) (rT rfl) ?_))))))
 (obtain rfl : k = 1 := ops0 hk8 (by omega); rw [hrd']; exact StpP.mk rfl (tm0_r _))
 refine sD (nS (cF rfl ?_))
 refine tK (nS (tS (tR (sL (lBa rfl rfl) rfl rfl ?_))))
 (have hk7 : k = 6 ∨ k = 7 ∨ k = 8 ∨ k = 9 ∨ k = 11 ∨ k = 12 ∨ k = 14 := (by rcases hk8 with h1 | hh; (rw [h1] at hops; have : tmOps 1 = 0 := rfl; omega); exact hh); refine seq_imm rfl (hCA hk7 _ hle1) rfl rfl (fun v G2 hle2 hh => ?_); obtain ⟨w, wc, rfl, hrw, hw1⟩ := hh; have hwl := hrw.len; have hwo := hrw.one)
 refine sQ (pX rfl rfl) rfl (sQ (pX rfl rfl) rfl (sQ (pX rfl rfl) rfl (sS rfl rfl rfl hwl hwo rfl ?_ (hu := by exact upd_all hwl.symm))))
 refine sQ (pA rfl) rfl (sQ (pA rfl) rfl (sD (nS (tT (rF3 (rC rfl (load_a rfl rfl (at_blk_all (by repeat first | exact mH | apply mT)) hwl)) (rT rfl) (rT rfl) ?_)))))
 (rw [hrd']; exact stpP_kid (r' := stuck) rfl rfl hrw hw1)
 refine sQ (pM rfl) rfl (sQ (pX rfl rfl) rfl (sQ (pX rfl rfl) rfl ?_))
 refine sE (step_alloc rfl) rfl (fun b208 => ?_)
 refine sS rfl rfl rfl hul huo rfl ?_ (hu := by exact upd_all hul.symm)
 refine sQ (pA rfl) rfl (sD (nS (tS (tR (sQ (pM rfl) rfl (sP (pure_eql_t rfl rfl (by omega)) rfl rfl ?_))))))
 refine sD (nS (cT rfl ?_))
 refine tS (tR (sL (load_a rfl rfl (at_blk_all (by repeat first | exact mH | apply mT)) hul) rfl rfl ?_))
 refine sQ (pM rfl) rfl (sS rfl rfl rfl hul huo rfl ?_ (hu := by exact upd_all hul.symm))
 refine sQ (pA rfl) rfl (sQ (pA rfl) rfl (sD (nS (tT (rS (rF3 (rC rfl (load_a rfl rfl (at_blk_all (by repeat first | exact mH | apply mT)) hul)) (rT rfl) (rT rfl) ?_))))))
 (rw [hrd', hm]; exact StpP.mk rfl hru)
/-- Exactly what comes of a step. -/
def StpX (r : Stp) : IM → Value → List Ent → Prop := Imm fun G' v => ∃ cells, v = .tuple ⟨[.agg ⟨cells⟩, .int .i64 r.2.1, .int .i64 r.2.2]⟩ ∧ RTm G' r.1 cells
theorem StpX.mk {G : IM} {r : Stp} {u : Tm} {c l : Int} {cells : List Value} (h : r = (u, c, l)) (hr : RTm G u cells) : StpX r G (.tuple ⟨[.agg ⟨cells⟩, .int .i64 c, .int .i64 l]⟩) [] := by
 subst h; exact ⟨rfl, cells, rfl, hr⟩
theorem cV_small {t : Tm} (h : castValid t = true) : t.small := cv_small t (cv_of h).1
theorem stepCast_1 {e : Tm} (h : castValid e = false) : mStepCast e = (tm0, 3, 0) := by unfold mStepCast; rw [if_pos h]; rfl
theorem stepCast_2 {e : Tm} (h : castValid e = true) (h2 : mVal e = true) : mStepCast e = (e, 0, 0) := by unfold mStepCast; rw [if_neg (by rw [h]; decide), if_pos h2]
theorem stepCast_3 {e : Tm} (h : castValid e = true) (h2 : mVal e = false) (h3 : (mStp e).2.1 ≠ 1) : mStepCast e = (tm0, (mStp e).2.1, (mStp e).2.2) := by
 unfold mStepCast; rw [if_neg (by rw [h]; decide), if_neg (by rw [h2]; decide), if_pos h3]
theorem stepCast_4 {e : Tm} (h : castValid e = true) (h2 : mVal e = false) (h3 : (mStp e).2.1 = 1) (h4 : castValid (mStp e).1 = false) : mStepCast e = (tm0, 4, 0) := by
 unfold mStepCast; rw [if_neg (by rw [h]; decide), if_neg (by rw [h2]; decide), if_neg (by omega), if_pos h4]
theorem stepCast_5 {e : Tm} (h : castValid e = true) (h2 : mVal e = false) (h3 : (mStp e).2.1 = 1) (h4 : castValid (mStp e).1 = true) : mStepCast e = ((mStp e).1, 1, 0) := by
 unfold mStepCast; rw [if_neg (by rw [h]; decide), if_neg (by rw [h2]; decide), if_neg (by omega), if_neg (by rw [h4]; decide)]
theorem stepCast_valid {e : Tm} (h : (mStepCast e).2.1 = 1) : castValid (mStepCast e).1 = true := by
 cases h1 : castValid e with
 | false => rw [stepCast_1 h1] at h; simp at h
 | true =>
  cases h2 : mVal e with
  | true => rw [stepCast_2 h1 h2] at h; simp at h
  | false =>
   by_cases h3 : (mStp e).2.1 = 1
   ·cases h4 : castValid (mStp e).1 with
    | false => rw [stepCast_4 h1 h2 h3 h4] at h; simp at h
    | true => rw [stepCast_5 h1 h2 h3 h4]; exact h4
   ·rw [stepCast_3 h1 h2 h3] at h; exact absurd h h3
theorem stepCast_fn (t : Tm) (G : IM) (cells : List Value) (hr : RTm G t cells) : Fn Tryz.prog 111 [.agg ⟨cells⟩] [] G (StpX (mStepCast t)) := by
 have hRl := hr.len
 have hRo := hr.one
 have hV := castValid_fn t G cells hr
 have hI := isValue_fn t G cells hr
 refine fn_enter Tryz.func111 rfl Tryz.ntmps111 Tryz.results111 rfl ?_
 intro w0
 refine tS (tR ?_)
 refine sE (step_box_a rfl rfl) rfl (fun b3 => ?_)
 refine sE (step_alloc rfl) rfl (fun b4 => ?_)
 refine sQ (pA rfl) rfl (sQ (pA rfl) rfl (sD (nS (tS (tri_block (tS ?_))))))
 refine tR (sL (load_a rfl rfl (at_blk_all (by repeat first | exact mH | apply mT)) hRl) rfl rfl ?_)
 refine seq_valb rfl (hV) rfl rfl (fun h14 => ?_) (fun h14 => ?_)
 refine sQ (pNt rfl) rfl (sQ (pA rfl) rfl (sD (nS (cF rfl ?_))))
 refine tS (tR (sL (load_a rfl rfl (at_blk_all (by repeat first | exact mH | apply mT)) hRl) rfl rfl ?_))
 refine seq_valb rfl (hI) rfl rfl (fun h23 => ?_) (fun h23 => ?_)
 refine sQ (pA rfl) rfl (sD (nS (cT rfl ?_)))
 refine tS (tR (sL (load_a rfl rfl (at_blk_all (by repeat first | exact mH | apply mT)) hRl) rfl rfl ?_))
 (refine seq_imm rfl (own_fn t G cells (cV_small (by assumption)) hr) rfl rfl (fun v G1 hle1 hh => ?_); obtain ⟨cs1, F1, rfl, hs1, hn1⟩ := hh; have hul := hs1.R.len; have huo := hs1.R.one)
 refine sS rfl rfl rfl hul huo rfl ?_ (hu := by exact upd_all hul.symm)
 refine sQ (pA rfl) rfl (sQ (pA rfl) rfl (sD (nS (tT (rB (rS ?_))))))
 refine rF3 (rC rfl (load_a rfl rfl (at_blk_all (by repeat first | exact mH | apply mT)) hul)) (rT rfl) (rT rfl) ?_
 (exact StpX.mk (stepCast_2 (by assumption) (by assumption)) (hs1.R.mono (Dif.le _ _)))
 refine sQ (pA rfl) rfl (sD (nS (cF rfl ?_)))
 refine tK (nrm_block (nS (tS (tR (sL (load_a rfl rfl (at_blk_all (by repeat first | exact mH | apply mT)) hRl) rfl rfl ?_)))))
 (refine seq_imm rfl (step_fn t G cells (cv_of (by assumption)).1 (by assumption) hr) rfl rfl (fun v G1 hle1 hh => ?_); obtain ⟨u, uc, rfl, hru, hu1⟩ := hh; have hul := hru.len; have huo := hru.one; have hVu := castValid_fn u G1 uc hru)
 refine sQ (pM rfl) rfl (sQ (pX rfl rfl) rfl (sQ (pX rfl rfl) rfl (sQ (pX rfl rfl) rfl ?_)))
 refine sE (step_alloc rfl) rfl (fun b57 => ?_)
 refine sS rfl rfl rfl hul huo rfl ?_ (hu := by exact upd_all hul.symm)
 refine sQ (pA rfl) rfl (sQ (pA rfl) rfl (sD (nS (tS (tri_block (tS ?_))))))
 refine tR (sQ (pM rfl) rfl (sB (pure_neq rfl rfl) rfl rfl (fun h68 => ?_) (fun h68 => ?_)))
 refine sQ (pA rfl) rfl (sD (nS (cT rfl ?_)))
 refine tS (tR (sQ (pBd rfl rfl) rfl (sQ (pM rfl) rfl (sQ (pM rfl) rfl (sS' ?_)))))
 refine sQ (pA rfl) rfl (sQ (pA rfl) rfl (sD (nS (tT (rB (rS ?_))))))
 refine rF3 (rC rfl (lBa rfl rfl)) (rT rfl) (rT rfl) ?_
 (exact StpX.mk (stepCast_3 (by assumption) (by assumption) (by omega)) (tm0_r _))
 refine sQ (pA rfl) rfl (sD (nS (cF rfl ?_)))
 refine tS (tR (sL (load_a rfl rfl (at_blk_all (by repeat first | exact mH | apply mT)) hul) rfl rfl ?_))
 refine seq_valb rfl (hVu) rfl rfl (fun h95 => ?_) (fun h95 => ?_)
 refine sQ (pNt rfl) rfl (sQ (pA rfl) rfl (sD (nS (cF rfl ?_))))
 refine tK (nrm_block (nS (tS (tR (sL (load_a rfl rfl (at_blk_all (by repeat first | exact mH | apply mT)) hul) rfl rfl ?_)))))
 (refine seq_imm rfl (own_fn u G1 uc (cV_small (by assumption)) hru) rfl rfl (fun v G2 hle2 hh => ?_); obtain ⟨cs2, F2, rfl, hs2, hn2⟩ := hh; have hwl := hs2.R.len; have hwo := hs2.R.one)
 refine sS rfl rfl rfl hwl hwo rfl ?_ (hu := by exact upd_all hwl.symm)
 refine sQ (pA rfl) rfl (sQ (pA rfl) rfl (sD (nS (tT (rF3 (rC rfl (load_a rfl rfl (at_blk_all (by repeat first | exact mH | apply mT)) hwl)) (rT rfl) (rT rfl) ?_)))))
 (have h9 := hu1 (by omega); subst h9; exact StpX.mk (stepCast_5 (by assumption) (by assumption) (by omega) (by assumption)) (hs2.R.mono (Dif.le _ _)))
 refine sQ (pNf rfl) rfl (sQ (pA rfl) rfl (sD (nS (cT rfl ?_))))
 refine tS (tR (sQ (pBd rfl rfl) rfl (sS' ?_)))
 refine sQ (pA rfl) rfl (sQ (pA rfl) rfl (sD (nS (tT (rB (rS ?_))))))
 refine rF3 (rC rfl (lBa rfl rfl)) (rT rfl) (rT rfl) ?_
 (have h9 := hu1 (by omega); subst h9; exact StpX.mk (stepCast_4 (by assumption) (by assumption) (by omega) (by assumption)) (tm0_r _))
 refine sQ (pNf rfl) rfl (sQ (pA rfl) rfl (sD (nS (cT rfl ?_))))
 refine tS (tR (sQ (pBd rfl rfl) rfl (sS' ?_)))
 refine sQ (pA rfl) rfl (sQ (pA rfl) rfl (sD (nS (tT (rB (rS ?_))))))
 refine rF3 (rC rfl (lBa rfl rfl)) (rT rfl) (rT rfl) ?_
 (exact StpX.mk (stepCast_1 (by assumption)) (tm0_r _))
/-- Steps, at most so many, the last one told as it is. -/
def mEvR : Nat → Tm → Tm × Int × Int × Nat
 | 0, e => ((mStepCast e).1, (mStepCast e).2.1, (mStepCast e).2.2, 0)
 | n + 1, e => if (mStepCast e).2.1 = 1 then ((mEvR n (mStepCast e).1).1, (mEvR n (mStepCast e).1).2.1, (mEvR n (mStepCast e).1).2.2.1, (mEvR n (mStepCast e).1).2.2.2 + 1)
  else ((mStepCast e).1, (mStepCast e).2.1, (mStepCast e).2.2, 0)
theorem evR_0 (e : Tm) : mEvR 0 e = ((mStepCast e).1, (mStepCast e).2.1, (mStepCast e).2.2, 0) := by rw [mEvR]
theorem evR_p {n : Nat} {e : Tm} (h : (mStepCast e).2.1 = 1) : mEvR (n + 1) e = ((mEvR n (mStepCast e).1).1, (mEvR n (mStepCast e).1).2.1, (mEvR n (mStepCast e).1).2.2.1, (mEvR n (mStepCast e).1).2.2.2 + 1) := by rw [mEvR, if_pos h]
theorem evR_n {n : Nat} {e : Tm} (h : (mStepCast e).2.1 ≠ 1) : mEvR (n + 1) e = ((mStepCast e).1, (mStepCast e).2.1, (mStepCast e).2.2, 0) := by rw [mEvR, if_neg h]
theorem evR_ev1 : ∀ (n : Nat) (e : Tm), (mEvR n e).2.1 = 1 → mEv n e = (tm0, 5, 0, (mEvR n e).2.2.2)
 | 0, e, h => by rw [evR_0] at h ⊢; rw [mEv, if_pos h]
 | n + 1, e, h => by
  by_cases h1 : (mStepCast e).2.1 = 1
  ·rw [evR_p h1] at h ⊢
   rw [mEv, if_pos h1, evR_ev1 n _ h]
  ·rw [evR_n h1] at h; exact absurd h h1
theorem evR_ev2 : ∀ (n : Nat) (e : Tm), (mEvR n e).2.1 ≠ 1 → mEv n e = mEvR n e
 | 0, e, h => by rw [evR_0] at h ⊢; rw [mEv, if_neg h]
 | n + 1, e, h => by
  by_cases h1 : (mStepCast e).2.1 = 1
  ·rw [evR_p h1] at h ⊢
   rw [mEv, if_pos h1, evR_ev2 n _ h]
  ·rw [evR_n h1]; rw [mEv, if_neg h1]
/-- What evaluate tells. -/
def EvP (r : Tm × Int × Int × Nat) : IM → Value → List Ent → Prop := Imm fun G' v => ∃ cells, v = .tuple ⟨[.agg ⟨cells⟩, .int .i64 r.2.1, .int .i64 r.2.2.1, .int .i64 (r.2.2.2 : Int)]⟩ ∧ RTm G' r.1 cells
def evAdd (i : Nat) (r : Tm × Int × Int × Nat) : Tm × Int × Int × Nat := (r.1, r.2.1, r.2.2.1, r.2.2.2 + i)
theorem evR_end {m i : Nat} {e : Tm} (h : (mStepCast e).2.1 ≠ 1 ∨ m = 0) : evAdd i (mEvR m e) = ((mStepCast e).1, (mStepCast e).2.1, (mStepCast e).2.2, i) := by
 cases m with
 | zero => simp [evAdd, mEvR]
 | succ m =>
  rcases h with h | h
  ·simp only [evAdd, mEvR]; rw [if_neg h]; simp
  ·cases h
theorem evR_go {m i : Nat} {e : Tm} (h : (mStepCast e).2.1 = 1) (hm : 0 < m) : evAdd i (mEvR m e) = evAdd (i + 1) (mEvR (m - 1) (mStepCast e).1) := by
 obtain ⟨k, rfl⟩ : ∃ k, m = k + 1 := ⟨m - 1, by omega⟩
 simp only [evAdd, mEvR]; rw [if_pos h]; simp only [Nat.add_sub_cancel, Nat.add_assoc, Nat.add_comm 1 i]
section fin
variable {P : Program} {Γ : Ctx} {env : Env} {hp : List Ent} {G : IM}
theorem nrm_fin0 {post : IM → Value → List Ent → Prop} {σ : Sy} (hk : post σ.G (.tuple ⟨[]⟩) []) : retK P Γ [] post .normal σ := ⟨[], .nil, [], σ.hp, by simp, hk⟩
theorem ret_fin4 {r r2 r3 r4 : ResultVar} {post : IM → Value → List Ent → Prop} {v v2 v3 v4 : Value} (h : ResOne P Γ ⟨env, hp, G⟩ r v) (h2 : ResOne P Γ ⟨env, hp, G⟩ r2 v2) (h3 : ResOne P Γ ⟨env, hp, G⟩ r3 v3) (h4 : ResOne P Γ ⟨env, hp, G⟩ r4 v4) (hk : post G (.tuple ⟨[v, v2, v3, v4]⟩) []) :
  retK P Γ [r, r2, r3, r4] post .ret ⟨env, hp, G⟩ := ret_fin0 (.cons h (.cons h2 (.cons h3 (.cons h4 .nil)))) hk
end fin
theorem EvP.mk {G : IM} {r : Tm × Int × Int × Nat} {u : Tm} {c l : Int} {i : Nat} {cells : List Value} (h : r = (u, c, l, i)) (hr : RTm G u cells) : EvP r G (.tuple ⟨[.agg ⟨cells⟩, .int .i64 c, .int .i64 l, .int .i64 (i : Int)]⟩) [] := by
 subst h; exact ⟨rfl, cells, rfl, hr⟩
theorem evaluate_fn (e : Tm) (n : Nat) (hn : n ≤ 300) (fid : FuncId) [FunI Tryz.prog fid] (us cs : List Value) (hq : ∀ (G : IM) (u : Tm) (cells : List Value), RTm G u cells → Fn Tryz.prog fid (us ++ [.agg ⟨cells⟩] ++ cs) [] G (Val (.tuple ⟨[]⟩) G))
  (G : IM) (cells : List Value) (hr : RTm G e cells) : Fn Tryz.prog 78 [.agg ⟨cells⟩, .int .i64 (n : Int), .func (.func fid) ⟨us⟩ ⟨cs⟩] [] G (EvP (mEvR n e)) := by
 have hRl := hr.len
 have hRo := hr.one
 have hq0 := hq G e cells hr
 refine fn_enter Tryz.func78 rfl Tryz.ntmps78 Tryz.results78 rfl ?_
 intro w0
 refine tS (tR ?_)
 refine sE (step_box_a rfl rfl) rfl (fun b3 => ?_)
 refine sE (step_alloc rfl) rfl (fun b4 => ?_)
 refine sQ (pA rfl) rfl (sQ (pA rfl) rfl (sQ (pA rfl) rfl (sD (nS (tS (tR ?_))))))
 refine sQ (pM rfl) rfl (sL (load_a rfl rfl (at_blk_all (by repeat first | exact mH | apply mT)) hRl) rfl rfl ?_)
 (refine seq_vval rfl rfl hq0 rfl rfl ?_)
 refine sD (nS (tS (tR (sQ (pA rfl) rfl (sD (nS ?_))))))
 refine tri_block ?_
 (refine tri_loopN (fun (x : Nat × Tm × List Value × IM) => ⟨[(10, .int .i64 (x.1 : Int)), (1, .int .i64 (n : Int)), (2, .func (.func fid) ⟨us⟩ ⟨cs⟩), (3, .pointer (some ⟨b3, 0, none⟩)), (6, .pointer (some ⟨b4, 0, none⟩))], [.blk b3 x.2.2.1, .blk b4 [.int .i64 0, .string ⟨⟨[]⟩⟩, .int .i64 0, .int .i64 0, .slice none 0 0, .int .i64 0, .slice none 0 0, .int .i64 0, .slice none 0 0]], x.2.2.2⟩) (fun x => x.1 ≤ n ∧ IMle G x.2.2.2 ∧ RTm x.2.2.2 x.2.1 x.2.2.1 ∧ evAdd x.1 (mEvR (n - x.1) x.2.1) = mEvR n e) (fun x => n - x.1) (0, e, cells, G) ?_ ?_ ?_)
 (simp only [flat_snoc]; exact sMk)
 (exact ⟨Nat.zero_le _, IMle.refl _, hr, rfl⟩)
 (rintro ⟨i, u, uc, Gi⟩ ⟨hi, hle, hru, hev⟩; simp only [] at hi hle hru hev ⊢; have hul := hru.len; have huo := hru.one)
 refine tS (tri_block (tS (tR (sL (load_a rfl rfl (at_blk_all (by repeat first | exact mH | apply mT)) hul) rfl rfl ?_))))
 (refine seq_imm rfl (stepCast_fn u Gi uc hru) rfl rfl (fun v G1 hle1 hh => ?_); obtain ⟨wc, hv, hrw⟩ := hh; have hwl := hrw.len; have hwo := hrw.one; have hend := @evR_end (n - i) i u; have hgo := @evR_go (n - i) i u; generalize mStepCast u = r at hv hrw hend hgo; obtain ⟨w, c, l⟩ := r; simp only at hv hrw hend hgo; subst hv)
 refine sQ (pM rfl) rfl (sQ (pX rfl rfl) rfl (sQ (pX rfl rfl) rfl (sQ (pX rfl rfl) rfl ?_)))
 refine sE (step_alloc rfl) rfl (fun b37 => ?_)
 refine sS rfl rfl rfl hwl hwo rfl ?_ (hu := by exact upd_all hwl.symm)
 refine sQ (pA rfl) rfl (sQ (pA rfl) rfl (sD (nS (tS (tS (tR ?_))))))
 refine sQ (pM rfl) rfl (sB (pure_neq rfl rfl) rfl rfl (fun h47 => ?_) (fun h47 => ?_))
 refine sQ (pM rfl) rfl (sK rfl rfl (sK rfl rfl (sK rfl rfl (sQ (pPt rfl rfl) rfl (sD (nS ?_))))))
 refine cT rfl ?_
 refine tS (tR (sL (load_a rfl rfl (at_blk_all (by repeat first | exact mH | apply mT)) hwl) rfl rfl ?_))
 refine sQ (pM rfl) rfl (sQ (pM rfl) rfl (sQ (pM rfl) rfl (sS rfl rfl rfl hwl hwo rfl ?_ (hu := by exact upd_all hwl.symm))))
 refine sQ (pA rfl) rfl (sQ (pA rfl) rfl (sQ (pA rfl) rfl (sD (nS (tT (rS ?_))))))
 refine rB (rS (ret_loopN (rB (ret_fin4 (rC rfl (load_a rfl rfl (at_blk_all (by repeat first | exact mH | apply mT)) hwl)) (rT rfl) (rT rfl) (rT rfl) ?_))))
 (exact EvP.mk (by rw [← hev]; exact hend (by omega)) hrw)
 refine sQ (pM rfl) rfl (sQ (pM rfl) rfl (sQ (pM rfl) rfl (sB (pE rfl rfl) rfl rfl (fun h79 => ?_) (fun h79 => ?_))))
 refine sQ (pPf rfl rfl) rfl (sD (nS (cT rfl ?_)))
 refine tS (tR (sL (load_a rfl rfl (at_blk_all (by repeat first | exact mH | apply mT)) hwl) rfl rfl ?_))
 refine sQ (pM rfl) rfl (sQ (pM rfl) rfl (sQ (pM rfl) rfl (sS rfl rfl rfl hwl hwo rfl ?_ (hu := by exact upd_all hwl.symm))))
 refine sQ (pA rfl) rfl (sQ (pA rfl) rfl (sQ (pA rfl) rfl (sD (nS (tT (rS ?_))))))
 refine rB (rS (ret_loopN (rB (ret_fin4 (rC rfl (load_a rfl rfl (at_blk_all (by repeat first | exact mH | apply mT)) hwl)) (rT rfl) (rT rfl) (rT rfl) ?_))))
 (exact EvP.mk (by rw [← hev]; exact hend (by omega)) hrw)
 refine sQ (pPf rfl rfl) rfl (sD (nS (cF rfl ?_)))
 refine tK (nS (tS (tR (sL (load_a rfl rfl (at_blk_all (by repeat first | exact mH | apply mT)) hwl) rfl rfl ?_))))
 refine seq_store rfl rfl rfl hwl hwo rfl (by repeat first | exact Sw.here | apply Sw.there) (by exact upd_all (hul.trans hwl.symm)) ?_
 refine sD (nS (tR (sQ (pM rfl) rfl (sL (load_a rfl rfl (at_blk_all (by repeat first | exact mH | apply mT)) hwl) rfl rfl ?_))))
 (refine seq_vval rfl rfl (hq G1 w wc hrw) rfl rfl ?_)
 refine sD (nrm_block (nS (tR (sQ (pM rfl) rfl (sP (pure_add rfl rfl (by omega) (by omega)) rfl rfl ?_)))))
 refine sQ (pA rfl) rfl (sD (nrm_loopN (i + 1, w, wc, G1) ?_ ?_ ?_))
 (simp only [flat_snoc]; exact sMk)
 (dsimp only; exact ⟨by omega, hle.trans hle1, hrw, by rw [← hev, hgo (by omega) (by omega), show n - (i + 1) = n - i - 1 by omega]⟩)
 (show n - (i + 1) < n - i; omega)
theorem isFuel_fn (fuel : Int) (G : IM) : Fn Tryz.prog 25 [.int .i64 fuel] [] G (Val (.bool (withinB fuel 0 300)) G) := by
 refine fn_enter Tryz.func25 rfl Tryz.ntmps25 Tryz.results25 rfl ?_
 intro w0
 refine tS (tR (sQ (pA rfl) rfl (sD (nS (tS (tR ?_))))))
 refine sQ (pM rfl) rfl (seq_val rfl ((within_fn _ _ _ _)) rfl rfl ?_)
 refine sQ (pA rfl) rfl (sD (nS (tT (rF1 (rT rfl) ?_))))
 (exact ⟨rfl, rfl, rfl⟩)
theorem evalCast_no {e : Tm} {fuel : Int} (h : withinB fuel 0 300 = false) : mEvalCast e fuel = (tm0, 3, 0) := by
 unfold mEvalCast; rw [if_neg (withinB_f h)]; rfl
theorem evalCast_much {e : Tm} {fuel : Int} (h : withinB fuel 0 300 = true) (h1 : (mEvR fuel.toNat e).2.1 = 1) : mEvalCast e fuel = (tm0, 5, 0) := by
 unfold mEvalCast; rw [if_pos (withinB_t h), evR_ev1 _ _ h1]
theorem evalCast_end {e : Tm} {fuel : Int} (h : withinB fuel 0 300 = true) (h1 : (mEvR fuel.toNat e).2.1 ≠ 1) : mEvalCast e fuel = ((mEvR fuel.toNat e).1, (mEvR fuel.toNat e).2.1, (mEvR fuel.toNat e).2.2.1) := by
 unfold mEvalCast; rw [if_pos (withinB_t h), evR_ev2 _ _ h1]
theorem evalCast1_fn (G : IM) (cells : List Value) (hl : cells.length = 9) (ho : cells.all (·.oneCell') = true) : Fn Tryz.prog 79 [.agg ⟨cells⟩] [] G (Val (.tuple ⟨[]⟩) G) := by
 refine fn_enter Tryz.func79 rfl Tryz.ntmps79 Tryz.results79 rfl ?_
 intro w0
 refine tR ?_
 refine sE (step_box_a rfl rfl) rfl (fun b2 => ?_)
 refine sD (nrm_fin0 ?_)
 (exact ⟨rfl, rfl, rfl⟩)
theorem evalCast_fn (e : Tm) (fuel : Int) (G : IM) (cells : List Value) (hr : RTm G e cells) : Fn Tryz.prog 48 [.agg ⟨cells⟩, .int .i64 fuel] [] G (StpX (mEvalCast e fuel)) := by
 have hRl := hr.len
 have hRo := hr.one
 have hno := @evalCast_no e fuel
 have hmu := @evalCast_much e fuel
 have hen := @evalCast_end e fuel
 refine fn_enter Tryz.func48 rfl Tryz.ntmps48 Tryz.results48 rfl ?_
 intro w0
 refine tS (tR ?_)
 refine sE (step_box_a rfl rfl) rfl (fun b3 => ?_)
 refine sE (step_alloc rfl) rfl (fun b4 => ?_)
 refine sQ (pA rfl) rfl (sQ (pA rfl) rfl (sD (nS (tS (tS (tR ?_))))))
 refine sQ (pM rfl) rfl (seq_valb rfl ((isFuel_fn fuel _)) rfl rfl (fun h13 => ?_) (fun h13 => ?_))
 refine sQ (pNt rfl) rfl (sD (nS (cF rfl ?_)))
 refine tK (nS (tS (tR (sL (load_a rfl rfl (at_blk_all (by repeat first | exact mH | apply mT)) hRl) rfl rfl ?_))))
 refine sQ (pM rfl) rfl ?_
 (have hf : withinB fuel 0 300 = true := (by assumption); have hf2 := withinB_t hf; have hE := evaluate_fn e fuel.toNat (by omega) 79 [] [] (fun G u cells hru => evalCast1_fn G cells hru.len hru.one) G cells hr; rw [Int.toNat_of_nonneg hf2.1] at hE; refine seq_imm rfl hE rfl rfl (fun v G1 hle1 hh => ?_); obtain ⟨wc, hv, hrw⟩ := hh; have hwl := hrw.len; have hwo := hrw.one; have hmu := hmu hf; have hen := hen hf; generalize mEvR fuel.toNat e = r at hv hrw hmu hen; obtain ⟨w, c, l, i⟩ := r; simp only at hv hrw hmu hen; subst hv)
 refine sQ (pM rfl) rfl (sQ (pX rfl rfl) rfl (sQ (pX rfl rfl) rfl (sQ (pX rfl rfl) rfl (sQ (pX rfl rfl) rfl ?_))))
 refine sE (step_alloc rfl) rfl (fun b30 => ?_)
 refine sS rfl rfl rfl hwl hwo rfl ?_ (hu := by exact upd_all hwl.symm)
 refine sQ (pA rfl) rfl (sQ (pA rfl) rfl (sQ (pA rfl) rfl (sD (nS (tS (tS ?_))))))
 refine tR (sQ (pM rfl) rfl (sB (pE rfl rfl) rfl rfl (fun h41 => ?_) (fun h41 => ?_)))
 refine sD (nS (cT rfl ?_))
 refine tS (tR (sQ (pBd rfl rfl) rfl (sS' ?_)))
 refine sQ (pA rfl) rfl (sQ (pA rfl) rfl (sD (nS (tT (rS (rF3 (rC rfl (lBa rfl rfl)) (rT rfl) (rT rfl) ?_))))))
 (exact StpX.mk (hmu (by omega)) (tm0_r _))
 refine sD (nS (cF rfl ?_))
 refine tK (nS (tS (tR (sL (load_a rfl rfl (at_blk_all (by repeat first | exact mH | apply mT)) hwl) rfl rfl ?_))))
 refine sQ (pM rfl) rfl (sQ (pM rfl) rfl (sS rfl rfl rfl hwl hwo rfl ?_ (hu := by exact upd_all hwl.symm)))
 refine sQ (pA rfl) rfl (sQ (pA rfl) rfl (sD (nS (tT (rF3 (rC rfl (load_a rfl rfl (at_blk_all (by repeat first | exact mH | apply mT)) hwl)) (rT rfl) (rT rfl) ?_)))))
 (exact StpX.mk (hen (by omega)) hrw)
 refine sQ (pNf rfl) rfl (sD (nS (cT rfl ?_)))
 refine tS (tR (sQ (pBd rfl rfl) rfl (sS' ?_)))
 refine sQ (pA rfl) rfl (sQ (pA rfl) rfl (sD (nS (tT (rS (rF3 (rC rfl (lBa rfl rfl)) (rT rfl) (rT rfl) ?_))))))
 (exact StpX.mk (hno (by assumption)) (tm0_r _))
mutual
/-- All labels of casts are of a kind. -/
def lbOk (L : Int → Prop) : Tm → Prop
 | .mk k nm num ty fr lb ks => (k = 14 → L lb) ∧ lbOkL L ks
def lbOkL (L : Int → Prop) : List Tm → Prop
 | [] => True
 | t :: ts => lbOk L t ∧ lbOkL L ts
end
theorem lbOk_mk {L : Int → Prop} {k : Int} {nm : ByteArray} {num : Int} {ty fr : Ty} {lb : Int} {ks : List Tm} : lbOk L (.mk k nm num ty fr lb ks) ↔ (k = 14 → L lb) ∧ lbOkL L ks := by rw [lbOk]
theorem lbOkL_mem {L : Int → Prop} : ∀ {ts : List Tm}, lbOkL L ts ↔ ∀ t ∈ ts, lbOk L t
 | [] => by simp [lbOkL]
 | t :: ts => by rw [lbOkL, lbOkL_mem (ts := ts)]; simp
theorem lbOk_cst {L : Int → Prop} {e : Tm} {a b : Ty} {l : Int} (hl : L l) (h : lbOk L e) : lbOk L (mCst e a b l) := by
 rw [mCst, lbOk_mk]; exact ⟨fun _ => hl, by simp [lbOkL, h]⟩
theorem lbOk_nod {L : Int → Prop} {k : Int} {ks : List Tm} (hk : k ≠ 14) (h : ∀ t ∈ ks, lbOk L t) : lbOk L (mNod k ks) := by
 rw [mNod, lbOk_mk]; exact ⟨fun e => absurd e hk, lbOkL_mem.2 h⟩
mutual
theorem lbOk_subst {L : Int → Prop} {x : ByteArray} {v : Tm} (hv : lbOk L v) : ∀ t, lbOk L t → lbOk L (mSubst x v t)
 | .mk k nm num ty fr lb ks, h => by
  rw [lbOk_mk] at h
  rw [mSubst]
  split
  ·exact hv
  ·split
   ·rw [lbOk_mk]; exact h
   ·rw [lbOk_mk]; exact ⟨h.1, lbOk_substL hv ks h.2⟩
theorem lbOk_substL {L : Int → Prop} {x : ByteArray} {v : Tm} (hv : lbOk L v) : ∀ ts, lbOkL L ts → lbOkL L (mSubstL x v ts)
 | [], _ => by rw [mSubstL]; trivial
 | t :: ts, h => by rw [mSubstL, lbOkL]; exact ⟨lbOk_subst hv t h.1, lbOk_substL hv ts h.2⟩
end
/-- What a value of a type looks like. -/
theorem canon {f : Tm} {U : Ty} (hv : mVal f = true) (ht : castTy [] f = some U) (hc : cv f) :
  (U.k = 2 → f.k = 2) ∧ (U.k = 3 → f.k = 3 ∨ f.k = 4) ∧ (U.k = 4 → f.k = 5 ∨ (prx f = true ∧ f.ty.k = 4)) ∧ (U.k = 5 → f.k = 10 ∨ (prx f = true ∧ f.ty.k = 5)) ∧ (U.k = 1 → inj f = true) := by
 obtain ⟨k, nm, num, ty, fr, lb, ks⟩ := f
 obtain ⟨hN, _⟩ := hc.node
 have hop := hN.ops
 rw [prx_mk, inj_mk]
 show (U.k = 2 → k = 2) ∧ (U.k = 3 → k = 3 ∨ k = 4) ∧ (U.k = 4 → k = 5 ∨ (_ ∧ ty.k = 4)) ∧ (U.k = 5 → k = 10 ∨ (_ ∧ ty.k = 5)) ∧ (U.k = 1 → _)
 by_cases h10 : k = 10
 ·subst h10
  obtain ⟨a, b, rfl⟩ := ks2 (ks := ks) (by have : tmOps 10 = 2 := rfl; omega)
  obtain ⟨A, B, _, _, rfl⟩ := ty_pair ht
  refine ⟨fun h => ?_, fun h => ?_, fun h => ?_, fun h => .inl rfl, fun h => ?_⟩ <;> (exfalso; simp [Ty.k, tyInt, tyBool] at h)
 by_cases h14 : k = 14
 ·subst h14
  obtain ⟨a, rfl⟩ := ks1 (ks := ks) (by have : tmOps 14 = 1 := rfl; omega)
  obtain ⟨_, rfl⟩ := ty_cast ht
  by_cases hp : fr.k = U.k ∧ (U.k = 4 ∨ U.k = 5)
  ·refine ⟨fun h => by omega, fun h => by omega, fun h => .inr ⟨decide_eq_true ⟨rfl, hp⟩, h⟩, fun h => .inr ⟨decide_eq_true ⟨rfl, hp⟩, h⟩, fun h => by omega⟩
  ·by_cases hi : U.k = 1 ∧ isGrd fr = true
   ·refine ⟨fun h => by omega, fun h => by omega, fun h => by omega, fun h => by omega, fun _ => ?_⟩
    rw [hi.2, decide_eq_true ⟨rfl, hi.1⟩]; rfl
   ·exfalso
    rw [mVal, if_neg (by rintro (h | h | h); exact absurd h (by decide); exact hp h.2; exact hi h.2)] at hv
    exact absurd (of_decide_eq_true hv) (by decide)
 ·have hk : k = 2 ∨ k = 3 ∨ k = 4 ∨ k = 5 := by
   rw [mVal, if_neg (by rintro (h | h | h); exact h10 h; exact h14 h.1; exact h14 h.1)] at hv
   exact of_decide_eq_true hv
  by_cases h5 : k = 5
  ·subst h5
   obtain ⟨a, rfl⟩ := ks1 (ks := ks) (by have : tmOps 5 = 1 := rfl; omega)
   obtain ⟨B, _, rfl⟩ := ty_lam ht
   refine ⟨fun h => ?_, fun h => ?_, fun h => .inl rfl, fun h => ?_, fun h => ?_⟩ <;> (exfalso; simp [Ty.k, tyInt, tyBool] at h)
  ·have hks : ks = [] := List.length_eq_zero_iff.1 (by
    rcases hk with h | h | h | h
    ·subst h; have : tmOps 2 = 0 := rfl; omega
    ·subst h; have : tmOps 3 = 0 := rfl; omega
    ·subst h; have : tmOps 4 = 0 := rfl; omega
    ·exact absurd h h5)
   subst hks
   by_cases h2 : k = 2
   ·subst h2
    obtain rfl := ty_num ht
    refine ⟨fun _ => rfl, fun h => ?_, fun h => ?_, fun h => ?_, fun h => ?_⟩ <;> (exfalso; simp [Ty.k, tyInt, tyBool] at h)
   ·have h34 : k = 3 ∨ k = 4 := by omega
    obtain rfl := ty_tru h34 ht
    refine ⟨fun h => ?_, fun _ => h34, fun h => ?_, fun h => ?_, fun h => ?_⟩ <;> (exfalso; simp [Ty.k, tyInt, tyBool] at h)
theorem prx_spec {k : Int} {nm : ByteArray} {num : Int} {ty fr : Ty} {lb : Int} {ks : List Tm} (h : prx (.mk k nm num ty fr lb ks) = true) : k = 14 ∧ fr.k = ty.k ∧ (ty.k = 4 ∨ ty.k = 5) := by
 rw [prx_mk] at h; exact of_decide_eq_true h
/-- What a step of a closed term with a type is. -/
def Good (L : Int → Prop) (T : Ty) (r : Stp) : Prop := (r.2.1 = 1 ∧ castTy [] r.1 = some T ∧ lbOk L r.1) ∨ (r.2.1 = 2 ∧ L r.2.2)
theorem grd_same {t : Ty} (h : isGrd t = true) : t = mGround t := by
 unfold isGrd at h
 rw [Bool.and_eq_true] at h
 exact (tSame_iff _ _).1 h.2
theorem ground_of_k {t u : Ty} (h : t.k = u.k) : mGround t = mGround u := by unfold mGround; rw [h]
theorem red_good (L : Int → Prop) (hL : ∀ l, L l → L (-l)) {k : Int} {nm : ByteArray} {num : Int} {ty fr : Ty} {lb : Int} {ks : List Tm} {T : Ty} (hc : cv (.mk k nm num ty fr lb ks))
  (h8 : k = 1 ∨ k = 6 ∨ k = 7 ∨ k = 8 ∨ k = 9 ∨ k = 11 ∨ k = 12 ∨ k = 14) (hnv : mVal (.mk k nm num ty fr lb ks) = false)
  (hval : ∀ i, i < (if k = 9 then 1 else ks.length) → (hl : i < ks.length) → mVal ks[i] = true)
  (ht : castTy [] (.mk k nm num ty fr lb ks) = some T) (hlb : lbOk L (.mk k nm num ty fr lb ks)) : Good L T (mRed k ty fr lb ks) := by
 obtain ⟨hN, hkk⟩ := hc.node
 have hop := hN.ops
 rw [lbOk_mk, lbOkL_mem] at hlb
 obtain ⟨hl14, hlk⟩ := hlb
 have hTv := cv_valid hc ht
 unfold mRed
 by_cases h6 : k = 6
 ·subst h6
  obtain ⟨f, v, rfl⟩ := ks2 (ks := ks) (by have : tmOps 6 = 2 := rfl; omega)
  obtain ⟨A, hf, hv⟩ := ty_app ht
  have hcf := hkk f (by simp)
  have hcv := hkk v (by simp)
  have hlf := hlk f (by simp)
  have hlv := hlk v (by simp)
  have hvf : mVal f = true := hval 0 (by simp) (by simp)
  have hfv := cv_valid hcf hf
  rw [if_pos rfl]
  obtain ⟨_, _, hcan, _⟩ := canon hvf hf hcf
  obtain ⟨fk, fnm, fnum, fty, ffr, flb, fks⟩ := f
  obtain ⟨hNf, hkf⟩ := hcf.node
  have hopf := hNf.ops
  rw [lbOk_mk, lbOkL_mem] at hlf
  show Good L T (if fk = 5 then (mSubst fnm v (kd fks 0), 1, 0) else if prx (.mk fk fnm fnum fty ffr flb fks) = true ∧ fty.k = 4 then (mCst (mNod 6 [kd fks 0, mCst v (kt fty.ks 0) (kt ffr.ks 0) (-flb)]) (kt ffr.ks 1) (kt fty.ks 1) flb, 1, 0) else stuck)
  by_cases h5 : fk = 5
  ·subst h5
   rw [if_pos rfl]
   obtain ⟨b, rfl⟩ := ks1 (ks := fks) (by have : tmOps 5 = 1 := rfl; omega)
   obtain ⟨B, hb, hT⟩ := ty_lam hf
   cases hT
   refine .inl ⟨rfl, ?_, lbOk_subst hlv _ (hlf.2 b (by simp))⟩
   exact subst_ty hv b _ [] _ (hkf b (by simp)) (fun y hy => by rw [mLook_snoc, if_neg (fun e => hy e.symm)]) (by rw [mLook_snoc, if_pos rfl]) hb
  ·rw [if_neg h5]
   have hcan' : prx (.mk fk fnm fnum fty ffr flb fks) = true ∧ fty.k = 4 := (hcan rfl).resolve_left h5
   rw [if_pos hcan']
   obtain ⟨rfl, hfk, _⟩ := prx_spec hcan'.1
   obtain ⟨g, rfl⟩ := ks1 (ks := fks) (by have : tmOps 14 = 1 := rfl; omega)
   obtain ⟨hg, rfl⟩ := ty_cast hf
   obtain ⟨_, hv1, hv2⟩ := hNf.c14 rfl
   obtain ⟨frk, frs⟩ := ffr
   obtain rfl : frk = 4 := hfk.trans hcan'.2
   obtain ⟨C, D, rfl, hC, hD⟩ := two_of (.inl rfl) hv2
   have hfl := hlf.1 rfl
   refine .inl ⟨rfl, ?_, lbOk_cst hfl (lbOk_nod (by decide) (by
    intro t htm
    simp only [List.mem_cons, List.not_mem_nil, or_false] at htm
    rcases htm with rfl | rfl
    ·exact hlf.2 _ (by simp [kd])
    ·exact lbOk_cst (hL _ hfl) hlv))⟩
   exact ty_cast_mk (ty_app_mk (A := C) hD hg (ty_cast_mk hv))
 rw [if_neg h6]
 by_cases h7 : k = 7 ∨ k = 8
 ·obtain ⟨a, b, rfl⟩ := ks2 (ks := ks) (by rcases h7 with h | h <;> subst h <;> (first | (have : tmOps 7 = 2 := rfl; omega) | (have : tmOps 8 = 2 := rfl; omega)))
  obtain ⟨ha, hb, hT⟩ := ty_ar h7 ht
  have hva : mVal a = true := hval 0 (by rw [if_neg (by omega)]; simp) (by simp)
  have hvb : mVal b = true := hval 1 (by rw [if_neg (by omega)]; simp) (by simp)
  have ha2 := (canon hva ha (hkk a (by simp))).1 rfl
  have hb2 := (canon hvb hb (hkk b (by simp))).1 rfl
  rw [if_pos h7, if_pos (show (kd [a, b] 0).k = 2 ∧ (kd [a, b] 1).k = 2 from ⟨ha2, hb2⟩)]
  by_cases hk7 : k = 7
  ·rw [if_pos hk7]
   rw [if_neg (by omega)] at hT
   subst hT
   exact .inl ⟨rfl, rfl, by rw [mNum, lbOk_mk]; exact ⟨fun e => absurd e (by decide), trivial⟩⟩
  ·rw [if_neg hk7]
   rw [if_pos (by omega)] at hT
   subst hT
   refine .inl ⟨rfl, ?_, ?_⟩
   ·unfold mTru; split <;> rfl
   ·unfold mTru; exact lbOk_nod (by split <;> decide) (by simp)
 rw [if_neg h7]
 by_cases h9 : k = 9
 ·subst h9
  obtain ⟨a, b, c, rfl⟩ := ks3 (ks := ks) (by have : tmOps 9 = 3 := rfl; omega)
  obtain ⟨ha, hb, hcc⟩ := ty_if ht
  have hva : mVal a = true := hval 0 (by simp) (by simp)
  have ha2 := (canon hva ha (hkk a (by simp))).2.1 rfl
  rw [if_pos rfl]
  show Good L T (if a.k = 3 then (b, 1, 0) else if a.k = 4 then (c, 1, 0) else stuck)
  by_cases h3 : a.k = 3
  ·rw [if_pos h3]; exact .inl ⟨rfl, hb, hlk b (by simp)⟩
  ·rw [if_neg h3, if_pos (by omega)]; exact .inl ⟨rfl, hcc, hlk c (by simp)⟩
 rw [if_neg h9]
 by_cases h11 : k = 11 ∨ k = 12
 ·obtain ⟨a, rfl⟩ := ks1 (ks := ks) (by rcases h11 with h | h <;> subst h <;> (first | (have : tmOps 11 = 1 := rfl; omega) | (have : tmOps 12 = 1 := rfl; omega)))
  obtain ⟨A, B, ha, hT⟩ := ty_part h11 ht
  have hva : mVal a = true := hval 0 (by rw [if_neg (by omega)]; simp) (by simp)
  have hca := hkk a (by simp)
  have hla := hlk a (by simp)
  have ha2 := (canon hva ha hca).2.2.2.1 rfl
  rw [if_pos h11]
  obtain ⟨fk, fnm, fnum, fty, ffr, flb, fks⟩ := a
  obtain ⟨hNf, hkf⟩ := hca.node
  have hopf := hNf.ops
  rw [lbOk_mk, lbOkL_mem] at hla
  show Good L T (if fk = 10 then (kd fks (k - 11).toNat, 1, 0) else if prx (.mk fk fnm fnum fty ffr flb fks) = true ∧ fty.k = 5 then (mCst (mNod k [kd fks 0]) (kt ffr.ks (k - 11).toNat) (kt fty.ks (k - 11).toNat) flb, 1, 0) else stuck)
  by_cases h10 : fk = 10
  ·subst h10
   rw [if_pos rfl]
   obtain ⟨x, y, rfl⟩ := ks2 (ks := fks) (by have : tmOps 10 = 2 := rfl; omega)
   obtain ⟨A', B', hx, hy, he⟩ := ty_pair ha
   cases he
   rcases h11 with rfl | rfl
   ·rw [if_neg (by decide)] at hT; subst hT; exact .inl ⟨rfl, hx, hla.2 x (by simp)⟩
   ·rw [if_pos rfl] at hT; subst hT; exact .inl ⟨rfl, hy, hla.2 y (by simp)⟩
  ·rw [if_neg h10]
   have hcan' : prx (.mk fk fnm fnum fty ffr flb fks) = true ∧ fty.k = 5 := ha2.resolve_left h10
   rw [if_pos hcan']
   obtain ⟨rfl, hfk, _⟩ := prx_spec hcan'.1
   obtain ⟨g, rfl⟩ := ks1 (ks := fks) (by have : tmOps 14 = 1 := rfl; omega)
   obtain ⟨hg, rfl⟩ := ty_cast ha
   obtain ⟨_, hv1, hv2⟩ := hNf.c14 rfl
   obtain ⟨frk, frs⟩ := ffr
   obtain rfl : frk = 5 := hfk.trans hcan'.2
   obtain ⟨C, D, rfl, hC, hD⟩ := two_of (.inr rfl) hv2
   have hfl := hla.1 rfl
   refine .inl ⟨rfl, ?_, lbOk_cst hfl (lbOk_nod (by omega) (by
    intro t htm
    simp only [List.mem_cons, List.not_mem_nil, or_false] at htm
    subst htm
    exact hla.2 _ (by simp [kd])))⟩
   have hg' : castTy [] (kd [g] 0) = some (.mk 5 [C, D]) := hg
   rcases h11 with rfl | rfl
   ·rw [if_neg (by decide)] at hT; subst hT
    exact ty_cast_mk (ty_part_mk (k := 11) (.inl rfl) (by rw [if_neg (by decide)]; exact hC) hg')
   ·rw [if_pos rfl] at hT; subst hT
    exact ty_cast_mk (ty_part_mk (k := 12) (.inr rfl) (by rw [if_pos rfl]; exact hD) hg')
 rw [if_neg h11]
 by_cases h14 : k = 14
 ·subst h14
  obtain ⟨a, rfl⟩ := ks1 (ks := ks) (by have : tmOps 14 = 1 := rfl; omega)
  obtain ⟨ha, rfl⟩ := ty_cast ht
  have hva : mVal a = true := hval 0 (by simp) (by simp)
  have hca := hkk a (by simp)
  have hla := hlk a (by simp)
  have hlb := hl14 rfl
  obtain ⟨hcons, htv, hfv⟩ := hN.c14 rfl
  rw [if_pos rfl]
  have hnp : ¬(fr.k = T.k ∧ (T.k = 4 ∨ T.k = 5)) := by
   intro hh
   rw [val_yes (.inr (.inl (by rw [prx_mk]; exact decide_eq_true ⟨rfl, hh⟩))), List.all_cons, hva] at hnv
   cases hnv
  by_cases h1 : fr.k = T.k
  ·rw [if_pos h1]
   refine .inl ⟨rfl, ?_, hla⟩
   show castTy [] a = some T
   rw [ha]
   obtain ⟨fk, fs⟩ := fr
   obtain ⟨tk, ts⟩ := T
   obtain rfl : fk = tk := h1
   obtain ⟨_, rfl⟩ := leaf_of hfv (fun e => hnp ⟨rfl, .inl e⟩) (fun e => hnp ⟨rfl, .inr e⟩)
   obtain ⟨_, rfl⟩ := leaf_of htv (fun e => hnp ⟨rfl, .inl e⟩) (fun e => hnp ⟨rfl, .inr e⟩)
   rfl
  ·rw [if_neg h1]
   by_cases h2 : T.k = 1
   ·rw [if_pos h2]
    exact .inl ⟨rfl, ty_cast_mk (ty_cast_mk ha), lbOk_cst hlb (lbOk_cst hlb hla)⟩
   ·rw [if_neg h2]
    by_cases h3 : isGrd T = false
    ·rw [if_pos h3]
     exact .inl ⟨rfl, ty_cast_mk (ty_cast_mk ha), lbOk_cst hlb (lbOk_cst hlb hla)⟩
    ·rw [if_neg h3]
     have hfr1 : fr.k = 1 := by
      obtain ⟨fk, fs⟩ := fr
      obtain ⟨tk, ts⟩ := T
      rw [tCons_mk] at hcons
      simp only [Bool.or_eq_true, Bool.and_eq_true, decide_eq_true_eq] at hcons
      rcases hcons with (h | h) | h
      ·exact h
      ·exact absurd h h2
      ·exact absurd h.1 h1
     have hi := (canon hva ha hca).2.2.2.2 hfr1
     rw [if_neg (by rw [show kd [a] 0 = a from rfl, hi]; decide)]
     have hg : isGrd T = true := by cases h : isGrd T with | true => rfl | false => exact absurd h h3
     obtain ⟨fk, fnm, fnum, fty, ffr, flb, fks⟩ := a
     obtain ⟨hNf, _⟩ := hca.node
     have hopf := hNf.ops
     rw [lbOk_mk, lbOkL_mem] at hla
     have hgi := inj_grd hi
     obtain rfl : fk = 14 := inj_k hi
     obtain ⟨g, rfl⟩ := ks1 (ks := fks) (by have : tmOps 14 = 1 := rfl; omega)
     obtain ⟨hgt, _⟩ := ty_cast ha
     show Good L T (if ffr.k = T.k then (kd [g] 0, 1, 0) else (tm0, 2, lb))
     by_cases h4 : ffr.k = T.k
     ·rw [if_pos h4]
      refine .inl ⟨rfl, ?_, hla.2 g (by simp)⟩
      show castTy [] g = some T
      rw [hgt]
      congr 1
      exact (grd_same hgi).trans ((ground_of_k h4).trans (grd_same hg).symm)
     ·rw [if_neg h4]
      exact .inr ⟨rfl, hlb⟩
 ·exfalso
  obtain rfl : k = 1 := by omega
  have hks : ks = [] := List.length_eq_zero_iff.1 (by have : tmOps 1 = 0 := rfl; omega)
  subst hks
  have := ty_var ht
  simp [mLook, lookN] at this
theorem lbOk_set {L : Int → Prop} {ks : List Tm} {i : Nat} {u : Tm} (h : ∀ t ∈ ks, lbOk L t) (hu : lbOk L u) : ∀ t ∈ ks.set i u, lbOk L t := by
 intro t ht
 rcases List.mem_or_eq_of_mem_set ht with h1 | h1
 ·exact h t h1
 ·rw [h1]; exact hu
theorem stp_good (L : Int → Prop) (hL : ∀ l, L l → L (-l)) : ∀ (e : Tm) (T : Ty), cv e → mVal e = false → castTy [] e = some T → lbOk L e → Good L T (mStp e) := by
 refine Tm.ind fun k nm num ty fr lb ks ih T hc hv ht hlb => ?_
 obtain ⟨hN, hkk⟩ := hc.node
 by_cases hall : ∀ i, i < (if k = 9 then 1 else ks.length) → (hl : i < ks.length) → mVal ks[i] = true
 ·have h8 := stp_kinds hc hv hall
  have := red_good L hL hc h8 hv hall ht hlb
  rw [mStp, stpL_none _ _ hall]
  exact this
 ·-- the first operand that is no value
  have hex : ∃ i, ∃ (hl : i < ks.length), i < (if k = 9 then 1 else ks.length) ∧ mVal ks[i] = false ∧ ∀ j, j < i → (h : j < ks.length) → mVal ks[j] = true := by
   have h0 : ∃ i, ∃ (hl : i < ks.length), i < (if k = 9 then 1 else ks.length) ∧ mVal ks[i] = false := by
    apply Classical.byContradiction
    intro hn
    exact hall fun i hi hl => by
     cases h : mVal ks[i] with
     | true => rfl
     | false => exact absurd ⟨i, hl, hi, h⟩ hn
   obtain ⟨i, h1⟩ := h0
   induction i using Nat.strongRecOn with
   | _ i ih2 =>
    obtain ⟨hl, hi, hvi⟩ := h1
    by_cases hj : ∃ j, j < i ∧ ∃ (h : j < ks.length), mVal ks[j] = false
    ·obtain ⟨j, hji, hjl, hjv⟩ := hj
     exact ih2 j hji ⟨hjl, by omega, hjv⟩
    ·refine ⟨i, hl, hi, hvi, fun j hji hjl => ?_⟩
     cases h : mVal ks[j] with
     | true => rfl
     | false => exact absurd ⟨j, hji, hjl, h⟩ hj
  obtain ⟨i, hl, hi, hvi, hbe⟩ := hex
  obtain ⟨s1, s2, s3⟩ := @stp_kid k nm num ty fr lb ks i hl hi hbe hvi
  have hk5 : k ≠ 5 := by
   rintro rfl
   rw [mVal, if_neg (by omega)] at hv
   exact absurd hv (by decide)
  have hlb2 := (lbOk_mk.1 hlb).2
  rw [lbOkL_mem] at hlb2
  rw [castTy] at ht
  split at ht
  ·cases ht
  ·rename_i us hu
   rw [inCx, if_neg hk5] at hu
   obtain ⟨U, hU, hset⟩ := castTyL_get hu i hl
   have hg := ih ks[i] (List.getElem_mem hl) U (hkk _ (List.getElem_mem hl)) hvi hU (hlb2 _ (List.getElem_mem hl))
   unfold Good
   rw [s1, s2]
   rcases hg with ⟨g1, g2, g3⟩ | ⟨g1, g2⟩
   ·refine .inl ⟨g1, ?_, ?_⟩
    ·rw [s3 g1, castTy, inCx, if_neg hk5, hset _ g2]
     exact ht
    ·rw [s3 g1, lbOk_mk]
     exact ⟨(lbOk_mk.1 hlb).1, lbOkL_mem.2 (lbOk_set hlb2 g3)⟩
   ·exact .inr ⟨g1, g2⟩
theorem step_good (L : Int → Prop) (hL : ∀ l, L l → L (-l)) (e : Tm) (T : Ty) (hc : castValid e = true) (ht : castTy [] e = some T) (hl : lbOk L e) :
  (mStepCast e = (e, 0, 0) ∧ mVal e = true) ∨ (∃ l, mStepCast e = (tm0, 2, l) ∧ L l) ∨ mStepCast e = (tm0, 4, 0) ∨ (∃ u, mStepCast e = (u, 1, 0) ∧ castValid u = true ∧ castTy [] u = some T ∧ lbOk L u) := by
 cases hv : mVal e with
 | true => exact .inl ⟨stepCast_2 hc hv, rfl⟩
 | false =>
  rcases stp_good L hL e T (cv_of hc).1 hv ht hl with ⟨g1, g2, g3⟩ | ⟨g1, g2⟩
  ·cases hcv : castValid (mStp e).1 with
   | false => exact .inr (.inr (.inl (stepCast_4 hc hv g1 hcv)))
   | true => exact .inr (.inr (.inr ⟨_, stepCast_5 hc hv g1 hcv, hcv, g2, g3⟩))
  ·exact .inr (.inl ⟨(mStp e).2.2, by rw [stepCast_3 hc hv (by omega), g1], g2⟩)
/-- Runs of steps: a value of the type, a label that is blamed, or no end. -/
theorem ev_good (L : Int → Prop) (hL : ∀ l, L l → L (-l)) : ∀ (n : Nat) (e : Tm) (T : Ty), castValid e = true → castTy [] e = some T → lbOk L e →
  ((mEv n e).2.1 = 0 ∧ (mEv n e).2.2.1 = 0 ∧ castTy [] (mEv n e).1 = some T ∧ mVal (mEv n e).1 = true ∧ castValid (mEv n e).1 = true) ∨ ((mEv n e).2.1 = 2 ∧ L (mEv n e).2.2.1) ∨ ((mEv n e).2.1 = 4 ∧ (mEv n e).2.2.1 = 0) ∨ ((mEv n e).2.1 = 5 ∧ (mEv n e).2.2.1 = 0)
 | 0, e, T, hc, ht, hl => by
  rcases step_good L hL e T hc ht hl with ⟨h, hv⟩ | ⟨l, h, hl⟩ | h | ⟨u, h, hu1, hu2, hu3⟩
  ·simp [mEv, h, ht, hv, hc]
  ·simp [mEv, h, hl]
  ·simp [mEv, h]
  ·simp [mEv, h]
 | n + 1, e, T, hc, ht, hl => by
  rcases step_good L hL e T hc ht hl with ⟨h, hv⟩ | ⟨l, h, hl⟩ | h | ⟨u, h, hu1, hu2, hu3⟩
  ·simp [mEv, h, ht, hv, hc]
  ·simp [mEv, h, hl]
  ·simp [mEv, h]
  ·have ih := ev_good L hL n u T hu1 hu2 hu3
   simpa only [mEv, h, if_true] using ih
theorem mElL_succ {cx : Cx} : ∀ {ks : List Tm} {i : Nat} (hi : i < ks.length) {l l' l2 : Int} {us : List Tm} {h : List Ty} {u : Tm} {a : Ty}, mElL cx (ks.take i) l = some (us, h, l') → mEl cx ks[i] l' = some (u, a, l2) → mElL cx (ks.take (i + 1)) l = some (us ++ [u], h ++ [a], l2)
 | [], i, hi, _, _, _, _, _, _, _, _, _ => by simp at hi
 | t :: ts, 0, _, l, l', l2, us, h, u, a, h1, h2 => by
  simp only [List.take_zero, mElL, Option.some.injEq, Prod.mk.injEq] at h1
  obtain ⟨rfl, rfl, rfl⟩ := h1
  simp only [List.getElem_cons_zero] at h2
  simp [mElL, h2]
 | t :: ts, i + 1, hi, l, l', l2, us, h, u, a, h1, h2 => by
  simp only [List.take_succ_cons, mElL] at h1 ⊢
  split at h1
  ·cases h1
  ·rename_i u1 a1 l1 he
   split at h1
   ·cases h1
   ·rename_i us1 h1' l1' hL
    simp only [Option.some.injEq, Prod.mk.injEq] at h1
    obtain ⟨rfl, rfl, rfl⟩ := h1
    simp only [List.getElem_cons_succ] at h2
    have := mElL_succ (ks := ts) (i := i) (by simpa using hi) hL h2
    simp only [this, List.cons_append]
theorem mElL_no {cx : Cx} : ∀ {ks : List Tm} {i : Nat} (hi : i < ks.length) {l l' : Int} {us : List Tm} {h : List Ty}, mElL cx (ks.take i) l = some (us, h, l') → mEl cx ks[i] l' = none → mElL cx ks l = none
 | [], i, hi, _, _, _, _, _, _ => by simp at hi
 | t :: ts, 0, _, l, l', us, h, h1, h2 => by
  simp only [List.take_zero, mElL, Option.some.injEq, Prod.mk.injEq] at h1
  obtain ⟨rfl, rfl, rfl⟩ := h1
  simp only [List.getElem_cons_zero] at h2
  simp [mElL, h2]
 | t :: ts, i + 1, hi, l, l', us, h, h1, h2 => by
  simp only [List.take_succ_cons, mElL] at h1 ⊢
  split at h1
  ·cases h1
  ·rename_i u1 a1 l1 he
   split at h1
   ·cases h1
   ·rename_i us1 h1' l1' hL
    simp only [Option.some.injEq, Prod.mk.injEq] at h1
    obtain ⟨rfl, rfl, rfl⟩ := h1
    simp only [List.getElem_cons_succ] at h2
    have := mElL_no (ks := ts) (i := i) (by simpa using hi) hL h2
    simp only [this]
theorem mCasts_nil (us : List Tm) (h : List Ty) (l : Int) : mCasts us h [] l = (us, l) := by
 cases us with
 | nil => rfl
 | cons u us => cases h <;> rfl
theorem mCasts_succ : ∀ (us : List Tm) (h w : List Ty) (l : Int) (j : Nat) (hj : j < w.length) (hu : w.length ≤ us.length) (hh : w.length ≤ h.length),
  (mCasts us h (w.take j) l).1.length = us.length ∧ (∀ (hq : j < (mCasts us h (w.take j) l).1.length), (mCasts us h (w.take j) l).1[j] = us[j]'(by omega)) ∧
  mCasts us h (w.take (j + 1)) l = if tSame (h[j]'(by omega)) w[j] = true then mCasts us h (w.take j) l else ((mCasts us h (w.take j) l).1.set j (mCst (us[j]'(by omega)) (h[j]'(by omega)) w[j] ((mCasts us h (w.take j) l).2 + 1)), (mCasts us h (w.take j) l).2 + 1)
 | us, h, [], l, j, hj, _, _ => by simp at hj
 | [], h, b :: w, l, j, _, hu, _ => by simp at hu
 | u :: us, [], b :: w, l, j, _, _, hh => by simp at hh
 | u :: us, a :: h, b :: w, l, 0, _, _, _ => by
  refine ⟨by simp [mCasts], by simp [mCasts], ?_⟩
  simp only [List.take_succ_cons, List.take_zero, mCasts, mCasts_nil, List.getElem_cons_zero, List.set_cons_zero]
 | u :: us, a :: h, b :: w, l, j + 1, hj, hu, hh => by
  simp only [List.take_succ_cons, List.getElem_cons_succ]
  by_cases hs : tSame a b = true
  ·have ih := mCasts_succ us h w l j (by simpa using hj) (by simpa using hu) (by simpa using hh)
   simp only [mCasts, if_pos hs]
   obtain ⟨i1, i2, i3⟩ := ih
   refine ⟨by simp [i1], fun hq => by simp [i2], ?_⟩
   rw [i3]
   split <;> simp
  ·have ih := mCasts_succ us h w (l + 1) j (by simpa using hj) (by simpa using hu) (by simpa using hh)
   simp only [mCasts, if_neg hs]
   obtain ⟨i1, i2, i3⟩ := ih
   refine ⟨by simp [i1], fun hq => by simp [i2], ?_⟩
   rw [i3]
   split <;> simp
theorem mCasts_len : ∀ (us : List Tm) (h w : List Ty) (l : Int), (mCasts us h w l).1.length = us.length
 | [], h, w, l => by simp [mCasts]
 | u :: us, [], w, l => by simp [mCasts]
 | u :: us, a :: h, [], l => by simp [mCasts]
 | u :: us, a :: h, b :: w, l => by
  simp only [mCasts]
  split
  ·simp [mCasts_len us h w l]
  ·simp [mCasts_len us h w (l + 1)]
theorem mCasts_next {us : List Tm} {h w : List Ty} {l : Int} {j : Nat} (hj : j < w.length) (hu : w.length ≤ us.length) (hh : w.length ≤ h.length) :
  (mCasts us h (w.take (j + 1)) l).1 = (mCasts us h (w.take j) l).1.set j (if tSame (h[j]'(by omega)) w[j] = true then us[j]'(by omega) else mCst (us[j]'(by omega)) (h[j]'(by omega)) w[j] ((mCasts us h (w.take j) l).2 + 1)) ∧
  (mCasts us h (w.take (j + 1)) l).2 = (if tSame (h[j]'(by omega)) w[j] = true then (mCasts us h (w.take j) l).2 else (mCasts us h (w.take j) l).2 + 1) := by
 obtain ⟨h1, h2, h3⟩ := mCasts_succ us h w l j hj hu hh
 by_cases hs : tSame (h[j]'(by omega)) w[j] = true
 ·rw [h3, if_pos hs, if_pos hs, if_pos hs]
  refine ⟨?_, rfl⟩
  rw [← h2 (by omega), List.set_getElem_self]
 ·rw [h3, if_neg hs, if_neg hs, if_neg hs]
  exact ⟨rfl, rfl⟩
theorem mCasts_lab : ∀ (us : List Tm) (h w : List Ty) (l : Int), l ≤ (mCasts us h w l).2 ∧ (mCasts us h w l).2 ≤ l + us.length
 | [], h, w, l => by simp [mCasts]
 | u :: us, [], w, l => by simp [mCasts]; omega
 | u :: us, a :: h, [], l => by simp [mCasts]; omega
 | u :: us, a :: h, b :: w, l => by
  simp only [mCasts]
  split
  ·have := mCasts_lab us h w l; simp only [List.length_cons]; omega
  ·have := mCasts_lab us h w (l + 1); simp only [List.length_cons]; omega
mutual
theorem tCons_symm : ∀ a b : Ty, tCons a b = true → tCons b a = true
 | .mk k ks, .mk k' ks', h => by
  rw [tCons_mk] at h ⊢
  simp only [Bool.or_eq_true, Bool.and_eq_true, decide_eq_true_eq] at h ⊢
  rcases h with (h | h) | h
  ·exact .inl (.inr h)
  ·exact .inl (.inl h)
  ·exact .inr ⟨h.1.symm, tConsL_symm ks ks' h.2⟩
theorem tConsL_symm : ∀ xs ys : List Ty, tConsL xs ys = true → tConsL ys xs = true
 | [], [], _ => rfl
 | [], b :: ys, h => by simp [tConsL] at h
 | a :: xs, [], h => by simp [tConsL] at h
 | a :: xs, b :: ys, h => by
  simp only [tConsL, Bool.and_eq_true] at h ⊢
  exact ⟨tCons_symm a b h.1, tConsL_symm xs ys h.2⟩
end
mutual
theorem cons_meet : ∀ a b : Ty, tCons a b = true → tCons a (mMeet a b) = true ∧ tCons b (mMeet a b) = true
 | .mk k ks, .mk k' ks', h => by
  rw [mMeet_mk]
  by_cases h1 : k = 1
  ·rw [if_pos h1]
   exact ⟨h, tCons_self _⟩
  ·rw [if_neg h1]
   by_cases h2 : k' = 1
   ·rw [if_pos h2]
    exact ⟨tCons_self _, tCons_symm _ _ h⟩
   ·rw [if_neg h2]
    rw [tCons_mk] at h
    simp only [Bool.or_eq_true, Bool.and_eq_true, decide_eq_true_eq] at h
    have h3 : k = k' ∧ tConsL ks ks' = true := by
     rcases h with (h | h) | h
     ·exact absurd h h1
     ·exact absurd h h2
     ·exact h
    obtain ⟨m1, m2⟩ := cons_meetL ks ks' h3.2
    rw [tCons_mk, tCons_mk, m1, m2]
    simp [h3.1]
theorem cons_meetL : ∀ xs ys : List Ty, tConsL xs ys = true → tConsL xs (mMeetL xs ys) = true ∧ tConsL ys (mMeetL xs ys) = true
 | [], [], _ => ⟨rfl, rfl⟩
 | [], b :: ys, h => by simp [tConsL] at h
 | a :: xs, [], h => by simp [tConsL] at h
 | a :: xs, b :: ys, h => by
  simp only [tConsL, Bool.and_eq_true] at h
  obtain ⟨m1, m2⟩ := cons_meet a b h.1
  obtain ⟨m3, m4⟩ := cons_meetL xs ys h.2
  simp only [mMeetL, tConsL, m1, m2, m3, m4]
  exact ⟨rfl, rfl⟩
end
theorem valid_two {k : Int} {a b : Ty} (hk : k = 4 ∨ k = 5) (h : tValid (.mk k [a, b]) = true) : tValid a = true ∧ tValid b = true := by
 obtain ⟨x, y, he, h1, h2⟩ := two_of hk h
 cases he
 exact ⟨h1, h2⟩
theorem valid_any2 {k : Int} (hk : k = 4 ∨ k = 5) : tValid (.mk k [tyAny, tyAny]) = true := by rcases hk with rfl | rfl <;> decide
/-- The operands of a matched type: the type wanted is valid, and consistent with it. -/
theorem match_ok {k : Int} {t a b : Ty} (hk : k = 4 ∨ k = 5) (ht : tValid t = true) (h : mMatch k t = some (a, b)) : tValid (.mk k [a, b]) = true ∧ tCons t (.mk k [a, b]) = true := by
 obtain ⟨tk, ks⟩ := t
 rw [mMatch_mk] at h
 by_cases he : tk = k
 ·subst he
  rw [if_pos rfl] at h
  obtain ⟨x, y, rfl, _, _⟩ := two_of hk ht
  cases h
  exact ⟨ht, tCons_self _⟩
 ·rw [if_neg he] at h
  by_cases h1 : tk = 1
  ·rw [if_pos h1] at h
   cases h
   refine ⟨valid_any2 hk, ?_⟩
   rw [tCons_mk, h1]; rfl
  ·rw [if_neg h1] at h; cases h
/-- What is wanted of the operands. -/
structure Wt (cx : Cx) (k : Int) (nm : ByteArray) (ty : Ty) (h w : List Ty) (t : Ty) : Prop where
 len : w = [] ∨ w.length = h.length
 ok : ∀ i, (hi : i < w.length) → (hh : i < h.length) → tCons h[i] w[i] = true ∧ tValid w[i] = true
 again : k ≠ 13 → mWanted cx k nm ty (if w = [] then h else w) = some (w, t)
 asT : k = 13 → w = [t]
theorem wanted_wt {cx : Cx} {k : Int} {nm : ByteArray} {ty : Ty} {h w : List Ty} {t : Ty} (hh : ∀ a ∈ h, tValid a = true) (hty : k = 13 → tValid ty = true) (hn : tmOps k = (h.length : Int)) (h14 : k ≠ 14) (hw : mWanted cx k nm ty h = some (w, t)) : Wt cx k nm ty h w t := by
 have hkr := tmOps_rng (by rw [hn]; omega : 0 ≤ tmOps k)
 have hkk : k = 1 ∨ k = 2 ∨ (k = 3 ∨ k = 4) ∨ k = 5 ∨ k = 6 ∨ (k = 7 ∨ k = 8) ∨ k = 9 ∨ k = 10 ∨ (k = 11 ∨ k = 12) ∨ k = 13 := by omega
 have nil : w = [] → k ≠ 13 → Wt cx k nm ty h w t := by
  rintro rfl h13
  exact ⟨.inl rfl, fun i hi => by simp at hi, fun _ => by rw [if_pos rfl]; exact hw, fun h => absurd h h13⟩
 rcases hkk with rfl | rfl | hk | rfl | rfl | hk | rfl | rfl | hk | rfl
 ·refine nil ?_ (by decide)
  rw [mW1] at hw; split at hw <;> cases hw; rfl
 ·refine nil ?_ (by decide)
  rw [mW2] at hw; cases hw; rfl
 ·refine nil ?_ (by omega)
  rw [mW34 hk] at hw; cases hw; rfl
 ·refine nil ?_ (by decide)
  rw [mW5] at hw; cases hw; rfl
 ·match h, (show h.length = 2 by have : tmOps 6 = 2 := rfl; omega) with
  | [x, y], _ =>
  rw [mW6] at hw
  simp only [List.getD_cons_zero, List.getD_cons_succ] at hw
  split at hw
  ·rename_i a b hm
   split at hw
   ·rename_i hc
    cases hw
    obtain ⟨v1, v2⟩ := match_ok (.inl rfl) (hh x (by simp)) hm
    obtain ⟨v3, v4⟩ := valid_two (.inl rfl) v1
    refine ⟨.inr rfl, fun i hi hi2 => ?_, fun _ => ?_, fun h => absurd h (by decide)⟩
    ·match i, hi with
     | 0, _ => exact ⟨v2, v1⟩
     | 1, _ => exact ⟨hc, v3⟩
    ·rw [if_neg (by simp), mW6]
     simp only [List.getD_cons_zero, List.getD_cons_succ, mMatch_mk, if_true, tCons_self]
   ·cases hw
  ·cases hw
 ·match h, (show h.length = 2 by rcases hk with rfl | rfl <;> (first | (have : tmOps 7 = 2 := rfl; omega) | (have : tmOps 8 = 2 := rfl; omega))) with
  | [x, y], _ =>
  rw [mW78 hk] at hw
  simp only [List.getD_cons_zero, List.getD_cons_succ] at hw
  split at hw
  ·rename_i hc
   cases hw
   refine ⟨.inr rfl, fun i hi hi2 => ?_, fun _ => ?_, fun h => by omega⟩
   ·match i, hi with
    | 0, _ => exact ⟨hc.1, (show tValid tyInt = true by decide)⟩
    | 1, _ => exact ⟨hc.2, (show tValid tyInt = true by decide)⟩
   ·rw [if_neg (by simp), mW78 hk]
    simp only [List.getD_cons_zero, List.getD_cons_succ, tCons_self, and_self, if_true]
  ·cases hw
 ·match h, (show h.length = 3 by have : tmOps 9 = 3 := rfl; omega) with
  | [x, y, z], _ =>
  rw [mW9] at hw
  simp only [List.getD_cons_zero, List.getD_cons_succ] at hw
  split at hw
  ·rename_i hc
   cases hw
   obtain ⟨c1, c2⟩ := cons_meet y z hc.2
   have vm := meet_scan y z 1 hc.2 (hh y (by simp)) (hh z (by simp))
   refine ⟨.inr rfl, fun i hi hi2 => ?_, fun _ => ?_, fun h => absurd h (by decide)⟩
   ·match i, hi with
    | 0, _ => exact ⟨hc.1, (show tValid tyBool = true by decide)⟩
    | 1, _ => exact ⟨c1, vm⟩
    | 2, _ => exact ⟨c2, vm⟩
   ·rw [if_neg (by simp), mW9]
    simp only [List.getD_cons_zero, List.getD_cons_succ, tCons_self, and_self, if_true, mMeet_self]
  ·cases hw
 ·refine nil ?_ (by decide)
  rw [mW10] at hw; cases hw; rfl
 ·match h, (show h.length = 1 by rcases hk with rfl | rfl <;> (first | (have : tmOps 11 = 1 := rfl; omega) | (have : tmOps 12 = 1 := rfl; omega))) with
  | [x], _ =>
  rw [mW11 hk] at hw
  simp only [List.getD_cons_zero] at hw
  split at hw
  ·rename_i a b hm
   cases hw
   obtain ⟨v1, v2⟩ := match_ok (.inr rfl) (hh x (by simp)) hm
   refine ⟨.inr rfl, fun i hi hi2 => ?_, fun _ => ?_, fun h => by omega⟩
   ·match i, hi with
    | 0, _ => exact ⟨v2, v1⟩
   ·rw [if_neg (by simp), mW11 hk]
    simp only [List.getD_cons_zero, List.getD_cons_succ, mMatch_mk, if_true]
  ·cases hw
 ·match h, (show h.length = 1 by have : tmOps 13 = 1 := rfl; omega) with
  | [x], _ =>
  rw [mW13] at hw
  simp only [List.getD_cons_zero] at hw
  split at hw
  ·rename_i hc
   cases hw
   refine ⟨.inr rfl, fun i hi hi2 => ?_, fun h => absurd rfl h, fun _ => rfl⟩
   match i, hi with
   | 0, _ => exact ⟨hc, hty rfl⟩
  ·cases hw
theorem labelOk_of {l : Int} (h1 : 1 ≤ l) (h2 : l ≤ 99) : labelOk l = true := by
 unfold labelOk
 rw [withinB_iff.2 ⟨h1, h2⟩]; rfl
/-- A cast that is put in is valid. -/
theorem cst_shape {u : Tm} {a b : Ty} {l D : Int} (hu : sShape 40 13 u (D + 1) = true) (hc : tCons a b = true) (ha : tValid a = true) (hb : tValid b = true) (h1 : 1 ≤ l) (h2 : l ≤ 99) (hD : D ≤ 40) : sShape 40 13 (mCst u a b l) D = true := by
 unfold mCst
 rw [sShape_go hD (by decide) (tmNode_iff.2 ⟨rfl, by simp, fun _ => rfl, by simp, fun _ => rfl, fun _ => hb, by simp, fun _ => ⟨by simp [tConsistent, ha, hb, hc], labelOk_of h1 h2⟩, by simp⟩)]
 simp [sShapeL, hu]
theorem casts_ok {cx : Cx} : ∀ (us : List Tm) (h w : List Ty) (l D : Int), us.length = h.length → w.length = h.length → (∀ i, (hi : i < w.length) → (hh : i < h.length) → tCons h[i] w[i] = true ∧ tValid w[i] = true) → (∀ a ∈ h, tValid a = true) → castTyL cx us = some h → sShapeL 40 13 us (D + 1) = true → 0 ≤ l → (mCasts us h w l).2 ≤ 99 → D ≤ 40 →
  castTyL cx (mCasts us h w l).1 = some w ∧ sShapeL 40 13 (mCasts us h w l).1 D = true ∧ (tmCountL (mCasts us h w l).1 : Int) = tmCountL us + ((mCasts us h w l).2 - l)
 | [], [], [], l, D, _, _, _, _, ht, _, _, _, _ => by simp [mCasts, castTyL, sShapeL, tmCountL]
 | [], a :: h, w, l, D, hl, _, _, _, _, _, _, _, _ => by simp at hl
 | u :: us, [], w, l, D, hl, _, _, _, _, _, _, _, _ => by simp at hl
 | [], [], b :: w, l, D, _, hl, _, _, _, _, _, _, _ => by simp at hl
 | u :: us, a :: h, [], l, D, _, hl, _, _, _, _, _, _, _ => by simp at hl
 | u :: us, a :: h, b :: w, l, D, h1, h2, hw, hv, ht, hs, hl, h99, hD => by
  rw [castTyL] at ht
  split at ht
  ·cases ht
  ·rename_i a' ha
   split at ht
   ·cases ht
   ·rename_i h' hh'
    simp only [Option.some.injEq, List.cons.injEq] at ht
    obtain ⟨rfl, rfl⟩ := ht
    rw [sShapeL, Bool.and_eq_true] at hs
    obtain ⟨c1, c2⟩ := hw 0 (by simp) (by simp)
    have hw' : ∀ i, (hi : i < w.length) → (hh : i < h'.length) → tCons h'[i] w[i] = true ∧ tValid w[i] = true := fun i hi hh => hw (i + 1) (by simpa using hi) (by simpa using hh)
    have hv' : ∀ x ∈ h', tValid x = true := fun x hx => hv x (List.mem_cons_of_mem _ hx)
    simp only [mCasts] at h99 ⊢
    by_cases he : tSame a' b = true
    ·simp only [if_pos he] at h99 ⊢
     obtain ⟨i1, i2, i3⟩ := casts_ok us h' w l D (by simpa using h1) (by simpa using h2) hw' hv' hh' hs.2 hl h99 hD
     have hab := (tSame_iff _ _).1 he
     subst hab
     refine ⟨by rw [castTyL, ha, i1], ?_, ?_⟩
     ·rw [sShapeL, Bool.and_eq_true]; exact ⟨sShape_down 40 13 u (D + 1) D (by omega) hs.1, i2⟩
     ·simp only [tmCountL]; omega
    ·simp only [if_neg he] at h99 ⊢
     obtain ⟨i1, i2, i3⟩ := casts_ok us h' w (l + 1) D (by simpa using h1) (by simpa using h2) hw' hv' hh' hs.2 (by omega) h99 hD
     have hlab := mCasts_lab us h' w (l + 1)
     refine ⟨by rw [castTyL, mCst, ty_cast_mk ha, i1], ?_, ?_⟩
     ·rw [sShapeL, Bool.and_eq_true]
      exact ⟨cst_shape hs.1 c1 (hv a' List.mem_cons_self) c2 (by omega) (by omega) hD, i2⟩
     ·simp only [tmCountL, cst_count]; omega
def ElGood (cx : Cx) (t : Tm) (D l : Int) (u : Tm) (a : Ty) (l' : Int) : Prop := sShape 40 13 u D = true ∧ castTy cx u = some a ∧ tValid a = true ∧ l ≤ l' ∧ l' + 1 ≤ l + (tmCount t : Int) ∧ (tmCount u : Int) ≤ tmCount t + (l' - l)
theorem el_goodL (ks : List Tm) (ih : ∀ t ∈ ks, ∀ (d D : Int) (cx : Cx) (l : Int) (u : Tm) (a : Ty) (l' : Int), sShape 12 14 t d = true → cxV cx → 0 ≤ l → mEl cx t l = some (u, a, l') → l' ≤ 99 → D + 2 * (13 - d) ≤ 41 → ElGood cx t D l u a l') :
  ∀ (d D : Int) (cx : Cx) (l : Int) (us : List Tm) (h : List Ty) (l' : Int), sShapeL 12 14 ks d = true → cxV cx → 0 ≤ l → mElL cx ks l = some (us, h, l') → l' ≤ 99 → D + 2 * (13 - d) ≤ 41 →
   sShapeL 40 13 us D = true ∧ castTyL cx us = some h ∧ (∀ a ∈ h, tValid a = true) ∧ l ≤ l' ∧ l' + ks.length ≤ l + (tmCountL ks : Int) ∧ (tmCountL us : Int) ≤ tmCountL ks + (l' - l) ∧ h.length = ks.length ∧ us.length = ks.length := by
 induction ks with
 | nil =>
  intro d D cx l us h l' _ _ _ he _ _
  simp only [mElL, Option.some.injEq, Prod.mk.injEq] at he
  obtain ⟨rfl, rfl, rfl⟩ := he
  simp [sShapeL, castTyL, tmCountL]
 | cons t ts ihl =>
  intro d D cx l us h l' hs hcx hl he h99 hD
  rw [sShapeL, Bool.and_eq_true] at hs
  rw [mElL] at he
  split at he
  ·cases he
  ·rename_i u a l1 h1
   split at he
   ·cases he
   ·rename_i us' h' l2 h2
    simp only [Option.some.injEq, Prod.mk.injEq] at he
    obtain ⟨rfl, rfl, rfl⟩ := he
    have hp := tmCount_pos t
    -- the labels of the later operands go on from here
    have hmono : l1 ≤ l2 := by
     have : ∀ (zs : List Tm) (l : Int) us h l', mElL cx zs l = some (us, h, l') → l ≤ l' := by
      intro zs
      induction zs with
      | nil => intro l us h l' he; simp only [mElL, Option.some.injEq, Prod.mk.injEq] at he; omega
      | cons z zs ihz =>
       intro l us h l' he
       rw [mElL] at he
       split at he
       ·cases he
       ·rename_i u a l1 hz
        split at he
        ·cases he
        ·rename_i us' h' l2 hzs
         simp only [Option.some.injEq, Prod.mk.injEq] at he
         have := ihz _ _ _ _ hzs
         have := el_mono cx z l _ _ _ hz
         omega
     exact this ts l1 us' h' l2 h2
    obtain ⟨a1, a2, a3, a4, a5, a6⟩ := ih t List.mem_cons_self d D cx l u a l1 hs.1 hcx hl h1 (by omega) hD
    obtain ⟨b1, b2, b3, b4, b5, b6, b7, b8⟩ := ihl (fun x hx => ih x (List.mem_cons_of_mem _ hx)) d D cx l1 us' h' l2 hs.2 hcx (by omega) h2 h99 hD
    refine ⟨by rw [sShapeL, a1, b1]; rfl, by rw [castTyL, a2, b2], ?_, by omega, ?_, ?_, by simp [b7], by simp [b8]⟩
    ·intro x hx
     rcases List.mem_cons.1 hx with h | h
     ·rw [h]; exact a3
     ·exact b3 x h
    ·simp only [tmCountL, List.length_cons]; omega
    ·simp only [tmCountL]; omega
where
 el_mono (cx : Cx) : ∀ (z : Tm) (l : Int) (u : Tm) (a : Ty) (l' : Int), mEl cx z l = some (u, a, l') → l ≤ l' := by
  intro z
  revert cx
  refine Tm.ind (C := fun z => ∀ (cx : Cx) (l : Int) (u : Tm) (a : Ty) (l' : Int), mEl cx z l = some (u, a, l') → l ≤ l') ?_ z
  intro k nm num ty fr lb ks ih cx l u a l' he
  rw [mEl] at he
  have hL : ∀ (zs : List Tm), (∀ t ∈ zs, t ∈ ks) → ∀ (cx : Cx) (l : Int) us h l', mElL cx zs l = some (us, h, l') → l ≤ l' := by
   intro zs
   induction zs with
   | nil => intro _ cx l us h l' he; simp only [mElL, Option.some.injEq, Prod.mk.injEq] at he; omega
   | cons z zs ihz =>
    intro hin cx l us h l' he
    rw [mElL] at he
    split at he
    ·cases he
    ·rename_i u a l1 hz
     split at he
     ·cases he
     ·rename_i us' h' l2 hzs
      simp only [Option.some.injEq, Prod.mk.injEq] at he
      have := ihz (fun t ht => hin t (List.mem_cons_of_mem _ ht)) _ _ _ _ _ hzs
      have := ih z (hin z List.mem_cons_self) _ l _ _ _ hz
      omega
  split at he
  ·cases he
  ·rename_i us h l1 hk
   have h1 := hL ks (fun _ h => h) _ _ _ _ _ hk
   unfold mElN at he
   split at he
   ·cases he
   ·rename_i w t hn
    simp only [Option.some.injEq, Prod.mk.injEq] at he
    have := mCasts_lab us h w l1
    omega
theorem el_good : ∀ (t : Tm) (d D : Int) (cx : Cx) (l : Int) (u : Tm) (a : Ty) (l' : Int), sShape 12 14 t d = true → cxV cx → 0 ≤ l → mEl cx t l = some (u, a, l') → l' ≤ 99 → D + 2 * (13 - d) ≤ 41 → ElGood cx t D l u a l' := by
 refine Tm.ind fun k nm num ty fr lb ks ih d D cx l u a l' hs hcx hl he h99 hD => ?_
 obtain ⟨hd, h14, h3, h4⟩ := sShape_go2 hs
 obtain ⟨n1, n2, n3, n4, n5, n6, n7, n8, n9⟩ := tmNode_iff.1 h3
 rw [mEl] at he
 split at he
 ·cases he
 ·rename_i us h l1 hL
  unfold mElN at he
  split at he
  ·cases he
  ·rename_i w t hN
   simp only [Option.some.injEq, Prod.mk.injEq] at he
   obtain ⟨hu, rfl, rfl⟩ := he
   have hlab := mCasts_lab us h w l1
   obtain ⟨b1, b2, b3, b4, b5, b6, b7, b8⟩ := el_goodL ks ih (d + 1) (D + 2) (inCx cx k nm ty) l us h l1 h4 (cxV_in hcx fun hk => n6 (.inl hk)) hl hL (by omega) (by omega)
   obtain ⟨hv, hw⟩ := mNodeT_valid hN
   have hwt := wanted_wt b3 (fun hk => n6 (.inr (.inl hk))) (by rw [b7]; exact n1) h14 hw
   -- the operands behind their casts
   obtain ⟨c1, c2, c3⟩ : castTyL (inCx cx k nm ty) (mCasts us h w l1).1 = some (if w = [] then h else w) ∧ sShapeL 40 13 (mCasts us h w l1).1 (D + 1) = true ∧ (tmCountL (mCasts us h w l1).1 : Int) = tmCountL us + ((mCasts us h w l1).2 - l1) := by
    rcases hwt.len with hn | hn
    ·subst hn
     rw [mCasts_nil, if_pos rfl]
     refine ⟨b2, ?_, by simp⟩
     exact sShapeL_down 40 13 us (D + 2) (D + 1) (by omega) b1
    ·by_cases hn0 : w = []
     ·subst hn0
      rw [mCasts_nil, if_pos rfl]
      refine ⟨b2, ?_, by simp⟩
      exact sShapeL_down 40 13 us (D + 2) (D + 1) (by omega) b1
     ·rw [if_neg hn0]
      exact casts_ok us h w l1 (D + 1) (by omega) hn hwt.ok b3 b2 (by rw [show D + 1 + 1 = D + 2 by omega]; exact b1) (by omega) h99 (by omega)
   have hlm := mCasts_len us h w l1
   have hck : tmCount (.mk k nm num ty fr lb ks) = tmCountL ks + 1 := tmCount_mk ..
   refine ⟨?_, ?_, hv, by omega, by rw [hck]; omega, ?_⟩
   ·rw [← hu]
    split
    ·rename_i hk
     have hl1 : ks.length = 1 := by rw [hk] at n1; have : tmOps 13 = 1 := rfl; omega
     have h0 : 0 < (mCasts us h w l1).1.length := by omega
     rw [getD0' h0]
     have := (sShapeL_iff 40 13 _ _).1 c2 0 h0
     exact sShape_down 40 13 _ (D + 1) D (by omega) this
    ·rename_i hk
     rw [sShape_go (by omega) hk (by rw [hlm, b8]; exact h3)]
     exact c2
   ·rw [← hu]
    split
    ·rename_i hk
     have hl1 : ks.length = 1 := by rw [hk] at n1; have : tmOps 13 = 1 := rfl; omega
     have h0 : 0 < (mCasts us h w l1).1.length := by omega
     rw [getD0' h0]
     rw [hwt.asT hk, if_neg (by simp)] at c1
     rw [inCx, if_neg (by omega)] at c1
     rw [← hwt.asT hk] at c1
     obtain ⟨x, hx⟩ : ∃ x, (mCasts us h w l1).1 = [x] := by
      match hm : (mCasts us h w l1).1, (show (mCasts us h w l1).1.length = 1 by omega) with
      | [x], _ => exact ⟨x, rfl⟩
     simp only [hx, List.getElem_cons_zero] at c1 ⊢
     obtain ⟨y, hy, he⟩ := castTyL_1 c1
     rw [hwt.asT hk] at he
     cases he; exact hy
    ·rename_i hk
     refine castTy_go' c1 h14 hv (hwt.again hk) ?_
     by_cases hn0 : w = []
     ·rw [hn0]; rfl
     ·rw [if_neg hn0]; exact sameTo_self w
   ·rw [← hu, hck]
    split
    ·rename_i hk
     have hl1 : ks.length = 1 := by rw [hk] at n1; have : tmOps 13 = 1 := rfl; omega
     have h0 : 0 < (mCasts us h w l1).1.length := by omega
     rw [getD0' h0]
     have := tmCount_mem (List.getElem_mem h0)
     omega
    ·rw [tmCount_mk]; omega
where
 getD0' {us : List Tm} (h : 0 < us.length) : us.getD 0 tm0 = us[0] := by rw [List.getD_eq_getElem?_getD, List.getElem?_eq_getElem h, Option.getD_some]
theorem el_labK : ∀ (t : Tm) (d : Int) (cx : Cx) (l : Int) (u : Tm) (a : Ty) (l' : Int), sShape 12 14 t d = true → mEl cx t l = some (u, a, l') → l' + 1 ≤ l + (tmCount t : Int) := by
 refine Tm.ind fun k nm num ty fr lb ks ih d cx l u a l' hs he => ?_
 obtain ⟨hd, h14, h3, h4⟩ := sShape_go2 hs
 obtain ⟨n1, _⟩ := tmNode_iff.1 h3
 have hL : ∀ (zs : List Tm), (∀ t ∈ zs, t ∈ ks) → sShapeL 12 14 zs (d + 1) = true → ∀ (cx : Cx) (l : Int) us h l', mElL cx zs l = some (us, h, l') → l' + zs.length ≤ l + (tmCountL zs : Int) ∧ us.length = zs.length := by
  intro zs
  induction zs with
  | nil => intro _ _ cx l us h l' he; simp only [mElL, Option.some.injEq, Prod.mk.injEq] at he; obtain ⟨rfl, _, rfl⟩ := he; simp [tmCountL]
  | cons z zs ihz =>
   intro hin hsz cx l us h l' he
   rw [sShapeL, Bool.and_eq_true] at hsz
   rw [mElL] at he
   split at he
   ·cases he
   ·rename_i u a l1 hz
    split at he
    ·cases he
    ·rename_i us' h' l2 hzs
     simp only [Option.some.injEq, Prod.mk.injEq] at he
     obtain ⟨rfl, rfl, rfl⟩ := he
     have h5 := ihz (fun t ht => hin t (List.mem_cons_of_mem _ ht)) hsz.2 _ _ _ _ _ hzs
     have h6 := ih z (hin z List.mem_cons_self) (d + 1) _ l _ _ _ hsz.1 hz
     simp only [tmCountL, List.length_cons]
     exact ⟨by omega, by omega⟩
 rw [mEl] at he
 split at he
 ·cases he
 ·rename_i us h l1 hk
  obtain ⟨g1, g2⟩ := hL ks (fun _ h => h) h4 _ _ _ _ _ hk
  unfold mElN at he
  split at he
  ·cases he
  ·rename_i w t hn
   simp only [Option.some.injEq, Prod.mk.injEq] at he
   have := mCasts_lab us h w l1
   have hck : tmCount (.mk k nm num ty fr lb ks) = tmCountL ks + 1 := tmCount_mk ..
   rw [hck]; omega
/-- What comes of putting in casts is a valid term with casts, of the type. -/
theorem insert_good {e u : Tm} {t : Ty} (h : mInsert e = some (u, t)) : castValid u = true ∧ castTy [] u = some t ∧ tValid t = true := by
 unfold mInsert at h
 split at h
 ·rename_i hv
  obtain ⟨h1, h2⟩ := (termValid_iff e).1 hv
  split at h
  ·rename_i u' t' l' he
   cases h
   have hl : l' ≤ 99 := by
    have := el_goodL.el_mono [] e 0 _ _ _ he
    have h3 : ∀ (t : Tm) (cx : Cx) (l : Int) (u : Tm) (a : Ty) (l' : Int), mEl cx t l = some (u, a, l') → l' ≤ l + 4 * (tmCount t : Int) → True := fun _ _ _ _ _ _ _ _ => trivial
    exact el_lab e 1 h1 (by omega) he
   obtain ⟨g1, g2, g3, g4, g5, g6⟩ := el_good e 1 1 [] 0 u t l' h1 cxV_nil (by omega) he hl (by omega)
   exact ⟨(castValid_iff u).2 ⟨g1, by omega⟩, g2, g3⟩
  ·cases h
 ·cases h
where
 el_lab (e : Tm) (d : Int) (h1 : sShape 12 14 e d = true) (h2 : tmCount e ≤ 30) {u : Tm} {t : Ty} {l' : Int} (he : mEl [] e 0 = some (u, t, l')) : l' ≤ 99 := by
  have := el_labK e d [] 0 u t l' h1 he
  omega
/-- A type, where there is one. -/
def TyO (o : Option Ty) (G : IM) : IM → Value → List Ent → Prop := Imm fun G' v => ∃ t cells, v = .tuple ⟨[.agg ⟨cells⟩, .bool o.isSome]⟩ ∧ RTy G' t cells ∧ tAr t ∧ ∀ u, o = some u → u = t
theorem TyO.yes {G G' : IM} {o : Option Ty} {t : Ty} {cells : List Value} (h : o = some t) (hr : RTy G' t cells) (ha : tAr t) : TyO o G G' (.tuple ⟨[.agg ⟨cells⟩, .bool true]⟩) [] := by
 subst h; exact ⟨rfl, t, cells, rfl, hr, ha, fun u h => (by cases h; rfl)⟩
theorem TyO.no {G G' : IM} {o : Option Ty} {t : Ty} {cells : List Value} (h : o = none) (hr : RTy G' t cells) (ha : tAr t) : TyO o G G' (.tuple ⟨[.agg ⟨cells⟩, .bool false]⟩) [] := by
 subst h; exact ⟨rfl, t, cells, rfl, hr, ha, fun u h => (by cases h)⟩
theorem TyO.mk {G G' : IM} {o : Option Ty} {b : Bool} {t : Ty} {cells : List Value} (h : o = if b = true then some t else none) (hr : RTy G' t cells) (ha : tAr t) : TyO o G G' (.tuple ⟨[.agg ⟨cells⟩, .bool b]⟩) [] := by
 cases b
 ·exact TyO.no h hr ha
 ·exact TyO.yes h hr ha
theorem tValid_ar {t : Ty} (h : tValid t = true) : tAr t := (tValid_ann h).1
theorem l3TwoX_fn (k : Int) (a b : Ty) (G : IM) (ca cb : List Value) (hk : k = 4 ∨ k = 5) (ha : tAr a) (hb : tAr b) (hra : RTy G a ca) (hrb : RTy G b cb) :
  Fn Tryz.prog 101 [.int .i64 k, .agg ⟨ca⟩, .agg ⟨cb⟩] [] G (Imm fun G' v => ∃ cells, v = .tuple ⟨[.agg ⟨cells⟩, .bool (tValid (.mk k [a, b]))]⟩ ∧ RTy G' (.mk k [a, b]) cells) := by
 obtain ⟨ak, aks⟩ := a
 obtain ⟨bk, bks⟩ := b
 obtain ⟨pa, cca, ea, rfl, _⟩ := hra.open
 obtain ⟨pb, ccb, eb, rfl, _⟩ := hrb.open
 have hki : I64 k := ⟨by omega, by omega⟩
 refine fn_enter Tryz.func101 rfl Tryz.ntmps101 Tryz.results101 rfl ?_
 intro w0
 refine tS (tR ?_)
 refine sE (step_box_a rfl rfl) rfl (fun b3 => ?_)
 refine sE (step_box_a rfl rfl) rfl (fun b4 => ?_)
 refine sE (step_alloc rfl) rfl (fun b5 => ?_)
 refine sQ (pA rfl) rfl (sD (nS (tS (tri_draw mixed rfl ?_))))
 refine any_pure (i := 0) (l' := [tt,ff,ff,ff,ff,ff,ff,ff,ff]) rfl npI (pM rfl) rfl (by kernel_rfl) rfl rfl ?_
 refine aL 1 rfl (lBa rfl rfl) rfl ?_
 refine aL 3 rfl (lBa rfl rfl) rfl ?_
 refine any_two (j := 2) (j' := 7) (by kernel_rfl) ?_ ?_
 (refine one_imm rfl rfl (l1Copy_fn _ G _ ha.small hra) rfl rfl rfl (fun v G1 hle1 hh => ?_); obtain ⟨cs1, F1, rfl, hs1, hn1⟩ := hh; obtain ⟨p1, c1, rfl, _⟩ := hs1.open; have hC2 := l1Copy_fn _ G1 _ hb.small (hrb.mono hle1))
 refine any_two (j := 4) (j' := 7) (by kernel_rfl) ?_ ?_
 (refine one_imm rfl rfl hC2 rfl rfl rfl (fun v G2 hle2 hh => ?_); obtain ⟨cs2, F2, rfl, hs2, hn2⟩ := hh; obtain ⟨p2, c2, rfl, _⟩ := hs2.open; have hr1 := hs1.R.mono ((Dif.le G1 G).trans hle2); have hr2 := hs2.R.mono (Dif.le G2 G1))
 refine any_two (j := 5) (j' := 7) (by kernel_rfl) ?_ ?_
 (refine one_step0 rfl (step_buildSlice rfl rfl rfl (by omega) (by unfold maxLen; omega) rfl) rfl rfl ?_; rintro _ ⟨b19, rfl⟩)
 refine aP 6 rfl (pBd rfl rfl) rfl ?_
 refine aO' 7 ?_
 (refine one_step0 rfl (step_alloc rfl) rfl rfl ?_; rintro _ ⟨b22, rfl⟩)
 refine aO' 8 ?_
 refine oT' rfl ?_
 refine aD' ?_
 refine nS (tS ?_)
 (have hr1' := hr1; refine tri_freeze (by repeat (first | exact Pk.here | apply Pk.there)) (fun G5 hle5 hsl5 hno5 => ?_); have hRT : RTy G5 (.mk k [.mk ak aks, .mk bk bks]) _ := RTyL.ty (ts := [.mk ak aks, .mk bk bks]) (es := [[.int .i64 ak, .slice p1 aks.length c1], [.int .i64 bk, .slice p2 bks.length c2]]) ⟨_, _, rfl, hr1.mono hle5, _, _, rfl, hr2.mono hle5, rfl⟩ rfl hsl5 hki; have hV := sTypeValid_fn _ G5 _ hRT; refine tri_draw mixed rfl ?_)
 refine any_load (i := 0) (l' := [tt,ff,ff,ff,ff]) rfl npI (lBa rfl rfl) rfl (by kernel_rfl) rfl rfl ?_
 refine aL 1 rfl (lBa rfl rfl) rfl ?_
 refine aO' 2 ?_
 refine one_val rfl rfl (hV) rfl rfl rfl ?_
 refine aO' 3 ?_
 refine oT' rfl ?_
 refine aP 4 rfl (pA rfl) rfl ?_
 refine aD' ?_
 refine nS (tT (rF2 (rC rfl (lBa rfl rfl)) (rT rfl) ?_))
 (exact ⟨rfl, _, rfl, hRT⟩)
 (refine one_step0 rfl (step_alloc rfl) rfl rfl ?_; rintro _ ⟨b41, rfl⟩)
 refine aO' 5 ?_
 (refine one_step0 rfl (step_buildSlice rfl rfl rfl (by omega) (by unfold maxLen; omega) rfl) rfl rfl ?_; rintro _ ⟨b43, rfl⟩)
 refine aP 6 rfl (pBd rfl rfl) rfl ?_
 refine aO' 8 ?_
 refine oT' rfl ?_
 refine aD' ?_
 refine nS (tS ?_)
 (have hr1' := hr1; refine tri_freeze (by repeat (first | exact Pk.here | apply Pk.there)) (fun G5 hle5 hsl5 hno5 => ?_); have hRT : RTy G5 (.mk k [.mk ak aks, .mk bk bks]) _ := RTyL.ty (ts := [.mk ak aks, .mk bk bks]) (es := [[.int .i64 ak, .slice p1 aks.length c1], [.int .i64 bk, .slice p2 bks.length c2]]) ⟨_, _, rfl, hr1.mono hle5, _, _, rfl, hr2.mono hle5, rfl⟩ rfl hsl5 hki; have hV := sTypeValid_fn _ G5 _ hRT; refine tri_draw mixed rfl ?_)
 refine any_load (i := 0) (l' := [tt,ff,ff,ff,ff]) rfl npI (lBa rfl rfl) rfl (by kernel_rfl) rfl rfl ?_
 refine aL 1 rfl (lBa rfl rfl) rfl ?_
 refine aO' 2 ?_
 refine one_val rfl rfl (hV) rfl rfl rfl ?_
 refine aO' 3 ?_
 refine oT' rfl ?_
 refine aP 4 rfl (pA rfl) rfl ?_
 refine aD' ?_
 refine nS (tT (rF2 (rC rfl (lBa rfl rfl)) (rT rfl) ?_))
 (exact ⟨rfl, _, rfl, hRT⟩)
 (refine one_step0 rfl (step_alloc rfl) rfl rfl ?_; rintro _ ⟨b63, rfl⟩)
 refine aO' 4 ?_
 (refine one_imm rfl rfl hC2 rfl rfl rfl (fun v G2 hle2 hh => ?_); obtain ⟨cs2, F2, rfl, hs2, hn2⟩ := hh; obtain ⟨p2, c2, rfl, _⟩ := hs2.open; have hr1 := hs1.R.mono ((Dif.le G1 G).trans hle2); have hr2 := hs2.R.mono (Dif.le G2 G1))
 refine aO' 5 ?_
 (refine one_step0 rfl (step_buildSlice rfl rfl rfl (by omega) (by unfold maxLen; omega) rfl) rfl rfl ?_; rintro _ ⟨b67, rfl⟩)
 refine aP 6 rfl (pBd rfl rfl) rfl ?_
 refine aO' 8 ?_
 refine oT' rfl ?_
 refine aD' ?_
 refine nS (tS ?_)
 (have hr1' := hr1; refine tri_freeze (by repeat (first | exact Pk.here | apply Pk.there)) (fun G5 hle5 hsl5 hno5 => ?_); have hRT : RTy G5 (.mk k [.mk ak aks, .mk bk bks]) _ := RTyL.ty (ts := [.mk ak aks, .mk bk bks]) (es := [[.int .i64 ak, .slice p1 aks.length c1], [.int .i64 bk, .slice p2 bks.length c2]]) ⟨_, _, rfl, hr1.mono hle5, _, _, rfl, hr2.mono hle5, rfl⟩ rfl hsl5 hki; have hV := sTypeValid_fn _ G5 _ hRT; refine tri_draw mixed rfl ?_)
 refine any_load (i := 0) (l' := [tt,ff,ff,ff,ff]) rfl npI (lBa rfl rfl) rfl (by kernel_rfl) rfl rfl ?_
 refine aL 1 rfl (lBa rfl rfl) rfl ?_
 refine aO' 2 ?_
 refine one_val rfl rfl (hV) rfl rfl rfl ?_
 refine aO' 3 ?_
 refine oT' rfl ?_
 refine aP 4 rfl (pA rfl) rfl ?_
 refine aD' ?_
 refine nS (tT (rF2 (rC rfl (lBa rfl rfl)) (rT rfl) ?_))
 (exact ⟨rfl, _, rfl, hRT⟩)
 (refine one_step0 rfl (step_alloc rfl) rfl rfl ?_; rintro _ ⟨b87, rfl⟩)
 refine aO' 2 ?_
 (refine one_imm rfl rfl (l1Copy_fn _ G _ ha.small hra) rfl rfl rfl (fun v G1 hle1 hh => ?_); obtain ⟨cs1, F1, rfl, hs1, hn1⟩ := hh; obtain ⟨p1, c1, rfl, _⟩ := hs1.open; have hC2 := l1Copy_fn _ G1 _ hb.small (hrb.mono hle1))
 refine aO' 4 ?_
 (refine one_imm rfl rfl hC2 rfl rfl rfl (fun v G2 hle2 hh => ?_); obtain ⟨cs2, F2, rfl, hs2, hn2⟩ := hh; obtain ⟨p2, c2, rfl, _⟩ := hs2.open; have hr1 := hs1.R.mono ((Dif.le G1 G).trans hle2); have hr2 := hs2.R.mono (Dif.le G2 G1))
 refine aO' 5 ?_
 (refine one_step0 rfl (step_buildSlice rfl rfl rfl (by omega) (by unfold maxLen; omega) rfl) rfl rfl ?_; rintro _ ⟨b93, rfl⟩)
 refine aP 6 rfl (pBd rfl rfl) rfl ?_
 refine aO' 8 ?_
 refine oT' rfl ?_
 refine aD' ?_
 refine nS (tS ?_)
 (have hr1' := hr1; refine tri_freeze (by repeat (first | exact Pk.here | apply Pk.there)) (fun G5 hle5 hsl5 hno5 => ?_); have hRT : RTy G5 (.mk k [.mk ak aks, .mk bk bks]) _ := RTyL.ty (ts := [.mk ak aks, .mk bk bks]) (es := [[.int .i64 ak, .slice p1 aks.length c1], [.int .i64 bk, .slice p2 bks.length c2]]) ⟨_, _, rfl, hr1.mono hle5, _, _, rfl, hr2.mono hle5, rfl⟩ rfl hsl5 hki; have hV := sTypeValid_fn _ G5 _ hRT; refine tri_draw mixed rfl ?_)
 refine any_load (i := 0) (l' := [tt,ff,ff,ff,ff]) rfl npI (lBa rfl rfl) rfl (by kernel_rfl) rfl rfl ?_
 refine aL 1 rfl (lBa rfl rfl) rfl ?_
 refine aO' 2 ?_
 refine one_val rfl rfl (hV) rfl rfl rfl ?_
 refine aO' 3 ?_
 refine oT' rfl ?_
 refine aP 4 rfl (pA rfl) rfl ?_
 refine aD' ?_
 refine nS (tT (rF2 (rC rfl (lBa rfl rfl)) (rT rfl) ?_))
 (exact ⟨rfl, _, rfl, hRT⟩)
theorem l3MatchX_fn (k : Int) (t : Ty) (G : IM) (cells : List Value) (hk : k = 4 ∨ k = 5) (ha : tAr t) (hr : RTy G t cells) :
  Fn Tryz.prog 116 [.int .i64 k, .agg ⟨cells⟩] [] G (MatchP k t G) := by
 obtain ⟨tk, ks⟩ := t
 have ha2 := ha
 rw [tAr] at ha2
 have hkid := ha.kid
 obtain ⟨p, c, es, rfl, htk, hsl, hkl⟩ := hr.open
 simp only [Ty.k, Ty.ks] at htk hsl hkl ⊢
 refine fn_enter Tryz.func116 rfl Tryz.ntmps116 Tryz.results116 rfl ?_
 intro w0
 refine tS (tR ?_)
 refine sE (step_box_a rfl rfl) rfl (fun b3 => ?_)
 refine sE (step_alloc rfl) rfl (fun b4 => ?_)
 refine sE (step_alloc rfl) rfl (fun b5 => ?_)
 refine sQ (pA rfl) rfl (sD (nS (tS (tS (tR (sQ (pF0 rfl) rfl ?_))))))
 refine sL (lBs rfl rfl) rfl rfl ?_
 refine sB (pE rfl rfl) rfl rfl (fun h14 => ?_) (fun h14 => ?_)
 refine sD (nS (cT rfl ?_))
 refine tS (tR (seq_val rfl ((l1Any_fn _)) rfl rfl ?_))
 refine seq_val rfl ((l1Any_fn _)) rfl rfl ?_
 refine sS' ?_
 refine sS' ?_
 refine sQ (pA rfl) rfl (sD (nS (tT (rS (rF3 (rC rfl (lBa rfl rfl)) (rC rfl (lBa rfl rfl)) (rT rfl) ?_)))))
 (refine ⟨rfl, _, _, _, _, ?_, tyAny_r _, tyAny_r _, tAr_any, tAr_any, ?_⟩ <;> rw [mMatch_mk, if_neg (by omega), if_pos (by omega)] <;> first | rfl | (intro p hp; cases hp; rfl))
 refine sD (nS (cF rfl ?_))
 refine tK (nS (tS (tS (tR (sQ (pF0 rfl) rfl (sL (lBs rfl rfl) rfl rfl ?_))))))
 refine sQ (pM rfl) rfl (sB (pure_neq rfl rfl) rfl rfl (fun h42 => ?_) (fun h42 => ?_))
 refine sD (nS (cT rfl ?_))
 refine tS (tR (sQ (pBd rfl rfl) rfl (sQ (pBd rfl rfl) rfl (sS' ?_))))
 refine sS' ?_
 refine sQ (pA rfl) rfl (sD (nS (tT (rS (rF3 (rC rfl (lBa rfl rfl)) (rC rfl (lBa rfl rfl)) (rT rfl) ?_)))))
 (refine ⟨rfl, ty0, _, ty0, _, ?_, tyLeaf_r _ ⟨by omega, by omega⟩, tyLeaf_r _ ⟨by omega, by omega⟩, tAr_leaf (by omega) (by omega), tAr_leaf (by omega) (by omega), ?_⟩ <;> rw [mMatch_mk, if_neg (by omega), if_neg (by omega)] <;> first | rfl | (intro p hp; cases hp))
 refine sD (nS (cF rfl ?_))
 refine tK (nS (tS ?_))
 (have hlen : ks.length = 2 := ha2.1 (by omega); obtain ⟨b, o, q0, d0, hp0, hat0, hre0, hg0⟩ := hsl.kidTy hkl (i := 0) (by omega) (by omega); obtain ⟨b', o', q1, d1, hp1, hat1, hre1, hg1⟩ := hsl.kidTy hkl (i := 1) (by omega) (by omega); subst hp0; cases hp1; have hC1 := l1Copy_fn _ G _ (hkid _ (List.getElem_mem (by omega))).small hre0; refine tri_draw mixed rfl ?_)
 refine any_pure (i := 0) (l' := [tt,ff,ff,ff,ff,ff,ff,ff,ff,ff,ff,ff,ff]) rfl npI (pF0 rfl) rfl (by kernel_rfl) rfl rfl ?_
 refine aL 1 rfl (lBs rfl rfl) rfl ?_
 refine aP 2 rfl (pIN (j := 0) rfl rfl rfl (by omega)) rfl ?_
 refine aL 3 rfl (load_a rfl rfl (hat0 _) rfl) rfl ?_
 refine aP 5 rfl (pF0 rfl) rfl ?_
 refine aL 6 rfl (lBs rfl rfl) rfl ?_
 refine aP 7 rfl (pIN (j := 1) rfl rfl rfl (by omega)) rfl ?_
 refine aL 8 rfl (load_a rfl rfl (hat1 _) rfl) rfl ?_
 refine aO' 4 ?_
 (refine one_imm rfl rfl hC1 rfl rfl rfl (fun v G1 hle1 hh => ?_); obtain ⟨cs1, F1, rfl, hs1, hn1⟩ := hh; obtain ⟨p1, c1, rfl, _⟩ := hs1.open; have hC2 := l1Copy_fn _ G1 _ (hkid _ (List.getElem_mem (by omega))).small (hre1.mono hle1))
 refine aO' 9 ?_
 (refine one_imm rfl rfl hC2 rfl rfl rfl (fun v G2 hle2 hh => ?_); obtain ⟨cs2, F2, rfl, hs2, hn2⟩ := hh; obtain ⟨p2, c2, rfl, _⟩ := hs2.open; have hr1 := hs1.R.mono ((Dif.le G1 G).trans hle2); have hr2 := hs2.R.mono (Dif.le G2 G1))
 refine aO' 10 ?_
 refine oT' rfl ?_
 refine aO' 11 ?_
 refine one_store rfl rfl rfl rfl rfl rfl rfl rfl (by decide +kernel) (by repeat first | exact Sw.here | apply Sw.there) (by rfl) ?_
 refine aP 12 rfl (pA rfl) rfl ?_
 refine aD' ?_
 refine nS (tT (rF3 (rC rfl (lBa rfl rfl)) (rC rfl (lBa rfl rfl)) (rT rfl) ?_))
 (refine ⟨rfl, _, _, _, _, ?_, hr1, hr2, hkid _ (List.getElem_mem (by omega)), hkid _ (List.getElem_mem (by omega)), ?_⟩ <;> rw [mMatch_mk, if_pos (by omega)] <;> first | rfl | (intro p hp; cases hp; simp [hlen]))
theorem l3LookX_fn (G : IM) (cx : Cx) (hv : cxV cx) (p : Option Addr) (n c : Nat) (nm : ByteArray) (hx : RCx G cx p n c) :
  Fn Tryz.prog 98 [.slice p n c, .string nm] [] G (TyO (mLook cx nm) G) := by
 have hn := hx.le
 refine fn_enter Tryz.func98 rfl Tryz.ntmps98 Tryz.results98 rfl ?_
 intro w0
 refine tS (tR ?_)
 refine sE (step_alloc rfl) rfl (fun b3 => ?_)
 refine sQ (pA rfl) rfl (sD (nS (tS (tS (tR (sQ (pM rfl) rfl ?_))))))
 refine sQ (pLn rfl rfl) rfl (sP (pure_sub rfl rfl (by omega) (by omega)) rfl rfl ?_)
 refine sQ (pA rfl) rfl (sD (nS (tri_block ?_)))
 (refine tri_loopN (fun (i : Nat) => ⟨[(6, .int .i64 ((i : Int) - 1)), (0, .slice p n c), (1, .string nm), (4, .pointer (some ⟨b3, 0, none⟩))], [.blk b3 [.int .i64 0, .slice none 0 0]], G⟩) (fun i => i ≤ n ∧ mLook cx nm = lookN cx nm i) (fun i => i) n ?_ ?_ ?_)
 exact sMk
 (exact ⟨Nat.le_refl _, by unfold mLook; rw [hx.1]⟩)
 (rintro i ⟨hi, hlk⟩)
 refine tS (tS (tR (sQ (pM rfl) rfl (sB (pure_geq rfl rfl) rfl rfl (fun h25 => ?_) (fun h25 => ?_)))))
 refine sD (nS (cT rfl ?_))
 refine tK (nS (tS ?_))
 (show Tri _ _ (.block 1 _) _ _; obtain ⟨j, rfl⟩ : ∃ j, i = j + 1 := ⟨i - 1, by omega⟩; rw [show ((j + 1 : Nat) : Int) - 1 = (j : Int) from by omega]; obtain ⟨b, o, nm1, t1, q1, d1, hcx, rfl, hat, hr1, hgb⟩ := hx.get (i := j) (by omega); have ha1 := tValid_ar (hv _ (List.mem_of_getElem? hcx)); refine tri_block ?_)
 refine tS (tR (sQ (pM rfl) rfl (sQ (pM rfl) rfl (sP (pIN rfl rfl rfl (by omega)) rfl rfl ?_))))
 refine sQ (pF rfl) rfl (sL (load_s rfl rfl ((hat _).sub (j := 0) rfl)) rfl rfl ?_)
 refine sQ (pM rfl) rfl (sB (pure_seql rfl rfl) rfl rfl (fun h41 => ?_) (fun h41 => ?_))
 refine sD (nS (cT rfl ?_))
 refine tS (tR (sQ (pM rfl) rfl (sQ (pM rfl) rfl (sP (pIN rfl rfl rfl (by omega)) rfl rfl ?_))))
 refine sQ (pF rfl) rfl (sL (load_a rfl rfl (hat _).drop rfl) rfl rfl ?_)
 (refine seq_imm rfl (l1Copy_fn _ G _ ha1.small hr1) rfl rfl (fun v G1 hle1 hh => ?_); obtain ⟨cs1, F1, rfl, hs1', hn1⟩ := hh; obtain ⟨p1, c1, rfl, _⟩ := hs1'.open; have hrr := hs1'.R.mono (Dif.le G1 G))
 refine sS' ?_
 refine sQ (pA rfl) rfl (sD (nS (tT (rB (rS (ret_loopN ?_))))))
 refine rB (rS (rF2 (rC rfl (lBa rfl rfl)) (rT rfl) ?_))
 (exact TyO.yes (by rw [hlk]; exact lookN_eq hcx (by assumption)) hrr ha1)
 refine sD (nS (cF rfl ?_))
 refine tK (nrm_block (nS (tR (sQ (pM rfl) rfl (sP (pure_sub rfl rfl (by omega) (by omega)) rfl rfl ?_)))))
 refine sQ (pA rfl) rfl (sD (nrm_loopN j ?_ ?_ ?_))
 exact sMk
 (exact ⟨by omega, by rw [hlk]; exact lookN_ne hcx (by assumption)⟩)
 (show _ < _ + 1; omega)
 refine sD (nS (cF rfl ?_))
 refine tri_exit ?_
 refine ext_seq ?_
 refine ext_loopN ?_
 refine ext_block_eq ?_
 refine nS (tS (tR (sQ (pBd rfl rfl) rfl (sS' ?_))))
 refine sQ (pA rfl) rfl (sD (nS (tT (rF2 (rC rfl (lBa rfl rfl)) (rT rfl) ?_))))
 (obtain rfl : i = 0 := (by omega); exact TyO.no (by rw [hlk]; rfl) (tyLeaf_r _ ⟨by omega, by omega⟩) (tAr_leaf (by omega) (by omega)))
theorem meetL_len : ∀ (xs ys : List Ty), xs.length = ys.length → (mMeetL xs ys).length = xs.length
 | [], [], _ => rfl
 | a :: xs, b :: ys, h => by simp only [mMeetL, List.length_cons]; rw [meetL_len xs ys (by simpa using h)]
 | [], b :: ys, h => by simp at h
 | a :: xs, [], h => by simp at h
theorem meetL_get : ∀ (xs ys : List Ty) (i : Nat) (h : i < xs.length) (h' : i < ys.length) (hl : i < (mMeetL xs ys).length), (mMeetL xs ys)[i] = mMeet xs[i] ys[i]
 | [], _, i, h, _, _ => by simp at h
 | a :: xs, [], i, _, h', _ => by simp at h'
 | a :: xs, b :: ys, 0, _, _, _ => by simp [mMeetL]
 | a :: xs, b :: ys, i + 1, h, h', hl => by
  simp only [mMeetL, List.getElem_cons_succ]
  exact meetL_get xs ys i (by simpa using h) (by simpa using h') _
theorem meetL_take {xs ys : List Ty} {i : Nat} (hl : xs.length = ys.length) (h : i < xs.length) : (mMeetL xs ys).take (i + 1) = (mMeetL xs ys).take i ++ [mMeet xs[i] (ys[i]'(by omega))] := by
 rw [List.take_succ_eq_append_getElem (by rw [meetL_len _ _ hl]; exact h), meetL_get _ _ i h (by omega)]
theorem l1MeetX_fn : ∀ (a b : Ty) (G : IM) (ca cb : List Value), tCons a b = true → tAr a → tAr b → RTy G a ca → RTy G b cb → Fn Tryz.prog 130 [.agg ⟨ca⟩, .agg ⟨cb⟩] [] G (Imm fun G' v => ∃ cells, v = .agg ⟨cells⟩ ∧ RTy G' (mMeet a b) cells) := by
 refine Ty.ind fun ak aks ih b G ca cb hc ha hb hra hrb => ?_
 obtain ⟨bk, bks⟩ := b
 have hka := ha.kid
 have hkb := hb.kid
 have hca := l1Copy_fn _ G _ ha.small hra
 have hcb := l1Copy_fn _ G _ hb.small hrb
 have hcc : ak ≠ 1 → bk ≠ 1 → aks.length = bks.length ∧ ∀ i, (h : i < aks.length) → (h' : i < bks.length) → tCons aks[i] bks[i] = true := by
  intro h1 h2
  rw [tCons_mk, decide_eq_false h1, decide_eq_false h2] at hc
  simp only [Bool.false_or, Bool.and_eq_true, decide_eq_true_eq] at hc
  exact (tConsL_iff _ _).1 hc.2
 rw [mMeet_mk]
 obtain ⟨pa, cca, ea, rfl, hak, hsla, hkla⟩ := hra.open
 obtain ⟨pb, ccb, eb, rfl, hbk, hslb, hklb⟩ := hrb.open
 simp only [Ty.k, Ty.ks] at hak hsla hkla hbk hslb hklb ⊢
 have hna := hsla.le
 have hnb := hslb.le
 have hl2 := ha.two
 refine fn_enter Tryz.func130 rfl Tryz.ntmps130 Tryz.results130 rfl ?_
 intro w0
 refine tS (tR ?_)
 refine sE (step_box_a rfl rfl) rfl (fun b3 => ?_)
 refine sE (step_box_a rfl rfl) rfl (fun b4 => ?_)
 refine sE (step_alloc rfl) rfl (fun b5 => ?_)
 refine sD (nS (tS (tS (tR (sQ (pF0 rfl) rfl (sL (lBs rfl rfl) rfl rfl ?_))))))
 refine sB (pE rfl rfl) rfl rfl (fun h13 => ?_) (fun h13 => ?_)
 refine sD (nS (cT rfl ?_))
 refine tS (tR (sL (lBa rfl rfl) rfl rfl ?_))
 (refine seq_imm rfl (by first | exact hcb | exact hca) rfl rfl (fun v G1 hle1 hh => ?_); obtain ⟨cs1, F1, rfl, hs1, hn1⟩ := hh; obtain ⟨p1, c1, rfl, _⟩ := hs1.open; have hr1 := hs1.R.mono (Dif.le G1 G))
 refine sS' ?_
 refine sD (nS (tT (rS (rF1 (rC rfl (lBa rfl rfl)) ?_))))
 (rw [if_pos (by omega)]; exact ⟨rfl, _, rfl, hr1⟩)
 refine sD (nS (cF rfl ?_))
 refine tK (nS (tS (tS (tR (sQ (pF0 rfl) rfl (sL (lBs rfl rfl) rfl rfl ?_))))))
 refine sB (pE rfl rfl) rfl rfl (fun h38 => ?_) (fun h38 => ?_)
 refine sD (nS (cT rfl ?_))
 refine tS (tR (sL (lBa rfl rfl) rfl rfl ?_))
 (refine seq_imm rfl (by first | exact hcb | exact hca) rfl rfl (fun v G1 hle1 hh => ?_); obtain ⟨cs1, F1, rfl, hs1, hn1⟩ := hh; obtain ⟨p1, c1, rfl, _⟩ := hs1.open; have hr1 := hs1.R.mono (Dif.le G1 G))
 refine sS' ?_
 refine sD (nS (tT (rS (rF1 (rC rfl (lBa rfl rfl)) ?_))))
 (rw [if_neg (by omega), if_pos (by omega)]; exact ⟨rfl, _, rfl, hr1⟩)
 refine sD (nS (cF rfl ?_))
 refine tK (nS (tS (tR (sQ (pF0 rfl) rfl (sL (lBs rfl rfl) rfl rfl ?_)))))
 refine sQ (pBd rfl rfl) rfl ?_
 refine sE (step_alloc rfl) rfl (fun b63 => ?_)
 refine sS' ?_
 refine sD (nS (tS (tS (tR (sQ (pA rfl) rfl (sD ?_))))))
 refine nS (tri_block ?_)
 (obtain ⟨hlab, hcab⟩ := hcc (by omega) (by omega); refine tri_nil 32 2 ?_; refine tri_loopN (fun (x : Nat × Option Addr × Nat × List Ty × List (List Value) × IM) => ⟨[(6, .int .i64 x.1), (5, .pointer (some ⟨b63, 0, none⟩)), (4, .pointer (some ⟨b5, 0, none⟩)), (2, .pointer (some ⟨b3, 0, none⟩)), (3, .pointer (some ⟨b4, 0, none⟩))], [.blk b63 [.int .i64 ak, .slice x.2.1 x.1 x.2.2.1], .slc x.2.1 x.2.2.1 32 2 x.1 x.2.2.2.2.1.flatten, .blk b5 [.int .i64 0, .slice none 0 0], .blk b4 [.int .i64 bk, .slice pb bks.length ccb], .blk b3 [.int .i64 ak, .slice pa aks.length cca]], x.2.2.2.2.2⟩) (fun x => x.1 ≤ aks.length ∧ IMle G x.2.2.2.2.2 ∧ x.2.2.2.1.length = x.1 ∧ RTyL x.2.2.2.2.2 x.2.2.2.1 x.2.2.2.2.1 ∧ x.2.2.2.1 = (mMeetL aks bks).take x.1) (fun x => aks.length - x.1) (0, none, 0, [], [], G) ?_ ?_ ?_)
 (simp only [flat_snoc]; exact sMk)
 (exact ⟨by simp, IMle.refl _, rfl, by simp [RTyL], rfl⟩)
 (rintro ⟨i, pn, cn, us, es', Gi⟩ ⟨hi, hle, hlu, hst, hus⟩; simp only [] at hi hle hlu hst hus ⊢; replace hsla := hsla.mono hle; replace hkla := hkla.mono hle; replace hslb := hslb.mono hle; replace hklb := hklb.mono hle)
 refine tS (tS (tR (sQ (pM rfl) rfl (sQ (pF0 rfl) rfl (sL (lBs rfl rfl) rfl rfl ?_)))))
 refine sQ (pLn rfl rfl) rfl (sB (pure_lss rfl rfl) rfl rfl (fun h85 => ?_) (fun h85 => ?_))
 refine sD (nS (cT rfl ?_))
 refine tK (nS (tS (tri_block ?_)))
 (obtain ⟨b, o, q0, d0, hp0, hat0, hre0, hg0⟩ := hsla.kidTy hkla (i := i) (by omega) (by omega); obtain ⟨b', o', q1, d1, hp1, hat1, hre1, hg1⟩ := hslb.kidTy hklb (i := i) (by omega) (by omega); subst hp0; subst hp1; have hih := ih aks[i] (List.getElem_mem (by omega)) bks[i] Gi _ _ (hcab i (by omega) (by omega)) (hka _ (List.getElem_mem (by omega))) (hkb _ (List.getElem_mem (by omega))) hre0 hre1; refine tri_draw mixed rfl ?_)
 refine any_pure (i := 0) (l' := [tt,ff,ff,ff,ff,ff,ff,ff,ff,ff,ff,ff,ff,ff,ff,ff,ff]) rfl npI (pF0 rfl) rfl (by kernel_rfl) rfl rfl ?_
 refine aL 1 rfl (lBs rfl rfl) rfl ?_
 refine aP 2 rfl (pF0 rfl) rfl ?_
 refine aL 3 rfl (lBs rfl rfl) rfl ?_
 refine aP 4 rfl (pM rfl) rfl ?_
 refine aP 5 rfl (pIN rfl rfl rfl (by omega)) rfl ?_
 refine aL 6 rfl (load_a rfl rfl (hat0 _) rfl) rfl ?_
 refine aP 7 rfl (pF0 rfl) rfl ?_
 refine aL 8 rfl (lBs rfl rfl) rfl ?_
 refine aP 9 rfl (pM rfl) rfl ?_
 refine aP 10 rfl (pIN rfl rfl rfl (by omega)) rfl ?_
 refine aL 11 rfl (load_a rfl rfl (hat1 _) rfl) rfl ?_
 refine aO' 12 ?_
 (refine one_imm rfl rfl hih rfl rfl rfl (fun v G1 hle1 hh => ?_); obtain ⟨cells', rfl, hru⟩ := hh; generalize hu : mMeet aks[i] bks[i] = u at hru; obtain ⟨p3, c3, es3, rfl, _⟩ := hru.open)
 refine aO' 13 ?_
 (refine one_step0 rfl (step_buildSlice rfl rfl rfl (by omega) (by unfold maxLen; omega) rfl) rfl rfl ?_; rintro _ ⟨b109, rfl⟩)
 refine aO' 14 ?_
 refine one_append rfl rfl rfl rfl rfl rfl (fun _ _ => by repeat (first | exact Sw.here | apply Sw.there)) (at_slc_all (by repeat first | exact mH | apply mT)) rfl (by simp [Value.oneCell']) (by unfold maxLen; omega) (by omega) rfl rfl (by repeat (first | exact HmOk.nil | apply HmOk.dep (by decide +kernel) | apply HmOk.blk (by decide +kernel) (by repeat (first | exact Pk.here | apply Pk.there)) (by repeat first | exact mH | apply mT))) (fun pn' cn' => ?_)
 refine aP 15 rfl (pF0 rfl) rfl ?_
 refine aO' 16 ?_
 refine one_store rfl rfl rfl rfl rfl rfl rfl rfl (by decide +kernel) (by repeat first | exact Sw.here | apply Sw.there) (by rfl) ?_
 refine aD' ?_
 refine nrm_block (nS (tR (sQ (pM rfl) rfl (sP (pure_add rfl rfl (by omega) (by omega)) rfl rfl ?_))))
 refine sQ (pA rfl) rfl (sD (nrm_loopN (i + 1, pn', cn', us ++ [u], es' ++ [[.int .i64 u.k, .slice p3 u.ks.length c3]], G1) ?_ ?_ ?_))
 (simp only [flat_snoc]; exact sMk)
 (dsimp only; exact ⟨by omega, hle.trans hle1, by simp [hlu], RTyL.snoc (hst.mono hle1) hru, by rw [meetL_take hlab (by omega), ← hus, hu]⟩)
 (show aks.length - (i + 1) < aks.length - i; omega)
 refine sD (nS (cF rfl ?_))
 refine tri_exit ?_
 refine ext_seq ?_
 refine ext_loopN ?_
 refine ext_block_eq ?_
 refine nS (tS (tR (sL (lBa rfl rfl) rfl rfl ?_)))
 refine sS' ?_
 refine sD (nS ?_)
 (refine ret_freeze (by repeat (first | exact Pk.here | apply Pk.there)) (fun G2 hle2 hsl2 hno2 => ?_); obtain rfl : i = aks.length := (by omega))
 refine tT (rF1 (rC rfl (lBa rfl rfl)) ?_)
 (rw [List.take_of_length_le (by rw [meetL_len _ _ hlab]; omega)] at hus; rw [if_neg (by omega), if_neg (by omega), ← hus]; exact ⟨rfl, _, rfl, (hst.mono hle2).ty hlu hsl2 hak⟩)
theorem gD {ts : List Ty} {i : Nat} (h : i < ts.length) : ts.getD i ty0 = ts[i] := by rw [List.getD_eq_getElem?_getD, List.getElem?_eq_getElem h, Option.getD_some]
section
variable {cx : Cx} {k : Int} {nm : ByteArray} {ty : Ty} {ts : List Ty}
theorem tySN6 (h : 1 < ts.length) : mTySN cx 6 nm ty ts = match mMatch 4 ts[0] with | some (a, b) => if tCons ts[1] a = true then some b else none | none => none := by
 unfold mTySN mWanted
 rw [gD (i := 0) (by omega), gD (i := 1) h]
 simp only [show ¬((6 : Int) = 1) by decide, show ¬((6 : Int) = 2) by decide, show ¬((6 : Int) = 3 ∨ (6 : Int) = 4) by decide, show ¬((6 : Int) = 5) by decide, if_false, if_true]
 cases mMatch 4 ts[0] with
 | none => rfl
 | some p =>
  obtain ⟨a, b⟩ := p
  by_cases hc : tCons ts[1] a = true
  ·simp [hc]
  ·simp [hc]
theorem tySN78 (hk : k = 7 ∨ k = 8) (h : 1 < ts.length) : mTySN cx k nm ty ts = if tCons ts[0] tyInt = true ∧ tCons ts[1] tyInt = true then some (if k = 8 then tyBool else tyInt) else none := by
 unfold mTySN mWanted
 rw [gD (i := 0) (by omega), gD (i := 1) h, if_neg (by omega), if_neg (by omega), if_neg (by omega), if_neg (by omega), if_neg (by omega), if_pos hk]
 by_cases hc : tCons ts[0] tyInt = true ∧ tCons ts[1] tyInt = true
 ·rw [if_pos hc, if_pos hc]; simp only; rw [if_neg (by omega)]
 ·rw [if_neg hc, if_neg hc]
theorem tySN9 (h : 2 < ts.length) : mTySN cx 9 nm ty ts = if tCons ts[0] tyBool = true ∧ tCons ts[1] ts[2] = true then some (mMeet ts[1] ts[2]) else none := by
 unfold mTySN mWanted
 rw [gD (i := 0) (by omega), gD (i := 1) (by omega), gD (i := 2) h, if_neg (by omega), if_neg (by omega), if_neg (by omega), if_neg (by omega), if_neg (by omega), if_neg (by omega), if_pos rfl]
 by_cases hc : tCons ts[0] tyBool = true ∧ tCons ts[1] ts[2] = true
 ·rw [if_pos hc, if_pos hc]; simp
 ·rw [if_neg hc, if_neg hc]
theorem tySN10 (h : 1 < ts.length) : mTySN cx 10 nm ty ts = if tValid (.mk 5 [ts[0], ts[1]]) = true then some (.mk 5 [ts[0], ts[1]]) else none := by
 unfold mTySN mWanted
 rw [gD (i := 0) (by omega), gD (i := 1) h, if_neg (by omega), if_neg (by omega), if_neg (by omega), if_neg (by omega), if_neg (by omega), if_neg (by omega), if_neg (by omega), if_pos rfl]
 cases hv : tValid (.mk 5 [ts[0], ts[1]]) <;> simp [hv]
theorem tySN13 (h : 0 < ts.length) : mTySN cx 13 nm ty ts = if tCons ts[0] ty = true then some ty else none := by
 unfold mTySN mWanted
 rw [gD (i := 0) h, if_neg (by omega), if_neg (by omega), if_neg (by omega), if_neg (by omega), if_neg (by omega), if_neg (by omega), if_neg (by omega), if_neg (by omega), if_pos rfl]
 by_cases hc : tCons ts[0] ty = true
 ·rw [if_pos hc, if_pos hc]; simp
 ·rw [if_neg hc, if_neg hc]
theorem tySN11 (hk : k = 11 ∨ k = 12) (h : 0 < ts.length) : mTySN cx k nm ty ts = match mMatch 5 ts[0] with | some (a, b) => some (if k = 12 then b else a) | none => none := by
 unfold mTySN mWanted
 rw [gD (i := 0) h, if_neg (by omega), if_neg (by omega), if_neg (by omega), if_neg (by omega), if_neg (by omega), if_neg (by omega), if_neg (by omega), if_neg (by omega), if_neg (by omega)]
 cases mMatch 5 ts[0] with
 | none => rfl
 | some p =>
  obtain ⟨a, b⟩ := p
  simp only
  rw [if_neg (by omega)]
end
theorem meet_ar : ∀ (a b : Ty), tCons a b = true → tAr a → tAr b → tAr (mMeet a b) := by
 refine Ty.ind fun k ks ih b hc ha hb => ?_
 obtain ⟨k', ks'⟩ := b
 rw [mMeet_mk]
 split
 ·exact hb
 ·split
  ·exact ha
  ·rw [tCons_mk] at hc
   simp only [Bool.or_eq_true, Bool.and_eq_true, decide_eq_true_eq] at hc
   obtain ⟨hk, hl⟩ : k = k' ∧ tConsL ks ks' = true := by
    rcases hc with (h | h) | h
    ·contradiction
    ·contradiction
    ·exact h
   obtain ⟨hll, hcc⟩ := (tConsL_iff _ _).1 hl
   have hlen := meetL_len ks ks' hll
   refine tAr_like ha hlen fun u hu => ?_
   obtain ⟨i, hi, rfl⟩ := List.mem_iff_getElem.1 hu
   rw [meetL_get ks ks' i (by omega) (by omega)]
   exact ih _ (List.getElem_mem _) _ (hcc i (by omega) (by omega)) (ha.kid _ (List.getElem_mem _)) (hb.kid _ (List.getElem_mem _))
theorem l3ResultX_fn (cx : Cx) (k : Int) (nm : ByteArray) (num : Int) (ty fr : Ty) (lb : Int) (ks : List Tm) (ts : List Ty) (G : IM) (cells : List Value) (p : Option Addr) (c : Nat) (es : List (List Value))
  (hops : tmOps k = ts.length) (hk6 : 6 ≤ k ∧ k ≤ 13) (hty : tAr ty) (hr : RTm G (.mk k nm num ty fr lb ks) cells) (hsl : SlE G p ts.length c 2 es) (hkl : RTyL G ts es) (har : ∀ t ∈ ts, tAr t) :
  Fn Tryz.prog 102 [.agg ⟨cells⟩, .slice p ts.length c] [] G (TyO (mTySN cx k nm ty ts) G) := by
 have hone := hr.one
 have hop := tm_ops hops
 have ha0 := fun h : 0 < ts.length => har _ (List.getElem_mem h)
 have ha1 := fun h : 1 < ts.length => har _ (List.getElem_mem h)
 have ha2 := fun h : 2 < ts.length => har _ (List.getElem_mem h)
 obtain ⟨tk, tks⟩ := ty
 obtain ⟨fk, fks⟩ := fr
 obtain ⟨pt, ct, pf, cf, pk, ck, ek, rfl, hk, hnum, hlb, hrty, hrfr, _, _⟩ := hr.open9
 refine fn_enter Tryz.func102 rfl Tryz.ntmps102 Tryz.results102 rfl ?_
 intro w0
 refine tS (tR ?_)
 refine sE (step_box_a rfl rfl) rfl (fun b3 => ?_)
 refine sE (step_alloc rfl) rfl (fun b4 => ?_)
 refine sQ (pA rfl) rfl (sD (nS (tS (tS (tR (sQ (pF0 rfl) rfl ?_))))))
 refine sL (lBs rfl rfl) rfl rfl ?_
 refine sD (nS (tri_block (tS (tR (sB (pE rfl rfl) rfl rfl (fun h18 => ?_) (fun h18 => ?_))))))
 refine sQ (pA rfl) rfl (sD (nS (cT rfl ?_)))
 refine tS (tR (sQ (pM rfl) rfl ?_))
 (have hl2 : ts.length = 2 := hop.1 (by omega); obtain ⟨b0, o0, q0, d0, hp0, hat0, hre0, hg0⟩ := hsl.kidTy hkl (i := 0) (by omega) (by omega); obtain ⟨b1, o1, q1, d1, hp1, hat1, hre1, hg1⟩ := hsl.kidTy hkl (i := 1) (by omega) (by omega); cases hp0; cases hp1; refine sP (pIN (j := 0) rfl rfl rfl (by omega)) rfl rfl ?_)
 refine sL (load_a rfl rfl (hat0 _) rfl) rfl rfl ?_
 focus (refine seq_imm rfl (l3MatchX_fn 4 ts[0] G _ (.inl rfl) (ha0 (by omega)) hre0) rfl rfl (fun v G1 hle1 hh => ?_); obtain ⟨ma, mca, mb, mcb, rfl, hma, hmb, hma2, hmb2, hpp⟩ := hh; obtain ⟨p1, c1, e1, rfl, _⟩ := hma.open; obtain ⟨p2, c2, e2, rfl, _⟩ := hmb.open; replace hsl := hsl.mono hle1; replace hkl := hkl.mono hle1; rcases hm : mMatch 4 ts[0] with _ | pr; rotate_left; obtain rfl := hpp _ hm; rotate_left; all_goals simp only [Option.isSome])
 refine sQ (pM rfl) rfl (sQ (pX rfl rfl) rfl (sQ (pX rfl rfl) rfl (sQ (pX rfl rfl) rfl ?_)))
 refine sE (step_alloc rfl) rfl (fun b33 => ?_)
 refine sE (step_alloc rfl) rfl (fun b34 => ?_)
 refine sS' ?_
 refine sS' ?_
 refine sQ (pA rfl) rfl (sD (nS (tS ?_)))
 (have hl2 : ts.length = 2 := hop.1 (by omega); obtain ⟨b0, o0, q0, d0, hp0, hat0, hre0, hg0⟩ := hsl.kidTy hkl (i := 0) (by omega) (by omega); obtain ⟨b1, o1, q1, d1, hp1, hat1, hre1, hg1⟩ := hsl.kidTy hkl (i := 1) (by omega) (by omega); cases hp0; cases hp1; refine tri_draw mixed rfl ?_)
 refine any_load (i := 0) (l' := [tt,ff,ff,ff,ff,ff,ff,ff,ff,ff,ff]) rfl npI (lBa rfl rfl) rfl (by kernel_rfl) rfl rfl ?_
 refine aP 1 rfl (pM rfl) rfl ?_
 refine aP 2 rfl (pM rfl) rfl ?_
 refine aK' 3 rfl rfl rfl ?_
 refine aK' 4 rfl rfl rfl ?_
 refine aK' 5 rfl rfl rfl ?_
 refine aK' 6 rfl rfl rfl ?_
 refine aK' 7 rfl rfl rfl ?_
 refine aP 8 rfl (pPf rfl rfl) rfl ?_
 refine aO' 9 ?_
 refine oT' rfl ?_
 refine aP 10 rfl (pA rfl) rfl ?_
 refine aD' ?_
 refine nS (tT (rB (rS (rF2 (rC rfl (lBa rfl rfl)) (rT rfl) ?_))))
 (obtain rfl : k = 6 := (by omega); exact TyO.no (by rw [tySN6 (by omega), hm]) hmb hmb2)
 refine sQ (pM rfl) rfl (sQ (pX rfl rfl) rfl (sQ (pX rfl rfl) rfl (sQ (pX rfl rfl) rfl ?_)))
 refine sE (step_alloc rfl) rfl (fun b65 => ?_)
 refine sE (step_alloc rfl) rfl (fun b66 => ?_)
 refine sS' ?_
 refine sS' ?_
 refine sQ (pA rfl) rfl (sD (nS (tS ?_)))
 (have hl2 : ts.length = 2 := hop.1 (by omega); obtain ⟨b0, o0, q0, d0, hp0, hat0, hre0, hg0⟩ := hsl.kidTy hkl (i := 0) (by omega) (by omega); obtain ⟨b1, o1, q1, d1, hp1, hat1, hre1, hg1⟩ := hsl.kidTy hkl (i := 1) (by omega) (by omega); cases hp0; cases hp1; refine tri_draw mixed rfl ?_)
 refine any_load (i := 0) (l' := [tt,ff,ff,ff,ff,ff,ff,ff,ff,ff,ff]) rfl npI (lBa rfl rfl) rfl (by kernel_rfl) rfl rfl ?_
 refine aP 1 rfl (pM rfl) rfl ?_
 refine aP 2 rfl (pM rfl) rfl ?_
 refine aP 3 rfl (pM rfl) rfl ?_
 refine aP 4 rfl (pIN (j := 1) rfl rfl rfl (by omega)) rfl ?_
 refine aL 5 rfl (load_a rfl rfl (hat1 _) rfl) rfl ?_
 refine aL 6 rfl (lBa rfl rfl) rfl ?_
 refine aO' 7 ?_
 refine one_val rfl rfl ((l1ConsistentA_fn ts[1] ma _ _ _ (ha1 (by omega)) hma2 hre1 hma)) rfl rfl rfl ?_
 refine aP 8 rfl (pPt rfl rfl) rfl ?_
 refine aO' 9 ?_
 refine oT' rfl ?_
 refine aP 10 rfl (pA rfl) rfl ?_
 refine aD' ?_
 refine nS (tT (rB (rS (rF2 (rC rfl (lBa rfl rfl)) (rT rfl) ?_))))
 (obtain rfl : k = 6 := (by omega); exact TyO.mk (by rw [tySN6 (by omega), hm]) hmb hmb2)
 refine sQ (pA rfl) rfl (sD (nS (cF rfl ?_)))
 refine tS (tR (sB (pE rfl rfl) rfl rfl (fun h100 => ?_) (fun h100 => ?_)))
 refine sQ (pA rfl) rfl (sD (nS (cT rfl ?_)))
 refine tS ?_
 (have hl2 : ts.length = 2 := hop.1 (by omega); obtain ⟨b0, o0, q0, d0, hp0, hat0, hre0, hg0⟩ := hsl.kidTy hkl (i := 0) (by omega) (by omega); obtain ⟨b1, o1, q1, d1, hp1, hat1, hre1, hg1⟩ := hsl.kidTy hkl (i := 1) (by omega) (by omega); cases hp0; cases hp1; refine tri_draw mixed rfl ?_)
 refine any_pure (i := 1) (l' := [ff,tt,ff,ff,ff,ff,ff,ff,ff,ff,ff,ff,ff,ff,ff]) rfl npI (pM rfl) rfl (by kernel_rfl) rfl rfl ?_
 refine aP 2 rfl (pIN (j := 0) rfl rfl rfl (by omega)) rfl ?_
 refine aL 3 rfl (load_a rfl rfl (hat0 _) rfl) rfl ?_
 refine aO' 0 ?_
 refine one_val rfl rfl ((l3Int_fn _)) rfl rfl rfl ?_
 refine aO' 4 ?_
 refine one_val rfl rfl ((l3Int_fn _)) rfl rfl rfl ?_
 refine aO' 5 ?_
 refine one_valb rfl rfl ((l1ConsistentA_fn ts[0] (.mk 2 []) _ _ _ (ha0 (by omega)) (tAr_leaf (by decide) (by decide)) hre0 (tyLeaf_r _ ⟨by omega, by omega⟩))) rfl rfl rfl (fun h115 => ?_) (fun h115 => ?_)
 refine aP 6 rfl (pM rfl) rfl ?_
 refine aP 7 rfl (pM rfl) rfl ?_
 refine aP 8 rfl (pIN (j := 1) rfl rfl rfl (by omega)) rfl ?_
 refine aL 9 rfl (load_a rfl rfl (hat1 _) rfl) rfl ?_
 refine aO' 10 ?_
 refine one_val rfl rfl ((l3Int_fn _)) rfl rfl rfl ?_
 refine aO' 11 ?_
 refine one_val rfl rfl ((l1ConsistentA_fn ts[1] (.mk 2 []) _ _ _ (ha1 (by omega)) (tAr_leaf (by decide) (by decide)) hre1 (tyLeaf_r _ ⟨by omega, by omega⟩))) rfl rfl rfl ?_
 refine aP 12 rfl (pPt rfl rfl) rfl ?_
 refine aO' 13 ?_
 refine oT' rfl ?_
 refine aP 14 rfl (pA rfl) rfl ?_
 refine aD' ?_
 refine nS (tT (rB (rS (rF2 (rC rfl (lBa rfl rfl)) (rT rfl) ?_))))
 (have hk7 : k = 7 := (by omega); exact TyO.mk (by rw [tySN78 (.inl hk7) (by omega)]; simp_all [tyInt]) (tyLeaf_r _ ⟨by omega, by omega⟩) (tAr_leaf (by omega) (by omega)))
 refine aP 6 rfl (pM rfl) rfl ?_
 refine aK' 7 rfl rfl rfl ?_
 refine aK' 8 rfl rfl rfl ?_
 refine aK' 9 rfl rfl rfl ?_
 refine aK' 10 rfl rfl rfl ?_
 refine aK' 11 rfl rfl rfl ?_
 refine aP 12 rfl (pPf rfl rfl) rfl ?_
 refine aO' 13 ?_
 refine oT' rfl ?_
 refine aP 14 rfl (pA rfl) rfl ?_
 refine aD' ?_
 refine nS (tT (rB (rS (rF2 (rC rfl (lBa rfl rfl)) (rT rfl) ?_))))
 (have hk7 : k = 7 := (by omega); exact TyO.mk (by rw [tySN78 (.inl hk7) (by omega)]; simp_all [tyInt]) (tyLeaf_r _ ⟨by omega, by omega⟩) (tAr_leaf (by omega) (by omega)))
 refine sQ (pA rfl) rfl (sD (nS (cF rfl ?_)))
 refine tS (tR (sB (pE rfl rfl) rfl rfl (fun h158 => ?_) (fun h158 => ?_)))
 refine sQ (pA rfl) rfl (sD (nS (cT rfl ?_)))
 refine tS ?_
 (have hl2 : ts.length = 2 := hop.1 (by omega); obtain ⟨b0, o0, q0, d0, hp0, hat0, hre0, hg0⟩ := hsl.kidTy hkl (i := 0) (by omega) (by omega); obtain ⟨b1, o1, q1, d1, hp1, hat1, hre1, hg1⟩ := hsl.kidTy hkl (i := 1) (by omega) (by omega); cases hp0; cases hp1; refine tri_draw mixed rfl ?_)
 refine any_pure (i := 1) (l' := [ff,tt,ff,ff,ff,ff,ff,ff,ff,ff,ff,ff,ff,ff,ff]) rfl npI (pM rfl) rfl (by kernel_rfl) rfl rfl ?_
 refine aP 2 rfl (pIN (j := 0) rfl rfl rfl (by omega)) rfl ?_
 refine aL 3 rfl (load_a rfl rfl (hat0 _) rfl) rfl ?_
 refine aO' 0 ?_
 refine one_val rfl rfl ((l3Bool_fn _)) rfl rfl rfl ?_
 refine aO' 4 ?_
 refine one_val rfl rfl ((l3Int_fn _)) rfl rfl rfl ?_
 refine aO' 5 ?_
 refine one_valb rfl rfl ((l1ConsistentA_fn ts[0] (.mk 2 []) _ _ _ (ha0 (by omega)) (tAr_leaf (by decide) (by decide)) hre0 (tyLeaf_r _ ⟨by omega, by omega⟩))) rfl rfl rfl (fun h173 => ?_) (fun h173 => ?_)
 refine aP 6 rfl (pM rfl) rfl ?_
 refine aP 7 rfl (pM rfl) rfl ?_
 refine aP 8 rfl (pIN (j := 1) rfl rfl rfl (by omega)) rfl ?_
 refine aL 9 rfl (load_a rfl rfl (hat1 _) rfl) rfl ?_
 refine aO' 10 ?_
 refine one_val rfl rfl ((l3Int_fn _)) rfl rfl rfl ?_
 refine aO' 11 ?_
 refine one_val rfl rfl ((l1ConsistentA_fn ts[1] (.mk 2 []) _ _ _ (ha1 (by omega)) (tAr_leaf (by decide) (by decide)) hre1 (tyLeaf_r _ ⟨by omega, by omega⟩))) rfl rfl rfl ?_
 refine aP 12 rfl (pPt rfl rfl) rfl ?_
 refine aO' 13 ?_
 refine oT' rfl ?_
 refine aP 14 rfl (pA rfl) rfl ?_
 refine aD' ?_
 refine nS (tT (rB (rS (rF2 (rC rfl (lBa rfl rfl)) (rT rfl) ?_))))
 (have hk8 : k = 8 := (by omega); exact TyO.mk (by rw [tySN78 (.inr hk8) (by omega)]; simp_all [tyInt, tyBool]) (tyLeaf_r _ ⟨by omega, by omega⟩) (tAr_leaf (by omega) (by omega)))
 refine aP 6 rfl (pM rfl) rfl ?_
 refine aK' 7 rfl rfl rfl ?_
 refine aK' 8 rfl rfl rfl ?_
 refine aK' 9 rfl rfl rfl ?_
 refine aK' 10 rfl rfl rfl ?_
 refine aK' 11 rfl rfl rfl ?_
 refine aP 12 rfl (pPf rfl rfl) rfl ?_
 refine aO' 13 ?_
 refine oT' rfl ?_
 refine aP 14 rfl (pA rfl) rfl ?_
 refine aD' ?_
 refine nS (tT (rB (rS (rF2 (rC rfl (lBa rfl rfl)) (rT rfl) ?_))))
 (have hk8 : k = 8 := (by omega); exact TyO.mk (by rw [tySN78 (.inr hk8) (by omega)]; simp_all [tyInt, tyBool]) (tyLeaf_r _ ⟨by omega, by omega⟩) (tAr_leaf (by omega) (by omega)))
 refine sQ (pA rfl) rfl (sD (nS (cF rfl ?_)))
 refine tS (tR (sB (pE rfl rfl) rfl rfl (fun h216 => ?_) (fun h216 => ?_)))
 refine sQ (pA rfl) rfl (sD (nS (cT rfl ?_)))
 refine tS (tS ?_)
 (have hl3 : ts.length = 3 := hop.2.1 (by omega); obtain ⟨b0, o0, q0, d0, hp0, hat0, hre0, hg0⟩ := hsl.kidTy hkl (i := 0) (by omega) (by omega); obtain ⟨b1, o1, q1, d1, hp1, hat1, hre1, hg1⟩ := hsl.kidTy hkl (i := 1) (by omega) (by omega); obtain ⟨b2, o2, q2, d2, hp2, hat2, hre2, hg2⟩ := hsl.kidTy hkl (i := 2) (by omega) (by omega); cases hp0; cases hp1; cases hp2; refine tri_draw mixed rfl ?_)
 refine any_pure (i := 0) (l' := [tt,ff,ff,ff,ff,ff,ff,ff]) rfl npI (pM rfl) rfl (by kernel_rfl) rfl rfl ?_
 refine aP 1 rfl (pIN (j := 1) rfl rfl rfl (by omega)) rfl ?_
 refine aL 2 rfl (load_a rfl rfl (hat1 _) rfl) rfl ?_
 refine aP 3 rfl (pM rfl) rfl ?_
 refine aP 4 rfl (pIN (j := 2) rfl rfl rfl (by omega)) rfl ?_
 refine aL 5 rfl (load_a rfl rfl (hat2 _) rfl) rfl ?_
 refine aO' 6 ?_
 refine one_valb rfl rfl ((l1ConsistentA_fn ts[1] ts[2] _ _ _ (ha1 (by omega)) (ha2 (by omega)) hre1 hre2)) rfl rfl rfl (fun h231 => ?_) (fun h231 => ?_)
 refine aP 7 rfl (pNt rfl) rfl ?_
 refine aD' ?_
 refine nS (cF rfl ?_)
 refine tK (nS (tS ?_))
 (have hl3 : ts.length = 3 := hop.2.1 (by omega); obtain ⟨b0, o0, q0, d0, hp0, hat0, hre0, hg0⟩ := hsl.kidTy hkl (i := 0) (by omega) (by omega); obtain ⟨b1, o1, q1, d1, hp1, hat1, hre1, hg1⟩ := hsl.kidTy hkl (i := 1) (by omega) (by omega); obtain ⟨b2, o2, q2, d2, hp2, hat2, hre2, hg2⟩ := hsl.kidTy hkl (i := 2) (by omega) (by omega); cases hp0; cases hp1; cases hp2; refine tri_draw mixed rfl ?_)
 refine any_pure (i := 0) (l' := [tt,ff,ff,ff,ff,ff,ff,ff,ff,ff,ff,ff,ff,ff]) rfl npI (pM rfl) rfl (by kernel_rfl) rfl rfl ?_
 refine aP 1 rfl (pIN (j := 1) rfl rfl rfl (by omega)) rfl ?_
 refine aL 2 rfl (load_a rfl rfl (hat1 _) rfl) rfl ?_
 refine aP 3 rfl (pM rfl) rfl ?_
 refine aP 4 rfl (pIN (j := 2) rfl rfl rfl (by omega)) rfl ?_
 refine aL 5 rfl (load_a rfl rfl (hat2 _) rfl) rfl ?_
 refine aP 7 rfl (pM rfl) rfl ?_
 refine aP 8 rfl (pIN (j := 0) rfl rfl rfl (by omega)) rfl ?_
 refine aL 9 rfl (load_a rfl rfl (hat0 _) rfl) rfl ?_
 refine aO' 6 ?_
 (refine one_imm rfl rfl (l1MeetX_fn ts[1] ts[2] G _ _ (by assumption) (ha1 (by omega)) (ha2 (by omega)) hre1 hre2) rfl rfl rfl (fun v G1 hle1 hh => ?_); obtain ⟨mc, rfl, hmr⟩ := hh; obtain ⟨mt, hmt⟩ : ∃ mt, mMeet ts[1] ts[2] = mt := ⟨_, rfl⟩; rw [hmt] at hmr; have hma : tAr mt := (hmt ▸ meet_ar ts[1] ts[2] (by assumption) (ha1 (by omega)) (ha2 (by omega))); obtain ⟨p1, c1, e1, rfl, _⟩ := hmr.open; have hre0q := hre0.mono hle1)
 refine aO' 10 ?_
 refine one_val rfl rfl ((l3Bool_fn _)) rfl rfl rfl ?_
 refine aO' 11 ?_
 refine one_val rfl rfl ((l1ConsistentA_fn ts[0] (.mk 3 []) _ _ _ (ha0 (by omega)) (tAr_leaf (by decide) (by decide)) hre0q (tyLeaf_r _ ⟨by omega, by omega⟩))) rfl rfl rfl ?_
 refine aO' 12 ?_
 refine oT' rfl ?_
 refine aP 13 rfl (pA rfl) rfl ?_
 refine aD' ?_
 refine nS (tT (rB (rS (rF2 (rC rfl (lBa rfl rfl)) (rT rfl) ?_))))
 (obtain rfl : k = 9 := (by omega); exact TyO.mk (by rw [tySN9 (by omega), hmt]; simp_all [tyBool]) hmr hma)
 refine aP 7 rfl (pNf rfl) rfl ?_
 refine aD' ?_
 refine nS (cT rfl ?_)
 refine tS (tR (sQ (pBd rfl rfl) rfl (sS' ?_)))
 refine sQ (pA rfl) rfl (sD (nS (tT (rS (rB (rS ?_))))))
 refine rF2 (rC rfl (lBa rfl rfl)) (rT rfl) ?_
 (obtain rfl : k = 9 := (by omega); exact TyO.no (by rw [tySN9 (by omega)]; simp_all) (tyLeaf_r _ ⟨by omega, by omega⟩) (tAr_leaf (by omega) (by omega)))
 refine sQ (pA rfl) rfl (sD (nS (cF rfl ?_)))
 refine tS (tR (sB (pE rfl rfl) rfl rfl (fun h288 => ?_) (fun h288 => ?_)))
 refine sQ (pA rfl) rfl (sD (nS (cT rfl ?_)))
 refine tS ?_
 (have hl2 : ts.length = 2 := hop.1 (by omega); obtain ⟨b0, o0, q0, d0, hp0, hat0, hre0, hg0⟩ := hsl.kidTy hkl (i := 0) (by omega) (by omega); obtain ⟨b1, o1, q1, d1, hp1, hat1, hre1, hg1⟩ := hsl.kidTy hkl (i := 1) (by omega) (by omega); cases hp0; cases hp1; refine tri_draw mixed rfl ?_)
 refine any_pure (i := 0) (l' := [tt,ff,ff,ff,ff,ff,ff,ff,ff,ff,ff]) rfl npI (pM rfl) rfl (by kernel_rfl) rfl rfl ?_
 refine aP 1 rfl (pIN (j := 0) rfl rfl rfl (by omega)) rfl ?_
 refine aL 2 rfl (load_a rfl rfl (hat0 _) rfl) rfl ?_
 refine aP 3 rfl (pM rfl) rfl ?_
 refine aP 4 rfl (pIN (j := 1) rfl rfl rfl (by omega)) rfl ?_
 refine aL 5 rfl (load_a rfl rfl (hat1 _) rfl) rfl ?_
 refine aO' 6 ?_
 (refine one_imm rfl rfl (l3TwoX_fn 5 ts[0] ts[1] G _ _ (.inr rfl) (ha0 (by omega)) (ha1 (by omega)) hre0 hre1) rfl rfl rfl (fun v G1 hle1 hh => ?_); obtain ⟨mc, rfl, hmr⟩ := hh; have hma := tAr_two (.inr rfl) (ha0 (by omega)) (ha1 (by omega)); obtain ⟨p1, c1, e1, rfl, _⟩ := hmr.open)
 refine aP 7 rfl (pX rfl rfl) rfl ?_
 refine aP 8 rfl (pX rfl rfl) rfl ?_
 refine aO' 9 ?_
 refine oT' rfl ?_
 refine aP 10 rfl (pA rfl) rfl ?_
 refine aD' ?_
 refine nS (tT (rB (rS (rF2 (rC rfl (lBa rfl rfl)) (rT rfl) ?_))))
 (obtain rfl : k = 10 := (by omega); exact TyO.mk (by rw [tySN10 (by omega)]) hmr hma)
 refine sQ (pA rfl) rfl (sD (nS (cF rfl ?_)))
 refine tS (tR (sB (pE rfl rfl) rfl rfl (fun h321 => ?_) (fun h321 => ?_)))
 refine sQ (pA rfl) rfl (sD (nS (cT rfl ?_)))
 refine tS (tR (sQ (pM rfl) rfl ?_))
 (have hl1 : ts.length = 1 := hop.2.2 (by omega); obtain ⟨b0, o0, q0, d0, hp0, hat0, hre0, hg0⟩ := hsl.kidTy hkl (i := 0) (by omega) (by omega); cases hp0; refine sP (pIN (j := 0) rfl rfl rfl (by omega)) rfl rfl ?_)
 refine sL (load_a rfl rfl (hat0 _) rfl) rfl rfl ?_
 focus (refine seq_imm rfl (l3MatchX_fn 5 ts[0] G _ (.inr rfl) (ha0 (by omega)) hre0) rfl rfl (fun v G1 hle1 hh => ?_); obtain ⟨ma, mca, mb, mcb, rfl, hma, hmb, hma2, hmb2, hpp⟩ := hh; obtain ⟨p1, c1, e1, rfl, _⟩ := hma.open; obtain ⟨p2, c2, e2, rfl, _⟩ := hmb.open; rcases hm : mMatch 5 ts[0] with _ | pr; rotate_left; obtain rfl := hpp _ hm; rotate_left; all_goals simp only [Option.isSome])
 refine sQ (pM rfl) rfl (sQ (pX rfl rfl) rfl (sQ (pX rfl rfl) rfl (sQ (pX rfl rfl) rfl ?_)))
 refine sE (step_alloc rfl) rfl (fun b336 => ?_)
 refine sE (step_alloc rfl) rfl (fun b337 => ?_)
 refine sS' ?_
 refine sS' ?_
 refine sQ (pA rfl) rfl (sD (nS (tS (tR (sL (lBa rfl rfl) rfl rfl ?_)))))
 refine sQ (pM rfl) rfl (sS' ?_)
 refine sQ (pA rfl) rfl (sD (nS (tT (rB (rS (rF2 (rC rfl (lBa rfl rfl)) (rT rfl) ?_))))))
 (have hk11 : k = 11 := (by omega); exact TyO.no (by rw [tySN11 (.inl hk11) (by omega), hm]) hma hma2)
 refine sQ (pM rfl) rfl (sQ (pX rfl rfl) rfl (sQ (pX rfl rfl) rfl (sQ (pX rfl rfl) rfl ?_)))
 refine sE (step_alloc rfl) rfl (fun b360 => ?_)
 refine sE (step_alloc rfl) rfl (fun b361 => ?_)
 refine sS' ?_
 refine sS' ?_
 refine sQ (pA rfl) rfl (sD (nS (tS (tR (sL (lBa rfl rfl) rfl rfl ?_)))))
 refine sQ (pM rfl) rfl (sS' ?_)
 refine sQ (pA rfl) rfl (sD (nS (tT (rB (rS (rF2 (rC rfl (lBa rfl rfl)) (rT rfl) ?_))))))
 (have hk11 : k = 11 := (by omega); exact TyO.yes (by rw [tySN11 (.inl hk11) (by omega), hm]; simp only; rw [if_neg (by omega)]) hma hma2)
 refine sQ (pA rfl) rfl (sD (nS (cF rfl ?_)))
 refine tS (tR (sB (pE rfl rfl) rfl rfl (fun h386 => ?_) (fun h386 => ?_)))
 refine sQ (pA rfl) rfl (sD (nS (cT rfl ?_)))
 refine tS (tR (sQ (pM rfl) rfl ?_))
 (have hl1 : ts.length = 1 := hop.2.2 (by omega); obtain ⟨b0, o0, q0, d0, hp0, hat0, hre0, hg0⟩ := hsl.kidTy hkl (i := 0) (by omega) (by omega); cases hp0; refine sP (pIN (j := 0) rfl rfl rfl (by omega)) rfl rfl ?_)
 refine sL (load_a rfl rfl (hat0 _) rfl) rfl rfl ?_
 focus (refine seq_imm rfl (l3MatchX_fn 5 ts[0] G _ (.inr rfl) (ha0 (by omega)) hre0) rfl rfl (fun v G1 hle1 hh => ?_); obtain ⟨ma, mca, mb, mcb, rfl, hma, hmb, hma2, hmb2, hpp⟩ := hh; obtain ⟨p1, c1, e1, rfl, _⟩ := hma.open; obtain ⟨p2, c2, e2, rfl, _⟩ := hmb.open; rcases hm : mMatch 5 ts[0] with _ | pr; rotate_left; obtain rfl := hpp _ hm; rotate_left; all_goals simp only [Option.isSome])
 refine sQ (pM rfl) rfl (sQ (pX rfl rfl) rfl (sQ (pX rfl rfl) rfl (sQ (pX rfl rfl) rfl ?_)))
 refine sE (step_alloc rfl) rfl (fun b401 => ?_)
 refine sE (step_alloc rfl) rfl (fun b402 => ?_)
 refine sS' ?_
 refine sS' ?_
 refine sQ (pA rfl) rfl (sD (nS (tS (tR (sL (lBa rfl rfl) rfl rfl ?_)))))
 refine sQ (pM rfl) rfl (sS' ?_)
 refine sQ (pA rfl) rfl (sD (nS (tT (rB (rS (rF2 (rC rfl (lBa rfl rfl)) (rT rfl) ?_))))))
 (have hk12 : k = 12 := (by omega); exact TyO.no (by rw [tySN11 (.inr hk12) (by omega), hm]) hmb hmb2)
 refine sQ (pM rfl) rfl (sQ (pX rfl rfl) rfl (sQ (pX rfl rfl) rfl (sQ (pX rfl rfl) rfl ?_)))
 refine sE (step_alloc rfl) rfl (fun b425 => ?_)
 refine sE (step_alloc rfl) rfl (fun b426 => ?_)
 refine sS' ?_
 refine sS' ?_
 refine sQ (pA rfl) rfl (sD (nS (tS (tR (sL (lBa rfl rfl) rfl rfl ?_)))))
 refine sQ (pM rfl) rfl (sS' ?_)
 refine sQ (pA rfl) rfl (sD (nS (tT (rB (rS (rF2 (rC rfl (lBa rfl rfl)) (rT rfl) ?_))))))
 (have hk12 : k = 12 := (by omega); exact TyO.yes (by rw [tySN11 (.inr hk12) (by omega), hm]; simp only; rw [if_pos (by omega)]) hmb hmb2)
 refine sQ (pA rfl) rfl (sD (nS (cF rfl ?_)))
 refine tS (tR (sP (pure_eql_t rfl rfl (by omega)) rfl rfl ?_))
 refine sQ (pA rfl) rfl (sD (nS (cT rfl ?_)))
 refine tS ?_
 (have hl1 : ts.length = 1 := hop.2.2 (by omega); obtain ⟨b0, o0, q0, d0, hp0, hat0, hre0, hg0⟩ := hsl.kidTy hkl (i := 0) (by omega) (by omega); cases hp0; refine tri_draw mixed rfl ?_)
 refine any_pure (i := 0) (l' := [tt,ff,ff,ff,ff,ff,ff,ff,ff,ff,ff]) rfl npI (pF0 rfl) rfl (by kernel_rfl) rfl rfl ?_
 refine aL 1 rfl (lBa rfl rfl) rfl ?_
 refine aP 3 rfl (pM rfl) rfl ?_
 refine aP 4 rfl (pIN (j := 0) rfl rfl rfl (by omega)) rfl ?_
 refine aL 5 rfl (load_a rfl rfl (hat0 _) rfl) rfl ?_
 refine aP 6 rfl (pF0 rfl) rfl ?_
 refine aL 7 rfl (lBa rfl rfl) rfl ?_
 refine aO' 2 ?_
 (refine one_imm rfl rfl (l1Copy_fn (.mk tk tks) G _ hty.small hrty) rfl rfl rfl (fun v G1 hle1 hh => ?_); obtain ⟨cs1, F1, rfl, hs1, hn1⟩ := hh; obtain ⟨p1, c1, rfl, _⟩ := hs1.open; have hmr := hs1.R.mono (Dif.le G1 G); have hre0q := hre0.mono hle1; have hrtyq := hrty.mono hle1)
 refine aO' 8 ?_
 refine one_val rfl rfl ((l1ConsistentA_fn ts[0] (.mk tk tks) _ _ _ (ha0 (by omega)) hty hre0q hrtyq)) rfl rfl rfl ?_
 refine aO' 9 ?_
 refine oT' rfl ?_
 refine aP 10 rfl (pA rfl) rfl ?_
 refine aD' ?_
 refine nS (tT (rB (rS (rF2 (rC rfl (lBa rfl rfl)) (rT rfl) ?_))))
 (obtain rfl : k = 13 := (by omega); exact TyO.mk (by rw [tySN13 (by omega)]) hmr hty)
section fin
variable {P : Program} {Γ : Ctx} {env : Env} {hp : List Ent} {G : IM}
theorem ret_own3 {r r2 r3 : ResultVar} {post : IM → Value → List Ent → Prop} {v v2 v3 : Value} {outs : List Ent} (h : ResOne P Γ ⟨env, hp, G⟩ r v) (h2 : ResOne P Γ ⟨env, hp, G⟩ r2 v2) (h3 : ResOne P Γ ⟨env, hp, G⟩ r3 v3) (ho : SubH hp outs) (hk : post G (.tuple ⟨[v, v2, v3]⟩) outs) :
  retK P Γ [r, r2, r3] post .ret ⟨env, hp, G⟩ := ret_fin (.cons h (.cons h2 (.cons h3 .nil))) ho.spec hk
end fin
/-- A term, perhaps cast; labels are counted. -/
def CsP (bx : Nat) (e : Tm) (a b : Ty) (l : Int) : IM → Value → List Ent → Prop := fun G' v outs => ∃ cells, v = .agg ⟨cells⟩ ∧ outs = [.blk bx [.int .i64 (if tSame a b = true then l else l + 1)]] ∧ RTm G' (if tSame a b = true then e else mCst e a b (l + 1)) cells
theorem CsP.yes {G : IM} {bx : Nat} {e : Tm} {a b : Ty} {l : Int} {cells : List Value} (h : tSame a b = true) (hr : RTm G e cells) : CsP bx e a b l G (.agg ⟨cells⟩) [.blk bx [.int .i64 l]] := ⟨cells, rfl, by rw [if_pos h], by rw [if_pos h]; exact hr⟩
theorem CsP.no {G : IM} {bx : Nat} {e : Tm} {a b : Ty} {l : Int} {cells : List Value} (h : tSame a b = false) (hr : RTm G (mCst e a b (l + 1)) cells) : CsP bx e a b l G (.agg ⟨cells⟩) [.blk bx [.int .i64 (l + 1)]] := ⟨cells, rfl, by rw [if_neg (by rw [h]; decide)], by rw [if_neg (by rw [h]; decide)]; exact hr⟩
theorem elCast_fn (bx : Nat) (e : Tm) (a b : Ty) (l : Int) (G : IM) (ce ca cb : List Value) (hl : -1000000000000 ≤ l ∧ l ≤ 1000000000000) (hre : RTm G e ce) (hra : RTy G a ca) (hrb : RTy G b cb) :
  Fn Tryz.prog 91 [.pointer (some ⟨bx, 0, none⟩), .agg ⟨ce⟩, .agg ⟨ca⟩, .agg ⟨cb⟩] [.blk bx [.int .i64 l]] G (CsP bx e a b l) := by
 have hel := hre.len
 have heo := hre.one
 have hS := typeSameX_fn a b G ca cb hra hrb
 obtain ⟨v1, v2, v3, v4, v5, v6, v7, v8, v9, rfl⟩ := nine hel
 obtain ⟨ak, aks⟩ := a
 obtain ⟨bk, bks⟩ := b
 obtain ⟨pa, cca, ea, rfl, hka, _⟩ := hra.open
 obtain ⟨pb, ccb, eb, rfl, hkb, _⟩ := hrb.open
 refine fn_enter Tryz.func91 rfl Tryz.ntmps91 Tryz.results91 rfl ?_
 intro w0
 refine tS (tR ?_)
 refine sE (step_box_a rfl rfl) rfl (fun b3 => ?_)
 refine sE (step_box_a rfl rfl) rfl (fun b4 => ?_)
 refine sE (step_box_a rfl rfl) rfl (fun b5 => ?_)
 refine sE (step_alloc rfl) rfl (fun b6 => ?_)
 refine sD (nS (tS (tS (tR (sL (lBa rfl rfl) rfl rfl ?_)))))
 refine sL (lBa rfl rfl) rfl rfl ?_
 refine seq_valb rfl (hS) rfl rfl (fun h14 => ?_) (fun h14 => ?_)
 refine sD (nS (cT rfl ?_))
 refine tS (tR (sL (load_a rfl rfl (at_blk_all (by repeat first | exact mH | apply mT)) hel) rfl rfl ?_))
 refine sS rfl rfl rfl hel heo rfl ?_ (hu := by exact upd_all hel.symm)
 refine sD (nS (tT (rS (ret_own1 (outs := [.blk bx [.int .i64 _]]) (rC rfl (lBa rfl rfl)) (SubH.cons (by repeat (first | exact Pk.here | apply Pk.there)) SubH.nil) ?_))))
 (exact CsP.yes (by assumption) hre)
 refine sD (nS (cF rfl ?_))
 refine tK (nS (tS (tR (sQ (pM rfl) rfl (sQ (pure_nilCheck rfl) rfl (sQ (pF0 rfl) rfl ?_))))))
 refine sL (lBs rfl rfl) rfl rfl ?_
 refine sP (pure_add rfl rfl (by omega) (by omega)) rfl rfl ?_
 refine sQ (pure_nilCheck rfl) rfl (sQ (pF0 rfl) rfl (sS' ?_))
 refine sD (nS (tS (tri_draw mixed rfl ?_)))
 refine any_load (i := 6) (l' := [ff,ff,ff,ff,ff,ff,tt,ff,ff,ff]) rfl npI (load_a rfl rfl (at_blk_all (by repeat first | exact mH | apply mT)) hel) rfl (by kernel_rfl) rfl rfl ?_
 refine aL 0 rfl (lBa rfl rfl) rfl ?_
 refine aL 1 rfl (lBa rfl rfl) rfl ?_
 refine aP 2 rfl (pM rfl) rfl ?_
 refine aP 3 rfl (pure_nilCheck rfl) rfl ?_
 refine aP 4 rfl (pF0 rfl) rfl ?_
 refine aL 5 rfl (lBs rfl rfl) rfl ?_
 refine aO' 7 ?_
 (refine one_step0 rfl (step_buildSlice rfl rfl rfl (by omega) (by unfold maxLen; omega) rfl) rfl rfl ?_; rintro _ ⟨b55, rfl⟩)
 refine aP 8 rfl (pBd rfl rfl) rfl ?_
 refine aO' 9 ?_
 refine oT' rfl ?_
 refine aD' ?_
 refine nS ?_
 (refine ret_freeze (cs := [v1, v2, v3, v4, v5, v6, v7, v8, v9]) (by repeat (first | exact Pk.here | apply Pk.there)) (fun G2 hle2 hsl2 hno2 => ?_))
 refine tT (ret_own1 (outs := [.blk bx [.int .i64 _]]) (rC rfl (lBa rfl rfl)) (SubH.cons (by repeat (first | exact Pk.here | apply Pk.there)) SubH.nil) ?_)
 (exact CsP.no (by assumption) (RTm.put (us := [e]) (es := [[v1, v2, v3, v4, v5, v6, v7, v8, v9]]) ⟨by decide, by decide⟩ ⟨by decide, by decide⟩ ⟨by omega, by omega⟩ (hrb.mono hle2) (hra.mono hle2) rfl (SlE.of hsl2 rfl (by intro x hx; obtain rfl := List.mem_singleton.1 hx; rfl) (by intro x hx; obtain rfl := List.mem_singleton.1 hx; exact heo)) (by simp only [RTmL]; exact ⟨_, _, rfl, hre.mono hle2, rfl⟩)))
end Gw
end Go.Proofs.YtmnfamimopcldaaGreatDoor
