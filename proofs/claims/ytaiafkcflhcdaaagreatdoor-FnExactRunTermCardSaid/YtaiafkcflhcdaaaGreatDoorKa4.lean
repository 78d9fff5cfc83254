/-
  The program's evaluator: the rules of casts, selections and casts themselves. Nodes replaced: the program's put, the reference model's l16Replace. The program's evaluator: a step. The program's evaluator: step. The program's evaluator: StepCast, runs of steps, their results. Casts put into a term, in plain words. The reference's types are those of the insertion. The reference's typing, exactly. The reference's typing, exactly: meets, the types of nodes. Casts put into a term: operand by operand. The reference model's replacing of nodes.
-/
import Derived.Test.YtaiafkcflhcdaaaGreatDoorKa3
import Derived.Test.YtaiafkcflhcdaaaGreatDoorKa2
namespace Go.Proofs.YtaiafkcflhcdaaaGreatDoor
open Go Go.RowKit
namespace Gw
set_option maxHeartbeats 0 in
set_option maxRecDepth 100000 in
theorem crule11_fn (k : Int) (a : Tm) (nm : ByteArray) (num : Int) (ty fr : Ty) (lb : Int) (G : IM) (cells : List Value) (hk1 : k = 11 ∨ k = 12) (hca : cv a) (hr : RTm G (.mk k nm num ty fr lb [a]) cells) : Fn Tryz.prog 194 [.agg ⟨cells⟩] [] G (StpP (mCRule k ty fr lb [a])) := by
 obtain ⟨ak, anm, anum, ⟨atk, atks⟩, ⟨afk, afks⟩, alb, aks⟩ := a
 obtain ⟨hN, hkk⟩ := hca.node
 have hops := hN.ops
 have hbl := hN.lbB
 have htyA := hN.tyA
 have hfrA := hN.frA
 rw [tAr] at htyA hfrA
 have h14 : ak = 14 → aks.length = 1 := fun h => by rw [h] at hops; have : tmOps 14 = 1 := rfl; omega
 obtain ⟨tk, tks⟩ := ty
 obtain ⟨fk, fks⟩ := fr
 obtain ⟨pt, ct, pf, cf, p, c, es, rfl, hk, hnum, hlb, hty, hfr, hsl, hkl⟩ := hr.open9
 obtain ⟨bx, ox, e0, rfl, hl0, hat0, hre0, hgb0⟩ := hsl.kidTm hkl (i := 0) (by simp) (by simp)
 replace hre0 : RTm G (Tm.mk ak anm anum (.mk atk atks) (.mk afk afks) alb aks) e0 := hre0
 have hP : Fn Tryz.prog 94 [.agg ⟨e0⟩] [] G (Val (.bool (decide (ak = 14 ∧ afk = atk ∧ (atk = 4 ∨ atk = 5)))) G) := isProxy_fn _ G _ hre0
 have hI := isInjection_fn _ G _ hre0
 have ho0 := hre0.one
 obtain ⟨apt, act, apf, acf, ap, ac, aes, rfl, hak, hanum, halb, haty, hafr, hasl, hakl⟩ := hre0.open9
 have hfk64 : I64 fk := by obtain ⟨_, _, _, _, h, _⟩ := hfr.open; exact h
 have htk64 : I64 tk := by obtain ⟨_, _, _, _, h, _⟩ := hty.open; exact h
 obtain ⟨tes, htS, htL⟩ := haty.kids
 obtain ⟨fes, hfS, hfL⟩ := hafr.kids
 simp only [Ty.ks] at htS htL hfS hfL
 obtain ⟨i, hi⟩ : ∃ i : Nat, (k - 11).toNat = i := ⟨_, rfl⟩
 have hR : mCRule k (.mk tk tks) (.mk fk fks) lb [Tm.mk ak anm anum (.mk atk atks) (.mk afk afks) alb aks] = (if (ak = 14 ∧ afk = atk ∧ (atk = 4 ∨ atk = 5)) ∧ atk = 5 then (mCst (mNod k [kd aks 0]) (kt afks i) (kt atks i) alb, 1, 0) else stuck) := by
  unfold mCRule
  rw [if_neg (by omega), if_pos hk1, hi, show kd [Tm.mk ak anm anum (.mk atk atks) (.mk afk afks) alb aks] 0 = Tm.mk ak anm anum (.mk atk atks) (.mk afk afks) alb aks from rfl, prx_mk]
  simp only [decide_eq_true_eq]
  rfl
 rw [hR]
 refine fn_enter Tryz.func194 rfl Tryz.ntmps194 Tryz.results194 rfl ?_
 intro w0
 refine tS (tR ?_)
 (refine seq_step (step_box_a rfl rfl) rfl ?_; rintro _ ⟨b3, rfl⟩)
 (refine seq_step (step_alloc rfl) rfl ?_; rintro _ ⟨b4, rfl⟩)
 refine sP (pA rfl) rfl rfl (sP (pA rfl) rfl rfl (sD (nS (tS (tR (sP (pF0 rfl) rfl rfl ?_))))))
 refine sL (lBs rfl rfl) rfl rfl ?_
 refine sP (pIN (j := 0) rfl rfl rfl (by simp)) rfl rfl ?_
 refine sL (load_a rfl rfl (hat0 _) rfl) rfl rfl ?_
 (refine seq_step (step_alloc rfl) rfl ?_; rintro _ ⟨b15, rfl⟩)
 refine sS rfl rfl rfl rfl rfl rfl ?_
 refine sD (nS (tS (tri_block (tS (tR (sP (pF0 rfl) rfl rfl ?_))))))
 refine sL (lBs rfl rfl) rfl rfl ?_
 refine sP (pure_eql_f rfl rfl (by omega)) rfl rfl ?_
 refine sP (pM rfl) rfl rfl (sK rfl rfl (sK rfl rfl (sP (pPf rfl rfl) rfl rfl (sP (pM rfl) rfl rfl (sK rfl rfl (sK rfl rfl ?_))))))
 refine sK rfl rfl (sK rfl rfl (sP (pPf rfl rfl) rfl rfl (sP (pA rfl) rfl rfl (sD (nS (cF rfl ?_))))))
 refine tS (tR (sP (pF0 rfl) rfl rfl (sL (lBs rfl rfl) rfl rfl ?_)))
 refine sB (pE rfl rfl) rfl rfl (fun h44 => ?_) (fun h44 => ?_)
 refine sP (pM rfl) rfl rfl (sK rfl rfl (sK rfl rfl (sK rfl rfl (sP (pPt rfl rfl) rfl rfl (sP (pM rfl) rfl rfl (sL (lBa rfl rfl) rfl rfl ?_))))))
 focus (by_cases hpx : (ak = 14 ∧ afk = atk ∧ (atk = 4 ∨ atk = 5)); rw [decide_eq_true hpx] at hP; rotate_left; rw [decide_eq_false hpx] at hP; rotate_left; all_goals (refine seq_val rfl hP rfl rfl ?_))
 refine sP (pPt rfl rfl) rfl rfl (sP (pM rfl) rfl rfl (sP (pF0 rfl) rfl rfl (sP (pF rfl) rfl rfl (sL (lBs rfl rfl) rfl rfl ?_))))
 refine sB (pE rfl rfl) rfl rfl (fun h58 => ?_) (fun h58 => ?_)
 refine sP (pPt rfl rfl) rfl rfl (sP (pA rfl) rfl rfl (sD (nS (cT rfl ?_))))
 refine tS (tR (sP (pF0 rfl) rfl rfl (sL (lBs rfl rfl) rfl rfl ?_)))
 refine sP (pure_sub rfl rfl (by omega) (by omega)) rfl rfl ?_
 refine sP (pA rfl) rfl rfl (sD (nS (tS ?_)))
 (have hq : (ak = 14 ∧ afk = atk ∧ (atk = 4 ∨ atk = 5)) ∧ atk = 5 := ⟨hpx, by omega⟩; have hq1 := h14 hq.1.1; have hq2 := htyA.1 (by omega); have hq3 := hfrA.1 (by omega); rw [show (k - 11 : Int) = ((i : Nat) : Int) from (by omega)]; obtain ⟨bq, oq, e3, rfl, hl3, hat3, hre3, hgb3⟩ := hasl.kidTm hakl (i := 0) (by omega) (by omega); have ho3 := hre3.one; obtain ⟨b5, o5, q5, d5, rfl, hat5, hre5, hgb5⟩ := htS.kidTy htL (i := i) (by omega) (by omega); obtain ⟨b7, o7, q7, d7, rfl, hat7, hre7, hgb7⟩ := hfS.kidTy hfL (i := i) (by omega) (by omega); obtain ⟨x1, x2, x3, x4, x5, x6, x7, x8, x9, rfl⟩ := nine hl3; refine tri_draw mixed rfl ?_)
 refine any_pure (i := 0) (l' := [tt,ff,ff,ff,ff,ff,ff,ff,ff,ff,ff,ff,ff,ff,ff,ff,ff,ff,ff,ff,ff,ff,ff,ff,ff,ff]) rfl npI (pF0 rfl) rfl (by kernel_rfl) rfl rfl ?_
 refine aL 1 rfl (lBs rfl rfl) rfl rfl ?_
 refine aP 2 rfl (pF0 rfl) rfl rfl ?_
 refine aL 3 rfl (lBs rfl rfl) rfl rfl ?_
 refine aP 4 rfl (pIN (j := 0) rfl rfl rfl (by omega)) rfl rfl ?_
 refine aL 5 rfl (load_a rfl rfl (hat3 _) rfl) rfl rfl ?_
 refine aP 8 rfl (pF0 rfl) rfl rfl ?_
 refine aP 9 rfl (pF rfl) rfl rfl ?_
 refine aL 10 rfl (lBs rfl rfl) rfl rfl ?_
 refine aP 11 rfl (pM rfl) rfl rfl ?_
 refine aP 12 rfl (pIN (j := i) rfl rfl rfl (by omega)) rfl rfl ?_
 refine aL 13 rfl (load_a rfl rfl (hat7 _) rfl) rfl rfl ?_
 refine aP 14 rfl (pF0 rfl) rfl rfl ?_
 refine aP 15 rfl (pF rfl) rfl rfl ?_
 refine aL 16 rfl (lBs rfl rfl) rfl rfl ?_
 refine aP 17 rfl (pM rfl) rfl rfl ?_
 refine aP 18 rfl (pIN (j := i) rfl rfl rfl (by omega)) rfl rfl ?_
 refine aL 19 rfl (load_a rfl rfl (hat5 _) rfl) rfl rfl ?_
 refine aP 20 rfl (pF0 rfl) rfl rfl ?_
 refine aL 21 rfl (lBs rfl rfl) rfl rfl ?_
 refine aO (j := 6) (by kernel_rfl) ?_
 (refine one_step0 (l' := [tt,tt,tt,tt,tt,tt,tt,ff,tt,tt,tt,tt,tt,tt,tt,tt,tt,tt,tt,tt,tt,tt,ff,ff,ff,ff]) rfl (step_buildSlice rfl rfl rfl (by omega) (by unfold maxLen; omega) rfl) rfl rfl ?_; rintro _ ⟨b95, rfl⟩)
 refine aO (j := 7) (by kernel_rfl) ?_
 (refine one_freeze (cs := [x1, x2, x3, x4, x5, x6, x7, x8, x9]) (by repeat (first | exact Pk.here | apply Pk.there)) (fun G2 hle2 hsl2 hno2 => ?_); have hrN := rtm_nod (k := k) (ks := [aks[0]]) (es := [[x1, x2, x3, x4, x5, x6, x7, x8, x9]]) hk rfl (SlE.of hsl2 rfl (by simp) (by intro x hx; obtain rfl := List.mem_singleton.1 hx; exact ho3)) (by simp only [RTmL]; exact ⟨_, _, rfl, hre3.mono hle2, rfl⟩); replace hre5 := hre5.mono hle2; replace hre7 := hre7.mono hle2; refine one_val (l' := [tt,tt,tt,tt,tt,tt,tt,tt,tt,tt,tt,tt,tt,tt,tt,tt,tt,tt,tt,tt,tt,tt,ff,ff,ff,ff]) rfl rfl (node_fn _ _ _ _ _) rfl rfl rfl ?_)
 refine aO (j := 22) (by kernel_rfl) ?_
 (refine one_imm (l' := [tt,tt,tt,tt,tt,tt,tt,tt,tt,tt,tt,tt,tt,tt,tt,tt,tt,tt,tt,tt,tt,tt,tt,ff,ff,ff]) rfl rfl (casted_fn _ afks[i] atks[i] alb G2 _ _ _ ⟨by omega, by omega⟩ hrN hre7 hre5) rfl rfl rfl (fun u G3 hle3 hh => ?_); obtain ⟨wc, rfl, hrw⟩ := hh; have hwl := hrw.len; have hwo := hrw.one)
 refine aO (j := 23) (by kernel_rfl) ?_
 (refine oS rfl rfl rfl rfl hwl hwo rfl rfl ?_ (hu := by exact upd_all hwl.symm))
 refine aP 24 rfl (pA rfl) rfl rfl ?_
 refine aP 25 rfl (pA rfl) rfl rfl ?_
 refine aD (by kernel_rfl) ?_
 refine nS (tT (rB (rS (rF3 (rC rfl (load_a rfl rfl (at_blk_all (by repeat first | exact mH | apply mT)) hwl)) (rT rfl) (rT rfl) ?_))))
 (exact StpP.mk (by rw [if_pos hq, kd_at (by omega), kt_at (by omega), kt_at (by omega)]) hrw)
 refine sP (pPt rfl rfl) rfl rfl (sP (pA rfl) rfl rfl (sD (nS (cF rfl ?_))))
 refine tS (tR (sP (pF0 rfl) rfl rfl (sL (lBs rfl rfl) rfl rfl ?_)))
 refine sP (pure_neq_t rfl rfl (by omega)) rfl rfl ?_
 refine sP (pA rfl) rfl rfl (sD (nS (cT rfl ?_)))
 refine tS (tR (sP (pBd rfl rfl) rfl rfl (sS rfl rfl rfl rfl rfl rfl ?_)))
 refine sP (pA rfl) rfl rfl (sP (pA rfl) rfl rfl (sD (nS (tT (rB (rS ?_))))))
 refine rF3 (rC rfl (lBa rfl rfl)) (rT rfl) (rT rfl) ?_
 (exact StpP.mk (by rw [if_neg (by omega)]; rfl) (tm0_r _))
 refine sP (pPt rfl rfl) rfl rfl (sP (pM rfl) rfl rfl (sK rfl rfl (sK rfl rfl (sK rfl rfl (sK rfl rfl (sP (pPf rfl rfl) rfl rfl ?_))))))
 refine sP (pA rfl) rfl rfl (sD (nS (cF rfl ?_)))
 refine tS (tR (sP (pF0 rfl) rfl rfl (sL (lBs rfl rfl) rfl rfl ?_)))
 refine sP (pure_neq_t rfl rfl (by omega)) rfl rfl ?_
 refine sP (pA rfl) rfl rfl (sD (nS (cT rfl ?_)))
 refine tS (tR (sP (pBd rfl rfl) rfl rfl (sS rfl rfl rfl rfl rfl rfl ?_)))
 refine sP (pA rfl) rfl rfl (sP (pA rfl) rfl rfl (sD (nS (tT (rB (rS ?_))))))
 refine rF3 (rC rfl (lBa rfl rfl)) (rT rfl) (rT rfl) ?_
 (exact StpP.mk (by rw [if_neg (by omega)]; rfl) (tm0_r _))
 refine sP (pM rfl) rfl rfl (sP (pF0 rfl) rfl rfl (sL (lBs rfl rfl) rfl rfl ?_))
 refine sP (pure_eql_t rfl rfl (by omega)) rfl rfl ?_
 refine sP (pPf rfl rfl) rfl rfl (sP (pM rfl) rfl rfl (sL (lBa rfl rfl) rfl rfl ?_))
 focus (by_cases hpx : (ak = 14 ∧ afk = atk ∧ (atk = 4 ∨ atk = 5)); rw [decide_eq_true hpx] at hP; rotate_left; rw [decide_eq_false hpx] at hP; rotate_left; all_goals (refine seq_val rfl hP rfl rfl ?_))
 refine sP (pPt rfl rfl) rfl rfl (sP (pM rfl) rfl rfl (sP (pF0 rfl) rfl rfl (sP (pF rfl) rfl rfl (sL (lBs rfl rfl) rfl rfl ?_))))
 refine sB (pE rfl rfl) rfl rfl (fun h184 => ?_) (fun h184 => ?_)
 refine sP (pPt rfl rfl) rfl rfl (sP (pA rfl) rfl rfl (sD (nS (cT rfl ?_))))
 refine tS (tR (sP (pF0 rfl) rfl rfl (sL (lBs rfl rfl) rfl rfl ?_)))
 refine sP (pure_sub rfl rfl (by omega) (by omega)) rfl rfl ?_
 refine sP (pA rfl) rfl rfl (sD (nS (tS ?_)))
 (have hq : (ak = 14 ∧ afk = atk ∧ (atk = 4 ∨ atk = 5)) ∧ atk = 5 := ⟨hpx, by omega⟩; have hq1 := h14 hq.1.1; have hq2 := htyA.1 (by omega); have hq3 := hfrA.1 (by omega); rw [show (k - 11 : Int) = ((i : Nat) : Int) from (by omega)]; obtain ⟨bq, oq, e3, rfl, hl3, hat3, hre3, hgb3⟩ := hasl.kidTm hakl (i := 0) (by omega) (by omega); have ho3 := hre3.one; obtain ⟨b5, o5, q5, d5, rfl, hat5, hre5, hgb5⟩ := htS.kidTy htL (i := i) (by omega) (by omega); obtain ⟨b7, o7, q7, d7, rfl, hat7, hre7, hgb7⟩ := hfS.kidTy hfL (i := i) (by omega) (by omega); obtain ⟨x1, x2, x3, x4, x5, x6, x7, x8, x9, rfl⟩ := nine hl3; refine tri_draw mixed rfl ?_)
 refine any_pure (i := 0) (l' := [tt,ff,ff,ff,ff,ff,ff,ff,ff,ff,ff,ff,ff,ff,ff,ff,ff,ff,ff,ff,ff,ff,ff,ff,ff,ff]) rfl npI (pF0 rfl) rfl (by kernel_rfl) rfl rfl ?_
 refine aL 1 rfl (lBs rfl rfl) rfl rfl ?_
 refine aP 2 rfl (pF0 rfl) rfl rfl ?_
 refine aL 3 rfl (lBs rfl rfl) rfl rfl ?_
 refine aP 4 rfl (pIN (j := 0) rfl rfl rfl (by omega)) rfl rfl ?_
 refine aL 5 rfl (load_a rfl rfl (hat3 _) rfl) rfl rfl ?_
 refine aP 8 rfl (pF0 rfl) rfl rfl ?_
 refine aP 9 rfl (pF rfl) rfl rfl ?_
 refine aL 10 rfl (lBs rfl rfl) rfl rfl ?_
 refine aP 11 rfl (pM rfl) rfl rfl ?_
 refine aP 12 rfl (pIN (j := i) rfl rfl rfl (by omega)) rfl rfl ?_
 refine aL 13 rfl (load_a rfl rfl (hat7 _) rfl) rfl rfl ?_
 refine aP 14 rfl (pF0 rfl) rfl rfl ?_
 refine aP 15 rfl (pF rfl) rfl rfl ?_
 refine aL 16 rfl (lBs rfl rfl) rfl rfl ?_
 refine aP 17 rfl (pM rfl) rfl rfl ?_
 refine aP 18 rfl (pIN (j := i) rfl rfl rfl (by omega)) rfl rfl ?_
 refine aL 19 rfl (load_a rfl rfl (hat5 _) rfl) rfl rfl ?_
 refine aP 20 rfl (pF0 rfl) rfl rfl ?_
 refine aL 21 rfl (lBs rfl rfl) rfl rfl ?_
 refine aO (j := 6) (by kernel_rfl) ?_
 (refine one_step0 (l' := [tt,tt,tt,tt,tt,tt,tt,ff,tt,tt,tt,tt,tt,tt,tt,tt,tt,tt,tt,tt,tt,tt,ff,ff,ff,ff]) rfl (step_buildSlice rfl rfl rfl (by omega) (by unfold maxLen; omega) rfl) rfl rfl ?_; rintro _ ⟨b221, rfl⟩)
 refine aO (j := 7) (by kernel_rfl) ?_
 (refine one_freeze (cs := [x1, x2, x3, x4, x5, x6, x7, x8, x9]) (by repeat (first | exact Pk.here | apply Pk.there)) (fun G2 hle2 hsl2 hno2 => ?_); have hrN := rtm_nod (k := k) (ks := [aks[0]]) (es := [[x1, x2, x3, x4, x5, x6, x7, x8, x9]]) hk rfl (SlE.of hsl2 rfl (by simp) (by intro x hx; obtain rfl := List.mem_singleton.1 hx; exact ho3)) (by simp only [RTmL]; exact ⟨_, _, rfl, hre3.mono hle2, rfl⟩); replace hre5 := hre5.mono hle2; replace hre7 := hre7.mono hle2; refine one_val (l' := [tt,tt,tt,tt,tt,tt,tt,tt,tt,tt,tt,tt,tt,tt,tt,tt,tt,tt,tt,tt,tt,tt,ff,ff,ff,ff]) rfl rfl (node_fn _ _ _ _ _) rfl rfl rfl ?_)
 refine aO (j := 22) (by kernel_rfl) ?_
 (refine one_imm (l' := [tt,tt,tt,tt,tt,tt,tt,tt,tt,tt,tt,tt,tt,tt,tt,tt,tt,tt,tt,tt,tt,tt,tt,ff,ff,ff]) rfl rfl (casted_fn _ afks[i] atks[i] alb G2 _ _ _ ⟨by omega, by omega⟩ hrN hre7 hre5) rfl rfl rfl (fun u G3 hle3 hh => ?_); obtain ⟨wc, rfl, hrw⟩ := hh; have hwl := hrw.len; have hwo := hrw.one)
 refine aO (j := 23) (by kernel_rfl) ?_
 (refine oS rfl rfl rfl rfl hwl hwo rfl rfl ?_ (hu := by exact upd_all hwl.symm))
 refine aP 24 rfl (pA rfl) rfl rfl ?_
 refine aP 25 rfl (pA rfl) rfl rfl ?_
 refine aD (by kernel_rfl) ?_
 refine nS (tT (rB (rS (rF3 (rC rfl (load_a rfl rfl (at_blk_all (by repeat first | exact mH | apply mT)) hwl)) (rT rfl) (rT rfl) ?_))))
 (exact StpP.mk (by rw [if_pos hq, kd_at (by omega), kt_at (by omega), kt_at (by omega)]) hrw)
 refine sP (pPt rfl rfl) rfl rfl (sP (pA rfl) rfl rfl (sD (nS (cF rfl ?_))))
 refine tS (tR (sP (pF0 rfl) rfl rfl (sL (lBs rfl rfl) rfl rfl ?_)))
 refine sP (pure_neq_t rfl rfl (by omega)) rfl rfl ?_
 refine sP (pA rfl) rfl rfl (sD (nS (cT rfl ?_)))
 refine tS (tR (sP (pBd rfl rfl) rfl rfl (sS rfl rfl rfl rfl rfl rfl ?_)))
 refine sP (pA rfl) rfl rfl (sP (pA rfl) rfl rfl (sD (nS (tT (rB (rS ?_))))))
 refine rF3 (rC rfl (lBa rfl rfl)) (rT rfl) (rT rfl) ?_
 (exact StpP.mk (by rw [if_neg (by omega)]; rfl) (tm0_r _))
 refine sP (pPt rfl rfl) rfl rfl (sP (pM rfl) rfl rfl (sK rfl rfl (sK rfl rfl (sK rfl rfl (sK rfl rfl (sP (pPf rfl rfl) rfl rfl ?_))))))
 refine sP (pA rfl) rfl rfl (sD (nS (cF rfl ?_)))
 refine tS (tR (sP (pF0 rfl) rfl rfl (sL (lBs rfl rfl) rfl rfl ?_)))
 refine sP (pure_neq_t rfl rfl (by omega)) rfl rfl ?_
 refine sP (pA rfl) rfl rfl (sD (nS (cT rfl ?_)))
 refine tS (tR (sP (pBd rfl rfl) rfl rfl (sS rfl rfl rfl rfl rfl rfl ?_)))
 refine sP (pA rfl) rfl rfl (sP (pA rfl) rfl rfl (sD (nS (tT (rB (rS ?_))))))
 refine rF3 (rC rfl (lBa rfl rfl)) (rT rfl) (rT rfl) ?_
 (exact StpP.mk (by rw [if_neg (by omega)]; rfl) (tm0_r _))
theorem inj_k {t : Tm} (h : inj t = true) : t.k = 14 := by
 unfold inj at h
 simp only [Bool.and_eq_true, decide_eq_true_eq] at h
 exact h.1.1
theorem same_k {t u : Ty} (h : isGrd t = true) (h' : isGrd u = true) : tSame t u = decide (t.k = u.k) := by
 have e1 := grd_eq h
 have e2 := grd_eq h'
 by_cases hk : t.k = u.k
 ·rw [decide_eq_true hk, tSame_iff, e1, e2]
  unfold mGround; rw [hk]
 ·rw [decide_eq_false hk]
  cases hs : tSame t u with
  | false => rfl
  | true => exact absurd (congrArg Ty.k ((tSame_iff _ _).1 hs)) hk
theorem inj_grd {t : Tm} (h : inj t = true) : isGrd t.fr = true := by
 unfold inj at h
 rw [Bool.and_eq_true] at h
 exact h.2
set_option maxHeartbeats 0 in
set_option maxRecDepth 100000 in
theorem crule14_fn (a : Tm) (nm : ByteArray) (num : Int) (ty fr : Ty) (lb : Int) (G : IM) (cells : List Value) (hca : cv a) (hlb9 : -99 ≤ lb ∧ lb ≤ 99) (hr : RTm G (.mk 14 nm num ty fr lb [a]) cells) : Fn Tryz.prog 194 [.agg ⟨cells⟩] [] G (StpP (mCRule 14 ty fr lb [a])) := by
 have hji := @inj_grd a
 have hjk := @inj_k a
 obtain ⟨ak, anm, anum, ⟨atk, atks⟩, ⟨afk, afks⟩, alb, aks⟩ := a
 obtain ⟨hN, hkk⟩ := hca.node
 have hops := hN.ops
 have hbl := hN.lbB
 have htyA := hN.tyA
 have hfrA := hN.frA
 rw [tAr] at htyA hfrA
 have h14 : ak = 14 → aks.length = 1 := fun h => by rw [h] at hops; have : tmOps 14 = 1 := rfl; omega
 obtain ⟨tk, tks⟩ := ty
 obtain ⟨fk, fks⟩ := fr
 obtain ⟨pt, ct, pf, cf, p, c, es, rfl, hk, hnum, hlb, hty, hfr, hsl, hkl⟩ := hr.open9
 obtain ⟨bx, ox, e0, rfl, hl0, hat0, hre0, hgb0⟩ := hsl.kidTm hkl (i := 0) (by simp) (by simp)
 replace hre0 : RTm G (Tm.mk ak anm anum (.mk atk atks) (.mk afk afks) alb aks) e0 := hre0
 have hP : Fn Tryz.prog 94 [.agg ⟨e0⟩] [] G (Val (.bool (decide (ak = 14 ∧ afk = atk ∧ (atk = 4 ∨ atk = 5)))) G) := isProxy_fn _ G _ hre0
 have hI := isInjection_fn _ G _ hre0
 have ho0 := hre0.one
 obtain ⟨apt, act, apf, acf, ap, ac, aes, rfl, hak, hanum, halb, haty, hafr, hasl, hakl⟩ := hre0.open9
 have hfk64 : I64 fk := by obtain ⟨_, _, _, _, h, _⟩ := hfr.open; exact h
 have htk64 : I64 tk := by obtain ⟨_, _, _, _, h, _⟩ := hty.open; exact h
 obtain ⟨tes, htS, htL⟩ := haty.kids
 obtain ⟨fes, hfS, hfL⟩ := hafr.kids
 simp only [Ty.ks] at htS htL hfS hfL
 obtain ⟨J, hJ⟩ : ∃ J, inj (Tm.mk ak anm anum (.mk atk atks) (.mk afk afks) alb aks) = J := ⟨_, rfl⟩
 obtain ⟨D, hD⟩ : ∃ D, isGrd (.mk tk tks) = D := ⟨_, rfl⟩
 have hGr := isGround_fn _ G _ hty
 rw [hD] at hGr
 rw [hJ] at hI hji hjk
 have hR : mCRule 14 (.mk tk tks) (.mk fk fks) lb [Tm.mk ak anm anum (.mk atk atks) (.mk afk afks) alb aks] = (if fk = tk then (Tm.mk ak anm anum (.mk atk atks) (.mk afk afks) alb aks, 1, 0)
   else if tk = 1 then (mCst (mCst (Tm.mk ak anm anum (.mk atk atks) (.mk afk afks) alb aks) (.mk fk fks) (mGk fk) lb) (mGk fk) (.mk tk tks) lb, 1, 0)
   else if D = false then (mCst (mCst (Tm.mk ak anm anum (.mk atk atks) (.mk afk afks) alb aks) (.mk fk fks) (mGk tk) lb) (mGk tk) (.mk tk tks) lb, 1, 0)
   else if J = false then stuck
   else if afk = tk then (kd aks 0, 1, 0)
   else (tm0, 2, lb)) := by
  rw [← hJ, ← hD]; rfl
 rw [hR]
 have hSm : J = true → D = true → tSame (.mk afk afks) (.mk tk tks) = decide (afk = tk) := fun h1 h2 => same_k (hji h1) (hD.trans h2)
 have hTS := typeSameX_fn (.mk afk afks) (.mk tk tks) G _ _ hafr hty
 refine fn_enter Tryz.func194 rfl Tryz.ntmps194 Tryz.results194 rfl ?_
 intro w0
 refine tS (tR ?_)
 (refine seq_step (step_box_a rfl rfl) rfl ?_; rintro _ ⟨b3, rfl⟩)
 (refine seq_step (step_alloc rfl) rfl ?_; rintro _ ⟨b4, rfl⟩)
 refine sP (pA rfl) rfl rfl (sP (pA rfl) rfl rfl (sD (nS (tS (tR (sP (pF0 rfl) rfl rfl ?_))))))
 refine sL (lBs rfl rfl) rfl rfl ?_
 refine sP (pIN (j := 0) rfl rfl rfl (by simp)) rfl rfl ?_
 refine sL (load_a rfl rfl (hat0 _) rfl) rfl rfl ?_
 (refine seq_step (step_alloc rfl) rfl ?_; rintro _ ⟨b15, rfl⟩)
 refine sS rfl rfl rfl rfl rfl rfl ?_
 refine sD (nS (tS (tri_block (tS (tR (sP (pF0 rfl) rfl rfl ?_))))))
 refine sL (lBs rfl rfl) rfl rfl ?_
 refine sP (pure_eql_f rfl rfl (by omega)) rfl rfl ?_
 refine sP (pM rfl) rfl rfl (sK rfl rfl (sK rfl rfl (sP (pPf rfl rfl) rfl rfl (sP (pM rfl) rfl rfl (sK rfl rfl (sK rfl rfl ?_))))))
 refine sK rfl rfl (sK rfl rfl (sP (pPf rfl rfl) rfl rfl (sP (pA rfl) rfl rfl (sD (nS (cF rfl ?_))))))
 refine tS (tR (sP (pF0 rfl) rfl rfl (sL (lBs rfl rfl) rfl rfl ?_)))
 refine sP (pure_eql_f rfl rfl (by omega)) rfl rfl ?_
 refine sP (pM rfl) rfl rfl (sP (pF0 rfl) rfl rfl (sL (lBs rfl rfl) rfl rfl ?_))
 refine sP (pure_eql_f rfl rfl (by omega)) rfl rfl ?_
 refine sP (pPf rfl rfl) rfl rfl (sP (pM rfl) rfl rfl (sK rfl rfl (sK rfl rfl (sP (pPf rfl rfl) rfl rfl (sP (pM rfl) rfl rfl (sK rfl rfl ?_))))))
 refine sK rfl rfl (sK rfl rfl (sK rfl rfl (sP (pPf rfl rfl) rfl rfl (sP (pA rfl) rfl rfl (sD (nS ?_))))))
 refine cF rfl ?_
 refine tS (tR (sP (pF0 rfl) rfl rfl (sL (lBs rfl rfl) rfl rfl ?_)))
 refine sP (pure_neq_f rfl rfl (by omega)) rfl rfl ?_
 refine sP (pA rfl) rfl rfl (sD (nS (cF rfl ?_)))
 refine tS (tR (sP (pF0 rfl) rfl rfl (sP (pF rfl) rfl rfl (sL (lBs rfl rfl) rfl rfl ?_))))
 refine sP (pF0 rfl) rfl rfl (sP (pF rfl) rfl rfl (sL (lBs rfl rfl) rfl rfl ?_))
 refine sB (pE rfl rfl) rfl rfl (fun h81 => ?_) (fun h81 => ?_)
 refine sP (pA rfl) rfl rfl (sD (nS (cT rfl ?_)))
 refine tS (tR (sL (lBa rfl rfl) rfl rfl ?_))
 refine sS rfl rfl rfl rfl rfl rfl ?_
 refine sP (pA rfl) rfl rfl (sP (pA rfl) rfl rfl (sD (nS (tT (rB (rS ?_))))))
 refine rF3 (rC rfl (lBa rfl rfl)) (rT rfl) (rT rfl) ?_
 (exact StpP.mk (by rw [if_pos (by omega)]) hre0)
 refine sP (pA rfl) rfl rfl (sD (nS (cF rfl ?_)))
 refine tS (tR (sP (pF0 rfl) rfl rfl (sP (pF rfl) rfl rfl (sL (lBs rfl rfl) rfl rfl ?_))))
 refine sB (pE rfl rfl) rfl rfl (fun h108 => ?_) (fun h108 => ?_)
 refine sP (pA rfl) rfl rfl (sD (nS (cT rfl ?_)))
 refine tS (tR (sP (pF0 rfl) rfl rfl (sP (pF rfl) rfl rfl (sL (lBs rfl rfl) rfl rfl ?_))))
 (refine seq_imm rfl (ground_fn fk G hfk64) rfl rfl (fun u G1 hle1 hh => ?_); obtain ⟨gc, rfl, hrg⟩ := hh; obtain ⟨pg, cg, eg, rfl, _⟩ := hrg.open; have hgk : tk = 1 := (by omega); replace hre0 := hre0.mono hle1; replace hfr := hfr.mono hle1; replace hty := hty.mono hle1)
 (refine seq_step (step_alloc rfl) rfl ?_; rintro _ ⟨b119, rfl⟩)
 refine sS rfl rfl rfl rfl rfl rfl ?_
 refine sD (nS (tS (tri_draw mixed rfl ?_)))
 refine any_load (i := 0) (l' := [tt,ff,ff,ff,ff,ff,ff,ff,ff,ff,ff,ff,ff,ff,ff,ff]) rfl npI (load_a rfl rfl (at_blk_all (by repeat first | exact mH | apply mT)) rfl) rfl (by kernel_rfl) rfl rfl ?_
 refine aL 3 rfl (load_a rfl rfl (at_blk_all (by repeat first | exact mH | apply mT)) rfl) rfl rfl ?_
 refine aL 7 rfl (load_a rfl rfl (at_blk_all (by repeat first | exact mH | apply mT)) rfl) rfl rfl ?_
 refine aP 1 rfl (pF0 rfl) rfl rfl ?_
 refine aL 2 rfl (lBa rfl rfl) rfl rfl ?_
 refine aP 4 rfl (pF0 rfl) rfl rfl ?_
 refine aL 5 rfl (lBs rfl rfl) rfl rfl ?_
 refine aP 8 rfl (pF0 rfl) rfl rfl ?_
 refine aL 9 rfl (lBa rfl rfl) rfl rfl ?_
 refine aP 10 rfl (pF0 rfl) rfl rfl ?_
 refine aL 11 rfl (lBs rfl rfl) rfl rfl ?_
 refine aO (j := 6) (by kernel_rfl) ?_
 (refine one_imm (l' := [tt,tt,tt,tt,tt,tt,tt,tt,tt,tt,tt,tt,ff,ff,ff,ff]) rfl rfl (casted_fn _ (.mk fk fks) _ lb G1 _ _ _ ⟨by omega, by omega⟩ hre0 hfr hrg) rfl rfl rfl (fun u G3 hle3 hh => ?_); obtain ⟨wc, rfl, hrw⟩ := hh; have hwl := hrw.len; have hwo := hrw.one; replace hrg := hrg.mono hle3; replace hty := hty.mono hle3)
 refine aO (j := 12) (by kernel_rfl) ?_
 (refine one_imm (l' := [tt,tt,tt,tt,tt,tt,tt,tt,tt,tt,tt,tt,tt,ff,ff,ff]) rfl rfl (casted_fn _ _ (.mk tk tks) lb G3 _ _ _ ⟨by omega, by omega⟩ hrw hrg hty) rfl rfl rfl (fun u G4 hle4 hh => ?_); obtain ⟨xc, rfl, hrx⟩ := hh; have hxl := hrx.len; have hxo := hrx.one)
 refine aO (j := 13) (by kernel_rfl) ?_
 (refine oS rfl rfl rfl rfl hxl hxo rfl rfl ?_ (hu := by exact upd_all hxl.symm))
 refine aP 14 rfl (pA rfl) rfl rfl ?_
 refine aP 15 rfl (pA rfl) rfl rfl ?_
 refine aD (by kernel_rfl) ?_
 refine nS (tT (rB (rS (rF3 (rC rfl (load_a rfl rfl (at_blk_all (by repeat first | exact mH | apply mT)) hxl)) (rT rfl) (rT rfl) ?_))))
 (exact StpP.mk (by rw [if_neg (by omega), if_pos (by omega)]) hrx)
 refine sP (pA rfl) rfl rfl (sD (nS (cF rfl ?_)))
 refine tS (tR (sP (pF0 rfl) rfl rfl (sL (lBa rfl rfl) rfl rfl ?_)))
 focus (cases hDD : D; all_goals (rw [hDD] at hGr; refine seq_val rfl hGr rfl rfl ?_))
 refine sP (pNf rfl) rfl rfl (sP (pA rfl) rfl rfl (sD (nS (cT rfl ?_))))
 refine tS (tR (sP (pF0 rfl) rfl rfl (sP (pF rfl) rfl rfl (sL (lBs rfl rfl) rfl rfl ?_))))
 (refine seq_imm rfl (ground_fn tk G htk64) rfl rfl (fun u G1 hle1 hh => ?_); obtain ⟨gc, rfl, hrg⟩ := hh; obtain ⟨pg, cg, eg, rfl, _⟩ := hrg.open; replace hre0 := hre0.mono hle1; replace hfr := hfr.mono hle1; replace hty := hty.mono hle1)
 (refine seq_step (step_alloc rfl) rfl ?_; rintro _ ⟨b171, rfl⟩)
 refine sS rfl rfl rfl rfl rfl rfl ?_
 refine sD (nS (tS (tri_draw mixed rfl ?_)))
 refine any_load (i := 0) (l' := [tt,ff,ff,ff,ff,ff,ff,ff,ff,ff,ff,ff,ff,ff,ff,ff]) rfl npI (load_a rfl rfl (at_blk_all (by repeat first | exact mH | apply mT)) rfl) rfl (by kernel_rfl) rfl rfl ?_
 refine aL 3 rfl (load_a rfl rfl (at_blk_all (by repeat first | exact mH | apply mT)) rfl) rfl rfl ?_
 refine aL 7 rfl (load_a rfl rfl (at_blk_all (by repeat first | exact mH | apply mT)) rfl) rfl rfl ?_
 refine aP 1 rfl (pF0 rfl) rfl rfl ?_
 refine aL 2 rfl (lBa rfl rfl) rfl rfl ?_
 refine aP 4 rfl (pF0 rfl) rfl rfl ?_
 refine aL 5 rfl (lBs rfl rfl) rfl rfl ?_
 refine aP 8 rfl (pF0 rfl) rfl rfl ?_
 refine aL 9 rfl (lBa rfl rfl) rfl rfl ?_
 refine aP 10 rfl (pF0 rfl) rfl rfl ?_
 refine aL 11 rfl (lBs rfl rfl) rfl rfl ?_
 refine aO (j := 6) (by kernel_rfl) ?_
 (refine one_imm (l' := [tt,tt,tt,tt,tt,tt,tt,tt,tt,tt,tt,tt,ff,ff,ff,ff]) rfl rfl (casted_fn _ (.mk fk fks) _ lb G1 _ _ _ ⟨by omega, by omega⟩ hre0 hfr hrg) rfl rfl rfl (fun u G3 hle3 hh => ?_); obtain ⟨wc, rfl, hrw⟩ := hh; have hwl := hrw.len; have hwo := hrw.one; replace hrg := hrg.mono hle3; replace hty := hty.mono hle3)
 refine aO (j := 12) (by kernel_rfl) ?_
 (refine one_imm (l' := [tt,tt,tt,tt,tt,tt,tt,tt,tt,tt,tt,tt,tt,ff,ff,ff]) rfl rfl (casted_fn _ _ (.mk tk tks) lb G3 _ _ _ ⟨by omega, by omega⟩ hrw hrg hty) rfl rfl rfl (fun u G4 hle4 hh => ?_); obtain ⟨xc, rfl, hrx⟩ := hh; have hxl := hrx.len; have hxo := hrx.one)
 refine aO (j := 13) (by kernel_rfl) ?_
 (refine oS rfl rfl rfl rfl hxl hxo rfl rfl ?_ (hu := by exact upd_all hxl.symm))
 refine aP 14 rfl (pA rfl) rfl rfl ?_
 refine aP 15 rfl (pA rfl) rfl rfl ?_
 refine aD (by kernel_rfl) ?_
 refine nS (tT (rB (rS (rF3 (rC rfl (load_a rfl rfl (at_blk_all (by repeat first | exact mH | apply mT)) hxl)) (rT rfl) (rT rfl) ?_))))
 (exact StpP.mk (by rw [if_neg (by omega), if_neg (by omega), if_pos rfl]) hrx)
 refine sP (pNt rfl) rfl rfl (sP (pA rfl) rfl rfl (sD (nS (cF rfl ?_))))
 refine tS (tR (sL (lBa rfl rfl) rfl rfl ?_))
 focus (cases hJJ : J; all_goals (rw [hJJ] at hI; refine seq_val rfl hI rfl rfl ?_))
 refine sP (pNf rfl) rfl rfl (sP (pA rfl) rfl rfl (sD (nS (cT rfl ?_))))
 refine tS (tR (sP (pBd rfl rfl) rfl rfl (sS rfl rfl rfl rfl rfl rfl ?_)))
 refine sP (pA rfl) rfl rfl (sP (pA rfl) rfl rfl (sD (nS (tT (rB (rS ?_))))))
 refine rF3 (rC rfl (lBa rfl rfl)) (rT rfl) (rT rfl) ?_
 (exact StpP.mk (by rw [if_neg (by omega), if_neg (by omega), if_neg (by decide), if_pos rfl]; rfl) (tm0_r _))
 refine sP (pNt rfl) rfl rfl (sP (pA rfl) rfl rfl (sD (nS (cF rfl ?_))))
 refine tS (tR (sP (pF0 rfl) rfl rfl (sL (lBa rfl rfl) rfl rfl ?_)))
 refine sP (pF0 rfl) rfl rfl (sL (lBa rfl rfl) rfl rfl ?_)
 focus (rw [hSm hJJ hDD] at hTS; by_cases hfk : afk = tk; rw [decide_eq_true hfk] at hTS; rotate_left; rw [decide_eq_false hfk] at hTS; rotate_left; all_goals (refine seq_val rfl hTS rfl rfl ?_))
 refine sP (pA rfl) rfl rfl (sD (nS (cT rfl ?_)))
 refine tS (tR (sP (pF0 rfl) rfl rfl (sL (lBs rfl rfl) rfl rfl ?_)))
 (have hq1 := h14 (hjk (by assumption)); obtain ⟨bq, oq, e3, rfl, hl3, hat3, hre3, hgb3⟩ := hasl.kidTm hakl (i := 0) (by omega) (by omega); have ho3 := hre3.one; refine sP (pIN (j := 0) rfl rfl rfl (by omega)) rfl rfl ?_)
 refine sL (load_a rfl rfl (hat3 _) hl3) rfl rfl ?_
 refine sS rfl rfl rfl hl3 ho3 rfl ?_ (hu := by exact upd_all hl3.symm)
 refine sP (pA rfl) rfl rfl (sP (pA rfl) rfl rfl (sD (nS (tT (rB (rS ?_))))))
 refine rF3 (rC rfl (load_a rfl rfl (at_blk_all (by repeat first | exact mH | apply mT)) hl3)) (rT rfl) (rT rfl) ?_
 (exact StpP.mk (by rw [if_neg (by omega), if_neg (by omega), if_neg (by decide), if_neg (by decide), if_pos hfk, kd_at (by omega)]) hre3)
 refine sP (pA rfl) rfl rfl (sD (nS (cF rfl ?_)))
 refine tK (nrm_block (nS (tS (tri_draw mixed rfl ?_))))
 refine any_pure (i := 0) (l' := [tt,ff,ff,ff,ff,ff]) rfl npI (pBd rfl rfl) rfl (by kernel_rfl) rfl rfl ?_
 refine aP 1 rfl (pF0 rfl) rfl rfl ?_
 refine aL 2 rfl (lBs rfl rfl) rfl rfl ?_
 refine aO (j := 3) (by kernel_rfl) ?_
 refine oT rfl rfl rfl rfl rfl rfl rfl ?_
 refine aP 4 rfl (pA rfl) rfl rfl ?_
 refine aP 5 rfl (pA rfl) rfl rfl ?_
 refine aD (by kernel_rfl) ?_
 refine nS (tT (rF3 (rC rfl (lBa rfl rfl)) (rT rfl) (rT rfl) ?_))
 (exact StpP.mk (by rw [if_neg (by omega), if_neg (by omega), if_neg (by decide), if_neg (by decide), if_neg hfk]) (tm0_r _))
set_option maxHeartbeats 0 in
set_option maxRecDepth 100000 in
theorem crule78_fn (k : Int) (a b : Tm) (nm : ByteArray) (num : Int) (ty fr : Ty) (lb : Int) (G : IM) (cells : List Value) (hk1 : k = 7 ∨ k = 8) (hca : cv a) (hr : RTm G (.mk k nm num ty fr lb [a, b]) cells) : Fn Tryz.prog 194 [.agg ⟨cells⟩] [] G (StpP (mCRule k ty fr lb [a, b])) := by
 have hR : mCRule k ty fr lb [a, b] = stuck := by unfold mCRule; rw [if_neg (by omega), if_neg (by omega), if_neg (by omega)]
 rw [hR]
 obtain ⟨ak, anm, anum, ⟨atk, atks⟩, ⟨afk, afks⟩, alb, aks⟩ := a
 obtain ⟨hN, hkk⟩ := hca.node
 have hops := hN.ops
 have hbl := hN.lbB
 have htyA := hN.tyA
 have hfrA := hN.frA
 rw [tAr] at htyA hfrA
 have h14 : ak = 14 → aks.length = 1 := fun h => by rw [h] at hops; have : tmOps 14 = 1 := rfl; omega
 obtain ⟨tk, tks⟩ := ty
 obtain ⟨fk, fks⟩ := fr
 obtain ⟨pt, ct, pf, cf, p, c, es, rfl, hk, hnum, hlb, hty, hfr, hsl, hkl⟩ := hr.open9
 obtain ⟨bx, ox, e0, rfl, hl0, hat0, hre0, hgb0⟩ := hsl.kidTm hkl (i := 0) (by simp) (by simp)
 replace hre0 : RTm G (Tm.mk ak anm anum (.mk atk atks) (.mk afk afks) alb aks) e0 := hre0
 have hP : Fn Tryz.prog 94 [.agg ⟨e0⟩] [] G (Val (.bool (decide (ak = 14 ∧ afk = atk ∧ (atk = 4 ∨ atk = 5)))) G) := isProxy_fn _ G _ hre0
 have hI := isInjection_fn _ G _ hre0
 have ho0 := hre0.one
 obtain ⟨apt, act, apf, acf, ap, ac, aes, rfl, hak, hanum, halb, haty, hafr, hasl, hakl⟩ := hre0.open9
 have hfk64 : I64 fk := by obtain ⟨_, _, _, _, h, _⟩ := hfr.open; exact h
 have htk64 : I64 tk := by obtain ⟨_, _, _, _, h, _⟩ := hty.open; exact h
 obtain ⟨tes, htS, htL⟩ := haty.kids
 obtain ⟨fes, hfS, hfL⟩ := hafr.kids
 simp only [Ty.ks] at htS htL hfS hfL
 refine fn_enter Tryz.func194 rfl Tryz.ntmps194 Tryz.results194 rfl ?_
 intro w0
 refine tS (tR ?_)
 (refine seq_step (step_box_a rfl rfl) rfl ?_; rintro _ ⟨b3, rfl⟩)
 (refine seq_step (step_alloc rfl) rfl ?_; rintro _ ⟨b4, rfl⟩)
 refine sP (pA rfl) rfl rfl (sP (pA rfl) rfl rfl (sD (nS (tS (tR (sP (pF0 rfl) rfl rfl ?_))))))
 refine sL (lBs rfl rfl) rfl rfl ?_
 refine sP (pIN (j := 0) rfl rfl rfl (by simp)) rfl rfl ?_
 refine sL (load_a rfl rfl (hat0 _) rfl) rfl rfl ?_
 (refine seq_step (step_alloc rfl) rfl ?_; rintro _ ⟨b15, rfl⟩)
 refine sS rfl rfl rfl rfl rfl rfl ?_
 refine sD (nS (tS (tri_block (tS (tR (sP (pF0 rfl) rfl rfl ?_))))))
 refine sL (lBs rfl rfl) rfl rfl ?_
 refine sP (pure_eql_f rfl rfl (by omega)) rfl rfl ?_
 refine sP (pM rfl) rfl rfl (sK rfl rfl (sK rfl rfl (sP (pPf rfl rfl) rfl rfl (sP (pM rfl) rfl rfl (sK rfl rfl (sK rfl rfl ?_))))))
 refine sK rfl rfl (sK rfl rfl (sP (pPf rfl rfl) rfl rfl (sP (pA rfl) rfl rfl (sD (nS (cF rfl ?_))))))
 refine tS (tR (sP (pF0 rfl) rfl rfl (sL (lBs rfl rfl) rfl rfl ?_)))
 refine sP (pure_eql_f rfl rfl (by omega)) rfl rfl ?_
 refine sP (pM rfl) rfl rfl (sP (pF0 rfl) rfl rfl (sL (lBs rfl rfl) rfl rfl ?_))
 refine sP (pure_eql_f rfl rfl (by omega)) rfl rfl ?_
 refine sP (pPf rfl rfl) rfl rfl (sP (pM rfl) rfl rfl (sK rfl rfl (sK rfl rfl (sP (pPf rfl rfl) rfl rfl (sP (pM rfl) rfl rfl (sK rfl rfl ?_))))))
 refine sK rfl rfl (sK rfl rfl (sK rfl rfl (sP (pPf rfl rfl) rfl rfl (sP (pA rfl) rfl rfl (sD (nS ?_))))))
 refine cF rfl ?_
 refine tS (tR (sP (pF0 rfl) rfl rfl (sL (lBs rfl rfl) rfl rfl ?_)))
 refine sP (pure_neq_t rfl rfl (by omega)) rfl rfl ?_
 refine sP (pA rfl) rfl rfl (sD (nS (cT rfl ?_)))
 refine tS (tR (sP (pBd rfl rfl) rfl rfl (sS rfl rfl rfl rfl rfl rfl ?_)))
 refine sP (pA rfl) rfl rfl (sP (pA rfl) rfl rfl (sD (nS (tT (rB (rS ?_))))))
 refine rF3 (rC rfl (lBa rfl rfl)) (rT rfl) (rT rfl) ?_
 (exact StpP.mk rfl (tm0_r _))
set_option maxHeartbeats 0 in
set_option maxRecDepth 100000 in
theorem crule9_fn (a b c0 : Tm) (nm : ByteArray) (num : Int) (ty fr : Ty) (lb : Int) (G : IM) (cells : List Value) (hca : cv a) (hr : RTm G (.mk 9 nm num ty fr lb [a, b, c0]) cells) : Fn Tryz.prog 194 [.agg ⟨cells⟩] [] G (StpP (mCRule 9 ty fr lb [a, b, c0])) := by
 have hR : mCRule 9 ty fr lb [a, b, c0] = stuck := by unfold mCRule; rw [if_neg (by omega), if_neg (by omega), if_neg (by omega)]
 rw [hR]
 obtain ⟨ak, anm, anum, ⟨atk, atks⟩, ⟨afk, afks⟩, alb, aks⟩ := a
 obtain ⟨hN, hkk⟩ := hca.node
 have hops := hN.ops
 have hbl := hN.lbB
 have htyA := hN.tyA
 have hfrA := hN.frA
 rw [tAr] at htyA hfrA
 have h14 : ak = 14 → aks.length = 1 := fun h => by rw [h] at hops; have : tmOps 14 = 1 := rfl; omega
 obtain ⟨tk, tks⟩ := ty
 obtain ⟨fk, fks⟩ := fr
 obtain ⟨pt, ct, pf, cf, p, c, es, rfl, hk, hnum, hlb, hty, hfr, hsl, hkl⟩ := hr.open9
 obtain ⟨bx, ox, e0, rfl, hl0, hat0, hre0, hgb0⟩ := hsl.kidTm hkl (i := 0) (by simp) (by simp)
 replace hre0 : RTm G (Tm.mk ak anm anum (.mk atk atks) (.mk afk afks) alb aks) e0 := hre0
 have hP : Fn Tryz.prog 94 [.agg ⟨e0⟩] [] G (Val (.bool (decide (ak = 14 ∧ afk = atk ∧ (atk = 4 ∨ atk = 5)))) G) := isProxy_fn _ G _ hre0
 have hI := isInjection_fn _ G _ hre0
 have ho0 := hre0.one
 obtain ⟨apt, act, apf, acf, ap, ac, aes, rfl, hak, hanum, halb, haty, hafr, hasl, hakl⟩ := hre0.open9
 have hfk64 : I64 fk := by obtain ⟨_, _, _, _, h, _⟩ := hfr.open; exact h
 have htk64 : I64 tk := by obtain ⟨_, _, _, _, h, _⟩ := hty.open; exact h
 obtain ⟨tes, htS, htL⟩ := haty.kids
 obtain ⟨fes, hfS, hfL⟩ := hafr.kids
 simp only [Ty.ks] at htS htL hfS hfL
 refine fn_enter Tryz.func194 rfl Tryz.ntmps194 Tryz.results194 rfl ?_
 intro w0
 refine tS (tR ?_)
 (refine seq_step (step_box_a rfl rfl) rfl ?_; rintro _ ⟨b3, rfl⟩)
 (refine seq_step (step_alloc rfl) rfl ?_; rintro _ ⟨b4, rfl⟩)
 refine sP (pA rfl) rfl rfl (sP (pA rfl) rfl rfl (sD (nS (tS (tR (sP (pF0 rfl) rfl rfl ?_))))))
 refine sL (lBs rfl rfl) rfl rfl ?_
 refine sP (pIN (j := 0) rfl rfl rfl (by simp)) rfl rfl ?_
 refine sL (load_a rfl rfl (hat0 _) rfl) rfl rfl ?_
 (refine seq_step (step_alloc rfl) rfl ?_; rintro _ ⟨b15, rfl⟩)
 refine sS rfl rfl rfl rfl rfl rfl ?_
 refine sD (nS (tS (tri_block (tS (tR (sP (pF0 rfl) rfl rfl ?_))))))
 refine sL (lBs rfl rfl) rfl rfl ?_
 refine sP (pure_eql_f rfl rfl (by omega)) rfl rfl ?_
 refine sP (pM rfl) rfl rfl (sK rfl rfl (sK rfl rfl (sP (pPf rfl rfl) rfl rfl (sP (pM rfl) rfl rfl (sK rfl rfl (sK rfl rfl ?_))))))
 refine sK rfl rfl (sK rfl rfl (sP (pPf rfl rfl) rfl rfl (sP (pA rfl) rfl rfl (sD (nS (cF rfl ?_))))))
 refine tS (tR (sP (pF0 rfl) rfl rfl (sL (lBs rfl rfl) rfl rfl ?_)))
 refine sP (pure_eql_f rfl rfl (by omega)) rfl rfl ?_
 refine sP (pM rfl) rfl rfl (sP (pF0 rfl) rfl rfl (sL (lBs rfl rfl) rfl rfl ?_))
 refine sP (pure_eql_f rfl rfl (by omega)) rfl rfl ?_
 refine sP (pPf rfl rfl) rfl rfl (sP (pM rfl) rfl rfl (sK rfl rfl (sK rfl rfl (sP (pPf rfl rfl) rfl rfl (sP (pM rfl) rfl rfl (sK rfl rfl ?_))))))
 refine sK rfl rfl (sK rfl rfl (sK rfl rfl (sP (pPf rfl rfl) rfl rfl (sP (pA rfl) rfl rfl (sD (nS ?_))))))
 refine cF rfl ?_
 refine tS (tR (sP (pF0 rfl) rfl rfl (sL (lBs rfl rfl) rfl rfl ?_)))
 refine sP (pure_neq_t rfl rfl (by omega)) rfl rfl ?_
 refine sP (pA rfl) rfl rfl (sD (nS (cT rfl ?_)))
 refine tS (tR (sP (pBd rfl rfl) rfl rfl (sS rfl rfl rfl rfl rfl rfl ?_)))
 refine sP (pA rfl) rfl rfl (sP (pA rfl) rfl rfl (sD (nS (tT (rB (rS ?_))))))
 refine rF3 (rC rfl (lBa rfl rfl)) (rT rfl) (rT rfl) ?_
 (exact StpP.mk rfl (tm0_r _))
end Gw
end Go.Proofs.YtaiafkcflhcdaaaGreatDoor
namespace Go.Proofs.YtaiafkcflhcdaaaGreatDoor
open Go Go.RowKit
namespace Gw
set_option maxRecDepth 100000 in
theorem clone_tm (G : IM) (p : Option Addr) (n c : Nat) (es : List (List Value)) (h : SlE G p n c 9 es) (h0 : 0 < n) (hn : n ≤ 4294967296) :
  Fn Tryz.prog 192 [.slice p n c] [] G (fun G' v outs => G' = G ∧ ∃ p' c', v = .slice p' n c' ∧ outs = [.slc p' c' 36 9 n es.flatten]) := by
 obtain ⟨hl, hc, hm, hat⟩ := h.sl
 obtain ⟨b, o, full, rfl, hg, hv⟩ := hat.resolve_left (by omega)
 have ho : ∀ u ∈ es.flatten, u.oneCell' = true := by
  intro u hu
  obtain ⟨e, he, hue⟩ := List.mem_flatten.1 hu
  exact List.all_eq_true.1 (h.one e he) u hue
 refine fn_enter Tryz.func192 rfl Tryz.ntmps192 Tryz.results192 rfl ?_
 intro w0
 refine tS (tR (sP (pA rfl) rfl rfl (sD (nS (tS (tS ?_))))))
 refine tR (sP (pM rfl) rfl rfl (sP (pure_slnil_f rfl rfl rfl) rfl rfl (sD (nS (cF rfl ?_)))))
 refine tK (nS (tS (tR ?_)))
 (refine seq_step (step_buildSlice rfl rfl rfl (by omega) (by unfold maxLen; omega) rfl) rfl ?_; rintro _ ⟨b18, rfl⟩)
 refine sP (pM rfl) rfl rfl (seq_append rfl rfl rfl rfl rfl (fun _ _ => by repeat (first | exact Sw.here | apply Sw.there)) (at_im hg hv) hl ho (by unfold maxLen; omega) (by omega) rfl (fun pn cn => ?_))
 refine sP (pA rfl) rfl rfl (sD (nS (tT (ret_own1 (rT rfl) SubH.refl ?_))))
 exact ⟨rfl, _, _, by rw [Nat.zero_add], by rw [Nat.zero_add]; rfl⟩
end Gw
end Go.Proofs.YtaiafkcflhcdaaaGreatDoor
namespace Go.Proofs.YtaiafkcflhcdaaaGreatDoor
open Go Go.RowKit
namespace Gw
set_option maxRecDepth 100000 in
theorem rule1_fn (nm : ByteArray) (num : Int) (ty fr : Ty) (lb : Int) (G : IM) (cells : List Value) (hr : RTm G (.mk 1 nm num ty fr lb []) cells) : Fn Tryz.prog 193 [.agg ⟨cells⟩] [] G (RulP (mRule 1 [])) := by
 rw [show mRule 1 [] = none from rfl]
 obtain ⟨tk, tks⟩ := ty
 obtain ⟨fk, fks⟩ := fr
 obtain ⟨pt, ct, pf, cf, p, c, es, rfl, hk, hnum, hlb, hty, hfr, hsl, hkl⟩ := hr.open9
 have hL : ([] : List Tm).length = 0 := rfl
 refine fn_enter Tryz.func193 rfl Tryz.ntmps193 Tryz.results193 rfl ?_
 intro w0
 refine tS (tR ?_)
 (refine seq_step (step_box_a rfl rfl) rfl ?_; rintro _ ⟨b3, rfl⟩)
 (refine seq_step (step_alloc rfl) rfl ?_; rintro _ ⟨b4, rfl⟩)
 refine sP (pA rfl) rfl rfl (sD (nS (tS (tR (sP (pBd rfl rfl) rfl rfl ?_)))))
 (refine seq_step (step_alloc rfl) rfl ?_; rintro _ ⟨b11, rfl⟩)
 refine sS rfl rfl rfl rfl rfl rfl ?_
 refine sD (nS (tS (tS (tR (sP (pF0 rfl) rfl rfl (sL (lBs rfl rfl) rfl rfl ?_))))))
 refine sP (pLn rfl rfl) rfl rfl (sP (pure_gtr_f rfl rfl (by omega)) rfl rfl ?_)
 refine sD (nS (cF rfl ?_))
 refine tK (nS (tS (tS (tR (sP (pF0 rfl) rfl rfl (sL (lBs rfl rfl) rfl rfl ?_))))))
 refine sD (nS (tri_block (tS (tR (sP (pure_eql_f rfl rfl (by omega)) rfl rfl ?_)))))
 refine sP (pA rfl) rfl rfl (sD (nS (cF rfl ?_)))
 refine tS (tS (tR (sP (pure_eql_f rfl rfl (by omega)) rfl rfl ?_)))
 refine sP (pA rfl) rfl rfl (sD (nS (cF rfl ?_)))
 refine tR (sP (pure_eql_f rfl rfl (by omega)) rfl rfl ?_)
 refine sP (pA rfl) rfl rfl (sD (nS (cF rfl ?_)))
 refine tS (tR (sP (pure_eql_f rfl rfl (by omega)) rfl rfl ?_))
 refine sP (pA rfl) rfl rfl (sD (nS (cF rfl ?_)))
 refine tS (tS (tR (sP (pure_eql_f rfl rfl (by omega)) rfl rfl ?_)))
 refine sP (pA rfl) rfl rfl (sD (nS (cF rfl ?_)))
 refine tR (sP (pure_eql_f rfl rfl (by omega)) rfl rfl ?_)
 refine sP (pA rfl) rfl rfl (sD (nS (cF rfl ?_)))
 refine tK (nrm_block (nS (tS (tR (sP (pBd rfl rfl) rfl rfl (sS rfl rfl rfl rfl rfl rfl ?_))))))
 refine sP (pA rfl) rfl rfl (sD (nS (tT (rF2 (rC rfl (lBa rfl rfl)) (rT rfl) ?_))))
 (exact RulP.no rfl (tm0_r _))
set_option maxRecDepth 100000 in
theorem rule14_fn (a : Tm) (nm : ByteArray) (num : Int) (ty fr : Ty) (lb : Int) (G : IM) (cells : List Value) (hr : RTm G (.mk 14 nm num ty fr lb [a]) cells) : Fn Tryz.prog 193 [.agg ⟨cells⟩] [] G (RulP (mRule 14 [a])) := by
 rw [show mRule 14 [a] = none from rfl]
 obtain ⟨tk, tks⟩ := ty
 obtain ⟨fk, fks⟩ := fr
 obtain ⟨pt, ct, pf, cf, p, c, es, rfl, hk, hnum, hlb, hty, hfr, hsl, hkl⟩ := hr.open9
 obtain ⟨bx, ox, e0, rfl, hl0, hat0, hre0, hgb0⟩ := hsl.kidTm hkl (i := 0) (by simp) (by simp)
 have ho0 : e0.all (·.oneCell') = true := (show RTm G a e0 from hre0).one
 refine fn_enter Tryz.func193 rfl Tryz.ntmps193 Tryz.results193 rfl ?_
 intro w0
 refine tS (tR ?_)
 (refine seq_step (step_box_a rfl rfl) rfl ?_; rintro _ ⟨b3, rfl⟩)
 (refine seq_step (step_alloc rfl) rfl ?_; rintro _ ⟨b4, rfl⟩)
 refine sP (pA rfl) rfl rfl (sD (nS (tS (tR (sP (pBd rfl rfl) rfl rfl ?_)))))
 (refine seq_step (step_alloc rfl) rfl ?_; rintro _ ⟨b11, rfl⟩)
 refine sS rfl rfl rfl rfl rfl rfl ?_
 refine sD (nS (tS (tS (tR (sP (pF0 rfl) rfl rfl (sL (lBs rfl rfl) rfl rfl ?_))))))
 refine sP (pLn rfl rfl) rfl rfl (sB (pure_gtr rfl rfl) rfl rfl (fun h21 => ?_) (fun h21 => ?_))
 refine sD (nS (cT rfl ?_))
 refine tR (sP (pF0 rfl) rfl rfl (sL (lBs rfl rfl) rfl rfl ?_))
 refine sP (pIN (j := 0) rfl rfl rfl (by simp)) rfl rfl ?_
 refine sL (load_a rfl rfl (hat0 _) hl0) rfl rfl ?_
 refine sS rfl rfl rfl hl0 ho0 rfl ?_ (hu := by exact upd_all hl0.symm)
 refine sD (nS (tS (tS (tR (sP (pF0 rfl) rfl rfl (sL (lBs rfl rfl) rfl rfl ?_))))))
 refine sD (nS (tri_block (tS (tR (sP (pure_eql_f rfl rfl (by omega)) rfl rfl ?_)))))
 refine sP (pA rfl) rfl rfl (sD (nS (cF rfl ?_)))
 refine tS (tS (tR (sP (pure_eql_f rfl rfl (by omega)) rfl rfl ?_)))
 refine sP (pA rfl) rfl rfl (sD (nS (cF rfl ?_)))
 refine tR (sP (pure_eql_f rfl rfl (by omega)) rfl rfl ?_)
 refine sP (pA rfl) rfl rfl (sD (nS (cF rfl ?_)))
 refine tS (tR (sP (pure_eql_f rfl rfl (by omega)) rfl rfl ?_))
 refine sP (pA rfl) rfl rfl (sD (nS (cF rfl ?_)))
 refine tS (tS (tR (sP (pure_eql_f rfl rfl (by omega)) rfl rfl ?_)))
 refine sP (pA rfl) rfl rfl (sD (nS (cF rfl ?_)))
 refine tR (sP (pure_eql_f rfl rfl (by omega)) rfl rfl ?_)
 refine sP (pA rfl) rfl rfl (sD (nS (cF rfl ?_)))
 refine tK (nrm_block (nS (tS (tR (sP (pBd rfl rfl) rfl rfl (sS rfl rfl rfl rfl rfl rfl ?_))))))
 refine sP (pA rfl) rfl rfl (sD (nS (tT (rF2 (rC rfl (lBa rfl rfl)) (rT rfl) ?_))))
 (exact RulP.no rfl (tm0_r _))
 refine sD (nS (cF rfl ?_))
 refine tK (nS (tS (tS (tR (sP (pF0 rfl) rfl rfl (sL (lBs rfl rfl) rfl rfl ?_))))))
 refine sD (nS (tri_block (tS (tR (sP (pure_eql_f rfl rfl (by omega)) rfl rfl ?_)))))
 refine sP (pA rfl) rfl rfl (sD (nS (cF rfl ?_)))
 refine tS (tS (tR (sP (pure_eql_f rfl rfl (by omega)) rfl rfl ?_)))
 refine sP (pA rfl) rfl rfl (sD (nS (cF rfl ?_)))
 refine tR (sP (pure_eql_f rfl rfl (by omega)) rfl rfl ?_)
 refine sP (pA rfl) rfl rfl (sD (nS (cF rfl ?_)))
 refine tS (tR (sP (pure_eql_f rfl rfl (by omega)) rfl rfl ?_))
 refine sP (pA rfl) rfl rfl (sD (nS (cF rfl ?_)))
 refine tS (tS (tR (sP (pure_eql_f rfl rfl (by omega)) rfl rfl ?_)))
 refine sP (pA rfl) rfl rfl (sD (nS (cF rfl ?_)))
 refine tR (sP (pure_eql_f rfl rfl (by omega)) rfl rfl ?_)
 refine sP (pA rfl) rfl rfl (sD (nS (cF rfl ?_)))
 refine tK (nrm_block (nS (tS (tR (sP (pBd rfl rfl) rfl rfl (sS rfl rfl rfl rfl rfl rfl ?_))))))
 refine sP (pA rfl) rfl rfl (sD (nS (tT (rF2 (rC rfl (lBa rfl rfl)) (rT rfl) ?_))))
 (exact RulP.no rfl (tm0_r _))
theorem ks1 {ks : List Tm} (h : ks.length = 1) : ∃ a, ks = [a] := by
 match ks, h with
 | [a], _ => exact ⟨a, rfl⟩
theorem ks2 {ks : List Tm} (h : ks.length = 2) : ∃ a b, ks = [a, b] := by
 match ks, h with
 | [a, b], _ => exact ⟨a, b, rfl⟩
theorem ks3 {ks : List Tm} (h : ks.length = 3) : ∃ a b c, ks = [a, b, c] := by
 match ks, h with
 | [a, b, c], _ => exact ⟨a, b, c, rfl⟩
/-- The rules, whatever the node. -/
theorem ruleAll {k : Int} {nm : ByteArray} {num : Int} {ty fr : Ty} {lb : Int} {ks : List Tm} {G : IM} {cells : List Value} (hc : cv (.mk k nm num ty fr lb ks)) (hk : k = 1 ∨ k = 6 ∨ k = 7 ∨ k = 8 ∨ k = 9 ∨ k = 11 ∨ k = 12 ∨ k = 14) (hr : RTm G (.mk k nm num ty fr lb ks) cells) :
  Fn Tryz.prog 193 [.agg ⟨cells⟩] [] G (RulP (mRule k ks)) := by
 obtain ⟨hN, hkk⟩ := hc.node
 have hops := hN.ops
 rcases hk with rfl | rfl | rfl | rfl | rfl | rfl | rfl | rfl
 ·obtain rfl : ks = [] := List.length_eq_zero_iff.1 (by have : tmOps 1 = 0 := rfl; omega)
  exact rule1_fn _ _ _ _ _ _ _ hr
 ·obtain ⟨a, b, rfl⟩ := ks2 (ks := ks) (by have : tmOps 6 = 2 := rfl; omega)
  exact rule6_fn a b _ _ _ _ _ _ _ (hkk a (by simp)) hr
 ·obtain ⟨a, b, rfl⟩ := ks2 (ks := ks) (by have : tmOps 7 = 2 := rfl; omega)
  exact rule78_fn 7 a b _ _ _ _ _ _ _ (.inl rfl) (hkk a (by simp)) (hkk b (by simp)) hr
 ·obtain ⟨a, b, rfl⟩ := ks2 (ks := ks) (by have : tmOps 8 = 2 := rfl; omega)
  exact rule78_fn 8 a b _ _ _ _ _ _ _ (.inr rfl) (hkk a (by simp)) (hkk b (by simp)) hr
 ·obtain ⟨a, b, c, rfl⟩ := ks3 (ks := ks) (by have : tmOps 9 = 3 := rfl; omega)
  exact rule9_fn a b c _ _ _ _ _ _ _ hr
 ·obtain ⟨a, rfl⟩ := ks1 (ks := ks) (by have : tmOps 11 = 1 := rfl; omega)
  exact rule11_fn 11 a _ _ _ _ _ _ _ (.inl rfl) (hkk a (by simp)) hr
 ·obtain ⟨a, rfl⟩ := ks1 (ks := ks) (by have : tmOps 12 = 1 := rfl; omega)
  exact rule11_fn 12 a _ _ _ _ _ _ _ (.inr rfl) (hkk a (by simp)) hr
 ·obtain ⟨a, rfl⟩ := ks1 (ks := ks) (by have : tmOps 14 = 1 := rfl; omega)
  exact rule14_fn a _ _ _ _ _ _ _ hr
theorem castAll {k : Int} {nm : ByteArray} {num : Int} {ty fr : Ty} {lb : Int} {ks : List Tm} {G : IM} {cells : List Value} (hc : cv (.mk k nm num ty fr lb ks)) (hk : k = 6 ∨ k = 7 ∨ k = 8 ∨ k = 9 ∨ k = 11 ∨ k = 12 ∨ k = 14) (hr : RTm G (.mk k nm num ty fr lb ks) cells) :
  Fn Tryz.prog 194 [.agg ⟨cells⟩] [] G (StpP (mCRule k ty fr lb ks)) := by
 obtain ⟨hN, hkk⟩ := hc.node
 have hops := hN.ops
 rcases hk with rfl | rfl | rfl | rfl | rfl | rfl | rfl
 ·obtain ⟨a, b, rfl⟩ := ks2 (ks := ks) (by have : tmOps 6 = 2 := rfl; omega)
  exact crule6_fn a b _ _ _ _ _ _ _ (hkk a (by simp)) hr
 ·obtain ⟨a, b, rfl⟩ := ks2 (ks := ks) (by have : tmOps 7 = 2 := rfl; omega)
  exact crule78_fn 7 a b _ _ _ _ _ _ _ (.inl rfl) (hkk a (by simp)) hr
 ·obtain ⟨a, b, rfl⟩ := ks2 (ks := ks) (by have : tmOps 8 = 2 := rfl; omega)
  exact crule78_fn 8 a b _ _ _ _ _ _ _ (.inr rfl) (hkk a (by simp)) hr
 ·obtain ⟨a, b, c, rfl⟩ := ks3 (ks := ks) (by have : tmOps 9 = 3 := rfl; omega)
  exact crule9_fn a b c _ _ _ _ _ _ _ (hkk a (by simp)) hr
 ·obtain ⟨a, rfl⟩ := ks1 (ks := ks) (by have : tmOps 11 = 1 := rfl; omega)
  exact crule11_fn 11 a _ _ _ _ _ _ _ (.inl rfl) (hkk a (by simp)) hr
 ·obtain ⟨a, rfl⟩ := ks1 (ks := ks) (by have : tmOps 12 = 1 := rfl; omega)
  exact crule11_fn 12 a _ _ _ _ _ _ _ (.inr rfl) (hkk a (by simp)) hr
 ·obtain ⟨a, rfl⟩ := ks1 (ks := ks) (by have : tmOps 14 = 1 := rfl; omega)
  exact crule14_fn a _ _ _ _ _ _ _ (hkk a (by simp)) hN.lbB hr
/- The operands' steps. -/
theorem stpL_cons (n : Nat) (t : Tm) (ts : List Tm) : mStpL (n + 1) (t :: ts) = if mVal t = true then (match mStpL n ts with | some (us, c, l) => some (t :: us, c, l) | none => none) else some ((mStp t).1 :: ts, (mStp t).2.1, (mStp t).2.2) := by
 rw [mStpL]; rfl
theorem stpL_none : ∀ (n : Nat) (ks : List Tm), (∀ i, i < n → (h : i < ks.length) → mVal ks[i] = true) → mStpL n ks = none
 | n, [], _ => by cases n <;> rfl
 | 0, t :: ts, _ => rfl
 | n + 1, t :: ts, h => by
  rw [stpL_cons, if_pos (show mVal t = true from h 0 (by omega) (by simp)), stpL_none n ts (fun i hi hl => h (i + 1) (by omega) (by simpa using hl))]
theorem stpL_at : ∀ (n : Nat) (ks : List Tm) (i : Nat) (hi : i < ks.length), i < n → (∀ j, j < i → (h : j < ks.length) → mVal ks[j] = true) → mVal ks[i] = false → mStpL n ks = some (ks.set i (mStp ks[i]).1, (mStp ks[i]).2.1, (mStp ks[i]).2.2)
 | n, [], i, hi, _, _, _ => by simp at hi
 | 0, t :: ts, i, _, hn, _, _ => by omega
 | n + 1, t :: ts, 0, _, _, _, hv => by
  rw [stpL_cons, if_neg (by rw [show mVal t = false from hv]; decide)]; rfl
 | n + 1, t :: ts, i + 1, hi, hn, hj, hv => by
  rw [stpL_cons, if_pos (show mVal t = true from hj 0 (by omega) (by simp)), stpL_at n ts i (by simpa using hi) (by omega) (fun j hji hl => hj (j + 1) (by omega) (by simpa using hl)) hv]
  rfl
theorem red_lab {k : Int} {ty fr : Ty} {lb : Int} {ks : List Tm} (h : (mRed k ty fr lb ks).2.1 = 1) : (mRed k ty fr lb ks).2.2 = 0 := by
 revert h
 unfold mRed stuck
 repeat' split
 all_goals first | (intro _; rfl) | (intro h; exfalso; revert h; simp)
theorem stp_lab {k : Int} {nm : ByteArray} {num : Int} {ty fr : Ty} {lb : Int} {ks : List Tm} (h : (mStp (.mk k nm num ty fr lb ks)).2.1 = 1) : (mStp (.mk k nm num ty fr lb ks)).2.2 = 0 := by
 rw [mStp] at h ⊢
 cases hL : mStpL (if k = 9 then 1 else ks.length) ks with
 | none => rw [hL] at h; exact red_lab h
 | some p =>
  obtain ⟨us, c, l⟩ := p
  rw [hL] at h
  simp only at h ⊢
  by_cases hc : c = 1
  ·rw [if_pos hc]
  ·rw [if_neg hc] at h; exact absurd h hc
theorem stp_lab' {t : Tm} (h : (mStp t).2.1 = 1) : (mStp t).2.2 = 0 := by cases t; exact stp_lab h
/-- The step at an operand. -/
theorem stp_kid {k : Int} {nm : ByteArray} {num : Int} {ty fr : Ty} {lb : Int} {ks : List Tm} {i : Nat} (hi : i < ks.length) (hn : i < (if k = 9 then 1 else ks.length)) (hj : ∀ j, j < i → (h : j < ks.length) → mVal ks[j] = true) (hv : mVal ks[i] = false) :
  (mStp (.mk k nm num ty fr lb ks)).2.1 = (mStp ks[i]).2.1 ∧ (mStp (.mk k nm num ty fr lb ks)).2.2 = (mStp ks[i]).2.2 ∧ ((mStp ks[i]).2.1 = 1 → (mStp (.mk k nm num ty fr lb ks)).1 = .mk k nm num ty fr lb (ks.set i (mStp ks[i]).1)) := by
 rw [mStp, stpL_at _ ks i hi hn hj hv]
 simp only
 by_cases hc : (mStp ks[i]).2.1 = 1
 ·rw [if_pos hc]
  exact ⟨hc.symm, (stp_lab' hc).symm, fun _ => rfl⟩
 ·rw [if_neg hc]
  exact ⟨rfl, rfl, fun h => absurd h hc⟩
theorem stp_red {k : Int} {nm : ByteArray} {num : Int} {ty fr : Ty} {lb : Int} {ks : List Tm} (h : ∀ i, i < (if k = 9 then 1 else ks.length) → (hl : i < ks.length) → mVal ks[i] = true) : mStp (.mk k nm num ty fr lb ks) = match mRule k ks with | some u => (u, 1, 0) | none => mCRule k ty fr lb ks := by
 rw [mStp, stpL_none _ _ h]
 exact red_rule k ty fr lb ks
/-- Which nodes are no values, though their operands are. -/
theorem tmOps_rng {k : Int} (h : 0 ≤ tmOps k) : 1 ≤ k ∧ k ≤ 14 := by
 by_cases hk : 1 ≤ k ∧ k ≤ 14
 ·exact hk
 ·rw [tmOps_no hk] at h; omega
theorem stp_kinds {k : Int} {nm : ByteArray} {num : Int} {ty fr : Ty} {lb : Int} {ks : List Tm} (hc : cv (.mk k nm num ty fr lb ks)) (hv : mVal (.mk k nm num ty fr lb ks) = false) (h : ∀ i, i < (if k = 9 then 1 else ks.length) → (hl : i < ks.length) → mVal ks[i] = true) : k = 1 ∨ k = 6 ∨ k = 7 ∨ k = 8 ∨ k = 9 ∨ k = 11 ∨ k = 12 ∨ k = 14 := by
 obtain ⟨hN, _⟩ := hc.node
 have hr := tmOps_rng (by rw [hN.ops]; omega : 0 ≤ tmOps k)
 have h13 := hN.ne
 have h25 : ¬(k = 2 ∨ k = 3 ∨ k = 4 ∨ k = 5) := by
  intro hk
  rw [mVal, if_neg (by omega)] at hv
  rw [decide_eq_true hk] at hv
  cases hv
 have h10 : k ≠ 10 := by
  rintro rfl
  rw [val_yes (.inl rfl), List.all_eq_false] at hv
  obtain ⟨t, ht, hn⟩ := hv
  obtain ⟨i, hi, rfl⟩ := List.mem_iff_getElem.1 ht
  exact hn (h i (by rw [if_neg (by decide)]; exact hi) hi)
 omega
end Gw
end Go.Proofs.YtaiafkcflhcdaaaGreatDoor
namespace Go.Proofs.YtaiafkcflhcdaaaGreatDoor
open Go Go.RowKit
namespace Gw
set_option maxRecDepth 100000 in
theorem counts_fn (t : Tm) (G : IM) (cells : List Value) (hr : RTm G t cells) : Fn Tryz.prog 191 [.agg ⟨cells⟩] [] G (Val (.int .i64 ((if t.k = 9 then 1 else t.ks.length : Nat) : Int)) G) := by
 obtain ⟨k, nm, num, ⟨tk, tks⟩, ⟨fk, fks⟩, lb, ks⟩ := t
 obtain ⟨pt, ct, pf, cf, p, c, es, rfl, hk, hnum, hlb, hty, hfr, hsl, hkl⟩ := hr.open9
 rw [show (Tm.mk k nm num (.mk tk tks) (.mk fk fks) lb ks).k = k from rfl, show (Tm.mk k nm num (.mk tk tks) (.mk fk fks) lb ks).ks = ks from rfl]
 refine fn_enter Tryz.func191 rfl Tryz.ntmps191 Tryz.results191 rfl ?_
 intro w0
 refine tS (tR ?_)
 (refine seq_step (step_box_a rfl rfl) rfl ?_; rintro _ ⟨b3, rfl⟩)
 refine sP (pA rfl) rfl rfl (sD (nS (tS (tS (tR (sP (pF0 rfl) rfl rfl ?_))))))
 refine sL (lBs rfl rfl) rfl rfl ?_
 refine sB (pE rfl rfl) rfl rfl (fun h12 => ?_) (fun h12 => ?_)
 refine sD (nS (cT rfl ?_))
 refine tS (tR (sP (pA rfl) rfl rfl (sD (nS (tT (rS ?_))))))
 refine rF1 (rT rfl) ?_
 (exact ⟨rfl, by rw [if_pos (by omega)]; rfl, rfl⟩)
 refine sD (nS (cF rfl ?_))
 refine tK (nS (tS (tR (sP (pF0 rfl) rfl rfl (sL (lBs rfl rfl) rfl rfl ?_)))))
 refine sP (pLn rfl rfl) rfl rfl (sP (pA rfl) rfl rfl (sD (nS (tT (rF1 (rT rfl) ?_)))))
 (exact ⟨rfl, by rw [if_neg (by omega)], rfl⟩)
theorem ops0 {k : Int} (h8 : k = 1 ∨ k = 6 ∨ k = 7 ∨ k = 8 ∨ k = 9 ∨ k = 11 ∨ k = 12 ∨ k = 14) (h : tmOps k = 0) : k = 1 := by
 rcases h8 with rfl | rfl | rfl | rfl | rfl | rfl | rfl | rfl
 ·rfl
 all_goals exact absurd h (by decide)
theorem stpP_kid {G : IM} {r r' : Stp} {u : Tm} {cells : List Value} {c l : Int} (h1 : r.2.1 = c) (h2 : r.2.2 = l) (hr : RTm G u cells) (h3 : c = 1 → u = r.1) : StpP r G (.tuple ⟨[.agg ⟨cells⟩, .int .i64 c, .int .i64 l]⟩) [] := by
 subst h1 h2; exact ⟨rfl, u, cells, rfl, hr, h3⟩
set_option maxHeartbeats 0 in
set_option maxRecDepth 100000 in
theorem step_fn : ∀ (t : Tm) (G : IM) (cells : List Value), cv t → mVal t = false → RTm G t cells → Fn Tryz.prog 151 [.agg ⟨cells⟩] [] G (StpP (mStp t)) := by
 refine Tm.ind fun k nm num ty fr lb ks ih G cells hc hv hr => ?_
 have hr0 := hr
 have hN := hc.node.1
 have hkk := hc.node.2
 have hsm := cv_small _ hc
 obtain ⟨_, _, _, _, hksm⟩ := small_mk.1 hsm
 have hops := hN.ops
 have hle3 := tmOps_le k
 have hkd := @stp_kinds k nm num ty fr lb ks hc hv
 have hrd := @stp_red k nm num ty fr lb ks
 have hkidS := fun (i : Nat) => @stp_kid k nm num ty fr lb ks i
 have hRA := fun h => @ruleAll k nm num ty fr lb ks G cells hc h hr
 have hCA := fun h (G1 : IM) (hle : IMle G G1) => @castAll k nm num ty fr lb ks G1 cells hc h (hr.mono hle)
 have hCt := counts_fn _ G _ hr
 rw [show (Tm.mk k nm num ty fr lb ks).k = k from rfl, show (Tm.mk k nm num ty fr lb ks).ks = ks from rfl] at hCt
 obtain ⟨C, hC⟩ : ∃ C : Nat, (if k = 9 then 1 else ks.length : Nat) = C := ⟨_, rfl⟩
 rw [hC] at hCt hkd hrd
 have hkidS' := fun (i : Nat) (hi : i < ks.length) (hn : i < C) => hkidS i hi (by rw [hC]; exact hn)
 have hC9 : C ≤ ks.length := by rw [← hC]; split; (have : tmOps k = 3 := by (rename_i h9; rw [h9]; rfl)); omega; omega
 have hrul := hkd
 obtain ⟨tk, tks⟩ := ty
 obtain ⟨fk, fks⟩ := fr
 obtain ⟨pt, ct, pf, cf, p, c, es, rfl, hk, hnum, hlb, hty, hfr, hsl, hkl⟩ := hr.open9
 have hn := hsl.le
 have hnc := hsl.sl.2.1
 refine fn_enter Tryz.func151 rfl Tryz.ntmps151 Tryz.results151 rfl ?_
 intro w0
 refine tS (tR ?_)
 (refine seq_step (step_box_a rfl rfl) rfl ?_; rintro _ ⟨b3, rfl⟩)
 (refine seq_step (step_alloc rfl) rfl ?_; rintro _ ⟨b4, rfl⟩)
 refine sP (pA rfl) rfl rfl (sP (pA rfl) rfl rfl (sD (nS (tS (tS (tri_draw mixed rfl ?_))))))
 refine any_pure (i := 0) (l' := [tt,ff,ff,ff,ff,ff,ff]) rfl npI (pF0 rfl) rfl (by kernel_rfl) rfl rfl ?_
 refine aL 1 rfl (lBs rfl rfl) rfl rfl ?_
 refine aL 2 rfl (lBa rfl rfl) rfl rfl ?_
 refine aP 6 rfl (pM rfl) rfl rfl ?_
 refine aO (j := 3) (by kernel_rfl) ?_
 refine one_val (l' := [tt,tt,tt,tt,ff,ff,tt]) rfl rfl (hCt) rfl rfl rfl ?_
 refine aP 4 rfl (pure_slice_to (l := C) rfl rfl rfl (by omega)) rfl rfl ?_
 refine aP 5 rfl (pLn rfl rfl) rfl rfl ?_
 refine aD (by kernel_rfl) ?_
 refine nS (tri_block ?_)
 (refine tri_loopN (fun (i : Nat) => ⟨[(19, .int .i64 (i : Int)), (18, .int .i64 (C : Int)), (17, .slice p C c), (1, .pointer (some ⟨b3, 0, none⟩)), (2, .pointer (some ⟨b4, 0, none⟩))], [.blk b4 [.int .i64 0, .string ⟨⟨[]⟩⟩, .int .i64 0, .int .i64 0, .slice none 0 0, .int .i64 0, .slice none 0 0, .int .i64 0, .slice none 0 0], .blk b3 [.int .i64 k, .string nm, .int .i64 num, .int .i64 tk, .slice pt tks.length ct, .int .i64 fk, .slice pf fks.length cf, .int .i64 lb, .slice p ks.length c]], G⟩) (fun i => i ≤ C ∧ ∀ j, j < i → (h : j < ks.length) → mVal ks[j] = true) (fun i => C - i) 0 ?_ ?_ ?_)
 exact sub_mk (by repeat (first | exact SubE.nil | refine SubE.cons rfl ?_)) (by repeat (first | exact SubH.refl | exact SubH.nil | refine SubH.cons (by repeat (first | exact Pk.here | apply Pk.there)) ?_ | apply SubH.drop))
 (exact ⟨Nat.zero_le _, fun j hj => absurd hj (Nat.not_lt_zero j)⟩)
 (rintro i ⟨hi, hj⟩)
 refine tS (tR (sB (pure_lss rfl rfl) rfl rfl (fun h29 => ?_) (fun h29 => ?_)))
 refine sD (nS (tS (cT rfl ?_)))
 refine tK (nS (tS (tri_block (tS (tR (sP (pM rfl) rfl rfl ?_))))))
 (have hiC : i < C := (by omega); obtain ⟨bx, ox, e, rfl, hl, hat, hre, hgb⟩ := hsl.kidTm hkl (i := i) (by omega) (by omega); have heo := hre.one; have hVi := isValue_fn ks[i] G e hre; refine sP (pIN (j := i) rfl rfl rfl hiC) rfl rfl ?_)
 refine sL (load_a rfl rfl (hat _) hl) rfl rfl ?_
 (refine seq_step (step_alloc rfl) rfl ?_; rintro _ ⟨b43, rfl⟩)
 refine sP (pA rfl) rfl rfl (sS rfl rfl rfl hl heo rfl ?_ (hu := by exact upd_all hl.symm))
 refine sD (nS (tS (tS (tR (sL (load_a rfl rfl (at_blk_all (by repeat first | exact mH | apply mT)) hl) rfl rfl ?_)))))
 refine seq_valb rfl (hVi) rfl rfl (fun h52 => ?_) (fun h52 => ?_)
 refine sD (nS (cT rfl ?_))
 refine tri_exit ?_
 refine ext_seq ?_
 refine ext_block_eq ?_
 refine nS (tR (sP (pure_add rfl rfl (by omega) (by omega)) rfl rfl ?_))
 refine sP (pM rfl) rfl rfl (sD (nrm_loopN (i + 1) ?_ ?_ ?_))
 exact sub_mk (by repeat (first | exact SubE.nil | refine SubE.cons rfl ?_)) (by repeat (first | exact SubH.refl | exact SubH.nil | refine SubH.cons (by repeat (first | exact Pk.here | apply Pk.there)) ?_ | apply SubH.drop))
 (exact ⟨by omega, fun j hji hl2 => (by by_cases he : j = i; (subst he; assumption); exact hj j (by omega) hl2)⟩)
 (show C - (i + 1) < C - i; omega)
 refine sD (nS (cF rfl ?_))
 refine tK (nS (tS (tR (sL (load_a rfl rfl (at_blk_all (by repeat first | exact mH | apply mT)) hl) rfl rfl ?_))))
 (have hvF : mVal ks[i] = false := (by assumption); obtain ⟨hs1, hs2, hs3⟩ := hkidS' i (by omega) hiC (fun j hji hl2 => hj j hji hl2) hvF; refine seq_imm rfl (ih ks[i] (List.getElem_mem (by omega)) G e (hkk _ (List.getElem_mem (by omega))) hvF hre) rfl rfl (fun v G1 hle1 hh => ?_); obtain ⟨u, uc, rfl, hru, hu1⟩ := hh; have hul := hru.len; have huo := hru.one; have hClo := clone_tm G1 _ ks.length c es (hsl.mono hle1) (by omega) (by omega))
 refine sP (pM rfl) rfl rfl (sP (pX rfl rfl) rfl rfl (sP (pX rfl rfl) rfl rfl (sP (pX rfl rfl) rfl rfl ?_)))
 (refine seq_step (step_alloc rfl) rfl ?_; rintro _ ⟨b81, rfl⟩)
 refine sS rfl rfl rfl hul huo rfl ?_ (hu := by exact upd_all hul.symm)
 refine sP (pA rfl) rfl rfl (sP (pA rfl) rfl rfl (sD (nS (tS (tR (sL (lBa rfl rfl) rfl rfl ?_))))))
 (refine seq_step (step_alloc rfl) rfl ?_; rintro _ ⟨b90, rfl⟩)
 refine sS rfl rfl rfl rfl rfl rfl ?_
 refine sD (nS (tS (tR (sP (pF0 rfl) rfl rfl (sL (lBs rfl rfl) rfl rfl ?_)))))
 (refine seq_own rfl hClo rfl rfl (fun v98 G98 outs98 hle98 h98 => ?_); obtain ⟨hG, p1, c1, rfl, rfl⟩ := h98; replace hG := hG.symm; subst hG; refine triL_open (cs := es.flatten) (by repeat (first | exact Pk.here | apply Pk.there)) (by omega) (fun bc Cc hpe hnc1 hcm => ?_); subst hpe)
 replace hru := hru.mono hle98
 refine sP (pF0 rfl) rfl rfl (sS rfl rfl rfl rfl rfl rfl ?_)
 refine sD (nS (tS (tR (sP (pF0 rfl) rfl rfl (sL (lBs rfl rfl) rfl rfl ?_)))))
 refine sP (pM rfl) rfl rfl (sL (load_a rfl rfl (at_blk_all (by repeat first | exact mH | apply mT)) hul) rfl rfl ?_)
 refine sP (pIN (j := i) rfl rfl rfl (by omega)) rfl rfl ?_
 refine seq_store rfl rfl rfl hul huo rfl (by repeat first | exact Sw.here | apply Sw.there) (by exact upd_set (by rw [hkl.len]; omega) (fun e he => (hsl.all e he)) hul) ?_
 refine sD (nS (tS (tR (sL (lBa rfl rfl) rfl rfl ?_))))
 refine sP (pM rfl) rfl rfl (sP (pM rfl) rfl rfl (sS rfl rfl rfl rfl rfl rfl ?_))
 refine sP (pA rfl) rfl rfl (sP (pA rfl) rfl rfl (sD (nS ?_)))
 (refine tri_freezes (bs := [(bc, (es.set i uc).flatten ++ Cc)]) (Pk.perm (by repeat (first | exact Pk.here | apply Pk.there))) (fun hn2 hd2 hle2 => ?_))
 refine tT (rB (rS (ret_loopN (rB (rS (rF3 (rC rfl (lBa rfl rfl)) (rT rfl) (rT rfl) ?_))))))
 (have hks2 := RTmL.set (j := i) ((hkl.mono hle1).mono hle2) (hru.mono hle2); refine stpP_kid (r' := stuck) hs1 hs2 (RTm.put (us := ks.set i u) (es := es.set i uc) hk hnum hlb ((hty.mono hle1).mono hle2) ((hfr.mono hle1).mono hle2) (by rw [List.length_set]) (SlE.of (Sl.of_blk (A := []) (by rw [flat_len hks2.all, hks2.len, List.length_set]) (by omega) hcm (Wi.in hn2 List.mem_cons_self)) (by rw [hks2.len, List.length_set]) hks2.all (fun e he => by obtain ⟨q, hq⟩ := List.getElem?_of_mem he; exact (hks2.inv hq tm0).2.one)) hks2) (fun h1 => by rw [hs3 h1, hu1 h1]))
 refine sD (nS (tS (cF rfl ?_)))
 refine tri_exit ?_
 refine ext_seq ?_
 refine ext_loopN ?_
 refine ext_block_eq ?_
 refine nS (tS (tS (tR (sL (lBa rfl rfl) rfl rfl ?_))))
 focus (have hall : ∀ i, i < C → (hl : i < ks.length) → mVal ks[i] = true := (fun j hjc hl2 => hj j (by omega) hl2); have hk8 := hkd hall; have hrd' := hrd hall; refine seq_imm rfl (hRA hk8) rfl rfl (fun v G1 hle1 hh => ?_); obtain ⟨u, uc, cc, rfl, hru, hy, hno⟩ := hh; have hul := hru.len; have huo := hru.one; rcases hm : mRule k ks with _ | x; rotate_left; obtain ⟨rfl, rfl⟩ := hy _ hm; rotate_left; obtain rfl := hno hm; rw [hm] at hrd')
 refine sP (pM rfl) rfl rfl (sP (pX rfl rfl) rfl rfl (sP (pX rfl rfl) rfl rfl ?_))
 (refine seq_step (step_alloc rfl) rfl ?_; rintro _ ⟨b149, rfl⟩)
 refine sS rfl rfl rfl hul huo rfl ?_ (hu := by exact upd_all hul.symm)
 refine sP (pA rfl) rfl rfl (sD (nS (tS (tR (sP (pM rfl) rfl rfl (sP (pure_eql_f rfl rfl (by omega)) rfl rfl ?_))))))
 refine sD (nS (cF rfl ?_))
 refine tK (nS (tS (tS (tR (sP (pF0 rfl) rfl rfl (sL (lBs rfl rfl) rfl rfl ?_))))))
 refine sP (pLn rfl rfl) rfl rfl (sB (pE rfl rfl) rfl rfl (fun h169 => ?_) (fun h169 => ?_))
 refine sD (nS (cT rfl ?_))
 refine tS (tR (sP (pBd rfl rfl) rfl rfl (sS rfl rfl rfl rfl rfl rfl ?_)))
 refine sP (pA rfl) rfl rfl (sP (pA rfl) rfl rfl (sD (nS (tT (rS (rF3 (rC rfl (lBa rfl rfl)) (rT rfl) (rT rfl) ?_))))))
 (obtain rfl : k = 1 := ops0 hk8 (by omega); rw [hrd']; exact StpP.mk rfl (tm0_r _))
 refine sD (nS (cF rfl ?_))
 refine tK (nS (tS (tR (sL (lBa rfl rfl) rfl rfl ?_))))
 (have hk7 : k = 6 ∨ k = 7 ∨ k = 8 ∨ k = 9 ∨ k = 11 ∨ k = 12 ∨ k = 14 := (by rcases hk8 with h1 | hh; (rw [h1] at hops; have : tmOps 1 = 0 := rfl; omega); exact hh); refine seq_imm rfl (hCA hk7 _ hle1) rfl rfl (fun v G2 hle2 hh => ?_); obtain ⟨w, wc, rfl, hrw, hw1⟩ := hh; have hwl := hrw.len; have hwo := hrw.one)
 refine sP (pX rfl rfl) rfl rfl (sP (pX rfl rfl) rfl rfl (sP (pX rfl rfl) rfl rfl (sS rfl rfl rfl hwl hwo rfl ?_ (hu := by exact upd_all hwl.symm))))
 refine sP (pA rfl) rfl rfl (sP (pA rfl) rfl rfl (sD (nS (tT (rF3 (rC rfl (load_a rfl rfl (at_blk_all (by repeat first | exact mH | apply mT)) hwl)) (rT rfl) (rT rfl) ?_)))))
 (rw [hrd']; exact stpP_kid (r' := stuck) rfl rfl hrw hw1)
 refine sP (pM rfl) rfl rfl (sP (pX rfl rfl) rfl rfl (sP (pX rfl rfl) rfl rfl ?_))
 (refine seq_step (step_alloc rfl) rfl ?_; rintro _ ⟨b208, rfl⟩)
 refine sS rfl rfl rfl hul huo rfl ?_ (hu := by exact upd_all hul.symm)
 refine sP (pA rfl) rfl rfl (sD (nS (tS (tR (sP (pM rfl) rfl rfl (sP (pure_eql_t rfl rfl (by omega)) rfl rfl ?_))))))
 refine sD (nS (cT rfl ?_))
 refine tS (tR (sL (load_a rfl rfl (at_blk_all (by repeat first | exact mH | apply mT)) hul) rfl rfl ?_))
 refine sP (pM rfl) rfl rfl (sS rfl rfl rfl hul huo rfl ?_ (hu := by exact upd_all hul.symm))
 refine sP (pA rfl) rfl rfl (sP (pA rfl) rfl rfl (sD (nS (tT (rS (rF3 (rC rfl (load_a rfl rfl (at_blk_all (by repeat first | exact mH | apply mT)) hul)) (rT rfl) (rT rfl) ?_))))))
 (rw [hrd', hm]; exact StpP.mk rfl hru)
end Gw
end Go.Proofs.YtaiafkcflhcdaaaGreatDoor
namespace Go.Proofs.YtaiafkcflhcdaaaGreatDoor
open Go Go.RowKit
namespace Gw
/-- Exactly what comes of a step. -/
def StpX (r : Stp) : IM → Value → List Ent → Prop := Imm fun G' v => ∃ cells, v = .tuple ⟨[.agg ⟨cells⟩, .int .i64 r.2.1, .int .i64 r.2.2]⟩ ∧ RTm G' r.1 cells
theorem StpX.mk {G : IM} {r : Stp} {u : Tm} {c l : Int} {cells : List Value} (h : r = (u, c, l)) (hr : RTm G u cells) : StpX r G (.tuple ⟨[.agg ⟨cells⟩, .int .i64 c, .int .i64 l]⟩) [] := by
 subst h; exact ⟨rfl, cells, rfl, hr⟩
theorem cV_small {t : Tm} (h : castValid t = true) : t.small := cv_small t (cv_of h).1
theorem stepCast_1 {e : Tm} (h : castValid e = false) : mStepCast e = (tm0, 3, 0) := by unfold mStepCast; rw [if_pos h]; rfl
theorem stepCast_2 {e : Tm} (h : castValid e = true) (h2 : mVal e = true) : mStepCast e = (e, 0, 0) := by unfold mStepCast; rw [if_neg (by rw [h]; decide), if_pos h2]
theorem stepCast_3 {e : Tm} (h : castValid e = true) (h2 : mVal e = false) (h3 : (mStp e).2.1 ≠ 1) : mStepCast e = (tm0, (mStp e).2.1, (mStp e).2.2) := by
 unfold mStepCast; rw [if_neg (by rw [h]; decide), if_neg (by rw [h2]; decide), if_pos h3]
theorem stepCast_4 {e : Tm} (h : castValid e = true) (h2 : mVal e = false) (h3 : (mStp e).2.1 = 1) (h4 : castValid (mStp e).1 = false) : mStepCast e = (tm0, 4, 0) := by
 unfold mStepCast; rw [if_neg (by rw [h]; decide), if_neg (by rw [h2]; decide), if_neg (by omega), if_pos h4]
theorem stepCast_5 {e : Tm} (h : castValid e = true) (h2 : mVal e = false) (h3 : (mStp e).2.1 = 1) (h4 : castValid (mStp e).1 = true) : mStepCast e = ((mStp e).1, 1, 0) := by
 unfold mStepCast; rw [if_neg (by rw [h]; decide), if_neg (by rw [h2]; decide), if_neg (by omega), if_neg (by rw [h4]; decide)]
theorem stepCast_valid {e : Tm} (h : (mStepCast e).2.1 = 1) : castValid (mStepCast e).1 = true := by
 cases h1 : castValid e with
 | false => rw [stepCast_1 h1] at h; simp at h
 | true =>
  cases h2 : mVal e with
  | true => rw [stepCast_2 h1 h2] at h; simp at h
  | false =>
   by_cases h3 : (mStp e).2.1 = 1
   ·cases h4 : castValid (mStp e).1 with
    | false => rw [stepCast_4 h1 h2 h3 h4] at h; simp at h
    | true => rw [stepCast_5 h1 h2 h3 h4]; exact h4
   ·rw [stepCast_3 h1 h2 h3] at h; exact absurd h h3
set_option maxHeartbeats 0 in
set_option maxRecDepth 100000 in
theorem stepCast_fn (t : Tm) (G : IM) (cells : List Value) (hr : RTm G t cells) : Fn Tryz.prog 108 [.agg ⟨cells⟩] [] G (StpX (mStepCast t)) := by
 have hRl := hr.len
 have hRo := hr.one
 have hV := castValid_fn t G cells hr
 have hI := isValue_fn t G cells hr
 refine fn_enter Tryz.func108 rfl Tryz.ntmps108 Tryz.results108 rfl ?_
 intro w0
 refine tS (tR ?_)
 (refine seq_step (step_box_a rfl rfl) rfl ?_; rintro _ ⟨b3, rfl⟩)
 (refine seq_step (step_alloc rfl) rfl ?_; rintro _ ⟨b4, rfl⟩)
 refine sP (pA rfl) rfl rfl (sP (pA rfl) rfl rfl (sD (nS (tS (tri_block (tS ?_))))))
 refine tR (sL (load_a rfl rfl (at_blk_all (by repeat first | exact mH | apply mT)) hRl) rfl rfl ?_)
 refine seq_valb rfl (hV) rfl rfl (fun h14 => ?_) (fun h14 => ?_)
 refine sP (pNt rfl) rfl rfl (sP (pA rfl) rfl rfl (sD (nS (cF rfl ?_))))
 refine tS (tR (sL (load_a rfl rfl (at_blk_all (by repeat first | exact mH | apply mT)) hRl) rfl rfl ?_))
 refine seq_valb rfl (hI) rfl rfl (fun h23 => ?_) (fun h23 => ?_)
 refine sP (pA rfl) rfl rfl (sD (nS (cT rfl ?_)))
 refine tS (tR (sL (load_a rfl rfl (at_blk_all (by repeat first | exact mH | apply mT)) hRl) rfl rfl ?_))
 (refine seq_imm rfl (own_fn t G cells (cV_small (by assumption)) hr) rfl rfl (fun v G1 hle1 hh => ?_); obtain ⟨cs1, F1, rfl, hs1, hn1⟩ := hh; have hul := hs1.R.len; have huo := hs1.R.one)
 refine sS rfl rfl rfl hul huo rfl ?_ (hu := by exact upd_all hul.symm)
 refine sP (pA rfl) rfl rfl (sP (pA rfl) rfl rfl (sD (nS (tT (rB (rS ?_))))))
 refine rF3 (rC rfl (load_a rfl rfl (at_blk_all (by repeat first | exact mH | apply mT)) hul)) (rT rfl) (rT rfl) ?_
 (exact StpX.mk (stepCast_2 (by assumption) (by assumption)) (hs1.R.mono (Dif.le _ _)))
 refine sP (pA rfl) rfl rfl (sD (nS (cF rfl ?_)))
 refine tK (nrm_block (nS (tS (tR (sL (load_a rfl rfl (at_blk_all (by repeat first | exact mH | apply mT)) hRl) rfl rfl ?_)))))
 (refine seq_imm rfl (step_fn t G cells (cv_of (by assumption)).1 (by assumption) hr) rfl rfl (fun v G1 hle1 hh => ?_); obtain ⟨u, uc, rfl, hru, hu1⟩ := hh; have hul := hru.len; have huo := hru.one; have hVu := castValid_fn u G1 uc hru)
 refine sP (pM rfl) rfl rfl (sP (pX rfl rfl) rfl rfl (sP (pX rfl rfl) rfl rfl (sP (pX rfl rfl) rfl rfl ?_)))
 (refine seq_step (step_alloc rfl) rfl ?_; rintro _ ⟨b57, rfl⟩)
 refine sS rfl rfl rfl hul huo rfl ?_ (hu := by exact upd_all hul.symm)
 refine sP (pA rfl) rfl rfl (sP (pA rfl) rfl rfl (sD (nS (tS (tri_block (tS ?_))))))
 refine tR (sP (pM rfl) rfl rfl (sB (pure_neq rfl rfl) rfl rfl (fun h68 => ?_) (fun h68 => ?_)))
 refine sP (pA rfl) rfl rfl (sD (nS (cT rfl ?_)))
 refine tS (tR (sP (pBd rfl rfl) rfl rfl (sP (pM rfl) rfl rfl (sP (pM rfl) rfl rfl (sS rfl rfl rfl rfl rfl rfl ?_)))))
 refine sP (pA rfl) rfl rfl (sP (pA rfl) rfl rfl (sD (nS (tT (rB (rS ?_))))))
 refine rF3 (rC rfl (lBa rfl rfl)) (rT rfl) (rT rfl) ?_
 (exact StpX.mk (stepCast_3 (by assumption) (by assumption) (by omega)) (tm0_r _))
 refine sP (pA rfl) rfl rfl (sD (nS (cF rfl ?_)))
 refine tS (tR (sL (load_a rfl rfl (at_blk_all (by repeat first | exact mH | apply mT)) hul) rfl rfl ?_))
 refine seq_valb rfl (hVu) rfl rfl (fun h95 => ?_) (fun h95 => ?_)
 refine sP (pNt rfl) rfl rfl (sP (pA rfl) rfl rfl (sD (nS (cF rfl ?_))))
 refine tK (nrm_block (nS (tS (tR (sL (load_a rfl rfl (at_blk_all (by repeat first | exact mH | apply mT)) hul) rfl rfl ?_)))))
 (refine seq_imm rfl (own_fn u G1 uc (cV_small (by assumption)) hru) rfl rfl (fun v G2 hle2 hh => ?_); obtain ⟨cs2, F2, rfl, hs2, hn2⟩ := hh; have hwl := hs2.R.len; have hwo := hs2.R.one)
 refine sS rfl rfl rfl hwl hwo rfl ?_ (hu := by exact upd_all hwl.symm)
 refine sP (pA rfl) rfl rfl (sP (pA rfl) rfl rfl (sD (nS (tT (rF3 (rC rfl (load_a rfl rfl (at_blk_all (by repeat first | exact mH | apply mT)) hwl)) (rT rfl) (rT rfl) ?_)))))
 (have h9 := hu1 (by omega); subst h9; exact StpX.mk (stepCast_5 (by assumption) (by assumption) (by omega) (by assumption)) (hs2.R.mono (Dif.le _ _)))
 refine sP (pNf rfl) rfl rfl (sP (pA rfl) rfl rfl (sD (nS (cT rfl ?_))))
 refine tS (tR (sP (pBd rfl rfl) rfl rfl (sS rfl rfl rfl rfl rfl rfl ?_)))
 refine sP (pA rfl) rfl rfl (sP (pA rfl) rfl rfl (sD (nS (tT (rB (rS ?_))))))
 refine rF3 (rC rfl (lBa rfl rfl)) (rT rfl) (rT rfl) ?_
 (have h9 := hu1 (by omega); subst h9; exact StpX.mk (stepCast_4 (by assumption) (by assumption) (by omega) (by assumption)) (tm0_r _))
 refine sP (pNf rfl) rfl rfl (sP (pA rfl) rfl rfl (sD (nS (cT rfl ?_))))
 refine tS (tR (sP (pBd rfl rfl) rfl rfl (sS rfl rfl rfl rfl rfl rfl ?_)))
 refine sP (pA rfl) rfl rfl (sP (pA rfl) rfl rfl (sD (nS (tT (rB (rS ?_))))))
 refine rF3 (rC rfl (lBa rfl rfl)) (rT rfl) (rT rfl) ?_
 (exact StpX.mk (stepCast_1 (by assumption)) (tm0_r _))
/-- Steps, at most so many, the last one told as it is. -/
def mEvR : Nat → Tm → Tm × Int × Int × Nat
 | 0, e => ((mStepCast e).1, (mStepCast e).2.1, (mStepCast e).2.2, 0)
 | n + 1, e => if (mStepCast e).2.1 = 1 then ((mEvR n (mStepCast e).1).1, (mEvR n (mStepCast e).1).2.1, (mEvR n (mStepCast e).1).2.2.1, (mEvR n (mStepCast e).1).2.2.2 + 1)
  else ((mStepCast e).1, (mStepCast e).2.1, (mStepCast e).2.2, 0)
theorem evR_0 (e : Tm) : mEvR 0 e = ((mStepCast e).1, (mStepCast e).2.1, (mStepCast e).2.2, 0) := by rw [mEvR]
theorem evR_p {n : Nat} {e : Tm} (h : (mStepCast e).2.1 = 1) : mEvR (n + 1) e = ((mEvR n (mStepCast e).1).1, (mEvR n (mStepCast e).1).2.1, (mEvR n (mStepCast e).1).2.2.1, (mEvR n (mStepCast e).1).2.2.2 + 1) := by rw [mEvR, if_pos h]
theorem evR_n {n : Nat} {e : Tm} (h : (mStepCast e).2.1 ≠ 1) : mEvR (n + 1) e = ((mStepCast e).1, (mStepCast e).2.1, (mStepCast e).2.2, 0) := by rw [mEvR, if_neg h]
theorem evR_ev1 : ∀ (n : Nat) (e : Tm), (mEvR n e).2.1 = 1 → mEv n e = (tm0, 5, 0, (mEvR n e).2.2.2)
 | 0, e, h => by rw [evR_0] at h ⊢; rw [mEv, if_pos h]
 | n + 1, e, h => by
  by_cases h1 : (mStepCast e).2.1 = 1
  ·rw [evR_p h1] at h ⊢
   rw [mEv, if_pos h1, evR_ev1 n _ h]
  ·rw [evR_n h1] at h; exact absurd h h1
theorem evR_ev2 : ∀ (n : Nat) (e : Tm), (mEvR n e).2.1 ≠ 1 → mEv n e = mEvR n e
 | 0, e, h => by rw [evR_0] at h ⊢; rw [mEv, if_neg h]
 | n + 1, e, h => by
  by_cases h1 : (mStepCast e).2.1 = 1
  ·rw [evR_p h1] at h ⊢
   rw [mEv, if_pos h1, evR_ev2 n _ h]
  ·rw [evR_n h1]; rw [mEv, if_neg h1]
/-- What evaluate tells. -/
def EvP (r : Tm × Int × Int × Nat) : IM → Value → List Ent → Prop := Imm fun G' v => ∃ cells, v = .tuple ⟨[.agg ⟨cells⟩, .int .i64 r.2.1, .int .i64 r.2.2.1, .int .i64 (r.2.2.2 : Int)]⟩ ∧ RTm G' r.1 cells
def evAdd (i : Nat) (r : Tm × Int × Int × Nat) : Tm × Int × Int × Nat := (r.1, r.2.1, r.2.2.1, r.2.2.2 + i)
theorem evR_end {m i : Nat} {e : Tm} (h : (mStepCast e).2.1 ≠ 1 ∨ m = 0) : evAdd i (mEvR m e) = ((mStepCast e).1, (mStepCast e).2.1, (mStepCast e).2.2, i) := by
 cases m with
 | zero => simp [evAdd, mEvR]
 | succ m =>
  rcases h with h | h
  ·simp only [evAdd, mEvR]; rw [if_neg h]; simp
  ·cases h
theorem evR_go {m i : Nat} {e : Tm} (h : (mStepCast e).2.1 = 1) (hm : 0 < m) : evAdd i (mEvR m e) = evAdd (i + 1) (mEvR (m - 1) (mStepCast e).1) := by
 obtain ⟨k, rfl⟩ : ∃ k, m = k + 1 := ⟨m - 1, by omega⟩
 simp only [evAdd, mEvR]; rw [if_pos h]; simp only [Nat.add_sub_cancel, Nat.add_assoc, Nat.add_comm 1 i]
section fin
variable {P : Program} {Γ : Ctx} {env : Env} {hp : List Ent} {G : IM}
theorem nrm_fin0 {post : IM → Value → List Ent → Prop} {σ : Sy} (hk : post σ.G (.tuple ⟨[]⟩) []) : retK P Γ [] post .normal σ := ⟨[], .nil, [], σ.hp, by simp, hk⟩
theorem ret_fin4 {r r2 r3 r4 : ResultVar} {post : IM → Value → List Ent → Prop} {v v2 v3 v4 : Value} (h : ResOne P Γ ⟨env, hp, G⟩ r v) (h2 : ResOne P Γ ⟨env, hp, G⟩ r2 v2) (h3 : ResOne P Γ ⟨env, hp, G⟩ r3 v3) (h4 : ResOne P Γ ⟨env, hp, G⟩ r4 v4) (hk : post G (.tuple ⟨[v, v2, v3, v4]⟩) []) :
  retK P Γ [r, r2, r3, r4] post .ret ⟨env, hp, G⟩ := ret_fin0 (.cons h (.cons h2 (.cons h3 (.cons h4 .nil)))) hk
end fin
theorem EvP.mk {G : IM} {r : Tm × Int × Int × Nat} {u : Tm} {c l : Int} {i : Nat} {cells : List Value} (h : r = (u, c, l, i)) (hr : RTm G u cells) : EvP r G (.tuple ⟨[.agg ⟨cells⟩, .int .i64 c, .int .i64 l, .int .i64 (i : Int)]⟩) [] := by
 subst h; exact ⟨rfl, cells, rfl, hr⟩
set_option maxHeartbeats 0 in
set_option maxRecDepth 100000 in
theorem evaluate_fn (e : Tm) (n : Nat) (hn : n ≤ 300) (fid : FuncId) [FunI Tryz.prog fid] (us cs : List Value) (hq : ∀ (G : IM) (u : Tm) (cells : List Value), RTm G u cells → Fn Tryz.prog fid (us ++ [.agg ⟨cells⟩] ++ cs) [] G (Val (.tuple ⟨[]⟩) G))
  (G : IM) (cells : List Value) (hr : RTm G e cells) : Fn Tryz.prog 53 [.agg ⟨cells⟩, .int .i64 (n : Int), .func (.func fid) ⟨us⟩ ⟨cs⟩] [] G (EvP (mEvR n e)) := by
 have hRl := hr.len
 have hRo := hr.one
 have hq0 := hq G e cells hr
 refine fn_enter Tryz.func53 rfl Tryz.ntmps53 Tryz.results53 rfl ?_
 intro w0
 refine tS (tR ?_)
 (refine seq_step (step_box_a rfl rfl) rfl ?_; rintro _ ⟨b3, rfl⟩)
 (refine seq_step (step_alloc rfl) rfl ?_; rintro _ ⟨b4, rfl⟩)
 refine sP (pA rfl) rfl rfl (sP (pA rfl) rfl rfl (sP (pA rfl) rfl rfl (sD (nS (tS (tR ?_))))))
 refine sP (pM rfl) rfl rfl (sL (load_a rfl rfl (at_blk_all (by repeat first | exact mH | apply mT)) hRl) rfl rfl ?_)
 (refine seq_vval rfl rfl hq0 rfl rfl ?_)
 refine sD (nS (tS (tR (sP (pA rfl) rfl rfl (sD (nS ?_))))))
 refine tri_block ?_
 (refine tri_loopN (fun (x : Nat × Tm × List Value × IM) => ⟨[(10, .int .i64 (x.1 : Int)), (1, .int .i64 (n : Int)), (2, .func (.func fid) ⟨us⟩ ⟨cs⟩), (3, .pointer (some ⟨b3, 0, none⟩)), (6, .pointer (some ⟨b4, 0, none⟩))], [.blk b3 x.2.2.1, .blk b4 [.int .i64 0, .string ⟨⟨[]⟩⟩, .int .i64 0, .int .i64 0, .slice none 0 0, .int .i64 0, .slice none 0 0, .int .i64 0, .slice none 0 0]], x.2.2.2⟩) (fun x => x.1 ≤ n ∧ IMle G x.2.2.2 ∧ RTm x.2.2.2 x.2.1 x.2.2.1 ∧ evAdd x.1 (mEvR (n - x.1) x.2.1) = mEvR n e) (fun x => n - x.1) (0, e, cells, G) ?_ ?_ ?_)
 (simp only [flat_snoc]; exact sub_mk (by repeat (first | exact SubE.nil | refine SubE.cons rfl ?_)) (by repeat (first | exact SubH.refl | exact SubH.nil | refine SubH.cons (by repeat (first | exact Pk.here | apply Pk.there)) ?_ | apply SubH.drop)))
 (exact ⟨Nat.zero_le _, IMle.refl _, hr, rfl⟩)
 (rintro ⟨i, u, uc, Gi⟩ ⟨hi, hle, hru, hev⟩; simp only [] at hi hle hru hev ⊢; have hul := hru.len; have huo := hru.one)
 refine tS (tri_block (tS (tR (sL (load_a rfl rfl (at_blk_all (by repeat first | exact mH | apply mT)) hul) rfl rfl ?_))))
 (refine seq_imm rfl (stepCast_fn u Gi uc hru) rfl rfl (fun v G1 hle1 hh => ?_); obtain ⟨wc, hv, hrw⟩ := hh; have hwl := hrw.len; have hwo := hrw.one; have hend := @evR_end (n - i) i u; have hgo := @evR_go (n - i) i u; generalize mStepCast u = r at hv hrw hend hgo; obtain ⟨w, c, l⟩ := r; simp only at hv hrw hend hgo; subst hv)
 refine sP (pM rfl) rfl rfl (sP (pX rfl rfl) rfl rfl (sP (pX rfl rfl) rfl rfl (sP (pX rfl rfl) rfl rfl ?_)))
 (refine seq_step (step_alloc rfl) rfl ?_; rintro _ ⟨b37, rfl⟩)
 refine sS rfl rfl rfl hwl hwo rfl ?_ (hu := by exact upd_all hwl.symm)
 refine sP (pA rfl) rfl rfl (sP (pA rfl) rfl rfl (sD (nS (tS (tS (tR ?_))))))
 refine sP (pM rfl) rfl rfl (sB (pure_neq rfl rfl) rfl rfl (fun h47 => ?_) (fun h47 => ?_))
 refine sP (pM rfl) rfl rfl (sK rfl rfl (sK rfl rfl (sK rfl rfl (sP (pPt rfl rfl) rfl rfl (sD (nS ?_))))))
 refine cT rfl ?_
 refine tS (tR (sL (load_a rfl rfl (at_blk_all (by repeat first | exact mH | apply mT)) hwl) rfl rfl ?_))
 refine sP (pM rfl) rfl rfl (sP (pM rfl) rfl rfl (sP (pM rfl) rfl rfl (sS rfl rfl rfl hwl hwo rfl ?_ (hu := by exact upd_all hwl.symm))))
 refine sP (pA rfl) rfl rfl (sP (pA rfl) rfl rfl (sP (pA rfl) rfl rfl (sD (nS (tT (rS ?_))))))
 refine rB (rS (ret_loopN (rB (ret_fin4 (rC rfl (load_a rfl rfl (at_blk_all (by repeat first | exact mH | apply mT)) hwl)) (rT rfl) (rT rfl) (rT rfl) ?_))))
 (exact EvP.mk (by rw [← hev]; exact hend (by omega)) hrw)
 refine sP (pM rfl) rfl rfl (sP (pM rfl) rfl rfl (sP (pM rfl) rfl rfl (sB (pE rfl rfl) rfl rfl (fun h79 => ?_) (fun h79 => ?_))))
 refine sP (pPf rfl rfl) rfl rfl (sD (nS (cT rfl ?_)))
 refine tS (tR (sL (load_a rfl rfl (at_blk_all (by repeat first | exact mH | apply mT)) hwl) rfl rfl ?_))
 refine sP (pM rfl) rfl rfl (sP (pM rfl) rfl rfl (sP (pM rfl) rfl rfl (sS rfl rfl rfl hwl hwo rfl ?_ (hu := by exact upd_all hwl.symm))))
 refine sP (pA rfl) rfl rfl (sP (pA rfl) rfl rfl (sP (pA rfl) rfl rfl (sD (nS (tT (rS ?_))))))
 refine rB (rS (ret_loopN (rB (ret_fin4 (rC rfl (load_a rfl rfl (at_blk_all (by repeat first | exact mH | apply mT)) hwl)) (rT rfl) (rT rfl) (rT rfl) ?_))))
 (exact EvP.mk (by rw [← hev]; exact hend (by omega)) hrw)
 refine sP (pPf rfl rfl) rfl rfl (sD (nS (cF rfl ?_)))
 refine tK (nS (tS (tR (sL (load_a rfl rfl (at_blk_all (by repeat first | exact mH | apply mT)) hwl) rfl rfl ?_))))
 refine seq_store rfl rfl rfl hwl hwo rfl (by repeat first | exact Sw.here | apply Sw.there) (by exact upd_all (hul.trans hwl.symm)) ?_
 refine sD (nS (tR (sP (pM rfl) rfl rfl (sL (load_a rfl rfl (at_blk_all (by repeat first | exact mH | apply mT)) hwl) rfl rfl ?_))))
 (refine seq_vval rfl rfl (hq G1 w wc hrw) rfl rfl ?_)
 refine sD (nrm_block (nS (tR (sP (pM rfl) rfl rfl (sP (pure_add rfl rfl (by omega) (by omega)) rfl rfl ?_)))))
 refine sP (pA rfl) rfl rfl (sD (nrm_loopN (i + 1, w, wc, G1) ?_ ?_ ?_))
 (simp only [flat_snoc]; exact sub_mk (by repeat (first | exact SubE.nil | refine SubE.cons rfl ?_)) (by repeat (first | exact SubH.refl | exact SubH.nil | refine SubH.cons (by repeat (first | exact Pk.here | apply Pk.there)) ?_ | apply SubH.drop)))
 (dsimp only; exact ⟨by omega, hle.trans hle1, hrw, by rw [← hev, hgo (by omega) (by omega), show n - (i + 1) = n - i - 1 by omega]⟩)
 (show n - (i + 1) < n - i; omega)
set_option maxRecDepth 100000 in
theorem isFuel_fn (fuel : Int) (G : IM) : Fn Tryz.prog 52 [.int .i64 fuel] [] G (Val (.bool (withinB fuel 0 300)) G) := by
 refine fn_enter Tryz.func52 rfl Tryz.ntmps52 Tryz.results52 rfl ?_
 intro w0
 refine tS (tR (sP (pA rfl) rfl rfl (sD (nS (tS (tR ?_))))))
 refine sP (pM rfl) rfl rfl (seq_val rfl ((within_fn _ _ _ _)) rfl rfl ?_)
 refine sP (pA rfl) rfl rfl (sD (nS (tT (rF1 (rT rfl) ?_))))
 (exact ⟨rfl, rfl, rfl⟩)
theorem evalCast_no {e : Tm} {fuel : Int} (h : withinB fuel 0 300 = false) : mEvalCast e fuel = (tm0, 3, 0) := by
 unfold mEvalCast; rw [if_neg (withinB_f h)]; rfl
theorem evalCast_much {e : Tm} {fuel : Int} (h : withinB fuel 0 300 = true) (h1 : (mEvR fuel.toNat e).2.1 = 1) : mEvalCast e fuel = (tm0, 5, 0) := by
 unfold mEvalCast; rw [if_pos (withinB_t h), evR_ev1 _ _ h1]
theorem evalCast_end {e : Tm} {fuel : Int} (h : withinB fuel 0 300 = true) (h1 : (mEvR fuel.toNat e).2.1 ≠ 1) : mEvalCast e fuel = ((mEvR fuel.toNat e).1, (mEvR fuel.toNat e).2.1, (mEvR fuel.toNat e).2.2.1) := by
 unfold mEvalCast; rw [if_pos (withinB_t h), evR_ev2 _ _ h1]
set_option maxRecDepth 100000 in
theorem evalCast1_fn (G : IM) (cells : List Value) (hl : cells.length = 9) (ho : cells.all (·.oneCell') = true) : Fn Tryz.prog 54 [.agg ⟨cells⟩] [] G (Val (.tuple ⟨[]⟩) G) := by
 refine fn_enter Tryz.func54 rfl Tryz.ntmps54 Tryz.results54 rfl ?_
 intro w0
 refine tR ?_
 (refine seq_step (step_box_a rfl rfl) rfl ?_; rintro _ ⟨b2, rfl⟩)
 refine sD (nrm_fin0 ?_)
 (exact ⟨rfl, rfl, rfl⟩)
set_option maxHeartbeats 0 in
set_option maxRecDepth 100000 in
theorem evalCast_fn (e : Tm) (fuel : Int) (G : IM) (cells : List Value) (hr : RTm G e cells) : Fn Tryz.prog 16 [.agg ⟨cells⟩, .int .i64 fuel] [] G (StpX (mEvalCast e fuel)) := by
 have hRl := hr.len
 have hRo := hr.one
 have hno := @evalCast_no e fuel
 have hmu := @evalCast_much e fuel
 have hen := @evalCast_end e fuel
 refine fn_enter Tryz.func16 rfl Tryz.ntmps16 Tryz.results16 rfl ?_
 intro w0
 refine tS (tR ?_)
 (refine seq_step (step_box_a rfl rfl) rfl ?_; rintro _ ⟨b3, rfl⟩)
 (refine seq_step (step_alloc rfl) rfl ?_; rintro _ ⟨b4, rfl⟩)
 refine sP (pA rfl) rfl rfl (sP (pA rfl) rfl rfl (sD (nS (tS (tS (tR ?_))))))
 refine sP (pM rfl) rfl rfl (seq_valb rfl ((isFuel_fn fuel _)) rfl rfl (fun h13 => ?_) (fun h13 => ?_))
 refine sP (pNt rfl) rfl rfl (sD (nS (cF rfl ?_)))
 refine tK (nS (tS (tR (sL (load_a rfl rfl (at_blk_all (by repeat first | exact mH | apply mT)) hRl) rfl rfl ?_))))
 refine sP (pM rfl) rfl rfl ?_
 (have hf : withinB fuel 0 300 = true := (by assumption); have hf2 := withinB_t hf; have hE := evaluate_fn e fuel.toNat (by omega) 54 [] [] (fun G u cells hru => evalCast1_fn G cells hru.len hru.one) G cells hr; rw [Int.toNat_of_nonneg hf2.1] at hE; refine seq_imm rfl hE rfl rfl (fun v G1 hle1 hh => ?_); obtain ⟨wc, hv, hrw⟩ := hh; have hwl := hrw.len; have hwo := hrw.one; have hmu := hmu hf; have hen := hen hf; generalize mEvR fuel.toNat e = r at hv hrw hmu hen; obtain ⟨w, c, l, i⟩ := r; simp only at hv hrw hmu hen; subst hv)
 refine sP (pM rfl) rfl rfl (sP (pX rfl rfl) rfl rfl (sP (pX rfl rfl) rfl rfl (sP (pX rfl rfl) rfl rfl (sP (pX rfl rfl) rfl rfl ?_))))
 (refine seq_step (step_alloc rfl) rfl ?_; rintro _ ⟨b30, rfl⟩)
 refine sS rfl rfl rfl hwl hwo rfl ?_ (hu := by exact upd_all hwl.symm)
 refine sP (pA rfl) rfl rfl (sP (pA rfl) rfl rfl (sP (pA rfl) rfl rfl (sD (nS (tS (tS ?_))))))
 refine tR (sP (pM rfl) rfl rfl (sB (pE rfl rfl) rfl rfl (fun h41 => ?_) (fun h41 => ?_)))
 refine sD (nS (cT rfl ?_))
 refine tS (tR (sP (pBd rfl rfl) rfl rfl (sS rfl rfl rfl rfl rfl rfl ?_)))
 refine sP (pA rfl) rfl rfl (sP (pA rfl) rfl rfl (sD (nS (tT (rS (rF3 (rC rfl (lBa rfl rfl)) (rT rfl) (rT rfl) ?_))))))
 (exact StpX.mk (hmu (by omega)) (tm0_r _))
 refine sD (nS (cF rfl ?_))
 refine tK (nS (tS (tR (sL (load_a rfl rfl (at_blk_all (by repeat first | exact mH | apply mT)) hwl) rfl rfl ?_))))
 refine sP (pM rfl) rfl rfl (sP (pM rfl) rfl rfl (sS rfl rfl rfl hwl hwo rfl ?_ (hu := by exact upd_all hwl.symm)))
 refine sP (pA rfl) rfl rfl (sP (pA rfl) rfl rfl (sD (nS (tT (rF3 (rC rfl (load_a rfl rfl (at_blk_all (by repeat first | exact mH | apply mT)) hwl)) (rT rfl) (rT rfl) ?_)))))
 (exact StpX.mk (hen (by omega)) hrw)
 refine sP (pNf rfl) rfl rfl (sD (nS (cT rfl ?_)))
 refine tS (tR (sP (pBd rfl rfl) rfl rfl (sS rfl rfl rfl rfl rfl rfl ?_)))
 refine sP (pA rfl) rfl rfl (sP (pA rfl) rfl rfl (sD (nS (tT (rS (rF3 (rC rfl (lBa rfl rfl)) (rT rfl) (rT rfl) ?_))))))
 (exact StpX.mk (hno (by assumption)) (tm0_r _))
end Gw
end Go.Proofs.YtaiafkcflhcdaaaGreatDoor
namespace Go.Proofs.YtaiafkcflhcdaaaGreatDoor
open Go Go.RowKit
namespace Gw
/-- Operands, cast where their types are not the wanted ones; labels are counted. -/
def mCasts : List Tm → List Ty → List Ty → Int → List Tm × Int
 | u :: us, a :: h, b :: w, l => if tSame a b = true then (u :: (mCasts us h w l).1, (mCasts us h w l).2) else (mCst u a b (l + 1) :: (mCasts us h w (l + 1)).1, (mCasts us h w (l + 1)).2)
 | us, _, _, l => (us, l)
/-- What becomes of a node. -/
def mElN (cx : Cx) (k : Int) (nm : ByteArray) (num : Int) (ty fr : Ty) (lb : Int) (us : List Tm) (h : List Ty) (l : Int) : Option (Tm × Ty × Int) :=
 match mNodeT cx k nm ty h with
 | none => none
 | some (w, t) => some (if k = 13 then (mCasts us h w l).1.getD 0 tm0 else .mk k nm num ty fr lb (mCasts us h w l).1, t, (mCasts us h w l).2)
mutual
/-- A term with casts, its type, the last label. -/
def mEl (cx : Cx) : Tm → Int → Option (Tm × Ty × Int)
 | .mk k nm num ty fr lb ks, l => match mElL (inCx cx k nm ty) ks l with
  | none => none
  | some (us, h, l') => mElN cx k nm num ty fr lb us h l'
def mElL (cx : Cx) : List Tm → Int → Option (List Tm × List Ty × Int)
 | [], l => some ([], [], l)
 | t :: ts, l => match mEl cx t l with
  | none => none
  | some (u, a, l') => match mElL cx ts l' with
   | none => none
   | some (us, h, l'') => some (u :: us, a :: h, l'')
end
def mInsert (e : Tm) : Option (Tm × Ty) := if termValid e = true then (match mEl [] e 0 with | some (u, t, _) => some (u, t) | none => none) else none
/- The type alone, as the reference looks for it. -/
def mTySN (cx : Cx) (k : Int) (nm : ByteArray) (ty : Ty) (h : List Ty) : Option Ty := match mWanted cx k nm ty h with
 | some (_, t) => if (k = 5 ∨ k = 10) ∧ tValid t = false then none else some t
 | none => none
mutual
def mTyS (cx : Cx) : Tm → Option Ty
 | .mk k nm num ty fr lb ks => match mTySL (inCx cx k nm ty) ks with
  | none => none
  | some h => mTySN cx k nm ty h
def mTySL (cx : Cx) : List Tm → Option (List Ty)
 | [] => some []
 | t :: ts => match mTyS cx t with
  | none => none
  | some a => match mTySL cx ts with
   | none => none
   | some h => some (a :: h)
end
theorem tScan_mk (k : Int) (ks : List Ty) (d : Int) : tScan (.mk k ks) d = (decide (d ≤ 4) && decide (tyOps k = ks.length) && tScanL ks (d + 1)) := by rw [tScan]
mutual
theorem tScan_up : ∀ (t : Ty) (d e : Int), e ≤ d → tScan t d = true → tScan t e = true
 | .mk k ks, d, e, h, hs => by
  rw [tScan_mk, Bool.and_eq_true, Bool.and_eq_true, decide_eq_true_eq, decide_eq_true_eq] at hs ⊢
  exact ⟨⟨by omega, hs.1.2⟩, tScanL_up ks (d + 1) (e + 1) (by omega) hs.2⟩
theorem tScanL_up : ∀ (ts : List Ty) (d e : Int), e ≤ d → tScanL ts d = true → tScanL ts e = true
 | [], d, e, h, hs => by rw [tScanL]
 | t :: ts, d, e, h, hs => by
  rw [tScanL, Bool.and_eq_true] at hs ⊢
  exact ⟨tScan_up t d e h hs.1, tScanL_up ts d e h hs.2⟩
end
mutual
theorem meet_scan : ∀ (a b : Ty) (d : Int), tCons a b = true → tScan a d = true → tScan b d = true → tScan (mMeet a b) d = true
 | .mk k ks, .mk k' ks', d, hc, ha, hb => by
  rw [mMeet_mk]
  split
  ·exact hb
  ·split
   ·exact ha
   ·rw [tCons_mk] at hc
    rw [tScan_mk, Bool.and_eq_true, Bool.and_eq_true, decide_eq_true_eq, decide_eq_true_eq] at ha hb ⊢
    simp only [Bool.or_eq_true, Bool.and_eq_true, decide_eq_true_eq] at hc
    obtain ⟨hk, hl⟩ : k = k' ∧ tConsL ks ks' = true := by
     rcases hc with (h | h) | h
     ·contradiction
     ·contradiction
     ·exact h
    subst hk
    obtain ⟨m1, m2⟩ := meet_scanL ks ks' (d + 1) hl ha.2 hb.2
    exact ⟨⟨ha.1.1, by rw [m2]; exact ha.1.2⟩, m1⟩
theorem meet_scanL : ∀ (xs ys : List Ty) (d : Int), tConsL xs ys = true → tScanL xs d = true → tScanL ys d = true → tScanL (mMeetL xs ys) d = true ∧ (mMeetL xs ys).length = xs.length
 | [], [], d, _, _, _ => by simp [mMeetL, tScanL]
 | [], b :: ys, d, hc, _, _ => by simp [tConsL] at hc
 | a :: xs, [], d, hc, _, _ => by simp [tConsL] at hc
 | a :: xs, b :: ys, d, hc, ha, hb => by
  rw [tConsL, Bool.and_eq_true] at hc
  rw [tScanL, Bool.and_eq_true] at ha hb
  obtain ⟨m1, m2⟩ := meet_scanL xs ys d hc.2 ha.2 hb.2
  rw [mMeetL, tScanL, Bool.and_eq_true]
  exact ⟨⟨meet_scan a b d hc.1 ha.1 hb.1, m1⟩, by simp [m2]⟩
end
theorem look_valid {cx : Cx} (h : ∀ b ∈ cx, tValid b.2 = true) {nm : ByteArray} {t : Ty} : ∀ {n : Nat}, lookN cx nm n = some t → tValid t = true
 | 0, hl => by simp [lookN] at hl
 | n + 1, hl => by
  rw [lookN] at hl
  split at hl
  ·rename_i b hb
   split at hl
   ·cases hl; exact h b (List.mem_of_getElem? hb)
   ·exact look_valid h hl
  ·exact look_valid h hl
theorem match_valid {k : Int} {t a b : Ty} (hk : k = 4 ∨ k = 5) (ht : tValid t = true) (h : mMatch k t = some (a, b)) : tValid a = true ∧ tValid b = true := by
 obtain ⟨tk, ks⟩ := t
 rw [show mMatch k (.mk tk ks) = (if tk = k then some (ks.getD 0 ty0, ks.getD 1 ty0) else if tk = 1 then some (tyAny, tyAny) else none) from rfl] at h
 by_cases he : tk = k
 ·rw [if_pos he] at h
  cases h
  unfold tValid at ht ⊢
  rw [tScan_mk, Bool.and_eq_true, Bool.and_eq_true, decide_eq_true_eq, decide_eq_true_eq] at ht
  have h2 : ks.length = 2 := by
   have : tyOps tk = 2 := by rw [he]; rcases hk with rfl | rfl <;> rfl
   omega
  match ks, h2, ht.2 with
  | [x, y], _, hL =>
   simp only [tScanL, Bool.and_eq_true] at hL
   exact ⟨tScan_up _ 2 1 (by omega) hL.1, tScan_up _ 2 1 (by omega) hL.2.1⟩
 ·rw [if_neg he] at h
  by_cases h1 : tk = 1
  ·rw [if_pos h1] at h
   cases h
   exact ⟨by decide, by decide⟩
  ·rw [if_neg h1] at h; cases h
theorem getD_in {l : List Ty} {i : Nat} (h : i < l.length) : l.getD i ty0 ∈ l := by
 rw [List.getD_eq_getElem?_getD, List.getElem?_eq_getElem h, Option.getD_some]; exact List.getElem_mem h
theorem wanted_valid {cx : Cx} {k : Int} {nm : ByteArray} {ty : Ty} {h w : List Ty} {t : Ty} (hcx : ∀ b ∈ cx, tValid b.2 = true) (hh : ∀ a ∈ h, tValid a = true) (hd : tValid (h.getD 0 ty0) = true ∨ h = []) (hty : k = 13 → tValid ty = true) (hn : tmOps k = (h.length : Int)) (hw : mWanted cx k nm ty h = some (w, t)) (h510 : k ≠ 5 ∧ k ≠ 10) : tValid t = true := by
 have hg : ∀ i, i < h.length → tValid (h.getD i ty0) = true := fun i hi => hh _ (getD_in hi)
 unfold mWanted at hw
 split at hw
 ·split at hw
  ·rename_i u hu; cases hw; exact look_valid hcx hu
  ·cases hw
 split at hw
 ·cases hw; decide
 split at hw
 ·cases hw; decide
 split at hw
 ·exact absurd (by assumption) h510.1
 split at hw
 ·rename_i hk6
  have hl : h.length = 2 := by have : tmOps k = 2 := (by rw [hk6]; rfl); omega
  split at hw
  ·rename_i a b hm
   split at hw
   ·cases hw; exact (match_valid (.inl rfl) (hg 0 (by omega)) hm).2
   ·cases hw
  ·cases hw
 split at hw
 ·split at hw
  ·cases hw; split <;> decide
  ·cases hw
 split at hw
 ·rename_i hk9
  have hl : h.length = 3 := by have : tmOps k = 3 := (by rw [hk9]; rfl); omega
  split at hw
  ·rename_i hc
   cases hw
   exact meet_scan _ _ 1 hc.2 (hg 1 (by omega)) (hg 2 (by omega))
  ·cases hw
 split at hw
 ·exact absurd (by assumption) h510.2
 split at hw
 ·split at hw
  ·cases hw; exact hty (by assumption)
  ·cases hw
 ·split at hw
  ·rename_i a b hm
   have hl : h.length ≠ 0 := by
    intro h0
    rw [List.length_eq_zero_iff] at h0
    subst h0
    rw [show mMatch 5 (([] : List Ty).getD 0 ty0) = none from rfl] at hm
    cases hm
   cases hw
   have := match_valid (.inr rfl) (hg 0 (by omega)) hm
   split
   ·exact this.2
   ·exact this.1
  ·cases hw
end Gw
end Go.Proofs.YtaiafkcflhcdaaaGreatDoor
namespace Go.Proofs.YtaiafkcflhcdaaaGreatDoor
open Go Go.RowKit
namespace Gw
def cxV (cx : Cx) : Prop := ∀ b ∈ cx, tValid b.2 = true
theorem cxV_nil : cxV [] := by intro b hb; simp at hb
theorem cxV_in {cx : Cx} {k : Int} {nm : ByteArray} {ty : Ty} (h : cxV cx) (ht : k = 5 → tValid ty = true) : cxV (inCx cx k nm ty) := by
 unfold inCx
 split
 ·intro b hb
  rcases List.mem_append.1 hb with hb | hb
  ·exact h b hb
  ·obtain rfl := List.mem_singleton.1 hb; exact ht (by assumption)
 ·exact h
/-- What the two look-ups of a node's type say. -/
theorem node_tyS {cx : Cx} {k : Int} {nm : ByteArray} {ty : Ty} {h : List Ty} (hcx : cxV cx) (hh : ∀ a ∈ h, tValid a = true) (hty : k = 13 → tValid ty = true) (hn : tmOps k = (h.length : Int)) :
  (∀ w t, mNodeT cx k nm ty h = some (w, t) → mTySN cx k nm ty h = some t ∧ tValid t = true) ∧ (mNodeT cx k nm ty h = none → mTySN cx k nm ty h = none) := by
 unfold mNodeT mTySN
 have hv := fun w t (e : mWanted cx k nm ty h = some (w, t)) (h5 : k ≠ 5 ∧ k ≠ 10) => wanted_valid hcx hh (by cases h with | nil => exact .inr rfl | cons x xs => exact .inl (hh _ (by simp))) hty hn e h5
 cases hw : mWanted cx k nm ty h with
 | none => simp
 | some p =>
  obtain ⟨w, t⟩ := p
  have hv := hv w t hw
  simp only
  by_cases h5 : k = 5 ∨ k = 10
  ·cases ht : tValid t with
   | true => simp [ht]
   | false => simp [h5]
  ·have := hv (by omega)
   simp [this]
theorem el_tySL (ks : List Tm) (ih : ∀ t ∈ ks, ∀ d cx l, sShape 12 14 t d = true → cxV cx → (∀ u a l', mEl cx t l = some (u, a, l') → mTyS cx t = some a ∧ tValid a = true) ∧ (mEl cx t l = none → mTyS cx t = none)) :
  ∀ d cx l, sShapeL 12 14 ks d = true → cxV cx → (∀ us h l', mElL cx ks l = some (us, h, l') → mTySL cx ks = some h ∧ (∀ a ∈ h, tValid a = true) ∧ h.length = ks.length ∧ us.length = ks.length) ∧ (mElL cx ks l = none → mTySL cx ks = none) := by
 induction ks with
 | nil =>
  intro d cx l _ _
  refine ⟨fun us h l' he => ?_, fun he => by simp [mElL] at he⟩
  simp only [mElL, Option.some.injEq, Prod.mk.injEq] at he
  obtain ⟨rfl, rfl, _⟩ := he
  exact ⟨by rw [mTySL], by simp, rfl, rfl⟩
 | cons t ts ihl =>
  intro d cx l hs hcx
  rw [sShapeL, Bool.and_eq_true] at hs
  obtain ⟨a1, a2⟩ := ih t List.mem_cons_self d cx l hs.1 hcx
  rw [mElL, mTySL]
  cases he : mEl cx t l with
  | none => rw [a2 he]; exact ⟨fun _ _ _ h => by simp at h, fun _ => rfl⟩
  | some p =>
   obtain ⟨u, a, l1⟩ := p
   obtain ⟨b1, b2⟩ := a1 u a l1 he
   rw [b1]
   obtain ⟨c1, c2⟩ := ihl (fun x hx => ih x (List.mem_cons_of_mem _ hx)) d cx l1 hs.2 hcx
   simp only
   cases hL : mElL cx ts l1 with
   | none => rw [c2 hL]; exact ⟨fun _ _ _ h => by simp at h, fun _ => rfl⟩
   | some q =>
    obtain ⟨us, h, l2⟩ := q
    obtain ⟨d1, d2, d3, d4⟩ := c1 us h l2 hL
    rw [d1]
    refine ⟨fun us' h' l' e => ?_, fun e => by simp at e⟩
    simp only [Option.some.injEq, Prod.mk.injEq] at e
    obtain ⟨rfl, rfl, _⟩ := e
    refine ⟨rfl, fun x hx => ?_, by simp [d3], by simp [d4]⟩
    rcases List.mem_cons.1 hx with rfl | hx
    ·exact b2
    ·exact d2 x hx
theorem el_tyS : ∀ (t : Tm) (d : Int) (cx : Cx) (l : Int), sShape 12 14 t d = true → cxV cx → (∀ u a l', mEl cx t l = some (u, a, l') → mTyS cx t = some a ∧ tValid a = true) ∧ (mEl cx t l = none → mTyS cx t = none) := by
 refine Tm.ind fun k nm num ty fr lb ks ih d cx l hs hcx => ?_
 obtain ⟨_, _, h3, h4⟩ := sShape_go2 hs
 obtain ⟨n1, _, _, _, _, n6, _⟩ := tmNode_iff.1 h3
 obtain ⟨L1, L2⟩ := el_tySL ks ih (d + 1) (inCx cx k nm ty) l h4 (cxV_in hcx fun hk => n6 (by omega))
 rw [mEl, mTyS]
 cases hL : mElL (inCx cx k nm ty) ks l with
 | none => rw [L2 hL]; exact ⟨fun _ _ _ h => by simp at h, fun _ => rfl⟩
 | some q =>
  obtain ⟨us, h, l2⟩ := q
  obtain ⟨d1, d2, d3, d4⟩ := L1 us h l2 hL
  rw [d1]
  obtain ⟨e1, e2⟩ := node_tyS (k := k) (nm := nm) (ty := ty) hcx d2 (fun hk => n6 (.inr (.inl hk))) (by rw [d3]; exact n1)
  simp only [mElN]
  cases hN : mNodeT cx k nm ty h with
  | none => rw [e2 hN]; exact ⟨fun _ _ _ h => by simp at h, fun _ => rfl⟩
  | some p =>
   obtain ⟨w, t⟩ := p
   obtain ⟨f1, f2⟩ := e1 w t hN
   rw [f1]
   refine ⟨fun u a l' e => ?_, fun e => by simp at e⟩
   simp only [Option.some.injEq, Prod.mk.injEq] at e
   obtain ⟨_, rfl, _⟩ := e
   exact ⟨rfl, f2⟩
end Gw
end Go.Proofs.YtaiafkcflhcdaaaGreatDoor
namespace Go.Proofs.YtaiafkcflhcdaaaGreatDoor
open Go Go.RowKit
namespace Gw
/-- A type, where there is one. -/
def TyO (o : Option Ty) (G : IM) : IM → Value → List Ent → Prop := Imm fun G' v => ∃ t cells, v = .tuple ⟨[.agg ⟨cells⟩, .bool o.isSome]⟩ ∧ RTy G' t cells ∧ tAr t ∧ ∀ u, o = some u → u = t
theorem TyO.yes {G G' : IM} {o : Option Ty} {t : Ty} {cells : List Value} (h : o = some t) (hr : RTy G' t cells) (ha : tAr t) : TyO o G G' (.tuple ⟨[.agg ⟨cells⟩, .bool true]⟩) [] := by
 subst h; exact ⟨rfl, t, cells, rfl, hr, ha, fun u h => (by cases h; rfl)⟩
theorem TyO.no {G G' : IM} {o : Option Ty} {t : Ty} {cells : List Value} (h : o = none) (hr : RTy G' t cells) (ha : tAr t) : TyO o G G' (.tuple ⟨[.agg ⟨cells⟩, .bool false]⟩) [] := by
 subst h; exact ⟨rfl, t, cells, rfl, hr, ha, fun u h => (by cases h)⟩
theorem TyO.mk {G G' : IM} {o : Option Ty} {b : Bool} {t : Ty} {cells : List Value} (h : o = if b = true then some t else none) (hr : RTy G' t cells) (ha : tAr t) : TyO o G G' (.tuple ⟨[.agg ⟨cells⟩, .bool b]⟩) [] := by
 cases b
 ·exact TyO.no h hr ha
 ·exact TyO.yes h hr ha
theorem tValid_ar {t : Ty} (h : tValid t = true) : tAr t := (tValid_ann h).1
set_option maxHeartbeats 0 in
set_option maxRecDepth 100000 in
theorem l3TwoX_fn (k : Int) (a b : Ty) (G : IM) (ca cb : List Value) (hk : k = 4 ∨ k = 5) (ha : tAr a) (hb : tAr b) (hra : RTy G a ca) (hrb : RTy G b cb) :
  Fn Tryz.prog 181 [.int .i64 k, .agg ⟨ca⟩, .agg ⟨cb⟩] [] G (Imm fun G' v => ∃ cells, v = .tuple ⟨[.agg ⟨cells⟩, .bool (tValid (.mk k [a, b]))]⟩ ∧ RTy G' (.mk k [a, b]) cells) := by
 obtain ⟨ak, aks⟩ := a
 obtain ⟨bk, bks⟩ := b
 obtain ⟨pa, cca, ea, rfl, _⟩ := hra.open
 obtain ⟨pb, ccb, eb, rfl, _⟩ := hrb.open
 have hki : I64 k := ⟨by omega, by omega⟩
 refine fn_enter Tryz.func181 rfl Tryz.ntmps181 Tryz.results181 rfl ?_
 intro w0
 refine tS (tR ?_)
 (refine seq_step (step_box_a rfl rfl) rfl ?_; rintro _ ⟨b3, rfl⟩)
 (refine seq_step (step_box_a rfl rfl) rfl ?_; rintro _ ⟨b4, rfl⟩)
 (refine seq_step (step_alloc rfl) rfl ?_; rintro _ ⟨b5, rfl⟩)
 refine sP (pA rfl) rfl rfl (sD (nS (tS (tri_draw mixed rfl ?_))))
 refine any_pure (i := 0) (l' := [tt,ff,ff,ff,ff,ff,ff,ff,ff]) rfl npI (pM rfl) rfl (by kernel_rfl) rfl rfl ?_
 refine aL 1 rfl (lBa rfl rfl) rfl rfl ?_
 refine aL 3 rfl (lBa rfl rfl) rfl rfl ?_
 refine any_two (j := 2) (j' := 7) (by kernel_rfl) ?_ ?_
 (refine one_imm (l' := [tt,tt,tt,tt,ff,ff,ff,ff,ff]) rfl rfl (l1Copy_fn _ G _ ha.small hra) rfl rfl rfl (fun v G1 hle1 hh => ?_); obtain ⟨cs1, F1, rfl, hs1, hn1⟩ := hh; obtain ⟨p1, c1, rfl, _⟩ := hs1.open; have hC2 := l1Copy_fn _ G1 _ hb.small (hrb.mono hle1))
 refine any_two (j := 4) (j' := 7) (by kernel_rfl) ?_ ?_
 (refine one_imm (l' := [tt,tt,tt,tt,tt,ff,ff,ff,ff]) rfl rfl hC2 rfl rfl rfl (fun v G2 hle2 hh => ?_); obtain ⟨cs2, F2, rfl, hs2, hn2⟩ := hh; obtain ⟨p2, c2, rfl, _⟩ := hs2.open; have hr1 := hs1.R.mono ((Dif.le G1 G).trans hle2); have hr2 := hs2.R.mono (Dif.le G2 G1))
 refine any_two (j := 5) (j' := 7) (by kernel_rfl) ?_ ?_
 (refine one_step0 (l' := [tt,tt,tt,tt,tt,tt,ff,ff,ff]) rfl (step_buildSlice rfl rfl rfl (by omega) (by unfold maxLen; omega) rfl) rfl rfl ?_; rintro _ ⟨b19, rfl⟩)
 refine aP 6 rfl (pBd rfl rfl) rfl rfl ?_
 refine aO (j := 7) (by kernel_rfl) ?_
 (refine one_step0 (l' := [tt,tt,tt,tt,tt,tt,tt,tt,ff]) rfl (step_alloc rfl) rfl rfl ?_; rintro _ ⟨b22, rfl⟩)
 refine aO (j := 8) (by kernel_rfl) ?_
 refine oT rfl rfl rfl rfl rfl rfl rfl ?_
 refine aD (by kernel_rfl) ?_
 refine nS (tS ?_)
 (have hr1' := hr1; refine tri_freeze (by repeat (first | exact Pk.here | apply Pk.there)) (fun G5 hle5 hsl5 hno5 => ?_); have hRT : RTy G5 (.mk k [.mk ak aks, .mk bk bks]) _ := RTyL.ty (ts := [.mk ak aks, .mk bk bks]) (es := [[.int .i64 ak, .slice p1 aks.length c1], [.int .i64 bk, .slice p2 bks.length c2]]) ⟨_, _, rfl, hr1.mono hle5, _, _, rfl, hr2.mono hle5, rfl⟩ rfl hsl5 hki; have hV := sTypeValid_fn _ G5 _ hRT; refine tri_draw mixed rfl ?_)
 refine any_load (i := 0) (l' := [tt,ff,ff,ff,ff]) rfl npI (lBa rfl rfl) rfl (by kernel_rfl) rfl rfl ?_
 refine aL 1 rfl (lBa rfl rfl) rfl rfl ?_
 refine aO (j := 2) (by kernel_rfl) ?_
 refine one_val (l' := [tt,tt,tt,ff,ff]) rfl rfl (hV) rfl rfl rfl ?_
 refine aO (j := 3) (by kernel_rfl) ?_
 refine oT rfl rfl rfl rfl rfl rfl rfl ?_
 refine aP 4 rfl (pA rfl) rfl rfl ?_
 refine aD (by kernel_rfl) ?_
 refine nS (tT (rF2 (rC rfl (lBa rfl rfl)) (rT rfl) ?_))
 (exact ⟨rfl, _, rfl, hRT⟩)
 (refine one_step0 (l' := [tt,tt,tt,tt,tt,ff,ff,tt,ff]) rfl (step_alloc rfl) rfl rfl ?_; rintro _ ⟨b41, rfl⟩)
 refine aO (j := 5) (by kernel_rfl) ?_
 (refine one_step0 (l' := [tt,tt,tt,tt,tt,tt,ff,tt,ff]) rfl (step_buildSlice rfl rfl rfl (by omega) (by unfold maxLen; omega) rfl) rfl rfl ?_; rintro _ ⟨b43, rfl⟩)
 refine aP 6 rfl (pBd rfl rfl) rfl rfl ?_
 refine aO (j := 8) (by kernel_rfl) ?_
 refine oT rfl rfl rfl rfl rfl rfl rfl ?_
 refine aD (by kernel_rfl) ?_
 refine nS (tS ?_)
 (have hr1' := hr1; refine tri_freeze (by repeat (first | exact Pk.here | apply Pk.there)) (fun G5 hle5 hsl5 hno5 => ?_); have hRT : RTy G5 (.mk k [.mk ak aks, .mk bk bks]) _ := RTyL.ty (ts := [.mk ak aks, .mk bk bks]) (es := [[.int .i64 ak, .slice p1 aks.length c1], [.int .i64 bk, .slice p2 bks.length c2]]) ⟨_, _, rfl, hr1.mono hle5, _, _, rfl, hr2.mono hle5, rfl⟩ rfl hsl5 hki; have hV := sTypeValid_fn _ G5 _ hRT; refine tri_draw mixed rfl ?_)
 refine any_load (i := 0) (l' := [tt,ff,ff,ff,ff]) rfl npI (lBa rfl rfl) rfl (by kernel_rfl) rfl rfl ?_
 refine aL 1 rfl (lBa rfl rfl) rfl rfl ?_
 refine aO (j := 2) (by kernel_rfl) ?_
 refine one_val (l' := [tt,tt,tt,ff,ff]) rfl rfl (hV) rfl rfl rfl ?_
 refine aO (j := 3) (by kernel_rfl) ?_
 refine oT rfl rfl rfl rfl rfl rfl rfl ?_
 refine aP 4 rfl (pA rfl) rfl rfl ?_
 refine aD (by kernel_rfl) ?_
 refine nS (tT (rF2 (rC rfl (lBa rfl rfl)) (rT rfl) ?_))
 (exact ⟨rfl, _, rfl, hRT⟩)
 (refine one_step0 (l' := [tt,tt,tt,tt,ff,ff,ff,tt,ff]) rfl (step_alloc rfl) rfl rfl ?_; rintro _ ⟨b63, rfl⟩)
 refine aO (j := 4) (by kernel_rfl) ?_
 (refine one_imm (l' := [tt,tt,tt,tt,tt,ff,ff,tt,ff]) rfl rfl hC2 rfl rfl rfl (fun v G2 hle2 hh => ?_); obtain ⟨cs2, F2, rfl, hs2, hn2⟩ := hh; obtain ⟨p2, c2, rfl, _⟩ := hs2.open; have hr1 := hs1.R.mono ((Dif.le G1 G).trans hle2); have hr2 := hs2.R.mono (Dif.le G2 G1))
 refine aO (j := 5) (by kernel_rfl) ?_
 (refine one_step0 (l' := [tt,tt,tt,tt,tt,tt,ff,tt,ff]) rfl (step_buildSlice rfl rfl rfl (by omega) (by unfold maxLen; omega) rfl) rfl rfl ?_; rintro _ ⟨b67, rfl⟩)
 refine aP 6 rfl (pBd rfl rfl) rfl rfl ?_
 refine aO (j := 8) (by kernel_rfl) ?_
 refine oT rfl rfl rfl rfl rfl rfl rfl ?_
 refine aD (by kernel_rfl) ?_
 refine nS (tS ?_)
 (have hr1' := hr1; refine tri_freeze (by repeat (first | exact Pk.here | apply Pk.there)) (fun G5 hle5 hsl5 hno5 => ?_); have hRT : RTy G5 (.mk k [.mk ak aks, .mk bk bks]) _ := RTyL.ty (ts := [.mk ak aks, .mk bk bks]) (es := [[.int .i64 ak, .slice p1 aks.length c1], [.int .i64 bk, .slice p2 bks.length c2]]) ⟨_, _, rfl, hr1.mono hle5, _, _, rfl, hr2.mono hle5, rfl⟩ rfl hsl5 hki; have hV := sTypeValid_fn _ G5 _ hRT; refine tri_draw mixed rfl ?_)
 refine any_load (i := 0) (l' := [tt,ff,ff,ff,ff]) rfl npI (lBa rfl rfl) rfl (by kernel_rfl) rfl rfl ?_
 refine aL 1 rfl (lBa rfl rfl) rfl rfl ?_
 refine aO (j := 2) (by kernel_rfl) ?_
 refine one_val (l' := [tt,tt,tt,ff,ff]) rfl rfl (hV) rfl rfl rfl ?_
 refine aO (j := 3) (by kernel_rfl) ?_
 refine oT rfl rfl rfl rfl rfl rfl rfl ?_
 refine aP 4 rfl (pA rfl) rfl rfl ?_
 refine aD (by kernel_rfl) ?_
 refine nS (tT (rF2 (rC rfl (lBa rfl rfl)) (rT rfl) ?_))
 (exact ⟨rfl, _, rfl, hRT⟩)
 (refine one_step0 (l' := [tt,tt,ff,tt,ff,ff,ff,tt,ff]) rfl (step_alloc rfl) rfl rfl ?_; rintro _ ⟨b87, rfl⟩)
 refine aO (j := 2) (by kernel_rfl) ?_
 (refine one_imm (l' := [tt,tt,tt,tt,ff,ff,ff,tt,ff]) rfl rfl (l1Copy_fn _ G _ ha.small hra) rfl rfl rfl (fun v G1 hle1 hh => ?_); obtain ⟨cs1, F1, rfl, hs1, hn1⟩ := hh; obtain ⟨p1, c1, rfl, _⟩ := hs1.open; have hC2 := l1Copy_fn _ G1 _ hb.small (hrb.mono hle1))
 refine aO (j := 4) (by kernel_rfl) ?_
 (refine one_imm (l' := [tt,tt,tt,tt,tt,ff,ff,tt,ff]) rfl rfl hC2 rfl rfl rfl (fun v G2 hle2 hh => ?_); obtain ⟨cs2, F2, rfl, hs2, hn2⟩ := hh; obtain ⟨p2, c2, rfl, _⟩ := hs2.open; have hr1 := hs1.R.mono ((Dif.le G1 G).trans hle2); have hr2 := hs2.R.mono (Dif.le G2 G1))
 refine aO (j := 5) (by kernel_rfl) ?_
 (refine one_step0 (l' := [tt,tt,tt,tt,tt,tt,ff,tt,ff]) rfl (step_buildSlice rfl rfl rfl (by omega) (by unfold maxLen; omega) rfl) rfl rfl ?_; rintro _ ⟨b93, rfl⟩)
 refine aP 6 rfl (pBd rfl rfl) rfl rfl ?_
 refine aO (j := 8) (by kernel_rfl) ?_
 refine oT rfl rfl rfl rfl rfl rfl rfl ?_
 refine aD (by kernel_rfl) ?_
 refine nS (tS ?_)
 (have hr1' := hr1; refine tri_freeze (by repeat (first | exact Pk.here | apply Pk.there)) (fun G5 hle5 hsl5 hno5 => ?_); have hRT : RTy G5 (.mk k [.mk ak aks, .mk bk bks]) _ := RTyL.ty (ts := [.mk ak aks, .mk bk bks]) (es := [[.int .i64 ak, .slice p1 aks.length c1], [.int .i64 bk, .slice p2 bks.length c2]]) ⟨_, _, rfl, hr1.mono hle5, _, _, rfl, hr2.mono hle5, rfl⟩ rfl hsl5 hki; have hV := sTypeValid_fn _ G5 _ hRT; refine tri_draw mixed rfl ?_)
 refine any_load (i := 0) (l' := [tt,ff,ff,ff,ff]) rfl npI (lBa rfl rfl) rfl (by kernel_rfl) rfl rfl ?_
 refine aL 1 rfl (lBa rfl rfl) rfl rfl ?_
 refine aO (j := 2) (by kernel_rfl) ?_
 refine one_val (l' := [tt,tt,tt,ff,ff]) rfl rfl (hV) rfl rfl rfl ?_
 refine aO (j := 3) (by kernel_rfl) ?_
 refine oT rfl rfl rfl rfl rfl rfl rfl ?_
 refine aP 4 rfl (pA rfl) rfl rfl ?_
 refine aD (by kernel_rfl) ?_
 refine nS (tT (rF2 (rC rfl (lBa rfl rfl)) (rT rfl) ?_))
 (exact ⟨rfl, _, rfl, hRT⟩)
set_option maxHeartbeats 0 in
set_option maxRecDepth 100000 in
theorem l3MatchX_fn (k : Int) (t : Ty) (G : IM) (cells : List Value) (hk : k = 4 ∨ k = 5) (ha : tAr t) (hr : RTy G t cells) :
  Fn Tryz.prog 183 [.int .i64 k, .agg ⟨cells⟩] [] G (MatchP k t G) := by
 obtain ⟨tk, ks⟩ := t
 have ha2 := ha
 rw [tAr] at ha2
 have hkid := ha.kid
 obtain ⟨p, c, es, rfl, htk, hsl, hkl⟩ := hr.open
 simp only [Ty.k, Ty.ks] at htk hsl hkl ⊢
 refine fn_enter Tryz.func183 rfl Tryz.ntmps183 Tryz.results183 rfl ?_
 intro w0
 refine tS (tR ?_)
 (refine seq_step (step_box_a rfl rfl) rfl ?_; rintro _ ⟨b3, rfl⟩)
 (refine seq_step (step_alloc rfl) rfl ?_; rintro _ ⟨b4, rfl⟩)
 (refine seq_step (step_alloc rfl) rfl ?_; rintro _ ⟨b5, rfl⟩)
 refine sP (pA rfl) rfl rfl (sD (nS (tS (tS (tR (sP (pF0 rfl) rfl rfl ?_))))))
 refine sL (lBs rfl rfl) rfl rfl ?_
 refine sB (pE rfl rfl) rfl rfl (fun h14 => ?_) (fun h14 => ?_)
 refine sD (nS (cT rfl ?_))
 refine tS (tR (seq_val rfl ((l1Any_fn _)) rfl rfl ?_))
 refine seq_val rfl ((l1Any_fn _)) rfl rfl ?_
 refine sS rfl rfl rfl rfl rfl rfl ?_
 refine sS rfl rfl rfl rfl rfl rfl ?_
 refine sP (pA rfl) rfl rfl (sD (nS (tT (rS (rF3 (rC rfl (lBa rfl rfl)) (rC rfl (lBa rfl rfl)) (rT rfl) ?_)))))
 (refine ⟨rfl, _, _, _, _, ?_, tyAny_r _, tyAny_r _, tAr_any, tAr_any, ?_⟩ <;> rw [mMatch_mk, if_neg (by omega), if_pos (by omega)] <;> first | rfl | (intro p hp; cases hp; rfl))
 refine sD (nS (cF rfl ?_))
 refine tK (nS (tS (tS (tR (sP (pF0 rfl) rfl rfl (sL (lBs rfl rfl) rfl rfl ?_))))))
 refine sP (pM rfl) rfl rfl (sB (pure_neq rfl rfl) rfl rfl (fun h42 => ?_) (fun h42 => ?_))
 refine sD (nS (cT rfl ?_))
 refine tS (tR (sP (pBd rfl rfl) rfl rfl (sP (pBd rfl rfl) rfl rfl (sS rfl rfl rfl rfl rfl rfl ?_))))
 refine sS rfl rfl rfl rfl rfl rfl ?_
 refine sP (pA rfl) rfl rfl (sD (nS (tT (rS (rF3 (rC rfl (lBa rfl rfl)) (rC rfl (lBa rfl rfl)) (rT rfl) ?_)))))
 (refine ⟨rfl, ty0, _, ty0, _, ?_, tyLeaf_r _ ⟨by omega, by omega⟩, tyLeaf_r _ ⟨by omega, by omega⟩, tAr_leaf (by omega) (by omega), tAr_leaf (by omega) (by omega), ?_⟩ <;> rw [mMatch_mk, if_neg (by omega), if_neg (by omega)] <;> first | rfl | (intro p hp; cases hp))
 refine sD (nS (cF rfl ?_))
 refine tK (nS (tS ?_))
 (have hlen : ks.length = 2 := ha2.1 (by omega); obtain ⟨b, o, q0, d0, hp0, hat0, hre0, hg0⟩ := hsl.kidTy hkl (i := 0) (by omega) (by omega); obtain ⟨b', o', q1, d1, hp1, hat1, hre1, hg1⟩ := hsl.kidTy hkl (i := 1) (by omega) (by omega); subst hp0; cases hp1; have hC1 := l1Copy_fn _ G _ (hkid _ (List.getElem_mem (by omega))).small hre0; refine tri_draw mixed rfl ?_)
 refine any_pure (i := 0) (l' := [tt,ff,ff,ff,ff,ff,ff,ff,ff,ff,ff,ff,ff]) rfl npI (pF0 rfl) rfl (by kernel_rfl) rfl rfl ?_
 refine aL 1 rfl (lBs rfl rfl) rfl rfl ?_
 refine aP 2 rfl (pIN (j := 0) rfl rfl rfl (by omega)) rfl rfl ?_
 refine aL 3 rfl (load_a rfl rfl (hat0 _) rfl) rfl rfl ?_
 refine aP 5 rfl (pF0 rfl) rfl rfl ?_
 refine aL 6 rfl (lBs rfl rfl) rfl rfl ?_
 refine aP 7 rfl (pIN (j := 1) rfl rfl rfl (by omega)) rfl rfl ?_
 refine aL 8 rfl (load_a rfl rfl (hat1 _) rfl) rfl rfl ?_
 refine aO (j := 4) (by kernel_rfl) ?_
 (refine one_imm (l' := [tt,tt,tt,tt,tt,tt,tt,tt,tt,ff,ff,ff,ff]) rfl rfl hC1 rfl rfl rfl (fun v G1 hle1 hh => ?_); obtain ⟨cs1, F1, rfl, hs1, hn1⟩ := hh; obtain ⟨p1, c1, rfl, _⟩ := hs1.open; have hC2 := l1Copy_fn _ G1 _ (hkid _ (List.getElem_mem (by omega))).small (hre1.mono hle1))
 refine aO (j := 9) (by kernel_rfl) ?_
 (refine one_imm (l' := [tt,tt,tt,tt,tt,tt,tt,tt,tt,tt,ff,ff,ff]) rfl rfl hC2 rfl rfl rfl (fun v G2 hle2 hh => ?_); obtain ⟨cs2, F2, rfl, hs2, hn2⟩ := hh; obtain ⟨p2, c2, rfl, _⟩ := hs2.open; have hr1 := hs1.R.mono ((Dif.le G1 G).trans hle2); have hr2 := hs2.R.mono (Dif.le G2 G1))
 refine aO (j := 10) (by kernel_rfl) ?_
 refine oT rfl rfl rfl rfl rfl rfl rfl ?_
 refine aO (j := 11) (by kernel_rfl) ?_
 refine one_store (l' := [tt,tt,tt,tt,tt,tt,tt,tt,tt,tt,tt,tt,ff]) rfl rfl rfl rfl rfl rfl rfl rfl (by decide +kernel) (by repeat first | exact Sw.here | apply Sw.there) (by rfl) ?_
 refine aP 12 rfl (pA rfl) rfl rfl ?_
 refine aD (by kernel_rfl) ?_
 refine nS (tT (rF3 (rC rfl (lBa rfl rfl)) (rC rfl (lBa rfl rfl)) (rT rfl) ?_))
 (refine ⟨rfl, _, _, _, _, ?_, hr1, hr2, hkid _ (List.getElem_mem (by omega)), hkid _ (List.getElem_mem (by omega)), ?_⟩ <;> rw [mMatch_mk, if_pos (by omega)] <;> first | rfl | (intro p hp; cases hp; simp [hlen]))
set_option maxHeartbeats 0 in
set_option maxRecDepth 100000 in
theorem l3LookX_fn (G : IM) (cx : Cx) (hv : cxV cx) (p : Option Addr) (n c : Nat) (nm : ByteArray) (hx : RCx G cx p n c) :
  Fn Tryz.prog 178 [.slice p n c, .string nm] [] G (TyO (mLook cx nm) G) := by
 have hn := hx.le
 refine fn_enter Tryz.func178 rfl Tryz.ntmps178 Tryz.results178 rfl ?_
 intro w0
 refine tS (tR ?_)
 (refine seq_step (step_alloc rfl) rfl ?_; rintro _ ⟨b3, rfl⟩)
 refine sP (pA rfl) rfl rfl (sD (nS (tS (tS (tR (sP (pM rfl) rfl rfl ?_))))))
 refine sP (pLn rfl rfl) rfl rfl (sP (pure_sub rfl rfl (by omega) (by omega)) rfl rfl ?_)
 refine sP (pA rfl) rfl rfl (sD (nS (tri_block ?_)))
 (refine tri_loopN (fun (i : Nat) => ⟨[(6, .int .i64 ((i : Int) - 1)), (0, .slice p n c), (1, .string nm), (4, .pointer (some ⟨b3, 0, none⟩))], [.blk b3 [.int .i64 0, .slice none 0 0]], G⟩) (fun i => i ≤ n ∧ mLook cx nm = lookN cx nm i) (fun i => i) n ?_ ?_ ?_)
 exact sub_mk (by repeat (first | exact SubE.nil | refine SubE.cons rfl ?_)) (by repeat (first | exact SubH.refl | exact SubH.nil | refine SubH.cons (by repeat (first | exact Pk.here | apply Pk.there)) ?_ | apply SubH.drop))
 (exact ⟨Nat.le_refl _, by unfold mLook; rw [hx.1]⟩)
 (rintro i ⟨hi, hlk⟩)
 refine tS (tS (tR (sP (pM rfl) rfl rfl (sB (pure_geq rfl rfl) rfl rfl (fun h25 => ?_) (fun h25 => ?_)))))
 refine sD (nS (cT rfl ?_))
 refine tK (nS (tS ?_))
 (show Tri _ _ (.block 1 _) _ _; obtain ⟨j, rfl⟩ : ∃ j, i = j + 1 := ⟨i - 1, by omega⟩; rw [show ((j + 1 : Nat) : Int) - 1 = (j : Int) from by omega]; obtain ⟨b, o, nm1, t1, q1, d1, hcx, rfl, hat, hr1, hgb⟩ := hx.get (i := j) (by omega); have ha1 := tValid_ar (hv _ (List.mem_of_getElem? hcx)); refine tri_block ?_)
 refine tS (tR (sP (pM rfl) rfl rfl (sP (pM rfl) rfl rfl (sP (pIN rfl rfl rfl (by omega)) rfl rfl ?_))))
 refine sP (pF rfl) rfl rfl (sL (load_s rfl rfl ((hat _).sub (j := 0) rfl)) rfl rfl ?_)
 refine sP (pM rfl) rfl rfl (sB (pure_seql rfl rfl) rfl rfl (fun h41 => ?_) (fun h41 => ?_))
 refine sD (nS (cT rfl ?_))
 refine tS (tR (sP (pM rfl) rfl rfl (sP (pM rfl) rfl rfl (sP (pIN rfl rfl rfl (by omega)) rfl rfl ?_))))
 refine sP (pF rfl) rfl rfl (sL (load_a rfl rfl (hat _).drop rfl) rfl rfl ?_)
 (refine seq_imm rfl (l1Copy_fn _ G _ ha1.small hr1) rfl rfl (fun v G1 hle1 hh => ?_); obtain ⟨cs1, F1, rfl, hs1', hn1⟩ := hh; obtain ⟨p1, c1, rfl, _⟩ := hs1'.open; have hrr := hs1'.R.mono (Dif.le G1 G))
 refine sS rfl rfl rfl rfl rfl rfl ?_
 refine sP (pA rfl) rfl rfl (sD (nS (tT (rB (rS (ret_loopN ?_))))))
 refine rB (rS (rF2 (rC rfl (lBa rfl rfl)) (rT rfl) ?_))
 (exact TyO.yes (by rw [hlk]; exact lookN_eq hcx (by assumption)) hrr ha1)
 refine sD (nS (cF rfl ?_))
 refine tK (nrm_block (nS (tR (sP (pM rfl) rfl rfl (sP (pure_sub rfl rfl (by omega) (by omega)) rfl rfl ?_)))))
 refine sP (pA rfl) rfl rfl (sD (nrm_loopN j ?_ ?_ ?_))
 exact sub_mk (by repeat (first | exact SubE.nil | refine SubE.cons rfl ?_)) (by repeat (first | exact SubH.refl | exact SubH.nil | refine SubH.cons (by repeat (first | exact Pk.here | apply Pk.there)) ?_ | apply SubH.drop))
 (exact ⟨by omega, by rw [hlk]; exact lookN_ne hcx (by assumption)⟩)
 (show _ < _ + 1; omega)
 refine sD (nS (cF rfl ?_))
 refine tri_exit ?_
 refine ext_seq ?_
 refine ext_loopN ?_
 refine ext_block_eq ?_
 refine nS (tS (tR (sP (pBd rfl rfl) rfl rfl (sS rfl rfl rfl rfl rfl rfl ?_))))
 refine sP (pA rfl) rfl rfl (sD (nS (tT (rF2 (rC rfl (lBa rfl rfl)) (rT rfl) ?_))))
 (obtain rfl : i = 0 := (by omega); exact TyO.no (by rw [hlk]; rfl) (tyLeaf_r _ ⟨by omega, by omega⟩) (tAr_leaf (by omega) (by omega)))
end Gw
end Go.Proofs.YtaiafkcflhcdaaaGreatDoor
namespace Go.Proofs.YtaiafkcflhcdaaaGreatDoor
open Go Go.RowKit
namespace Gw
theorem meetL_len : ∀ (xs ys : List Ty), xs.length = ys.length → (mMeetL xs ys).length = xs.length
 | [], [], _ => rfl
 | a :: xs, b :: ys, h => by simp only [mMeetL, List.length_cons]; rw [meetL_len xs ys (by simpa using h)]
 | [], b :: ys, h => by simp at h
 | a :: xs, [], h => by simp at h
theorem meetL_get : ∀ (xs ys : List Ty) (i : Nat) (h : i < xs.length) (h' : i < ys.length) (hl : i < (mMeetL xs ys).length), (mMeetL xs ys)[i] = mMeet xs[i] ys[i]
 | [], _, i, h, _, _ => by simp at h
 | a :: xs, [], i, _, h', _ => by simp at h'
 | a :: xs, b :: ys, 0, _, _, _ => by simp [mMeetL]
 | a :: xs, b :: ys, i + 1, h, h', hl => by
  simp only [mMeetL, List.getElem_cons_succ]
  exact meetL_get xs ys i (by simpa using h) (by simpa using h') _
theorem meetL_take {xs ys : List Ty} {i : Nat} (hl : xs.length = ys.length) (h : i < xs.length) : (mMeetL xs ys).take (i + 1) = (mMeetL xs ys).take i ++ [mMeet xs[i] (ys[i]'(by omega))] := by
 rw [List.take_succ_eq_append_getElem (by rw [meetL_len _ _ hl]; exact h), meetL_get _ _ i h (by omega)]
set_option maxHeartbeats 0 in
set_option maxRecDepth 100000 in
theorem l1MeetX_fn : ∀ (a b : Ty) (G : IM) (ca cb : List Value), tCons a b = true → tAr a → tAr b → RTy G a ca → RTy G b cb → Fn Tryz.prog 212 [.agg ⟨ca⟩, .agg ⟨cb⟩] [] G (Imm fun G' v => ∃ cells, v = .agg ⟨cells⟩ ∧ RTy G' (mMeet a b) cells) := by
 refine Ty.ind fun ak aks ih b G ca cb hc ha hb hra hrb => ?_
 obtain ⟨bk, bks⟩ := b
 have hka := ha.kid
 have hkb := hb.kid
 have hca := l1Copy_fn _ G _ ha.small hra
 have hcb := l1Copy_fn _ G _ hb.small hrb
 have hcc : ak ≠ 1 → bk ≠ 1 → aks.length = bks.length ∧ ∀ i, (h : i < aks.length) → (h' : i < bks.length) → tCons aks[i] bks[i] = true := by
  intro h1 h2
  rw [tCons_mk, decide_eq_false h1, decide_eq_false h2] at hc
  simp only [Bool.false_or, Bool.and_eq_true, decide_eq_true_eq] at hc
  exact (tConsL_iff _ _).1 hc.2
 rw [mMeet_mk]
 obtain ⟨pa, cca, ea, rfl, hak, hsla, hkla⟩ := hra.open
 obtain ⟨pb, ccb, eb, rfl, hbk, hslb, hklb⟩ := hrb.open
 simp only [Ty.k, Ty.ks] at hak hsla hkla hbk hslb hklb ⊢
 have hna := hsla.le
 have hnb := hslb.le
 have hl2 := ha.two
 refine fn_enter Tryz.func212 rfl Tryz.ntmps212 Tryz.results212 rfl ?_
 intro w0
 refine tS (tR ?_)
 (refine seq_step (step_box_a rfl rfl) rfl ?_; rintro _ ⟨b3, rfl⟩)
 (refine seq_step (step_box_a rfl rfl) rfl ?_; rintro _ ⟨b4, rfl⟩)
 (refine seq_step (step_alloc rfl) rfl ?_; rintro _ ⟨b5, rfl⟩)
 refine sD (nS (tS (tS (tR (sP (pF0 rfl) rfl rfl (sL (lBs rfl rfl) rfl rfl ?_))))))
 refine sB (pE rfl rfl) rfl rfl (fun h13 => ?_) (fun h13 => ?_)
 refine sD (nS (cT rfl ?_))
 refine tS (tR (sL (lBa rfl rfl) rfl rfl ?_))
 (refine seq_imm rfl (by first | exact hcb | exact hca) rfl rfl (fun v G1 hle1 hh => ?_); obtain ⟨cs1, F1, rfl, hs1, hn1⟩ := hh; obtain ⟨p1, c1, rfl, _⟩ := hs1.open; have hr1 := hs1.R.mono (Dif.le G1 G))
 refine sS rfl rfl rfl rfl rfl rfl ?_
 refine sD (nS (tT (rS (rF1 (rC rfl (lBa rfl rfl)) ?_))))
 (rw [if_pos (by omega)]; exact ⟨rfl, _, rfl, hr1⟩)
 refine sD (nS (cF rfl ?_))
 refine tK (nS (tS (tS (tR (sP (pF0 rfl) rfl rfl (sL (lBs rfl rfl) rfl rfl ?_))))))
 refine sB (pE rfl rfl) rfl rfl (fun h38 => ?_) (fun h38 => ?_)
 refine sD (nS (cT rfl ?_))
 refine tS (tR (sL (lBa rfl rfl) rfl rfl ?_))
 (refine seq_imm rfl (by first | exact hcb | exact hca) rfl rfl (fun v G1 hle1 hh => ?_); obtain ⟨cs1, F1, rfl, hs1, hn1⟩ := hh; obtain ⟨p1, c1, rfl, _⟩ := hs1.open; have hr1 := hs1.R.mono (Dif.le G1 G))
 refine sS rfl rfl rfl rfl rfl rfl ?_
 refine sD (nS (tT (rS (rF1 (rC rfl (lBa rfl rfl)) ?_))))
 (rw [if_neg (by omega), if_pos (by omega)]; exact ⟨rfl, _, rfl, hr1⟩)
 refine sD (nS (cF rfl ?_))
 refine tK (nS (tS (tR (sP (pF0 rfl) rfl rfl (sL (lBs rfl rfl) rfl rfl ?_)))))
 refine sP (pBd rfl rfl) rfl rfl ?_
 (refine seq_step (step_alloc rfl) rfl ?_; rintro _ ⟨b63, rfl⟩)
 refine sS rfl rfl rfl rfl rfl rfl ?_
 refine sD (nS (tS (tS (tR (sP (pA rfl) rfl rfl (sD ?_))))))
 refine nS (tri_block ?_)
 (obtain ⟨hlab, hcab⟩ := hcc (by omega) (by omega); refine tri_nil 33 2 ?_; refine tri_loopN (fun (x : Nat × Option Addr × Nat × List Ty × List (List Value) × IM) => ⟨[(6, .int .i64 x.1), (5, .pointer (some ⟨b63, 0, none⟩)), (4, .pointer (some ⟨b5, 0, none⟩)), (2, .pointer (some ⟨b3, 0, none⟩)), (3, .pointer (some ⟨b4, 0, none⟩))], [.blk b63 [.int .i64 ak, .slice x.2.1 x.1 x.2.2.1], .slc x.2.1 x.2.2.1 33 2 x.1 x.2.2.2.2.1.flatten, .blk b5 [.int .i64 0, .slice none 0 0], .blk b4 [.int .i64 bk, .slice pb bks.length ccb], .blk b3 [.int .i64 ak, .slice pa aks.length cca]], x.2.2.2.2.2⟩) (fun x => x.1 ≤ aks.length ∧ IMle G x.2.2.2.2.2 ∧ x.2.2.2.1.length = x.1 ∧ RTyL x.2.2.2.2.2 x.2.2.2.1 x.2.2.2.2.1 ∧ x.2.2.2.1 = (mMeetL aks bks).take x.1) (fun x => aks.length - x.1) (0, none, 0, [], [], G) ?_ ?_ ?_)
 (simp only [flat_snoc]; exact sub_mk (by repeat (first | exact SubE.nil | refine SubE.cons rfl ?_)) (by repeat (first | exact SubH.refl | exact SubH.nil | refine SubH.cons (by repeat (first | exact Pk.here | apply Pk.there)) ?_ | apply SubH.drop)))
 (exact ⟨by simp, IMle.refl _, rfl, by simp [RTyL], rfl⟩)
 (rintro ⟨i, pn, cn, us, es', Gi⟩ ⟨hi, hle, hlu, hst, hus⟩; simp only [] at hi hle hlu hst hus ⊢; replace hsla := hsla.mono hle; replace hkla := hkla.mono hle; replace hslb := hslb.mono hle; replace hklb := hklb.mono hle)
 refine tS (tS (tR (sP (pM rfl) rfl rfl (sP (pF0 rfl) rfl rfl (sL (lBs rfl rfl) rfl rfl ?_)))))
 refine sP (pLn rfl rfl) rfl rfl (sB (pure_lss rfl rfl) rfl rfl (fun h85 => ?_) (fun h85 => ?_))
 refine sD (nS (cT rfl ?_))
 refine tK (nS (tS (tri_block ?_)))
 (obtain ⟨b, o, q0, d0, hp0, hat0, hre0, hg0⟩ := hsla.kidTy hkla (i := i) (by omega) (by omega); obtain ⟨b', o', q1, d1, hp1, hat1, hre1, hg1⟩ := hslb.kidTy hklb (i := i) (by omega) (by omega); subst hp0; subst hp1; have hih := ih aks[i] (List.getElem_mem (by omega)) bks[i] Gi _ _ (hcab i (by omega) (by omega)) (hka _ (List.getElem_mem (by omega))) (hkb _ (List.getElem_mem (by omega))) hre0 hre1; refine tri_draw mixed rfl ?_)
 refine any_pure (i := 0) (l' := [tt,ff,ff,ff,ff,ff,ff,ff,ff,ff,ff,ff,ff,ff,ff,ff,ff]) rfl npI (pF0 rfl) rfl (by kernel_rfl) rfl rfl ?_
 refine aL 1 rfl (lBs rfl rfl) rfl rfl ?_
 refine aP 2 rfl (pF0 rfl) rfl rfl ?_
 refine aL 3 rfl (lBs rfl rfl) rfl rfl ?_
 refine aP 4 rfl (pM rfl) rfl rfl ?_
 refine aP 5 rfl (pIN rfl rfl rfl (by omega)) rfl rfl ?_
 refine aL 6 rfl (load_a rfl rfl (hat0 _) rfl) rfl rfl ?_
 refine aP 7 rfl (pF0 rfl) rfl rfl ?_
 refine aL 8 rfl (lBs rfl rfl) rfl rfl ?_
 refine aP 9 rfl (pM rfl) rfl rfl ?_
 refine aP 10 rfl (pIN rfl rfl rfl (by omega)) rfl rfl ?_
 refine aL 11 rfl (load_a rfl rfl (hat1 _) rfl) rfl rfl ?_
 refine aO (j := 12) (by kernel_rfl) ?_
 (refine one_imm (l' := [tt,tt,tt,tt,tt,tt,tt,tt,tt,tt,tt,tt,tt,ff,ff,ff,ff]) rfl rfl hih rfl rfl rfl (fun v G1 hle1 hh => ?_); obtain ⟨cells', rfl, hru⟩ := hh; generalize hu : mMeet aks[i] bks[i] = u at hru; obtain ⟨p3, c3, es3, rfl, _⟩ := hru.open)
 refine aO (j := 13) (by kernel_rfl) ?_
 (refine one_step0 (l' := [tt,tt,tt,tt,tt,tt,tt,tt,tt,tt,tt,tt,tt,tt,ff,ff,ff]) rfl (step_buildSlice rfl rfl rfl (by omega) (by unfold maxLen; omega) rfl) rfl rfl ?_; rintro _ ⟨b109, rfl⟩)
 refine aO (j := 14) (by kernel_rfl) ?_
 refine one_append (l' := [tt,tt,tt,tt,tt,tt,tt,tt,tt,tt,tt,tt,tt,tt,tt,ff,ff]) rfl rfl rfl rfl rfl rfl (fun _ _ => by repeat (first | exact Sw.here | apply Sw.there)) (at_slc_all (by repeat first | exact mH | apply mT)) rfl (by simp [Value.oneCell']) (by unfold maxLen; omega) (by omega) rfl rfl (by repeat (first | exact HmOk.nil | apply HmOk.dep (by decide +kernel) | apply HmOk.blk (by decide +kernel) (by repeat (first | exact Pk.here | apply Pk.there)) (by repeat first | exact mH | apply mT))) (fun pn' cn' => ?_)
 refine aP 15 rfl (pF0 rfl) rfl rfl ?_
 refine aO (j := 16) (by kernel_rfl) ?_
 refine one_store (l' := [tt,tt,tt,tt,tt,tt,tt,tt,tt,tt,tt,tt,tt,tt,tt,tt,tt]) rfl rfl rfl rfl rfl rfl rfl rfl (by decide +kernel) (by repeat first | exact Sw.here | apply Sw.there) (by rfl) ?_
 refine aD (by kernel_rfl) ?_
 refine nrm_block (nS (tR (sP (pM rfl) rfl rfl (sP (pure_add rfl rfl (by omega) (by omega)) rfl rfl ?_))))
 refine sP (pA rfl) rfl rfl (sD (nrm_loopN (i + 1, pn', cn', us ++ [u], es' ++ [[.int .i64 u.k, .slice p3 u.ks.length c3]], G1) ?_ ?_ ?_))
 (simp only [flat_snoc]; exact sub_mk (by repeat (first | exact SubE.nil | refine SubE.cons rfl ?_)) (by repeat (first | exact SubH.refl | exact SubH.nil | refine SubH.cons (by repeat (first | exact Pk.here | apply Pk.there)) ?_ | apply SubH.drop)))
 (dsimp only; exact ⟨by omega, hle.trans hle1, by simp [hlu], RTyL.snoc (hst.mono hle1) hru, by rw [meetL_take hlab (by omega), ← hus, hu]⟩)
 (show aks.length - (i + 1) < aks.length - i; omega)
 refine sD (nS (cF rfl ?_))
 refine tri_exit ?_
 refine ext_seq ?_
 refine ext_loopN ?_
 refine ext_block_eq ?_
 refine nS (tS (tR (sL (lBa rfl rfl) rfl rfl ?_)))
 refine sS rfl rfl rfl rfl rfl rfl ?_
 refine sD (nS ?_)
 (refine ret_freeze (by repeat (first | exact Pk.here | apply Pk.there)) (fun G2 hle2 hsl2 hno2 => ?_); obtain rfl : i = aks.length := (by omega))
 refine tT (rF1 (rC rfl (lBa rfl rfl)) ?_)
 (rw [List.take_of_length_le (by rw [meetL_len _ _ hlab]; omega)] at hus; rw [if_neg (by omega), if_neg (by omega), ← hus]; exact ⟨rfl, _, rfl, (hst.mono hle2).ty hlu hsl2 hak⟩)
theorem gD {ts : List Ty} {i : Nat} (h : i < ts.length) : ts.getD i ty0 = ts[i] := by rw [List.getD_eq_getElem?_getD, List.getElem?_eq_getElem h, Option.getD_some]
section
variable {cx : Cx} {k : Int} {nm : ByteArray} {ty : Ty} {ts : List Ty}
theorem tySN6 (h : 1 < ts.length) : mTySN cx 6 nm ty ts = match mMatch 4 ts[0] with | some (a, b) => if tCons ts[1] a = true then some b else none | none => none := by
 unfold mTySN mWanted
 rw [gD (i := 0) (by omega), gD (i := 1) h]
 simp only [show ¬((6 : Int) = 1) by decide, show ¬((6 : Int) = 2) by decide, show ¬((6 : Int) = 3 ∨ (6 : Int) = 4) by decide, show ¬((6 : Int) = 5) by decide, if_false, if_true]
 cases mMatch 4 ts[0] with
 | none => rfl
 | some p =>
  obtain ⟨a, b⟩ := p
  by_cases hc : tCons ts[1] a = true
  ·simp [hc]
  ·simp [hc]
theorem tySN78 (hk : k = 7 ∨ k = 8) (h : 1 < ts.length) : mTySN cx k nm ty ts = if tCons ts[0] tyInt = true ∧ tCons ts[1] tyInt = true then some (if k = 8 then tyBool else tyInt) else none := by
 unfold mTySN mWanted
 rw [gD (i := 0) (by omega), gD (i := 1) h, if_neg (by omega), if_neg (by omega), if_neg (by omega), if_neg (by omega), if_neg (by omega), if_pos hk]
 by_cases hc : tCons ts[0] tyInt = true ∧ tCons ts[1] tyInt = true
 ·rw [if_pos hc, if_pos hc]; simp only; rw [if_neg (by omega)]
 ·rw [if_neg hc, if_neg hc]
theorem tySN9 (h : 2 < ts.length) : mTySN cx 9 nm ty ts = if tCons ts[0] tyBool = true ∧ tCons ts[1] ts[2] = true then some (mMeet ts[1] ts[2]) else none := by
 unfold mTySN mWanted
 rw [gD (i := 0) (by omega), gD (i := 1) (by omega), gD (i := 2) h, if_neg (by omega), if_neg (by omega), if_neg (by omega), if_neg (by omega), if_neg (by omega), if_neg (by omega), if_pos rfl]
 by_cases hc : tCons ts[0] tyBool = true ∧ tCons ts[1] ts[2] = true
 ·rw [if_pos hc, if_pos hc]; simp
 ·rw [if_neg hc, if_neg hc]
theorem tySN10 (h : 1 < ts.length) : mTySN cx 10 nm ty ts = if tValid (.mk 5 [ts[0], ts[1]]) = true then some (.mk 5 [ts[0], ts[1]]) else none := by
 unfold mTySN mWanted
 rw [gD (i := 0) (by omega), gD (i := 1) h, if_neg (by omega), if_neg (by omega), if_neg (by omega), if_neg (by omega), if_neg (by omega), if_neg (by omega), if_neg (by omega), if_pos rfl]
 cases hv : tValid (.mk 5 [ts[0], ts[1]]) <;> simp [hv]
theorem tySN13 (h : 0 < ts.length) : mTySN cx 13 nm ty ts = if tCons ts[0] ty = true then some ty else none := by
 unfold mTySN mWanted
 rw [gD (i := 0) h, if_neg (by omega), if_neg (by omega), if_neg (by omega), if_neg (by omega), if_neg (by omega), if_neg (by omega), if_neg (by omega), if_neg (by omega), if_pos rfl]
 by_cases hc : tCons ts[0] ty = true
 ·rw [if_pos hc, if_pos hc]; simp
 ·rw [if_neg hc, if_neg hc]
theorem tySN11 (hk : k = 11 ∨ k = 12) (h : 0 < ts.length) : mTySN cx k nm ty ts = match mMatch 5 ts[0] with | some (a, b) => some (if k = 12 then b else a) | none => none := by
 unfold mTySN mWanted
 rw [gD (i := 0) h, if_neg (by omega), if_neg (by omega), if_neg (by omega), if_neg (by omega), if_neg (by omega), if_neg (by omega), if_neg (by omega), if_neg (by omega), if_neg (by omega)]
 cases mMatch 5 ts[0] with
 | none => rfl
 | some p =>
  obtain ⟨a, b⟩ := p
  simp only
  rw [if_neg (by omega)]
end
theorem meet_ar : ∀ (a b : Ty), tCons a b = true → tAr a → tAr b → tAr (mMeet a b) := by
 refine Ty.ind fun k ks ih b hc ha hb => ?_
 obtain ⟨k', ks'⟩ := b
 rw [mMeet_mk]
 split
 ·exact hb
 ·split
  ·exact ha
  ·rw [tCons_mk] at hc
   simp only [Bool.or_eq_true, Bool.and_eq_true, decide_eq_true_eq] at hc
   obtain ⟨hk, hl⟩ : k = k' ∧ tConsL ks ks' = true := by
    rcases hc with (h | h) | h
    ·contradiction
    ·contradiction
    ·exact h
   obtain ⟨hll, hcc⟩ := (tConsL_iff _ _).1 hl
   have hlen := meetL_len ks ks' hll
   refine tAr_like ha hlen fun u hu => ?_
   obtain ⟨i, hi, rfl⟩ := List.mem_iff_getElem.1 hu
   rw [meetL_get ks ks' i (by omega) (by omega)]
   exact ih _ (List.getElem_mem _) _ (hcc i (by omega) (by omega)) (ha.kid _ (List.getElem_mem _)) (hb.kid _ (List.getElem_mem _))
set_option maxHeartbeats 0 in
set_option maxRecDepth 100000 in
theorem l3ResultX_fn (cx : Cx) (k : Int) (nm : ByteArray) (num : Int) (ty fr : Ty) (lb : Int) (ks : List Tm) (ts : List Ty) (G : IM) (cells : List Value) (p : Option Addr) (c : Nat) (es : List (List Value))
  (hops : tmOps k = ts.length) (hk6 : 6 ≤ k ∧ k ≤ 13) (hty : tAr ty) (hr : RTm G (.mk k nm num ty fr lb ks) cells) (hsl : SlE G p ts.length c 2 es) (hkl : RTyL G ts es) (har : ∀ t ∈ ts, tAr t) :
  Fn Tryz.prog 182 [.agg ⟨cells⟩, .slice p ts.length c] [] G (TyO (mTySN cx k nm ty ts) G) := by
 have hone := hr.one
 have hop := tm_ops hops
 have ha0 := fun h : 0 < ts.length => har _ (List.getElem_mem h)
 have ha1 := fun h : 1 < ts.length => har _ (List.getElem_mem h)
 have ha2 := fun h : 2 < ts.length => har _ (List.getElem_mem h)
 obtain ⟨tk, tks⟩ := ty
 obtain ⟨fk, fks⟩ := fr
 obtain ⟨pt, ct, pf, cf, pk, ck, ek, rfl, hk, hnum, hlb, hrty, hrfr, _, _⟩ := hr.open9
 refine fn_enter Tryz.func182 rfl Tryz.ntmps182 Tryz.results182 rfl ?_
 intro w0
 refine tS (tR ?_)
 (refine seq_step (step_box_a rfl rfl) rfl ?_; rintro _ ⟨b3, rfl⟩)
 (refine seq_step (step_alloc rfl) rfl ?_; rintro _ ⟨b4, rfl⟩)
 refine sP (pA rfl) rfl rfl (sD (nS (tS (tS (tR (sP (pF0 rfl) rfl rfl ?_))))))
 refine sL (lBs rfl rfl) rfl rfl ?_
 refine sD (nS (tri_block (tS (tR (sB (pE rfl rfl) rfl rfl (fun h18 => ?_) (fun h18 => ?_))))))
 refine sP (pA rfl) rfl rfl (sD (nS (cT rfl ?_)))
 refine tS (tR (sP (pM rfl) rfl rfl ?_))
 (have hl2 : ts.length = 2 := hop.1 (by omega); obtain ⟨b0, o0, q0, d0, hp0, hat0, hre0, hg0⟩ := hsl.kidTy hkl (i := 0) (by omega) (by omega); obtain ⟨b1, o1, q1, d1, hp1, hat1, hre1, hg1⟩ := hsl.kidTy hkl (i := 1) (by omega) (by omega); cases hp0; cases hp1; refine sP (pIN (j := 0) rfl rfl rfl (by omega)) rfl rfl ?_)
 refine sL (load_a rfl rfl (hat0 _) rfl) rfl rfl ?_
 focus (refine seq_imm rfl (l3MatchX_fn 4 ts[0] G _ (.inl rfl) (ha0 (by omega)) hre0) rfl rfl (fun v G1 hle1 hh => ?_); obtain ⟨ma, mca, mb, mcb, rfl, hma, hmb, hma2, hmb2, hpp⟩ := hh; obtain ⟨p1, c1, e1, rfl, _⟩ := hma.open; obtain ⟨p2, c2, e2, rfl, _⟩ := hmb.open; replace hsl := hsl.mono hle1; replace hkl := hkl.mono hle1; rcases hm : mMatch 4 ts[0] with _ | pr; rotate_left; obtain rfl := hpp _ hm; rotate_left; all_goals simp only [Option.isSome])
 refine sP (pM rfl) rfl rfl (sP (pX rfl rfl) rfl rfl (sP (pX rfl rfl) rfl rfl (sP (pX rfl rfl) rfl rfl ?_)))
 (refine seq_step (step_alloc rfl) rfl ?_; rintro _ ⟨b33, rfl⟩)
 (refine seq_step (step_alloc rfl) rfl ?_; rintro _ ⟨b34, rfl⟩)
 refine sS rfl rfl rfl rfl rfl rfl ?_
 refine sS rfl rfl rfl rfl rfl rfl ?_
 refine sP (pA rfl) rfl rfl (sD (nS (tS ?_)))
 (have hl2 : ts.length = 2 := hop.1 (by omega); obtain ⟨b0, o0, q0, d0, hp0, hat0, hre0, hg0⟩ := hsl.kidTy hkl (i := 0) (by omega) (by omega); obtain ⟨b1, o1, q1, d1, hp1, hat1, hre1, hg1⟩ := hsl.kidTy hkl (i := 1) (by omega) (by omega); cases hp0; cases hp1; refine tri_draw mixed rfl ?_)
 refine any_load (i := 0) (l' := [tt,ff,ff,ff,ff,ff,ff,ff,ff,ff,ff]) rfl npI (lBa rfl rfl) rfl (by kernel_rfl) rfl rfl ?_
 refine aP 1 rfl (pM rfl) rfl rfl ?_
 refine aP 2 rfl (pM rfl) rfl rfl ?_
 refine aK (i := 3) (l' := [tt,tt,tt,tt,ff,ff,ff,ff,ff,ff,ff]) rfl npI rfl (by kernel_rfl) rfl rfl ?_
 refine aK (i := 4) (l' := [tt,tt,tt,tt,tt,ff,ff,ff,ff,ff,ff]) rfl npI rfl (by kernel_rfl) rfl rfl ?_
 refine aK (i := 5) (l' := [tt,tt,tt,tt,tt,tt,ff,ff,ff,ff,ff]) rfl npI rfl (by kernel_rfl) rfl rfl ?_
 refine aK (i := 6) (l' := [tt,tt,tt,tt,tt,tt,tt,ff,ff,ff,ff]) rfl npI rfl (by kernel_rfl) rfl rfl ?_
 refine aK (i := 7) (l' := [tt,tt,tt,tt,tt,tt,tt,tt,ff,ff,ff]) rfl npI rfl (by kernel_rfl) rfl rfl ?_
 refine aP 8 rfl (pPf rfl rfl) rfl rfl ?_
 refine aO (j := 9) (by kernel_rfl) ?_
 refine oT rfl rfl rfl rfl rfl rfl rfl ?_
 refine aP 10 rfl (pA rfl) rfl rfl ?_
 refine aD (by kernel_rfl) ?_
 refine nS (tT (rB (rS (rF2 (rC rfl (lBa rfl rfl)) (rT rfl) ?_))))
 (obtain rfl : k = 6 := (by omega); exact TyO.no (by rw [tySN6 (by omega), hm]) hmb hmb2)
 refine sP (pM rfl) rfl rfl (sP (pX rfl rfl) rfl rfl (sP (pX rfl rfl) rfl rfl (sP (pX rfl rfl) rfl rfl ?_)))
 (refine seq_step (step_alloc rfl) rfl ?_; rintro _ ⟨b65, rfl⟩)
 (refine seq_step (step_alloc rfl) rfl ?_; rintro _ ⟨b66, rfl⟩)
 refine sS rfl rfl rfl rfl rfl rfl ?_
 refine sS rfl rfl rfl rfl rfl rfl ?_
 refine sP (pA rfl) rfl rfl (sD (nS (tS ?_)))
 (have hl2 : ts.length = 2 := hop.1 (by omega); obtain ⟨b0, o0, q0, d0, hp0, hat0, hre0, hg0⟩ := hsl.kidTy hkl (i := 0) (by omega) (by omega); obtain ⟨b1, o1, q1, d1, hp1, hat1, hre1, hg1⟩ := hsl.kidTy hkl (i := 1) (by omega) (by omega); cases hp0; cases hp1; refine tri_draw mixed rfl ?_)
 refine any_load (i := 0) (l' := [tt,ff,ff,ff,ff,ff,ff,ff,ff,ff,ff]) rfl npI (lBa rfl rfl) rfl (by kernel_rfl) rfl rfl ?_
 refine aP 1 rfl (pM rfl) rfl rfl ?_
 refine aP 2 rfl (pM rfl) rfl rfl ?_
 refine aP 3 rfl (pM rfl) rfl rfl ?_
 refine aP 4 rfl (pIN (j := 1) rfl rfl rfl (by omega)) rfl rfl ?_
 refine aL 5 rfl (load_a rfl rfl (hat1 _) rfl) rfl rfl ?_
 refine aL 6 rfl (lBa rfl rfl) rfl rfl ?_
 refine aO (j := 7) (by kernel_rfl) ?_
 refine one_val (l' := [tt,tt,tt,tt,tt,tt,tt,tt,ff,ff,ff]) rfl rfl ((l1ConsistentA_fn ts[1] ma _ _ _ (ha1 (by omega)) hma2 hre1 hma)) rfl rfl rfl ?_
 refine aP 8 rfl (pPt rfl rfl) rfl rfl ?_
 refine aO (j := 9) (by kernel_rfl) ?_
 refine oT rfl rfl rfl rfl rfl rfl rfl ?_
 refine aP 10 rfl (pA rfl) rfl rfl ?_
 refine aD (by kernel_rfl) ?_
 refine nS (tT (rB (rS (rF2 (rC rfl (lBa rfl rfl)) (rT rfl) ?_))))
 (obtain rfl : k = 6 := (by omega); exact TyO.mk (by rw [tySN6 (by omega), hm]) hmb hmb2)
 refine sP (pA rfl) rfl rfl (sD (nS (cF rfl ?_)))
 refine tS (tR (sB (pE rfl rfl) rfl rfl (fun h100 => ?_) (fun h100 => ?_)))
 refine sP (pA rfl) rfl rfl (sD (nS (cT rfl ?_)))
 refine tS ?_
 (have hl2 : ts.length = 2 := hop.1 (by omega); obtain ⟨b0, o0, q0, d0, hp0, hat0, hre0, hg0⟩ := hsl.kidTy hkl (i := 0) (by omega) (by omega); obtain ⟨b1, o1, q1, d1, hp1, hat1, hre1, hg1⟩ := hsl.kidTy hkl (i := 1) (by omega) (by omega); cases hp0; cases hp1; refine tri_draw mixed rfl ?_)
 refine any_pure (i := 1) (l' := [ff,tt,ff,ff,ff,ff,ff,ff,ff,ff,ff,ff,ff,ff,ff]) rfl npI (pM rfl) rfl (by kernel_rfl) rfl rfl ?_
 refine aP 2 rfl (pIN (j := 0) rfl rfl rfl (by omega)) rfl rfl ?_
 refine aL 3 rfl (load_a rfl rfl (hat0 _) rfl) rfl rfl ?_
 refine aO (j := 0) (by kernel_rfl) ?_
 refine one_val (l' := [tt,tt,tt,tt,ff,ff,ff,ff,ff,ff,ff,ff,ff,ff,ff]) rfl rfl ((l3Int_fn _)) rfl rfl rfl ?_
 refine aO (j := 4) (by kernel_rfl) ?_
 refine one_val (l' := [tt,tt,tt,tt,tt,ff,ff,ff,ff,ff,ff,ff,ff,ff,ff]) rfl rfl ((l3Int_fn _)) rfl rfl rfl ?_
 refine aO (j := 5) (by kernel_rfl) ?_
 refine one_valb (l' := [tt,tt,tt,tt,tt,tt,ff,ff,ff,ff,ff,ff,ff,ff,ff]) rfl rfl ((l1ConsistentA_fn ts[0] (.mk 2 []) _ _ _ (ha0 (by omega)) (tAr_leaf (by decide) (by decide)) hre0 (tyLeaf_r _ ⟨by omega, by omega⟩))) rfl rfl rfl (fun h115 => ?_) (fun h115 => ?_)
 refine aP 6 rfl (pM rfl) rfl rfl ?_
 refine aP 7 rfl (pM rfl) rfl rfl ?_
 refine aP 8 rfl (pIN (j := 1) rfl rfl rfl (by omega)) rfl rfl ?_
 refine aL 9 rfl (load_a rfl rfl (hat1 _) rfl) rfl rfl ?_
 refine aO (j := 10) (by kernel_rfl) ?_
 refine one_val (l' := [tt,tt,tt,tt,tt,tt,tt,tt,tt,tt,tt,ff,ff,ff,ff]) rfl rfl ((l3Int_fn _)) rfl rfl rfl ?_
 refine aO (j := 11) (by kernel_rfl) ?_
 refine one_val (l' := [tt,tt,tt,tt,tt,tt,tt,tt,tt,tt,tt,tt,ff,ff,ff]) rfl rfl ((l1ConsistentA_fn ts[1] (.mk 2 []) _ _ _ (ha1 (by omega)) (tAr_leaf (by decide) (by decide)) hre1 (tyLeaf_r _ ⟨by omega, by omega⟩))) rfl rfl rfl ?_
 refine aP 12 rfl (pPt rfl rfl) rfl rfl ?_
 refine aO (j := 13) (by kernel_rfl) ?_
 refine oT rfl rfl rfl rfl rfl rfl rfl ?_
 refine aP 14 rfl (pA rfl) rfl rfl ?_
 refine aD (by kernel_rfl) ?_
 refine nS (tT (rB (rS (rF2 (rC rfl (lBa rfl rfl)) (rT rfl) ?_))))
 (have hk7 : k = 7 := (by omega); exact TyO.mk (by rw [tySN78 (.inl hk7) (by omega)]; simp_all [tyInt]) (tyLeaf_r _ ⟨by omega, by omega⟩) (tAr_leaf (by omega) (by omega)))
 refine aP 6 rfl (pM rfl) rfl rfl ?_
 refine aK (i := 7) (l' := [tt,tt,tt,tt,tt,tt,tt,tt,ff,ff,ff,ff,ff,ff,ff]) rfl npI rfl (by kernel_rfl) rfl rfl ?_
 refine aK (i := 8) (l' := [tt,tt,tt,tt,tt,tt,tt,tt,tt,ff,ff,ff,ff,ff,ff]) rfl npI rfl (by kernel_rfl) rfl rfl ?_
 refine aK (i := 9) (l' := [tt,tt,tt,tt,tt,tt,tt,tt,tt,tt,ff,ff,ff,ff,ff]) rfl npI rfl (by kernel_rfl) rfl rfl ?_
 refine aK (i := 10) (l' := [tt,tt,tt,tt,tt,tt,tt,tt,tt,tt,tt,ff,ff,ff,ff]) rfl npI rfl (by kernel_rfl) rfl rfl ?_
 refine aK (i := 11) (l' := [tt,tt,tt,tt,tt,tt,tt,tt,tt,tt,tt,tt,ff,ff,ff]) rfl npI rfl (by kernel_rfl) rfl rfl ?_
 refine aP 12 rfl (pPf rfl rfl) rfl rfl ?_
 refine aO (j := 13) (by kernel_rfl) ?_
 refine oT rfl rfl rfl rfl rfl rfl rfl ?_
 refine aP 14 rfl (pA rfl) rfl rfl ?_
 refine aD (by kernel_rfl) ?_
 refine nS (tT (rB (rS (rF2 (rC rfl (lBa rfl rfl)) (rT rfl) ?_))))
 (have hk7 : k = 7 := (by omega); exact TyO.mk (by rw [tySN78 (.inl hk7) (by omega)]; simp_all [tyInt]) (tyLeaf_r _ ⟨by omega, by omega⟩) (tAr_leaf (by omega) (by omega)))
 refine sP (pA rfl) rfl rfl (sD (nS (cF rfl ?_)))
 refine tS (tR (sB (pE rfl rfl) rfl rfl (fun h158 => ?_) (fun h158 => ?_)))
 refine sP (pA rfl) rfl rfl (sD (nS (cT rfl ?_)))
 refine tS ?_
 (have hl2 : ts.length = 2 := hop.1 (by omega); obtain ⟨b0, o0, q0, d0, hp0, hat0, hre0, hg0⟩ := hsl.kidTy hkl (i := 0) (by omega) (by omega); obtain ⟨b1, o1, q1, d1, hp1, hat1, hre1, hg1⟩ := hsl.kidTy hkl (i := 1) (by omega) (by omega); cases hp0; cases hp1; refine tri_draw mixed rfl ?_)
 refine any_pure (i := 1) (l' := [ff,tt,ff,ff,ff,ff,ff,ff,ff,ff,ff,ff,ff,ff,ff]) rfl npI (pM rfl) rfl (by kernel_rfl) rfl rfl ?_
 refine aP 2 rfl (pIN (j := 0) rfl rfl rfl (by omega)) rfl rfl ?_
 refine aL 3 rfl (load_a rfl rfl (hat0 _) rfl) rfl rfl ?_
 refine aO (j := 0) (by kernel_rfl) ?_
 refine one_val (l' := [tt,tt,tt,tt,ff,ff,ff,ff,ff,ff,ff,ff,ff,ff,ff]) rfl rfl ((l3Bool_fn _)) rfl rfl rfl ?_
 refine aO (j := 4) (by kernel_rfl) ?_
 refine one_val (l' := [tt,tt,tt,tt,tt,ff,ff,ff,ff,ff,ff,ff,ff,ff,ff]) rfl rfl ((l3Int_fn _)) rfl rfl rfl ?_
 refine aO (j := 5) (by kernel_rfl) ?_
 refine one_valb (l' := [tt,tt,tt,tt,tt,tt,ff,ff,ff,ff,ff,ff,ff,ff,ff]) rfl rfl ((l1ConsistentA_fn ts[0] (.mk 2 []) _ _ _ (ha0 (by omega)) (tAr_leaf (by decide) (by decide)) hre0 (tyLeaf_r _ ⟨by omega, by omega⟩))) rfl rfl rfl (fun h173 => ?_) (fun h173 => ?_)
 refine aP 6 rfl (pM rfl) rfl rfl ?_
 refine aP 7 rfl (pM rfl) rfl rfl ?_
 refine aP 8 rfl (pIN (j := 1) rfl rfl rfl (by omega)) rfl rfl ?_
 refine aL 9 rfl (load_a rfl rfl (hat1 _) rfl) rfl rfl ?_
 refine aO (j := 10) (by kernel_rfl) ?_
 refine one_val (l' := [tt,tt,tt,tt,tt,tt,tt,tt,tt,tt,tt,ff,ff,ff,ff]) rfl rfl ((l3Int_fn _)) rfl rfl rfl ?_
 refine aO (j := 11) (by kernel_rfl) ?_
 refine one_val (l' := [tt,tt,tt,tt,tt,tt,tt,tt,tt,tt,tt,tt,ff,ff,ff]) rfl rfl ((l1ConsistentA_fn ts[1] (.mk 2 []) _ _ _ (ha1 (by omega)) (tAr_leaf (by decide) (by decide)) hre1 (tyLeaf_r _ ⟨by omega, by omega⟩))) rfl rfl rfl ?_
 refine aP 12 rfl (pPt rfl rfl) rfl rfl ?_
 refine aO (j := 13) (by kernel_rfl) ?_
 refine oT rfl rfl rfl rfl rfl rfl rfl ?_
 refine aP 14 rfl (pA rfl) rfl rfl ?_
 refine aD (by kernel_rfl) ?_
 refine nS (tT (rB (rS (rF2 (rC rfl (lBa rfl rfl)) (rT rfl) ?_))))
 (have hk8 : k = 8 := (by omega); exact TyO.mk (by rw [tySN78 (.inr hk8) (by omega)]; simp_all [tyInt, tyBool]) (tyLeaf_r _ ⟨by omega, by omega⟩) (tAr_leaf (by omega) (by omega)))
 refine aP 6 rfl (pM rfl) rfl rfl ?_
 refine aK (i := 7) (l' := [tt,tt,tt,tt,tt,tt,tt,tt,ff,ff,ff,ff,ff,ff,ff]) rfl npI rfl (by kernel_rfl) rfl rfl ?_
 refine aK (i := 8) (l' := [tt,tt,tt,tt,tt,tt,tt,tt,tt,ff,ff,ff,ff,ff,ff]) rfl npI rfl (by kernel_rfl) rfl rfl ?_
 refine aK (i := 9) (l' := [tt,tt,tt,tt,tt,tt,tt,tt,tt,tt,ff,ff,ff,ff,ff]) rfl npI rfl (by kernel_rfl) rfl rfl ?_
 refine aK (i := 10) (l' := [tt,tt,tt,tt,tt,tt,tt,tt,tt,tt,tt,ff,ff,ff,ff]) rfl npI rfl (by kernel_rfl) rfl rfl ?_
 refine aK (i := 11) (l' := [tt,tt,tt,tt,tt,tt,tt,tt,tt,tt,tt,tt,ff,ff,ff]) rfl npI rfl (by kernel_rfl) rfl rfl ?_
 refine aP 12 rfl (pPf rfl rfl) rfl rfl ?_
 refine aO (j := 13) (by kernel_rfl) ?_
 refine oT rfl rfl rfl rfl rfl rfl rfl ?_
 refine aP 14 rfl (pA rfl) rfl rfl ?_
 refine aD (by kernel_rfl) ?_
 refine nS (tT (rB (rS (rF2 (rC rfl (lBa rfl rfl)) (rT rfl) ?_))))
 (have hk8 : k = 8 := (by omega); exact TyO.mk (by rw [tySN78 (.inr hk8) (by omega)]; simp_all [tyInt, tyBool]) (tyLeaf_r _ ⟨by omega, by omega⟩) (tAr_leaf (by omega) (by omega)))
 refine sP (pA rfl) rfl rfl (sD (nS (cF rfl ?_)))
 refine tS (tR (sB (pE rfl rfl) rfl rfl (fun h216 => ?_) (fun h216 => ?_)))
 refine sP (pA rfl) rfl rfl (sD (nS (cT rfl ?_)))
 refine tS (tS ?_)
 (have hl3 : ts.length = 3 := hop.2.1 (by omega); obtain ⟨b0, o0, q0, d0, hp0, hat0, hre0, hg0⟩ := hsl.kidTy hkl (i := 0) (by omega) (by omega); obtain ⟨b1, o1, q1, d1, hp1, hat1, hre1, hg1⟩ := hsl.kidTy hkl (i := 1) (by omega) (by omega); obtain ⟨b2, o2, q2, d2, hp2, hat2, hre2, hg2⟩ := hsl.kidTy hkl (i := 2) (by omega) (by omega); cases hp0; cases hp1; cases hp2; refine tri_draw mixed rfl ?_)
 refine any_pure (i := 0) (l' := [tt,ff,ff,ff,ff,ff,ff,ff]) rfl npI (pM rfl) rfl (by kernel_rfl) rfl rfl ?_
 refine aP 1 rfl (pIN (j := 1) rfl rfl rfl (by omega)) rfl rfl ?_
 refine aL 2 rfl (load_a rfl rfl (hat1 _) rfl) rfl rfl ?_
 refine aP 3 rfl (pM rfl) rfl rfl ?_
 refine aP 4 rfl (pIN (j := 2) rfl rfl rfl (by omega)) rfl rfl ?_
 refine aL 5 rfl (load_a rfl rfl (hat2 _) rfl) rfl rfl ?_
 refine aO (j := 6) (by kernel_rfl) ?_
 refine one_valb (l' := [tt,tt,tt,tt,tt,tt,tt,ff]) rfl rfl ((l1ConsistentA_fn ts[1] ts[2] _ _ _ (ha1 (by omega)) (ha2 (by omega)) hre1 hre2)) rfl rfl rfl (fun h231 => ?_) (fun h231 => ?_)
 refine aP 7 rfl (pNt rfl) rfl rfl ?_
 refine aD (by kernel_rfl) ?_
 refine nS (cF rfl ?_)
 refine tK (nS (tS ?_))
 (have hl3 : ts.length = 3 := hop.2.1 (by omega); obtain ⟨b0, o0, q0, d0, hp0, hat0, hre0, hg0⟩ := hsl.kidTy hkl (i := 0) (by omega) (by omega); obtain ⟨b1, o1, q1, d1, hp1, hat1, hre1, hg1⟩ := hsl.kidTy hkl (i := 1) (by omega) (by omega); obtain ⟨b2, o2, q2, d2, hp2, hat2, hre2, hg2⟩ := hsl.kidTy hkl (i := 2) (by omega) (by omega); cases hp0; cases hp1; cases hp2; refine tri_draw mixed rfl ?_)
 refine any_pure (i := 0) (l' := [tt,ff,ff,ff,ff,ff,ff,ff,ff,ff,ff,ff,ff,ff]) rfl npI (pM rfl) rfl (by kernel_rfl) rfl rfl ?_
 refine aP 1 rfl (pIN (j := 1) rfl rfl rfl (by omega)) rfl rfl ?_
 refine aL 2 rfl (load_a rfl rfl (hat1 _) rfl) rfl rfl ?_
 refine aP 3 rfl (pM rfl) rfl rfl ?_
 refine aP 4 rfl (pIN (j := 2) rfl rfl rfl (by omega)) rfl rfl ?_
 refine aL 5 rfl (load_a rfl rfl (hat2 _) rfl) rfl rfl ?_
 refine aP 7 rfl (pM rfl) rfl rfl ?_
 refine aP 8 rfl (pIN (j := 0) rfl rfl rfl (by omega)) rfl rfl ?_
 refine aL 9 rfl (load_a rfl rfl (hat0 _) rfl) rfl rfl ?_
 refine aO (j := 6) (by kernel_rfl) ?_
 (refine one_imm (l' := [tt,tt,tt,tt,tt,tt,tt,tt,tt,tt,ff,ff,ff,ff]) rfl rfl (l1MeetX_fn ts[1] ts[2] G _ _ (by assumption) (ha1 (by omega)) (ha2 (by omega)) hre1 hre2) rfl rfl rfl (fun v G1 hle1 hh => ?_); obtain ⟨mc, rfl, hmr⟩ := hh; obtain ⟨mt, hmt⟩ : ∃ mt, mMeet ts[1] ts[2] = mt := ⟨_, rfl⟩; rw [hmt] at hmr; have hma : tAr mt := (hmt ▸ meet_ar ts[1] ts[2] (by assumption) (ha1 (by omega)) (ha2 (by omega))); obtain ⟨p1, c1, e1, rfl, _⟩ := hmr.open; have hre0q := hre0.mono hle1)
 refine aO (j := 10) (by kernel_rfl) ?_
 refine one_val (l' := [tt,tt,tt,tt,tt,tt,tt,tt,tt,tt,tt,ff,ff,ff]) rfl rfl ((l3Bool_fn _)) rfl rfl rfl ?_
 refine aO (j := 11) (by kernel_rfl) ?_
 refine one_val (l' := [tt,tt,tt,tt,tt,tt,tt,tt,tt,tt,tt,tt,ff,ff]) rfl rfl ((l1ConsistentA_fn ts[0] (.mk 3 []) _ _ _ (ha0 (by omega)) (tAr_leaf (by decide) (by decide)) hre0q (tyLeaf_r _ ⟨by omega, by omega⟩))) rfl rfl rfl ?_
 refine aO (j := 12) (by kernel_rfl) ?_
 refine oT rfl rfl rfl rfl rfl rfl rfl ?_
 refine aP 13 rfl (pA rfl) rfl rfl ?_
 refine aD (by kernel_rfl) ?_
 refine nS (tT (rB (rS (rF2 (rC rfl (lBa rfl rfl)) (rT rfl) ?_))))
 (obtain rfl : k = 9 := (by omega); exact TyO.mk (by rw [tySN9 (by omega), hmt]; simp_all [tyBool]) hmr hma)
 refine aP 7 rfl (pNf rfl) rfl rfl ?_
 refine aD (by kernel_rfl) ?_
 refine nS (cT rfl ?_)
 refine tS (tR (sP (pBd rfl rfl) rfl rfl (sS rfl rfl rfl rfl rfl rfl ?_)))
 refine sP (pA rfl) rfl rfl (sD (nS (tT (rS (rB (rS ?_))))))
 refine rF2 (rC rfl (lBa rfl rfl)) (rT rfl) ?_
 (obtain rfl : k = 9 := (by omega); exact TyO.no (by rw [tySN9 (by omega)]; simp_all) (tyLeaf_r _ ⟨by omega, by omega⟩) (tAr_leaf (by omega) (by omega)))
 refine sP (pA rfl) rfl rfl (sD (nS (cF rfl ?_)))
 refine tS (tR (sB (pE rfl rfl) rfl rfl (fun h288 => ?_) (fun h288 => ?_)))
 refine sP (pA rfl) rfl rfl (sD (nS (cT rfl ?_)))
 refine tS ?_
 (have hl2 : ts.length = 2 := hop.1 (by omega); obtain ⟨b0, o0, q0, d0, hp0, hat0, hre0, hg0⟩ := hsl.kidTy hkl (i := 0) (by omega) (by omega); obtain ⟨b1, o1, q1, d1, hp1, hat1, hre1, hg1⟩ := hsl.kidTy hkl (i := 1) (by omega) (by omega); cases hp0; cases hp1; refine tri_draw mixed rfl ?_)
 refine any_pure (i := 0) (l' := [tt,ff,ff,ff,ff,ff,ff,ff,ff,ff,ff]) rfl npI (pM rfl) rfl (by kernel_rfl) rfl rfl ?_
 refine aP 1 rfl (pIN (j := 0) rfl rfl rfl (by omega)) rfl rfl ?_
 refine aL 2 rfl (load_a rfl rfl (hat0 _) rfl) rfl rfl ?_
 refine aP 3 rfl (pM rfl) rfl rfl ?_
 refine aP 4 rfl (pIN (j := 1) rfl rfl rfl (by omega)) rfl rfl ?_
 refine aL 5 rfl (load_a rfl rfl (hat1 _) rfl) rfl rfl ?_
 refine aO (j := 6) (by kernel_rfl) ?_
 (refine one_imm (l' := [tt,tt,tt,tt,tt,tt,tt,ff,ff,ff,ff]) rfl rfl (l3TwoX_fn 5 ts[0] ts[1] G _ _ (.inr rfl) (ha0 (by omega)) (ha1 (by omega)) hre0 hre1) rfl rfl rfl (fun v G1 hle1 hh => ?_); obtain ⟨mc, rfl, hmr⟩ := hh; have hma := tAr_two (.inr rfl) (ha0 (by omega)) (ha1 (by omega)); obtain ⟨p1, c1, e1, rfl, _⟩ := hmr.open)
 refine aP 7 rfl (pX rfl rfl) rfl rfl ?_
 refine aP 8 rfl (pX rfl rfl) rfl rfl ?_
 refine aO (j := 9) (by kernel_rfl) ?_
 refine oT rfl rfl rfl rfl rfl rfl rfl ?_
 refine aP 10 rfl (pA rfl) rfl rfl ?_
 refine aD (by kernel_rfl) ?_
 refine nS (tT (rB (rS (rF2 (rC rfl (lBa rfl rfl)) (rT rfl) ?_))))
 (obtain rfl : k = 10 := (by omega); exact TyO.mk (by rw [tySN10 (by omega)]) hmr hma)
 refine sP (pA rfl) rfl rfl (sD (nS (cF rfl ?_)))
 refine tS (tR (sB (pE rfl rfl) rfl rfl (fun h321 => ?_) (fun h321 => ?_)))
 refine sP (pA rfl) rfl rfl (sD (nS (cT rfl ?_)))
 refine tS (tR (sP (pM rfl) rfl rfl ?_))
 (have hl1 : ts.length = 1 := hop.2.2 (by omega); obtain ⟨b0, o0, q0, d0, hp0, hat0, hre0, hg0⟩ := hsl.kidTy hkl (i := 0) (by omega) (by omega); cases hp0; refine sP (pIN (j := 0) rfl rfl rfl (by omega)) rfl rfl ?_)
 refine sL (load_a rfl rfl (hat0 _) rfl) rfl rfl ?_
 focus (refine seq_imm rfl (l3MatchX_fn 5 ts[0] G _ (.inr rfl) (ha0 (by omega)) hre0) rfl rfl (fun v G1 hle1 hh => ?_); obtain ⟨ma, mca, mb, mcb, rfl, hma, hmb, hma2, hmb2, hpp⟩ := hh; obtain ⟨p1, c1, e1, rfl, _⟩ := hma.open; obtain ⟨p2, c2, e2, rfl, _⟩ := hmb.open; rcases hm : mMatch 5 ts[0] with _ | pr; rotate_left; obtain rfl := hpp _ hm; rotate_left; all_goals simp only [Option.isSome])
 refine sP (pM rfl) rfl rfl (sP (pX rfl rfl) rfl rfl (sP (pX rfl rfl) rfl rfl (sP (pX rfl rfl) rfl rfl ?_)))
 (refine seq_step (step_alloc rfl) rfl ?_; rintro _ ⟨b336, rfl⟩)
 (refine seq_step (step_alloc rfl) rfl ?_; rintro _ ⟨b337, rfl⟩)
 refine sS rfl rfl rfl rfl rfl rfl ?_
 refine sS rfl rfl rfl rfl rfl rfl ?_
 refine sP (pA rfl) rfl rfl (sD (nS (tS (tR (sL (lBa rfl rfl) rfl rfl ?_)))))
 refine sP (pM rfl) rfl rfl (sS rfl rfl rfl rfl rfl rfl ?_)
 refine sP (pA rfl) rfl rfl (sD (nS (tT (rB (rS (rF2 (rC rfl (lBa rfl rfl)) (rT rfl) ?_))))))
 (have hk11 : k = 11 := (by omega); exact TyO.no (by rw [tySN11 (.inl hk11) (by omega), hm]) hma hma2)
 refine sP (pM rfl) rfl rfl (sP (pX rfl rfl) rfl rfl (sP (pX rfl rfl) rfl rfl (sP (pX rfl rfl) rfl rfl ?_)))
 (refine seq_step (step_alloc rfl) rfl ?_; rintro _ ⟨b360, rfl⟩)
 (refine seq_step (step_alloc rfl) rfl ?_; rintro _ ⟨b361, rfl⟩)
 refine sS rfl rfl rfl rfl rfl rfl ?_
 refine sS rfl rfl rfl rfl rfl rfl ?_
 refine sP (pA rfl) rfl rfl (sD (nS (tS (tR (sL (lBa rfl rfl) rfl rfl ?_)))))
 refine sP (pM rfl) rfl rfl (sS rfl rfl rfl rfl rfl rfl ?_)
 refine sP (pA rfl) rfl rfl (sD (nS (tT (rB (rS (rF2 (rC rfl (lBa rfl rfl)) (rT rfl) ?_))))))
 (have hk11 : k = 11 := (by omega); exact TyO.yes (by rw [tySN11 (.inl hk11) (by omega), hm]; simp only; rw [if_neg (by omega)]) hma hma2)
 refine sP (pA rfl) rfl rfl (sD (nS (cF rfl ?_)))
 refine tS (tR (sB (pE rfl rfl) rfl rfl (fun h386 => ?_) (fun h386 => ?_)))
 refine sP (pA rfl) rfl rfl (sD (nS (cT rfl ?_)))
 refine tS (tR (sP (pM rfl) rfl rfl ?_))
 (have hl1 : ts.length = 1 := hop.2.2 (by omega); obtain ⟨b0, o0, q0, d0, hp0, hat0, hre0, hg0⟩ := hsl.kidTy hkl (i := 0) (by omega) (by omega); cases hp0; refine sP (pIN (j := 0) rfl rfl rfl (by omega)) rfl rfl ?_)
 refine sL (load_a rfl rfl (hat0 _) rfl) rfl rfl ?_
 focus (refine seq_imm rfl (l3MatchX_fn 5 ts[0] G _ (.inr rfl) (ha0 (by omega)) hre0) rfl rfl (fun v G1 hle1 hh => ?_); obtain ⟨ma, mca, mb, mcb, rfl, hma, hmb, hma2, hmb2, hpp⟩ := hh; obtain ⟨p1, c1, e1, rfl, _⟩ := hma.open; obtain ⟨p2, c2, e2, rfl, _⟩ := hmb.open; rcases hm : mMatch 5 ts[0] with _ | pr; rotate_left; obtain rfl := hpp _ hm; rotate_left; all_goals simp only [Option.isSome])
 refine sP (pM rfl) rfl rfl (sP (pX rfl rfl) rfl rfl (sP (pX rfl rfl) rfl rfl (sP (pX rfl rfl) rfl rfl ?_)))
 (refine seq_step (step_alloc rfl) rfl ?_; rintro _ ⟨b401, rfl⟩)
 (refine seq_step (step_alloc rfl) rfl ?_; rintro _ ⟨b402, rfl⟩)
 refine sS rfl rfl rfl rfl rfl rfl ?_
 refine sS rfl rfl rfl rfl rfl rfl ?_
 refine sP (pA rfl) rfl rfl (sD (nS (tS (tR (sL (lBa rfl rfl) rfl rfl ?_)))))
 refine sP (pM rfl) rfl rfl (sS rfl rfl rfl rfl rfl rfl ?_)
 refine sP (pA rfl) rfl rfl (sD (nS (tT (rB (rS (rF2 (rC rfl (lBa rfl rfl)) (rT rfl) ?_))))))
 (have hk12 : k = 12 := (by omega); exact TyO.no (by rw [tySN11 (.inr hk12) (by omega), hm]) hmb hmb2)
 refine sP (pM rfl) rfl rfl (sP (pX rfl rfl) rfl rfl (sP (pX rfl rfl) rfl rfl (sP (pX rfl rfl) rfl rfl ?_)))
 (refine seq_step (step_alloc rfl) rfl ?_; rintro _ ⟨b425, rfl⟩)
 (refine seq_step (step_alloc rfl) rfl ?_; rintro _ ⟨b426, rfl⟩)
 refine sS rfl rfl rfl rfl rfl rfl ?_
 refine sS rfl rfl rfl rfl rfl rfl ?_
 refine sP (pA rfl) rfl rfl (sD (nS (tS (tR (sL (lBa rfl rfl) rfl rfl ?_)))))
 refine sP (pM rfl) rfl rfl (sS rfl rfl rfl rfl rfl rfl ?_)
 refine sP (pA rfl) rfl rfl (sD (nS (tT (rB (rS (rF2 (rC rfl (lBa rfl rfl)) (rT rfl) ?_))))))
 (have hk12 : k = 12 := (by omega); exact TyO.yes (by rw [tySN11 (.inr hk12) (by omega), hm]; simp only; rw [if_pos (by omega)]) hmb hmb2)
 refine sP (pA rfl) rfl rfl (sD (nS (cF rfl ?_)))
 refine tS (tR (sP (pure_eql_t rfl rfl (by omega)) rfl rfl ?_))
 refine sP (pA rfl) rfl rfl (sD (nS (cT rfl ?_)))
 refine tS ?_
 (have hl1 : ts.length = 1 := hop.2.2 (by omega); obtain ⟨b0, o0, q0, d0, hp0, hat0, hre0, hg0⟩ := hsl.kidTy hkl (i := 0) (by omega) (by omega); cases hp0; refine tri_draw mixed rfl ?_)
 refine any_pure (i := 0) (l' := [tt,ff,ff,ff,ff,ff,ff,ff,ff,ff,ff]) rfl npI (pF0 rfl) rfl (by kernel_rfl) rfl rfl ?_
 refine aL 1 rfl (lBa rfl rfl) rfl rfl ?_
 refine aP 3 rfl (pM rfl) rfl rfl ?_
 refine aP 4 rfl (pIN (j := 0) rfl rfl rfl (by omega)) rfl rfl ?_
 refine aL 5 rfl (load_a rfl rfl (hat0 _) rfl) rfl rfl ?_
 refine aP 6 rfl (pF0 rfl) rfl rfl ?_
 refine aL 7 rfl (lBa rfl rfl) rfl rfl ?_
 refine aO (j := 2) (by kernel_rfl) ?_
 (refine one_imm (l' := [tt,tt,tt,tt,tt,tt,tt,tt,ff,ff,ff]) rfl rfl (l1Copy_fn (.mk tk tks) G _ hty.small hrty) rfl rfl rfl (fun v G1 hle1 hh => ?_); obtain ⟨cs1, F1, rfl, hs1, hn1⟩ := hh; obtain ⟨p1, c1, rfl, _⟩ := hs1.open; have hmr := hs1.R.mono (Dif.le G1 G); have hre0q := hre0.mono hle1; have hrtyq := hrty.mono hle1)
 refine aO (j := 8) (by kernel_rfl) ?_
 refine one_val (l' := [tt,tt,tt,tt,tt,tt,tt,tt,tt,ff,ff]) rfl rfl ((l1ConsistentA_fn ts[0] (.mk tk tks) _ _ _ (ha0 (by omega)) hty hre0q hrtyq)) rfl rfl rfl ?_
 refine aO (j := 9) (by kernel_rfl) ?_
 refine oT rfl rfl rfl rfl rfl rfl rfl ?_
 refine aP 10 rfl (pA rfl) rfl rfl ?_
 refine aD (by kernel_rfl) ?_
 refine nS (tT (rB (rS (rF2 (rC rfl (lBa rfl rfl)) (rT rfl) ?_))))
 (obtain rfl : k = 13 := (by omega); exact TyO.mk (by rw [tySN13 (by omega)]) hmr hty)
end Gw
end Go.Proofs.YtaiafkcflhcdaaaGreatDoor
namespace Go.Proofs.YtaiafkcflhcdaaaGreatDoor
open Go Go.RowKit
namespace Gw
theorem mElL_succ {cx : Cx} : ∀ {ks : List Tm} {i : Nat} (hi : i < ks.length) {l l' l2 : Int} {us : List Tm} {h : List Ty} {u : Tm} {a : Ty}, mElL cx (ks.take i) l = some (us, h, l') → mEl cx ks[i] l' = some (u, a, l2) → mElL cx (ks.take (i + 1)) l = some (us ++ [u], h ++ [a], l2)
 | [], i, hi, _, _, _, _, _, _, _, _, _ => by simp at hi
 | t :: ts, 0, _, l, l', l2, us, h, u, a, h1, h2 => by
  simp only [List.take_zero, mElL, Option.some.injEq, Prod.mk.injEq] at h1
  obtain ⟨rfl, rfl, rfl⟩ := h1
  simp only [List.getElem_cons_zero] at h2
  simp [mElL, h2]
 | t :: ts, i + 1, hi, l, l', l2, us, h, u, a, h1, h2 => by
  simp only [List.take_succ_cons, mElL] at h1 ⊢
  split at h1
  ·cases h1
  ·rename_i u1 a1 l1 he
   split at h1
   ·cases h1
   ·rename_i us1 h1' l1' hL
    simp only [Option.some.injEq, Prod.mk.injEq] at h1
    obtain ⟨rfl, rfl, rfl⟩ := h1
    simp only [List.getElem_cons_succ] at h2
    have := mElL_succ (ks := ts) (i := i) (by simpa using hi) hL h2
    simp only [this, List.cons_append]
theorem mElL_no {cx : Cx} : ∀ {ks : List Tm} {i : Nat} (hi : i < ks.length) {l l' : Int} {us : List Tm} {h : List Ty}, mElL cx (ks.take i) l = some (us, h, l') → mEl cx ks[i] l' = none → mElL cx ks l = none
 | [], i, hi, _, _, _, _, _, _ => by simp at hi
 | t :: ts, 0, _, l, l', us, h, h1, h2 => by
  simp only [List.take_zero, mElL, Option.some.injEq, Prod.mk.injEq] at h1
  obtain ⟨rfl, rfl, rfl⟩ := h1
  simp only [List.getElem_cons_zero] at h2
  simp [mElL, h2]
 | t :: ts, i + 1, hi, l, l', us, h, h1, h2 => by
  simp only [List.take_succ_cons, mElL] at h1 ⊢
  split at h1
  ·cases h1
  ·rename_i u1 a1 l1 he
   split at h1
   ·cases h1
   ·rename_i us1 h1' l1' hL
    simp only [Option.some.injEq, Prod.mk.injEq] at h1
    obtain ⟨rfl, rfl, rfl⟩ := h1
    simp only [List.getElem_cons_succ] at h2
    have := mElL_no (ks := ts) (i := i) (by simpa using hi) hL h2
    simp only [this]
theorem mCasts_nil (us : List Tm) (h : List Ty) (l : Int) : mCasts us h [] l = (us, l) := by
 cases us with
 | nil => rfl
 | cons u us => cases h <;> rfl
theorem mCasts_succ : ∀ (us : List Tm) (h w : List Ty) (l : Int) (j : Nat) (hj : j < w.length) (hu : w.length ≤ us.length) (hh : w.length ≤ h.length),
  (mCasts us h (w.take j) l).1.length = us.length ∧ (∀ (hq : j < (mCasts us h (w.take j) l).1.length), (mCasts us h (w.take j) l).1[j] = us[j]'(by omega)) ∧
  mCasts us h (w.take (j + 1)) l = if tSame (h[j]'(by omega)) w[j] = true then mCasts us h (w.take j) l else ((mCasts us h (w.take j) l).1.set j (mCst (us[j]'(by omega)) (h[j]'(by omega)) w[j] ((mCasts us h (w.take j) l).2 + 1)), (mCasts us h (w.take j) l).2 + 1)
 | us, h, [], l, j, hj, _, _ => by simp at hj
 | [], h, b :: w, l, j, _, hu, _ => by simp at hu
 | u :: us, [], b :: w, l, j, _, _, hh => by simp at hh
 | u :: us, a :: h, b :: w, l, 0, _, _, _ => by
  refine ⟨by simp [mCasts], by simp [mCasts], ?_⟩
  simp only [List.take_succ_cons, List.take_zero, mCasts, mCasts_nil, List.getElem_cons_zero, List.set_cons_zero]
 | u :: us, a :: h, b :: w, l, j + 1, hj, hu, hh => by
  simp only [List.take_succ_cons, List.getElem_cons_succ]
  by_cases hs : tSame a b = true
  ·have ih := mCasts_succ us h w l j (by simpa using hj) (by simpa using hu) (by simpa using hh)
   simp only [mCasts, if_pos hs]
   obtain ⟨i1, i2, i3⟩ := ih
   refine ⟨by simp [i1], fun hq => by simp [i2], ?_⟩
   rw [i3]
   split <;> simp
  ·have ih := mCasts_succ us h w (l + 1) j (by simpa using hj) (by simpa using hu) (by simpa using hh)
   simp only [mCasts, if_neg hs]
   obtain ⟨i1, i2, i3⟩ := ih
   refine ⟨by simp [i1], fun hq => by simp [i2], ?_⟩
   rw [i3]
   split <;> simp
theorem mCasts_len : ∀ (us : List Tm) (h w : List Ty) (l : Int), (mCasts us h w l).1.length = us.length
 | [], h, w, l => by simp [mCasts]
 | u :: us, [], w, l => by simp [mCasts]
 | u :: us, a :: h, [], l => by simp [mCasts]
 | u :: us, a :: h, b :: w, l => by
  simp only [mCasts]
  split
  ·simp [mCasts_len us h w l]
  ·simp [mCasts_len us h w (l + 1)]
theorem mCasts_next {us : List Tm} {h w : List Ty} {l : Int} {j : Nat} (hj : j < w.length) (hu : w.length ≤ us.length) (hh : w.length ≤ h.length) :
  (mCasts us h (w.take (j + 1)) l).1 = (mCasts us h (w.take j) l).1.set j (if tSame (h[j]'(by omega)) w[j] = true then us[j]'(by omega) else mCst (us[j]'(by omega)) (h[j]'(by omega)) w[j] ((mCasts us h (w.take j) l).2 + 1)) ∧
  (mCasts us h (w.take (j + 1)) l).2 = (if tSame (h[j]'(by omega)) w[j] = true then (mCasts us h (w.take j) l).2 else (mCasts us h (w.take j) l).2 + 1) := by
 obtain ⟨h1, h2, h3⟩ := mCasts_succ us h w l j hj hu hh
 by_cases hs : tSame (h[j]'(by omega)) w[j] = true
 ·rw [h3, if_pos hs, if_pos hs, if_pos hs]
  refine ⟨?_, rfl⟩
  rw [← h2 (by omega), List.set_getElem_self]
 ·rw [h3, if_neg hs, if_neg hs, if_neg hs]
  exact ⟨rfl, rfl⟩
theorem mCasts_lab : ∀ (us : List Tm) (h w : List Ty) (l : Int), l ≤ (mCasts us h w l).2 ∧ (mCasts us h w l).2 ≤ l + us.length
 | [], h, w, l => by simp [mCasts]
 | u :: us, [], w, l => by simp [mCasts]; omega
 | u :: us, a :: h, [], l => by simp [mCasts]; omega
 | u :: us, a :: h, b :: w, l => by
  simp only [mCasts]
  split
  ·have := mCasts_lab us h w l; simp only [List.length_cons]; omega
  ·have := mCasts_lab us h w (l + 1); simp only [List.length_cons]; omega
end Gw
end Go.Proofs.YtaiafkcflhcdaaaGreatDoor
namespace Go.Proofs.YtaiafkcflhcdaaaGreatDoor
open Go Go.RowKit
namespace Gw
theorem At.mono' {hp : List Ent} {G G' : IM} {b o : Nat} {vs : List Value} (hg : IMle G G') (h : At [] G b o vs) : At hp G' b o vs := by
 rcases h with ⟨cs, hm, hv⟩ | ⟨n, c, el, sz, cs, hm, hv⟩ | ⟨full, hx, hv⟩
 ·cases hm
 ·cases hm
 ·exact .inr (.inr ⟨full, hg _ _ hx, hv⟩)
end Gw
end Go.Proofs.YtaiafkcflhcdaaaGreatDoor
