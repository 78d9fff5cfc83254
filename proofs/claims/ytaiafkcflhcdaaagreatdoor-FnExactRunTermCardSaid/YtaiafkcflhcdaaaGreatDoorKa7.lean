/-
  The program's RunTerm. The reference's evaluator: a step, runs of steps, RunTerm. The reference's StepCast, EvalCast, RunTerm. The law FnExactRunTerm.
-/
import Derived.Test.YtaiafkcflhcdaaaGreatDoorKa6
import Derived.Test.YtaiafkcflhcdaaaGreatDoorKa5
import Derived.Test.YtaiafkcflhcdaaaGreatDoorKa1
import Derived.Test.YtaiafkcflhcdaaaGreatDoorKa2
namespace Go.Proofs.YtaiafkcflhcdaaaGreatDoor
open Go Go.RowKit
namespace Gw
/-- What a run gives: a text, a code, a label. -/
def mRunTerm (e : Tm) (fuel : Int) : ByteArray × Int × Int := match mInsert e with
 | none => (⟨⟨[]⟩⟩, 3, 0)
 | some (u, _) => if (mEvalCast u fuel).2.1 = 0 then (mVText (mEvalCast u fuel).1, 0, 0) else (⟨⟨[]⟩⟩, (mEvalCast u fuel).2.1, (mEvalCast u fuel).2.2)
def RunX (r : ByteArray × Int × Int) (G : IM) : IM → Value → List Ent → Prop := Imm fun _ v => v = .tuple ⟨[.string r.1, .int .i64 r.2.1, .int .i64 r.2.2]⟩
theorem runTerm_no {e : Tm} {fuel : Int} (h : mInsert e = none) : mRunTerm e fuel = (⟨⟨[]⟩⟩, 3, 0) := by unfold mRunTerm; rw [h]
theorem runTerm_v {e u : Tm} {t : Ty} {fuel : Int} (h : mInsert e = some (u, t)) (h0 : (mEvalCast u fuel).2.1 = 0) : mRunTerm e fuel = (mVText (mEvalCast u fuel).1, 0, 0) := by unfold mRunTerm; rw [h]; simp only [h0, if_true]
theorem runTerm_n {e u : Tm} {t : Ty} {fuel : Int} (h : mInsert e = some (u, t)) (h0 : (mEvalCast u fuel).2.1 ≠ 0) : mRunTerm e fuel = (⟨⟨[]⟩⟩, (mEvalCast u fuel).2.1, (mEvalCast u fuel).2.2) := by unfold mRunTerm; rw [h]; simp only [if_neg h0]
theorem evR_val : ∀ (n : Nat) (e : Tm), (mEvR n e).2.1 = 0 → castValid (mEvR n e).1 = true ∧ mVal (mEvR n e).1 = true ∧ (mEvR n e).2.2.1 = 0
 | 0, e, h => by rw [evR_0] at h ⊢; exact stepv e h
 | n + 1, e, h => by
  by_cases h1 : (mStepCast e).2.1 = 1
  ·rw [evR_p h1] at h ⊢; exact evR_val n _ h
  ·rw [evR_n h1] at h ⊢; exact stepv e h
where
 stepv (e : Tm) (h : (mStepCast e).2.1 = 0) : castValid (mStepCast e).1 = true ∧ mVal (mStepCast e).1 = true ∧ (mStepCast e).2.2 = 0 := by
  cases h1 : castValid e with
  | false => rw [stepCast_1 h1] at h; simp at h
  | true =>
   cases h2 : mVal e with
   | true => rw [stepCast_2 h1 h2]; exact ⟨h1, h2, rfl⟩
   | false =>
    by_cases h3 : (mStp e).2.1 = 1
    ·cases h4 : castValid (mStp e).1 with
     | false => rw [stepCast_4 h1 h2 h3 h4] at h; simp at h
     | true => rw [stepCast_5 h1 h2 h3 h4] at h; simp at h
    ·rw [stepCast_3 h1 h2 h3] at h
     exact absurd h (stp_ne0 e)
 stp_ne0 : ∀ (e : Tm), (mStp e).2.1 ≠ 0 := by
  refine Tm.ind fun k nm num ty fr lb ks ih => ?_
  rw [mStp]
  cases hL : mStpL (if k = 9 then 1 else ks.length) ks with
  | none => exact red_ne0 k ty fr lb ks
  | some p =>
   obtain ⟨us, c, l⟩ := p
   have := stpL_ne0 ks ih _ us c l hL
   simp only
   by_cases hc : c = 1
   ·rw [if_pos hc]; simp
   ·rw [if_neg hc]; exact this
 red_ne0 (k : Int) (ty fr : Ty) (lb : Int) (ks : List Tm) : (mRed k ty fr lb ks).2.1 ≠ 0 := by
  unfold mRed stuck
  repeat' split
  all_goals simp
 stpL_ne0 (ks : List Tm) (ih : ∀ t ∈ ks, (mStp t).2.1 ≠ 0) : ∀ (n : Nat) us c l, mStpL n ks = some (us, c, l) → c ≠ 0 := by
  induction ks with
  | nil => intro n us c l h; cases n <;> simp [mStpL] at h
  | cons t ts iht =>
   intro n us c l h
   cases n with
   | zero => simp [mStpL] at h
   | succ n =>
    rw [stpL_cons] at h
    by_cases hv : mVal t = true
    ·rw [if_pos hv] at h
     split at h
     ·rename_i us' c' l' h'
      simp only [Option.some.injEq, Prod.mk.injEq] at h
      obtain ⟨_, rfl, _⟩ := h
      exact iht (fun u hu => ih u (List.mem_cons_of_mem _ hu)) n _ _ _ h'
     ·cases h
    ·rw [if_neg hv] at h
     simp only [Option.some.injEq, Prod.mk.injEq] at h
     obtain ⟨_, rfl, _⟩ := h
     exact ih t List.mem_cons_self
theorem evalCast_val {e : Tm} {fuel : Int} (h : (mEvalCast e fuel).2.1 = 0) : castValid (mEvalCast e fuel).1 = true ∧ mVal (mEvalCast e fuel).1 = true ∧ (mEvalCast e fuel).2.2 = 0 := by
 cases hf : withinB fuel 0 300 with
 | false => rw [evalCast_no hf] at h; simp at h
 | true =>
  by_cases h1 : (mEvR fuel.toNat e).2.1 = 1
  ·rw [evalCast_much hf h1] at h; simp at h
  ·rw [evalCast_end hf h1] at h ⊢; exact evR_val _ _ h
set_option maxHeartbeats 0 in
set_option maxRecDepth 100000 in
theorem runTerm_fn (e : Tm) (fuel : Int) (G : IM) (cells : List Value) (hT : TabG G) (hr : RTm G e cells) : Fn Tryz.prog 13 [.agg ⟨cells⟩, .int .i64 fuel] [] G (RunX (mRunTerm e fuel) G) := by
 have hRl := hr.len
 have hRo := hr.one
 have hno := @runTerm_no e fuel
 have hyv := fun u t => @runTerm_v e u t fuel
 have hyn := fun u t => @runTerm_n e u t fuel
 refine fn_enter Tryz.func13 rfl Tryz.ntmps13 Tryz.results13 rfl ?_
 intro w0
 refine tS (tR ?_)
 (refine seq_step (step_box_a rfl rfl) rfl ?_; rintro _ ⟨b3, rfl⟩)
 refine sP (pA rfl) rfl rfl (sP (pA rfl) rfl rfl (sP (pA rfl) rfl rfl (sD (nS (tS (tR ?_))))))
 refine sL (load_a rfl rfl (at_blk_all (by repeat first | exact mH | apply mT)) hRl) rfl rfl ?_
 focus (refine seq_imm rfl (insertCastsX_fn e G cells hr) rfl rfl (fun v G1 hle1 hh => ?_); obtain ⟨cu, ct, rfl, hru, hrt⟩ := hh; rcases hI : mInsert e with _ | ⟨u, t⟩; rotate_left; rw [hI] at hru hrt; simp only [Option.getD_some] at hru hrt; rotate_left; rw [hI] at hru hrt; simp only [Option.getD_none] at hru hrt; simp only [Option.isSome]; rotate_left; simp only [Option.isSome]; rotate_left; all_goals (have hul := hru.len; have huo := hru.one; obtain ⟨p3, c3, e3, rfl, _⟩ := hrt.open))
 refine sP (pM rfl) rfl rfl (sP (pX rfl rfl) rfl rfl (sP (pX rfl rfl) rfl rfl (sP (pX rfl rfl) rfl rfl ?_)))
 (refine seq_step (step_alloc rfl) rfl ?_; rintro _ ⟨b17, rfl⟩)
 (refine seq_step (step_alloc rfl) rfl ?_; rintro _ ⟨b18, rfl⟩)
 refine sS rfl rfl rfl hul huo rfl ?_ (hu := by exact upd_all hul.symm)
 refine sS rfl rfl rfl rfl rfl rfl ?_
 refine sP (pA rfl) rfl rfl (sD (nS (tS (tS (tR (sP (pM rfl) rfl rfl ?_))))))
 refine sP (pNf rfl) rfl rfl (sD (nS (cT rfl ?_)))
 refine tS (tR (sP (pA rfl) rfl rfl (sP (pA rfl) rfl rfl (sP (pA rfl) rfl rfl (sD (nS ?_))))))
 refine tT (rS (rF3 (rT rfl) (rT rfl) (rT rfl) ?_))
 (exact ⟨rfl, by rw [hno (by first | exact hI | rfl | assumption)]⟩)
 refine sP (pM rfl) rfl rfl (sP (pX rfl rfl) rfl rfl (sP (pX rfl rfl) rfl rfl (sP (pX rfl rfl) rfl rfl ?_)))
 (refine seq_step (step_alloc rfl) rfl ?_; rintro _ ⟨b47, rfl⟩)
 (refine seq_step (step_alloc rfl) rfl ?_; rintro _ ⟨b48, rfl⟩)
 refine sS rfl rfl rfl hul huo rfl ?_ (hu := by exact upd_all hul.symm)
 refine sS rfl rfl rfl rfl rfl rfl ?_
 refine sP (pA rfl) rfl rfl (sD (nS (tS (tS (tR (sP (pM rfl) rfl rfl ?_))))))
 refine sP (pNt rfl) rfl rfl (sD (nS (cF rfl ?_)))
 refine tK (nS (tS (tR (sL (load_a rfl rfl (at_blk_all (by repeat first | exact mH | apply mT)) hul) rfl rfl ?_))))
 refine sP (pM rfl) rfl rfl ?_
 (have hyv := hyv u t hI; have hyn := hyn u t hI; have hev := @evalCast_val u fuel; refine seq_imm rfl (evalCast_fn u fuel G1 cu hru) rfl rfl (fun v G2 hle2 hh => ?_); obtain ⟨wc, hvv, hrw⟩ := hh; have hwl := hrw.len; have hwo := hrw.one; generalize mEvalCast u fuel = r at hvv hrw hyv hyn hev; obtain ⟨w, c, l⟩ := r; simp only at hvv hrw hyv hyn hev; subst hvv)
 refine sP (pM rfl) rfl rfl (sP (pX rfl rfl) rfl rfl (sP (pX rfl rfl) rfl rfl (sP (pX rfl rfl) rfl rfl ?_)))
 (refine seq_step (step_alloc rfl) rfl ?_; rintro _ ⟨b73, rfl⟩)
 refine sS rfl rfl rfl hwl hwo rfl ?_ (hu := by exact upd_all hwl.symm)
 refine sP (pA rfl) rfl rfl (sP (pA rfl) rfl rfl (sD (nS (tS (tS (tR ?_))))))
 refine sP (pM rfl) rfl rfl (sB (pure_neq rfl rfl) rfl rfl (fun h83 => ?_) (fun h83 => ?_))
 refine sD (nS (cT rfl ?_))
 refine tS (tR (sP (pM rfl) rfl rfl (sP (pM rfl) rfl rfl (sP (pA rfl) rfl rfl (sP (pA rfl) rfl rfl (sP (pA rfl) rfl rfl ?_))))))
 refine sD (nS (tT (rS (rF3 (rT rfl) (rT rfl) (rT rfl) ?_))))
 (exact ⟨rfl, by rw [hyn (by omega)]⟩)
 refine sD (nS (cF rfl ?_))
 refine tK (nS (tS (tR (sL (load_a rfl rfl (at_blk_all (by repeat first | exact mH | apply mT)) hwl) rfl rfl ?_))))
 (obtain ⟨he1, he2, he3⟩ := hev (by omega); refine seq_val rfl (valueText_fn w G2 wc (hT.mono (hle1.trans hle2)) (cv_of he1).1 he2 hrw) rfl rfl ?_)
 refine sP (pM rfl) rfl rfl (sP (pM rfl) rfl rfl (sP (pA rfl) rfl rfl (sP (pA rfl) rfl rfl (sP (pA rfl) rfl rfl (sD (nS ?_))))))
 refine tT (rF3 (rT rfl) (rT rfl) (rT rfl) ?_)
 (obtain rfl : c = 0 := (by omega); subst he3; exact ⟨rfl, by rw [hyv rfl]⟩)
end Gw
end Go.Proofs.YtaiafkcflhcdaaaGreatDoor
namespace Go.Proofs.YtaiafkcflhcdaaaGreatDoor
open Go Go.RowKit
namespace Gw
theorem red_any {k : Int} {ty fr ty' fr' : Ty} {lb lb' : Int} {ks : List Tm} (h : k ≠ 14) : mRed k ty fr lb ks = mRed k ty' fr' lb' ks := by
 unfold mRed
 rw [if_neg h, if_neg h]
set_option maxHeartbeats 0 in
set_option maxRecDepth 100000 in
theorem l5Reduce_fn (k : Int) (nm : ByteArray) (num : Int) (ty fr : Ty) (lb : Int) (ks : List Tm) (G : IM) (cells : List Value) (h7 : k = 1 ∨ k = 6 ∨ k = 7 ∨ k = 8 ∨ k = 11 ∨ k = 12 ∨ k = 14) (hc : cv (.mk k nm num ty fr lb ks)) (hr : RTm G (.mk k nm num ty fr lb ks) cells) : Fn Tryz.prog 196 [.agg ⟨cells⟩] [] G (StpX (mRed k ty fr lb ks)) := by
 have hr0 := hr
 obtain ⟨hN, hkk⟩ := hc.node
 have hops := hN.ops
 have hL2 : k = 6 ∨ k = 7 ∨ k = 8 → ∃ a b, ks = [a, b] := fun h => ks2 (by
  rcases h with rfl | rfl | rfl
  ·have : tmOps 6 = 2 := rfl; omega
  ·have : tmOps 7 = 2 := rfl; omega
  ·have : tmOps 8 = 2 := rfl; omega)
 have hL1 : k = 11 ∨ k = 12 ∨ k = 14 → ∃ a, ks = [a] := fun h => ks1 (by
  rcases h with rfl | rfl | rfl
  ·have : tmOps 11 = 1 := rfl; omega
  ·have : tmOps 12 = 1 := rfl; omega
  ·have : tmOps 14 = 1 := rfl; omega)
 have hC : k = 14 → Fn Tryz.prog 224 [.agg ⟨cells⟩] [] G (StpX (mRed k ty fr lb ks)) := by
  rintro rfl
  obtain ⟨a, rfl⟩ := hL1 (by omega)
  exact l5Convert_fn a nm num ty fr lb G cells hc hr
 have hA : k = 6 → ∀ a b, ks = [a, b] → mRed k ty fr lb ks = mRed 6 ty0 ty0 0 [a, b] := by rintro rfl a b rfl; exact red_any (by decide)
 have hB : k = 7 ∨ k = 8 → ∀ a b, ks = [a, b] → mRed k ty fr lb ks = mRed k ty0 ty0 0 [a, b] := by rintro h a b rfl; exact red_any (by omega)
 have hD : k = 11 ∨ k = 12 → ∀ a, ks = [a] → mRed k ty fr lb ks = mRed k ty0 ty0 0 [a] := by rintro h a rfl; exact red_any (by omega)
 have hO : k = 1 → mRed k ty fr lb ks = stuck := by rintro rfl; rfl
 generalize mRed k ty fr lb ks = R at hC hA hB hD hO ⊢
 obtain ⟨tk, tks⟩ := ty
 obtain ⟨fk, fks⟩ := fr
 obtain ⟨pt, ct, pf, cf, p, c, es, rfl, hk, hnum, hlb, hty, hfr, hsl, hkl⟩ := hr.open9
 refine fn_enter Tryz.func196 rfl Tryz.ntmps196 Tryz.results196 rfl ?_
 intro w0
 refine tS (tR ?_)
 (refine seq_step (step_box_a rfl rfl) rfl ?_; rintro _ ⟨b3, rfl⟩)
 (refine seq_step (step_alloc rfl) rfl ?_; rintro _ ⟨b4, rfl⟩)
 refine sP (pA rfl) rfl rfl (sP (pA rfl) rfl rfl (sD (nS (tS (tS (tR ?_))))))
 refine sP (pF0 rfl) rfl rfl (sL (lBs rfl rfl) rfl rfl ?_)
 refine sD (nS (tri_block (tS (tR (sB (pE rfl rfl) rfl rfl (fun h19 => ?_) (fun h19 => ?_))))))
 refine sP (pA rfl) rfl rfl (sD (nS (cT rfl ?_)))
 refine tS ?_
 (have hq : k = 6 := (by assumption); obtain ⟨x, y, hxy⟩ := hL2 (by omega); have hAq := hA hq x y hxy; subst hxy; obtain ⟨bx, ox, e0, rfl, hl0, hat0, hre0, hgb0⟩ := hsl.kidTm hkl (i := 0) (by simp) (by simp); obtain ⟨_, _, e1, hp1, hl1, hat1, hre1, hgb1⟩ := hsl.kidTm hkl (i := 1) (by simp) (by simp); cases hp1; have hF := l5Apply_fn x y G e0 e1 (hkk x (by simp)) (cv_small y (hkk y (by simp))) hre0 hre1; rw [← hAq] at hF; refine tri_draw mixed rfl ?_)
 refine any_pure (i := 0) (l' := [tt,ff,ff,ff,ff,ff,ff,ff,ff,ff,ff,ff,ff,ff,ff]) rfl npI (pF0 rfl) rfl (by kernel_rfl) rfl rfl ?_
 refine aL 1 rfl (lBs rfl rfl) rfl rfl ?_
 refine aP 2 rfl (pIN (j := 0) rfl rfl rfl (by simp)) rfl rfl ?_
 refine aL 3 rfl (load_a rfl rfl (hat0 _) hl0) rfl rfl ?_
 refine aP 4 rfl (pF0 rfl) rfl rfl ?_
 refine aL 5 rfl (lBs rfl rfl) rfl rfl ?_
 refine aP 6 rfl (pIN (j := 1) rfl rfl rfl (by simp)) rfl rfl ?_
 refine aL 7 rfl (load_a rfl rfl (hat1 _) hl1) rfl rfl ?_
 refine aO (j := 8) (by kernel_rfl) ?_
 (refine one_imm (l' := [tt,tt,tt,tt,tt,tt,tt,tt,tt,ff,ff,ff,ff,ff,ff]) rfl rfl hF rfl rfl rfl (fun v G1 hle1 hh => ?_); obtain ⟨wc, rfl, hrw⟩ := hh; have hwl := hrw.len; have hwo := hrw.one)
 refine aP 9 rfl (pX rfl rfl) rfl rfl ?_
 refine aP 10 rfl (pX rfl rfl) rfl rfl ?_
 refine aP 11 rfl (pX rfl rfl) rfl rfl ?_
 refine aO (j := 12) (by kernel_rfl) ?_
 (refine oS rfl rfl rfl rfl hwl hwo rfl rfl ?_ (hu := by exact upd_all hwl.symm))
 refine aP 13 rfl (pA rfl) rfl rfl ?_
 refine aP 14 rfl (pA rfl) rfl rfl ?_
 refine aD (by kernel_rfl) ?_
 refine nS (tT (rB (rS (rF3 (rC rfl (load_a rfl rfl (at_blk_all (by repeat first | exact mH | apply mT)) hwl)) (rT rfl) (rT rfl) ?_))))
 (exact ⟨rfl, _, rfl, hrw⟩)
 refine sP (pA rfl) rfl rfl (sD (nS (cF rfl ?_)))
 refine tS (tS (tR (sB (pE rfl rfl) rfl rfl (fun h57 => ?_) (fun h57 => ?_))))
 refine sP (pA rfl) rfl rfl (sD (nS (cT rfl ?_)))
 refine tK (nS (cT rfl ?_))
 refine tS ?_
 (have hq : k = 7 ∨ k = 8 := (by omega); obtain ⟨x, y, hxy⟩ := hL2 (by omega); have hBq := hB hq x y hxy; subst hxy; obtain ⟨bx, ox, e0, rfl, hl0, hat0, hre0, hgb0⟩ := hsl.kidTm hkl (i := 0) (by simp) (by simp); obtain ⟨_, _, e1, hp1, hl1, hat1, hre1, hgb1⟩ := hsl.kidTm hkl (i := 1) (by simp) (by simp); cases hp1; have hF := l5Number_fn k x y G e0 e1 hq (by have := (hkk x (by simp)); cases x; exact this.node.1.num0) (by have := (hkk y (by simp)); cases y; exact this.node.1.num0) hre0 hre1; rw [← hBq] at hF; refine tri_draw mixed rfl ?_)
 refine any_pure (i := 0) (l' := [tt,ff,ff,ff,ff,ff,ff,ff,ff,ff,ff,ff,ff,ff,ff,ff,ff]) rfl npI (pF0 rfl) rfl (by kernel_rfl) rfl rfl ?_
 refine aL 1 rfl (lBs rfl rfl) rfl rfl ?_
 refine aP 2 rfl (pF0 rfl) rfl rfl ?_
 refine aL 3 rfl (lBs rfl rfl) rfl rfl ?_
 refine aP 4 rfl (pIN (j := 0) rfl rfl rfl (by simp)) rfl rfl ?_
 refine aL 5 rfl (load_a rfl rfl (hat0 _) hl0) rfl rfl ?_
 refine aP 6 rfl (pF0 rfl) rfl rfl ?_
 refine aL 7 rfl (lBs rfl rfl) rfl rfl ?_
 refine aP 8 rfl (pIN (j := 1) rfl rfl rfl (by simp)) rfl rfl ?_
 refine aL 9 rfl (load_a rfl rfl (hat1 _) hl1) rfl rfl ?_
 refine aO (j := 10) (by kernel_rfl) ?_
 (refine one_imm (l' := [tt,tt,tt,tt,tt,tt,tt,tt,tt,tt,tt,ff,ff,ff,ff,ff,ff]) rfl rfl hF rfl rfl rfl (fun v G1 hle1 hh => ?_); obtain ⟨wc, rfl, hrw⟩ := hh; have hwl := hrw.len; have hwo := hrw.one)
 refine aP 11 rfl (pX rfl rfl) rfl rfl ?_
 refine aP 12 rfl (pX rfl rfl) rfl rfl ?_
 refine aP 13 rfl (pX rfl rfl) rfl rfl ?_
 refine aO (j := 14) (by kernel_rfl) ?_
 (refine oS rfl rfl rfl rfl hwl hwo rfl rfl ?_ (hu := by exact upd_all hwl.symm))
 refine aP 15 rfl (pA rfl) rfl rfl ?_
 refine aP 16 rfl (pA rfl) rfl rfl ?_
 refine aD (by kernel_rfl) ?_
 refine nS (tT (rB (rS (rF3 (rC rfl (load_a rfl rfl (at_blk_all (by repeat first | exact mH | apply mT)) hwl)) (rT rfl) (rT rfl) ?_))))
 (exact ⟨rfl, _, rfl, hrw⟩)
 refine sP (pA rfl) rfl rfl (sD (nS (cF rfl ?_)))
 refine tR (sB (pE rfl rfl) rfl rfl (fun h98 => ?_) (fun h98 => ?_))
 refine sP (pA rfl) rfl rfl (sD (nS (cT rfl ?_)))
 refine tS ?_
 (have hq : k = 7 ∨ k = 8 := (by omega); obtain ⟨x, y, hxy⟩ := hL2 (by omega); have hBq := hB hq x y hxy; subst hxy; obtain ⟨bx, ox, e0, rfl, hl0, hat0, hre0, hgb0⟩ := hsl.kidTm hkl (i := 0) (by simp) (by simp); obtain ⟨_, _, e1, hp1, hl1, hat1, hre1, hgb1⟩ := hsl.kidTm hkl (i := 1) (by simp) (by simp); cases hp1; have hF := l5Number_fn k x y G e0 e1 hq (by have := (hkk x (by simp)); cases x; exact this.node.1.num0) (by have := (hkk y (by simp)); cases y; exact this.node.1.num0) hre0 hre1; rw [← hBq] at hF; refine tri_draw mixed rfl ?_)
 refine any_pure (i := 0) (l' := [tt,ff,ff,ff,ff,ff,ff,ff,ff,ff,ff,ff,ff,ff,ff,ff,ff]) rfl npI (pF0 rfl) rfl (by kernel_rfl) rfl rfl ?_
 refine aL 1 rfl (lBs rfl rfl) rfl rfl ?_
 refine aP 2 rfl (pF0 rfl) rfl rfl ?_
 refine aL 3 rfl (lBs rfl rfl) rfl rfl ?_
 refine aP 4 rfl (pIN (j := 0) rfl rfl rfl (by simp)) rfl rfl ?_
 refine aL 5 rfl (load_a rfl rfl (hat0 _) hl0) rfl rfl ?_
 refine aP 6 rfl (pF0 rfl) rfl rfl ?_
 refine aL 7 rfl (lBs rfl rfl) rfl rfl ?_
 refine aP 8 rfl (pIN (j := 1) rfl rfl rfl (by simp)) rfl rfl ?_
 refine aL 9 rfl (load_a rfl rfl (hat1 _) hl1) rfl rfl ?_
 refine aO (j := 10) (by kernel_rfl) ?_
 (refine one_imm (l' := [tt,tt,tt,tt,tt,tt,tt,tt,tt,tt,tt,ff,ff,ff,ff,ff,ff]) rfl rfl hF rfl rfl rfl (fun v G1 hle1 hh => ?_); obtain ⟨wc, rfl, hrw⟩ := hh; have hwl := hrw.len; have hwo := hrw.one)
 refine aP 11 rfl (pX rfl rfl) rfl rfl ?_
 refine aP 12 rfl (pX rfl rfl) rfl rfl ?_
 refine aP 13 rfl (pX rfl rfl) rfl rfl ?_
 refine aO (j := 14) (by kernel_rfl) ?_
 (refine oS rfl rfl rfl rfl hwl hwo rfl rfl ?_ (hu := by exact upd_all hwl.symm))
 refine aP 15 rfl (pA rfl) rfl rfl ?_
 refine aP 16 rfl (pA rfl) rfl rfl ?_
 refine aD (by kernel_rfl) ?_
 refine nS (tT (rB (rS (rF3 (rC rfl (load_a rfl rfl (at_blk_all (by repeat first | exact mH | apply mT)) hwl)) (rT rfl) (rT rfl) ?_))))
 (exact ⟨rfl, _, rfl, hrw⟩)
 refine sP (pA rfl) rfl rfl (sD (nS (cF rfl ?_)))
 refine tS (tS (tR (sB (pE rfl rfl) rfl rfl (fun h138 => ?_) (fun h138 => ?_))))
 refine sP (pA rfl) rfl rfl (sD (nS (cT rfl ?_)))
 refine tK (nS (cT rfl ?_))
 refine tS ?_
 (have hq : k = 11 ∨ k = 12 := (by omega); obtain ⟨x, hxy⟩ := hL1 (by omega); have hDq := hD hq x hxy; subst hxy; obtain ⟨bx, ox, e0, rfl, hl0, hat0, hre0, hgb0⟩ := hsl.kidTm hkl (i := 0) (by simp) (by simp); have hF := l5Part_fn k x G e0 hq (hkk x (by simp)) hre0; rw [← hDq] at hF; refine tri_draw mixed rfl ?_)
 refine any_pure (i := 0) (l' := [tt,ff,ff,ff,ff,ff,ff,ff,ff,ff,ff,ff,ff]) rfl npI (pF0 rfl) rfl (by kernel_rfl) rfl rfl ?_
 refine aL 1 rfl (lBs rfl rfl) rfl rfl ?_
 refine aP 2 rfl (pF0 rfl) rfl rfl ?_
 refine aL 3 rfl (lBs rfl rfl) rfl rfl ?_
 refine aP 4 rfl (pIN (j := 0) rfl rfl rfl (by simp)) rfl rfl ?_
 refine aL 5 rfl (load_a rfl rfl (hat0 _) hl0) rfl rfl ?_
 refine aO (j := 6) (by kernel_rfl) ?_
 (refine one_imm (l' := [tt,tt,tt,tt,tt,tt,tt,ff,ff,ff,ff,ff,ff]) rfl rfl hF rfl rfl rfl (fun v G1 hle1 hh => ?_); obtain ⟨wc, rfl, hrw⟩ := hh; have hwl := hrw.len; have hwo := hrw.one)
 refine aP 7 rfl (pX rfl rfl) rfl rfl ?_
 refine aP 8 rfl (pX rfl rfl) rfl rfl ?_
 refine aP 9 rfl (pX rfl rfl) rfl rfl ?_
 refine aO (j := 10) (by kernel_rfl) ?_
 (refine oS rfl rfl rfl rfl hwl hwo rfl rfl ?_ (hu := by exact upd_all hwl.symm))
 refine aP 11 rfl (pA rfl) rfl rfl ?_
 refine aP 12 rfl (pA rfl) rfl rfl ?_
 refine aD (by kernel_rfl) ?_
 refine nS (tT (rB (rS (rF3 (rC rfl (load_a rfl rfl (at_blk_all (by repeat first | exact mH | apply mT)) hwl)) (rT rfl) (rT rfl) ?_))))
 (exact ⟨rfl, _, rfl, hrw⟩)
 refine sP (pA rfl) rfl rfl (sD (nS (cF rfl ?_)))
 refine tR (sB (pE rfl rfl) rfl rfl (fun h175 => ?_) (fun h175 => ?_))
 refine sP (pA rfl) rfl rfl (sD (nS (cT rfl ?_)))
 refine tS ?_
 (have hq : k = 11 ∨ k = 12 := (by omega); obtain ⟨x, hxy⟩ := hL1 (by omega); have hDq := hD hq x hxy; subst hxy; obtain ⟨bx, ox, e0, rfl, hl0, hat0, hre0, hgb0⟩ := hsl.kidTm hkl (i := 0) (by simp) (by simp); have hF := l5Part_fn k x G e0 hq (hkk x (by simp)) hre0; rw [← hDq] at hF; refine tri_draw mixed rfl ?_)
 refine any_pure (i := 0) (l' := [tt,ff,ff,ff,ff,ff,ff,ff,ff,ff,ff,ff,ff]) rfl npI (pF0 rfl) rfl (by kernel_rfl) rfl rfl ?_
 refine aL 1 rfl (lBs rfl rfl) rfl rfl ?_
 refine aP 2 rfl (pF0 rfl) rfl rfl ?_
 refine aL 3 rfl (lBs rfl rfl) rfl rfl ?_
 refine aP 4 rfl (pIN (j := 0) rfl rfl rfl (by simp)) rfl rfl ?_
 refine aL 5 rfl (load_a rfl rfl (hat0 _) hl0) rfl rfl ?_
 refine aO (j := 6) (by kernel_rfl) ?_
 (refine one_imm (l' := [tt,tt,tt,tt,tt,tt,tt,ff,ff,ff,ff,ff,ff]) rfl rfl hF rfl rfl rfl (fun v G1 hle1 hh => ?_); obtain ⟨wc, rfl, hrw⟩ := hh; have hwl := hrw.len; have hwo := hrw.one)
 refine aP 7 rfl (pX rfl rfl) rfl rfl ?_
 refine aP 8 rfl (pX rfl rfl) rfl rfl ?_
 refine aP 9 rfl (pX rfl rfl) rfl rfl ?_
 refine aO (j := 10) (by kernel_rfl) ?_
 (refine oS rfl rfl rfl rfl hwl hwo rfl rfl ?_ (hu := by exact upd_all hwl.symm))
 refine aP 11 rfl (pA rfl) rfl rfl ?_
 refine aP 12 rfl (pA rfl) rfl rfl ?_
 refine aD (by kernel_rfl) ?_
 refine nS (tT (rB (rS (rF3 (rC rfl (load_a rfl rfl (at_blk_all (by repeat first | exact mH | apply mT)) hwl)) (rT rfl) (rT rfl) ?_))))
 (exact ⟨rfl, _, rfl, hrw⟩)
 refine sP (pA rfl) rfl rfl (sD (nS (cF rfl ?_)))
 refine tS (tR (sB (pE rfl rfl) rfl rfl (fun h210 => ?_) (fun h210 => ?_)))
 refine sP (pA rfl) rfl rfl (sD (nS (cT rfl ?_)))
 refine tS (tR (sL (lBa rfl rfl) rfl rfl ?_))
 (refine seq_imm rfl (hC (by omega)) rfl rfl (fun v G1 hle1 hh => ?_); obtain ⟨wc, rfl, hrw⟩ := hh; have hwl := hrw.len; have hwo := hrw.one)
 refine sP (pX rfl rfl) rfl rfl (sP (pX rfl rfl) rfl rfl (sP (pX rfl rfl) rfl rfl (sS rfl rfl rfl hwl hwo rfl ?_ (hu := by exact upd_all hwl.symm))))
 refine sP (pA rfl) rfl rfl (sP (pA rfl) rfl rfl (sD (nS (tT (rB (rS ?_))))))
 refine rF3 (rC rfl (load_a rfl rfl (at_blk_all (by repeat first | exact mH | apply mT)) hwl)) (rT rfl) (rT rfl) ?_
 (exact ⟨rfl, _, rfl, hrw⟩)
 refine sP (pA rfl) rfl rfl (sD (nS (cF rfl ?_)))
 refine tK (nrm_block (nS (tS (tR (sP (pBd rfl rfl) rfl rfl (sS rfl rfl rfl rfl rfl rfl ?_))))))
 refine sP (pA rfl) rfl rfl (sP (pA rfl) rfl rfl (sD (nS (tT (rF3 (rC rfl (lBa rfl rfl)) (rT rfl) (rT rfl) ?_)))))
 (rw [hO (by omega)]; exact StpX.mk rfl (tm0_r _))
theorem stp_kidX {k : Int} {nm : ByteArray} {num : Int} {ty fr : Ty} {lb : Int} {ks : List Tm} {i : Nat} (hi : i < ks.length) (hn : i < (if k = 9 then 1 else ks.length)) (hj : ∀ j, j < i → (h : j < ks.length) → mVal ks[j] = true) (hv : mVal ks[i] = false) :
  mStp (.mk k nm num ty fr lb ks) = if (mStp ks[i]).2.1 = 1 then (.mk k nm num ty fr lb (ks.set i (mStp ks[i]).1), 1, 0) else (tm0, (mStp ks[i]).2.1, (mStp ks[i]).2.2) := by
 rw [mStp, stpL_at _ ks i hi hn hj hv]
theorem stp_redX {k : Int} {nm : ByteArray} {num : Int} {ty fr : Ty} {lb : Int} {ks : List Tm} (h : ∀ i, i < (if k = 9 then 1 else ks.length) → (hl : i < ks.length) → mVal ks[i] = true) : mStp (.mk k nm num ty fr lb ks) = mRed k ty fr lb ks := by
 rw [mStp, stpL_none _ _ h]
theorem red_9 {ty fr : Ty} {lb : Int} {a b c : Tm} : mRed 9 ty fr lb [a, b, c] = (if a.k = 3 then (b, 1, 0) else if a.k = 4 then (c, 1, 0) else stuck) := rfl
set_option maxHeartbeats 0 in
set_option maxRecDepth 100000 in
theorem l5Step_fn : ∀ (t : Tm) (G : IM) (cells : List Value), cv t → mVal t = false → RTm G t cells → Fn Tryz.prog 154 [.agg ⟨cells⟩] [] G (StpX (mStp t)) := by
 refine Tm.ind fun k nm num ty fr lb ks ih G cells hc hv hr => ?_
 have hr0 := hr
 have hRl := hr.len
 have hN := hc.node.1
 have hkk := hc.node.2
 have hops := hN.ops
 have hle3 := tmOps_le k
 have hkd := @stp_kinds k nm num ty fr lb ks hc hv
 have hkX := fun (i : Nat) => @stp_kidX k nm num ty fr lb ks i
 have hrX := @stp_redX k nm num ty fr lb ks
 have hRd := fun h7 => l5Reduce_fn k nm num ty fr lb ks G cells h7 hc hr
 obtain ⟨C, hC⟩ : ∃ C : Nat, (if k = 9 then 1 else ks.length : Nat) = C := ⟨_, rfl⟩
 rw [hC] at hkd hrX
 have hkX' := fun (i : Nat) (hi : i < ks.length) (hn : i < C) => hkX i hi (by rw [hC]; exact hn)
 have h93 : k = 9 → ks.length = 3 := fun h => by rw [h] at hops; have : tmOps 9 = 3 := rfl; omega
 have hC1 : k = 9 → C = 1 := fun h => by rw [← hC, if_pos h]
 have hC2 : k ≠ 9 → C = ks.length := fun h => by rw [← hC, if_neg h]
 have hC9 : C ≤ ks.length := by by_cases h9 : k = 9; have := h93 h9; have := hC1 h9; omega; have := hC2 h9; omega
 generalize mStp (.mk k nm num ty fr lb ks) = R at hkX hkX' hrX ⊢
 obtain ⟨tk, tks⟩ := ty
 obtain ⟨fk, fks⟩ := fr
 obtain ⟨pt, ct, pf, cf, p, c, es, rfl, hk, hnum, hlb, hty, hfr, hsl, hkl⟩ := hr.open9
 have hn := hsl.le
 have hnc := hsl.sl.2.1
 have hes1 : ∀ u ∈ es.flatten, u.oneCell' = true := by
  intro u hu
  obtain ⟨e, he, hue⟩ := List.mem_flatten.1 hu
  exact List.all_eq_true.1 (hsl.one e he) u hue
 refine fn_enter Tryz.func154 rfl Tryz.ntmps154 Tryz.results154 rfl ?_
 intro w0
 refine tS (tR ?_)
 (refine seq_step (step_box_a rfl rfl) rfl ?_; rintro _ ⟨b3, rfl⟩)
 (refine seq_step (step_alloc rfl) rfl ?_; rintro _ ⟨b4, rfl⟩)
 refine sP (pA rfl) rfl rfl (sP (pA rfl) rfl rfl (sD (nS (tS (tR (sP (pF0 rfl) rfl rfl ?_))))))
 refine sL (lBs rfl rfl) rfl rfl ?_
 refine sP (pLn rfl rfl) rfl rfl (sP (pA rfl) rfl rfl (sD (nS (tS (tS (tR ?_))))))
 refine sP (pF0 rfl) rfl rfl (sL (lBs rfl rfl) rfl rfl ?_)
 refine sB (pE rfl rfl) rfl rfl (fun h22 => ?_) (fun h22 => ?_)
 refine sD (nS ?_)
 (show Tri _ _ (.cond (.tmp 16) _ _) _ _; refine tri_cut (fun (_ : Unit) => ⟨[(5, .int .i64 (C : Int)), (1, .pointer (some ⟨b3, 0, none⟩)), (2, .pointer (some ⟨b4, 0, none⟩))], [.blk b4 [.int .i64 0, .string ⟨⟨[]⟩⟩, .int .i64 0, .int .i64 0, .slice none 0 0, .int .i64 0, .slice none 0 0, .int .i64 0, .slice none 0 0], .blk b3 [.int .i64 k, .string nm, .int .i64 num, .int .i64 tk, .slice pt tks.length ct, .int .i64 fk, .slice pf fks.length cf, .int .i64 lb, .slice p ks.length c]], G⟩) (fun _ => True) (cT rfl ?_) ?_)
 refine tR (sP (pA rfl) rfl rfl (sD ?_))
 (have hCC := hC1 (by omega); subst hCC; refine nrm_cut () (sub_mk (by repeat (first | exact SubE.nil | refine SubE.cons rfl ?_)) (by repeat (first | exact SubH.refl | exact SubH.nil | refine SubH.cons (by repeat (first | exact Pk.here | apply Pk.there)) ?_ | apply SubH.drop))) trivial)
 (rintro (_ : Unit) _)
 refine tS (tS (tR (sP (pA rfl) rfl rfl (sD (nS (tri_block ?_))))))
 (refine tri_loopN (fun (i : Nat) => ⟨[(6, .int .i64 (i : Int)), (5, .int .i64 (C : Int)), (1, .pointer (some ⟨b3, 0, none⟩)), (2, .pointer (some ⟨b4, 0, none⟩))], [.blk b4 [.int .i64 0, .string ⟨⟨[]⟩⟩, .int .i64 0, .int .i64 0, .slice none 0 0, .int .i64 0, .slice none 0 0, .int .i64 0, .slice none 0 0], .blk b3 [.int .i64 k, .string nm, .int .i64 num, .int .i64 tk, .slice pt tks.length ct, .int .i64 fk, .slice pf fks.length cf, .int .i64 lb, .slice p ks.length c]], G⟩) (fun i => i ≤ C ∧ ∀ j, j < i → (h : j < ks.length) → mVal ks[j] = true) (fun i => C - i) 0 ?_ ?_ ?_)
 exact sub_mk (by repeat (first | exact SubE.nil | refine SubE.cons rfl ?_)) (by repeat (first | exact SubH.refl | exact SubH.nil | refine SubH.cons (by repeat (first | exact Pk.here | apply Pk.there)) ?_ | apply SubH.drop))
 (exact ⟨Nat.zero_le _, fun j hj => absurd hj (Nat.not_lt_zero j)⟩)
 (rintro i ⟨hi, hj⟩)
 refine tS (tS (tR (sP (pM rfl) rfl rfl (sP (pM rfl) rfl rfl (sB (pure_lss rfl rfl) rfl rfl (fun h47 => ?_) (fun h47 => ?_))))))
 refine sD (nS (cT rfl ?_))
 refine tK (nS (tS (tri_block (tS (tS (tR ?_))))))
 refine sP (pF0 rfl) rfl rfl (sL (lBs rfl rfl) rfl rfl ?_)
 refine sP (pM rfl) rfl rfl ?_
 (have hiC : i < C := (by omega); obtain ⟨bx, ox, e, rfl, hl, hat, hre, hgb⟩ := hsl.kidTm hkl (i := i) (by omega) (by omega); have heo := hre.one; have hVi := l5Value_fn ks[i] G e (hkk _ (List.getElem_mem (by omega))) hre; refine sP (pIN (j := i) rfl rfl rfl (by omega)) rfl rfl ?_)
 refine sL (load_a rfl rfl (hat _) hl) rfl rfl ?_
 refine seq_valb rfl (hVi) rfl rfl (fun h63 => ?_) (fun h63 => ?_)
 refine sD (nS (cT rfl ?_))
 refine tri_exit ?_
 refine ext_seq ?_
 refine ext_block_eq ?_
 refine nS (tR (sP (pM rfl) rfl rfl (sP (pure_add rfl rfl (by omega) (by omega)) rfl rfl ?_)))
 refine sP (pA rfl) rfl rfl (sD (nrm_loopN (i + 1) ?_ ?_ ?_))
 exact sub_mk (by repeat (first | exact SubE.nil | refine SubE.cons rfl ?_)) (by repeat (first | exact SubH.refl | exact SubH.nil | refine SubH.cons (by repeat (first | exact Pk.here | apply Pk.there)) ?_ | apply SubH.drop))
 (exact ⟨by omega, fun j hji hl2 => (by by_cases he : j = i; (subst he; assumption); exact hj j (by omega) hl2)⟩)
 (show C - (i + 1) < C - i; omega)
 refine sD (nS (cF rfl ?_))
 refine tK (nS (tS (tR (sP (pF0 rfl) rfl rfl (sL (lBs rfl rfl) rfl rfl ?_)))))
 refine sP (pM rfl) rfl rfl (sP (pIN (j := i) rfl rfl rfl (by omega)) rfl rfl ?_)
 refine sL (load_a rfl rfl (hat _) hl) rfl rfl ?_
 (have hvF : mVal ks[i] = false := (by assumption); have hst := hkX' i (by omega) hiC (fun j hji hl2 => hj j hji hl2) hvF; refine seq_imm rfl (ih ks[i] (List.getElem_mem (by omega)) G e (hkk _ (List.getElem_mem (by omega))) hvF hre) rfl rfl (fun v G1 hle1 hh => ?_); obtain ⟨uc, hvv, hru⟩ := hh; have hul := hru.len; have huo := hru.one; generalize mStp ks[i] = r at hvv hru hst; obtain ⟨u, cc, ll⟩ := r; simp only at hvv hru hst; subst hvv)
 refine sP (pM rfl) rfl rfl (sP (pX rfl rfl) rfl rfl (sP (pX rfl rfl) rfl rfl (sP (pX rfl rfl) rfl rfl ?_)))
 (refine seq_step (step_alloc rfl) rfl ?_; rintro _ ⟨b97, rfl⟩)
 refine sS rfl rfl rfl hul huo rfl ?_ (hu := by exact upd_all hul.symm)
 refine sP (pA rfl) rfl rfl (sP (pA rfl) rfl rfl (sD (nS (tS (tS (tR ?_))))))
 refine sP (pM rfl) rfl rfl (sB (pure_neq rfl rfl) rfl rfl (fun h107 => ?_) (fun h107 => ?_))
 refine sD (nS (cT rfl ?_))
 refine tS (tR (sP (pBd rfl rfl) rfl rfl (sP (pM rfl) rfl rfl (sP (pM rfl) rfl rfl (sS rfl rfl rfl rfl rfl rfl ?_)))))
 refine sP (pA rfl) rfl rfl (sP (pA rfl) rfl rfl (sD (nS (tT (rS (rB ?_))))))
 refine rS (ret_loopN (rB (rS (rF3 (rC rfl (lBa rfl rfl)) (rT rfl) (rT rfl) ?_))))
 (rw [hst, if_neg (by omega)]; exact StpX.mk rfl (tm0_r _))
 refine sD (nS (cF rfl ?_))
 refine tK (nS (tS (tR (sL (lBa rfl rfl) rfl rfl ?_))))
 (refine seq_step (step_alloc rfl) rfl ?_; rintro _ ⟨b138, rfl⟩)
 refine sS rfl rfl rfl rfl rfl rfl ?_
 refine sD (nS (tS (tR ?_)))
 (refine seq_step (step_buildSlice rfl rfl rfl (by omega) (by unfold maxLen; omega) rfl) rfl ?_; rintro _ ⟨b144, rfl⟩)
 refine sP (pF0 rfl) rfl rfl (sL (lBs rfl rfl) rfl rfl ?_)
 (refine seq_appendSl rfl rfl rfl rfl rfl (fun _ _ => by repeat (first | exact Sw.here | apply Sw.there)) (hsl.mono hle1).sl hes1 (Nat.zero_le _) (by unfold maxLen; omega) (by omega) rfl (fun p4 c4 => ?_); simp only [Nat.zero_add, List.nil_append]; refine triL_open (cs := es.flatten) (by repeat (first | exact Pk.here | apply Pk.there)) (by omega) (fun bc Cc hpe hnc1 hcm => ?_); subst hpe)
 refine sP (pF0 rfl) rfl rfl (sS rfl rfl rfl rfl rfl rfl ?_)
 refine sD (nS (tS (tR (sP (pF0 rfl) rfl rfl (sL (lBs rfl rfl) rfl rfl ?_)))))
 refine sP (pM rfl) rfl rfl (sL (load_a rfl rfl (at_blk_all (by repeat first | exact mH | apply mT)) hul) rfl rfl ?_)
 refine sP (pIN (j := i) rfl rfl rfl (by omega)) rfl rfl ?_
 refine seq_store rfl rfl rfl hul huo rfl (by repeat first | exact Sw.here | apply Sw.there) (by exact upd_set (by rw [hkl.len]; omega) (fun e he => (hsl.all e he)) hul) ?_
 refine sD (nS (tS (tR (sL (lBa rfl rfl) rfl rfl ?_))))
 refine sS rfl rfl rfl rfl rfl rfl ?_
 refine sP (pA rfl) rfl rfl (sP (pA rfl) rfl rfl (sD (nS ?_)))
 (refine tri_freezes (bs := [(bc, (es.set i uc).flatten ++ Cc)]) (Pk.perm (by repeat (first | exact Pk.here | apply Pk.there))) (fun hn2 hd2 hle2 => ?_))
 refine tT (rB (rS (ret_loopN (rB (rS (rF3 (rC rfl (lBa rfl rfl)) (rT rfl) (rT rfl) ?_))))))
 (have hks2 := RTmL.set (j := i) ((hkl.mono hle1).mono hle2) (hru.mono hle2); rw [hst, if_pos (by omega)]; exact StpX.mk rfl (RTm.put (us := ks.set i u) (es := es.set i uc) hk hnum hlb ((hty.mono hle1).mono hle2) ((hfr.mono hle1).mono hle2) (by rw [List.length_set]) (SlE.of (Sl.of_blk (A := []) (by rw [flat_len hks2.all, hks2.len, List.length_set]) (by omega) hcm (Wi.in hn2 List.mem_cons_self)) (by rw [hks2.len, List.length_set]) hks2.all (fun e he => by obtain ⟨q, hq⟩ := List.getElem?_of_mem he; exact (hks2.inv hq tm0).2.one)) hks2))
 refine sD (nS (cF rfl ?_))
 refine tri_exit ?_
 refine ext_seq ?_
 refine ext_loopN ?_
 refine ext_block_eq ?_
 refine nS (tS (tS (tR (sP (pF0 rfl) rfl rfl (sL (lBs rfl rfl) rfl rfl ?_)))))
 refine sP (pure_neq_f rfl rfl (by omega)) rfl rfl ?_
 refine sD (nS (cF rfl ?_))
 refine tK (nS (tS (tS (tR (sP (pF0 rfl) rfl rfl (sL (lBs rfl rfl) rfl rfl ?_))))))
 (have hall : ∀ i, i < C → (hl : i < ks.length) → mVal ks[i] = true := (fun j hjc hl2 => hj j (by omega) hl2); have hrd' := hrX hall; have h9 : k = 9 := (by omega); subst h9; obtain ⟨xa, xb, xc, hxs⟩ := ks3 (h93 rfl); subst hxs; rw [red_9] at hrd'; obtain ⟨bx, ox, e0, rfl, hl0, hat0, hre0, hgb0⟩ := hsl.kidTm hkl (i := 0) (by simp) (by simp); obtain ⟨_, _, e1, hp1, hl1, hat1, hre1, hgb1⟩ := hsl.kidTm hkl (i := 1) (by simp) (by simp); cases hp1; obtain ⟨_, _, e2, hp2, hl2, hat2, hre2, hgb2⟩ := hsl.kidTm hkl (i := 2) (by simp) (by simp); cases hp2; replace hre0 : RTm G xa e0 := hre0; replace hre1 : RTm G xb e1 := hre1; replace hre2 : RTm G xc e2 := hre2; have ho1 := hre1.one; have ho2 := hre2.one; obtain ⟨ak, anm, anum, ⟨atk, atks⟩, ⟨afk, afks⟩, alb, aks⟩ := xa; obtain ⟨apt, act, apf, acf, ap, ac, aes, rfl, hak, hanum, halb, haty, hafr, hasl, hakl⟩ := hre0.open9; replace hrd' : R = (if ak = 3 then (xb, 1, 0) else if ak = 4 then (xc, 1, 0) else stuck) := hrd'; refine sP (pIN (j := 0) rfl rfl rfl (by simp)) rfl rfl ?_)
 refine sP (pF rfl) rfl rfl (sL (load_s rfl rfl ((hat0 _).sub (j := 0) rfl)) rfl rfl ?_)
 refine sD (nS (tri_block (tS (tR (sB (pE rfl rfl) rfl rfl (fun h211 => ?_) (fun h211 => ?_))))))
 refine sP (pA rfl) rfl rfl (sD (nS (cT rfl ?_)))
 refine tS (tR (sP (pF0 rfl) rfl rfl (sL (lBs rfl rfl) rfl rfl ?_)))
 refine sP (pIN (j := 1) rfl rfl rfl (by simp)) rfl rfl ?_
 refine sL (load_a rfl rfl (hat1 _) hl1) rfl rfl ?_
 refine sS rfl rfl rfl hl1 ho1 rfl ?_ (hu := by exact upd_all hl1.symm)
 refine sP (pA rfl) rfl rfl (sP (pA rfl) rfl rfl (sD (nS (tT (rB (rS ?_))))))
 refine rF3 (rC rfl (load_a rfl rfl (at_blk_all (by repeat first | exact mH | apply mT)) hl1)) (rT rfl) (rT rfl) ?_
 (rw [hrd', if_pos (by omega)]; exact StpX.mk rfl hre1)
 refine sP (pA rfl) rfl rfl (sD (nS (cF rfl ?_)))
 refine tS (tR (sB (pE rfl rfl) rfl rfl (fun h238 => ?_) (fun h238 => ?_)))
 refine sP (pA rfl) rfl rfl (sD (nS (cT rfl ?_)))
 refine tS (tR (sP (pF0 rfl) rfl rfl (sL (lBs rfl rfl) rfl rfl ?_)))
 refine sP (pIN (j := 2) rfl rfl rfl (by simp)) rfl rfl ?_
 refine sL (load_a rfl rfl (hat2 _) hl2) rfl rfl ?_
 refine sS rfl rfl rfl hl2 ho2 rfl ?_ (hu := by exact upd_all hl2.symm)
 refine sP (pA rfl) rfl rfl (sP (pA rfl) rfl rfl (sD (nS (tT (rB (rS ?_))))))
 refine rF3 (rC rfl (load_a rfl rfl (at_blk_all (by repeat first | exact mH | apply mT)) hl2)) (rT rfl) (rT rfl) ?_
 (rw [hrd', if_neg (by omega), if_pos (by omega)]; exact StpX.mk rfl hre2)
 refine sP (pA rfl) rfl rfl (sD (nS (cF rfl ?_)))
 refine tK (nrm_block (nS (tS (tR (sP (pBd rfl rfl) rfl rfl (sS rfl rfl rfl rfl rfl rfl ?_))))))
 refine sP (pA rfl) rfl rfl (sP (pA rfl) rfl rfl (sD (nS (tT (rF3 (rC rfl (lBa rfl rfl)) (rT rfl) (rT rfl) ?_)))))
 (rw [hrd', if_neg (by omega), if_neg (by omega)]; exact StpX.mk rfl (tm0_r _))
 refine sD (nS ?_)
 (show Tri _ _ (.cond (.tmp 16) _ _) _ _; refine tri_cut (fun (_ : Unit) => ⟨[(5, .int .i64 (C : Int)), (1, .pointer (some ⟨b3, 0, none⟩)), (2, .pointer (some ⟨b4, 0, none⟩))], [.blk b4 [.int .i64 0, .string ⟨⟨[]⟩⟩, .int .i64 0, .int .i64 0, .slice none 0 0, .int .i64 0, .slice none 0 0, .int .i64 0, .slice none 0 0], .blk b3 [.int .i64 k, .string nm, .int .i64 num, .int .i64 tk, .slice pt tks.length ct, .int .i64 fk, .slice pf fks.length cf, .int .i64 lb, .slice p ks.length c]], G⟩) (fun _ => True) (cF rfl ?_) ?_)
 refine tK ?_
 (have hCC := hC2 (by omega); subst hCC; refine nrm_cut () (sub_mk (by repeat (first | exact SubE.nil | refine SubE.cons rfl ?_)) (by repeat (first | exact SubH.refl | exact SubH.nil | refine SubH.cons (by repeat (first | exact Pk.here | apply Pk.there)) ?_ | apply SubH.drop))) trivial)
 (rintro (_ : Unit) _)
 refine tS (tS (tR (sP (pA rfl) rfl rfl (sD (nS (tri_block ?_))))))
 (refine tri_loopN (fun (i : Nat) => ⟨[(6, .int .i64 (i : Int)), (5, .int .i64 (C : Int)), (1, .pointer (some ⟨b3, 0, none⟩)), (2, .pointer (some ⟨b4, 0, none⟩))], [.blk b4 [.int .i64 0, .string ⟨⟨[]⟩⟩, .int .i64 0, .int .i64 0, .slice none 0 0, .int .i64 0, .slice none 0 0, .int .i64 0, .slice none 0 0], .blk b3 [.int .i64 k, .string nm, .int .i64 num, .int .i64 tk, .slice pt tks.length ct, .int .i64 fk, .slice pf fks.length cf, .int .i64 lb, .slice p ks.length c]], G⟩) (fun i => i ≤ C ∧ ∀ j, j < i → (h : j < ks.length) → mVal ks[j] = true) (fun i => C - i) 0 ?_ ?_ ?_)
 exact sub_mk (by repeat (first | exact SubE.nil | refine SubE.cons rfl ?_)) (by repeat (first | exact SubH.refl | exact SubH.nil | refine SubH.cons (by repeat (first | exact Pk.here | apply Pk.there)) ?_ | apply SubH.drop))
 (exact ⟨Nat.zero_le _, fun j hj => absurd hj (Nat.not_lt_zero j)⟩)
 (rintro i ⟨hi, hj⟩)
 refine tS (tS (tR (sP (pM rfl) rfl rfl (sP (pM rfl) rfl rfl (sB (pure_lss rfl rfl) rfl rfl (fun h299 => ?_) (fun h299 => ?_))))))
 refine sD (nS (cT rfl ?_))
 refine tK (nS (tS (tri_block (tS (tS (tR ?_))))))
 refine sP (pF0 rfl) rfl rfl (sL (lBs rfl rfl) rfl rfl ?_)
 refine sP (pM rfl) rfl rfl ?_
 (have hiC : i < C := (by omega); obtain ⟨bx, ox, e, rfl, hl, hat, hre, hgb⟩ := hsl.kidTm hkl (i := i) (by omega) (by omega); have heo := hre.one; have hVi := l5Value_fn ks[i] G e (hkk _ (List.getElem_mem (by omega))) hre; refine sP (pIN (j := i) rfl rfl rfl (by omega)) rfl rfl ?_)
 refine sL (load_a rfl rfl (hat _) hl) rfl rfl ?_
 refine seq_valb rfl (hVi) rfl rfl (fun h315 => ?_) (fun h315 => ?_)
 refine sD (nS (cT rfl ?_))
 refine tri_exit ?_
 refine ext_seq ?_
 refine ext_block_eq ?_
 refine nS (tR (sP (pM rfl) rfl rfl (sP (pure_add rfl rfl (by omega) (by omega)) rfl rfl ?_)))
 refine sP (pA rfl) rfl rfl (sD (nrm_loopN (i + 1) ?_ ?_ ?_))
 exact sub_mk (by repeat (first | exact SubE.nil | refine SubE.cons rfl ?_)) (by repeat (first | exact SubH.refl | exact SubH.nil | refine SubH.cons (by repeat (first | exact Pk.here | apply Pk.there)) ?_ | apply SubH.drop))
 (exact ⟨by omega, fun j hji hl2 => (by by_cases he : j = i; (subst he; assumption); exact hj j (by omega) hl2)⟩)
 (show C - (i + 1) < C - i; omega)
 refine sD (nS (cF rfl ?_))
 refine tK (nS (tS (tR (sP (pF0 rfl) rfl rfl (sL (lBs rfl rfl) rfl rfl ?_)))))
 refine sP (pM rfl) rfl rfl (sP (pIN (j := i) rfl rfl rfl (by omega)) rfl rfl ?_)
 refine sL (load_a rfl rfl (hat _) hl) rfl rfl ?_
 (have hvF : mVal ks[i] = false := (by assumption); have hst := hkX' i (by omega) hiC (fun j hji hl2 => hj j hji hl2) hvF; refine seq_imm rfl (ih ks[i] (List.getElem_mem (by omega)) G e (hkk _ (List.getElem_mem (by omega))) hvF hre) rfl rfl (fun v G1 hle1 hh => ?_); obtain ⟨uc, hvv, hru⟩ := hh; have hul := hru.len; have huo := hru.one; generalize mStp ks[i] = r at hvv hru hst; obtain ⟨u, cc, ll⟩ := r; simp only at hvv hru hst; subst hvv)
 refine sP (pM rfl) rfl rfl (sP (pX rfl rfl) rfl rfl (sP (pX rfl rfl) rfl rfl (sP (pX rfl rfl) rfl rfl ?_)))
 (refine seq_step (step_alloc rfl) rfl ?_; rintro _ ⟨b349, rfl⟩)
 refine sS rfl rfl rfl hul huo rfl ?_ (hu := by exact upd_all hul.symm)
 refine sP (pA rfl) rfl rfl (sP (pA rfl) rfl rfl (sD (nS (tS (tS (tR ?_))))))
 refine sP (pM rfl) rfl rfl (sB (pure_neq rfl rfl) rfl rfl (fun h359 => ?_) (fun h359 => ?_))
 refine sD (nS (cT rfl ?_))
 refine tS (tR (sP (pBd rfl rfl) rfl rfl (sP (pM rfl) rfl rfl (sP (pM rfl) rfl rfl (sS rfl rfl rfl rfl rfl rfl ?_)))))
 refine sP (pA rfl) rfl rfl (sP (pA rfl) rfl rfl (sD (nS (tT (rS (rB ?_))))))
 refine rS (ret_loopN (rB (rS (rF3 (rC rfl (lBa rfl rfl)) (rT rfl) (rT rfl) ?_))))
 (rw [hst, if_neg (by omega)]; exact StpX.mk rfl (tm0_r _))
 refine sD (nS (cF rfl ?_))
 refine tK (nS (tS (tR (sL (lBa rfl rfl) rfl rfl ?_))))
 (refine seq_step (step_alloc rfl) rfl ?_; rintro _ ⟨b390, rfl⟩)
 refine sS rfl rfl rfl rfl rfl rfl ?_
 refine sD (nS (tS (tR ?_)))
 (refine seq_step (step_buildSlice rfl rfl rfl (by omega) (by unfold maxLen; omega) rfl) rfl ?_; rintro _ ⟨b396, rfl⟩)
 refine sP (pF0 rfl) rfl rfl (sL (lBs rfl rfl) rfl rfl ?_)
 (refine seq_appendSl rfl rfl rfl rfl rfl (fun _ _ => by repeat (first | exact Sw.here | apply Sw.there)) (hsl.mono hle1).sl hes1 (Nat.zero_le _) (by unfold maxLen; omega) (by omega) rfl (fun p4 c4 => ?_); simp only [Nat.zero_add, List.nil_append]; refine triL_open (cs := es.flatten) (by repeat (first | exact Pk.here | apply Pk.there)) (by omega) (fun bc Cc hpe hnc1 hcm => ?_); subst hpe)
 refine sP (pF0 rfl) rfl rfl (sS rfl rfl rfl rfl rfl rfl ?_)
 refine sD (nS (tS (tR (sP (pF0 rfl) rfl rfl (sL (lBs rfl rfl) rfl rfl ?_)))))
 refine sP (pM rfl) rfl rfl (sL (load_a rfl rfl (at_blk_all (by repeat first | exact mH | apply mT)) hul) rfl rfl ?_)
 refine sP (pIN (j := i) rfl rfl rfl (by omega)) rfl rfl ?_
 refine seq_store rfl rfl rfl hul huo rfl (by repeat first | exact Sw.here | apply Sw.there) (by exact upd_set (by rw [hkl.len]; omega) (fun e he => (hsl.all e he)) hul) ?_
 refine sD (nS (tS (tR (sL (lBa rfl rfl) rfl rfl ?_))))
 refine sS rfl rfl rfl rfl rfl rfl ?_
 refine sP (pA rfl) rfl rfl (sP (pA rfl) rfl rfl (sD (nS ?_)))
 (refine tri_freezes (bs := [(bc, (es.set i uc).flatten ++ Cc)]) (Pk.perm (by repeat (first | exact Pk.here | apply Pk.there))) (fun hn2 hd2 hle2 => ?_))
 refine tT (rB (rS (ret_loopN (rB (rS (rF3 (rC rfl (lBa rfl rfl)) (rT rfl) (rT rfl) ?_))))))
 (have hks2 := RTmL.set (j := i) ((hkl.mono hle1).mono hle2) (hru.mono hle2); rw [hst, if_pos (by omega)]; exact StpX.mk rfl (RTm.put (us := ks.set i u) (es := es.set i uc) hk hnum hlb ((hty.mono hle1).mono hle2) ((hfr.mono hle1).mono hle2) (by rw [List.length_set]) (SlE.of (Sl.of_blk (A := []) (by rw [flat_len hks2.all, hks2.len, List.length_set]) (by omega) hcm (Wi.in hn2 List.mem_cons_self)) (by rw [hks2.len, List.length_set]) hks2.all (fun e he => by obtain ⟨q, hq⟩ := List.getElem?_of_mem he; exact (hks2.inv hq tm0).2.one)) hks2))
 refine sD (nS (cF rfl ?_))
 refine tri_exit ?_
 refine ext_seq ?_
 refine ext_loopN ?_
 refine ext_block_eq ?_
 refine nS (tS (tS (tR (sP (pF0 rfl) rfl rfl (sL (lBs rfl rfl) rfl rfl ?_)))))
 refine sP (pure_neq_t rfl rfl (by omega)) rfl rfl ?_
 refine sD (nS (cT rfl ?_))
 refine tS (tR (sL (lBa rfl rfl) rfl rfl ?_))
 (have hall : ∀ i, i < C → (hl : i < ks.length) → mVal ks[i] = true := (fun j hjc hl2 => hj j (by omega) hl2); have hk8 := hkd hall; have hrd' := hrX hall; refine seq_imm rfl (hRd (by omega)) rfl rfl (fun v G1 hle1 hh => ?_); obtain ⟨uc, rfl, hru⟩ := hh; have hul := hru.len; have huo := hru.one)
 refine sP (pX rfl rfl) rfl rfl (sP (pX rfl rfl) rfl rfl (sP (pX rfl rfl) rfl rfl (sS rfl rfl rfl hul huo rfl ?_ (hu := by exact upd_all hul.symm))))
 refine sP (pA rfl) rfl rfl (sP (pA rfl) rfl rfl (sD (nS (tT (rS (rF3 (rC rfl (load_a rfl rfl (at_blk_all (by repeat first | exact mH | apply mT)) hul)) (rT rfl) (rT rfl) ?_))))))
 (rw [hrd']; exact ⟨rfl, _, rfl, hru⟩)
end Gw
end Go.Proofs.YtaiafkcflhcdaaaGreatDoor
namespace Go.Proofs.YtaiafkcflhcdaaaGreatDoor
open Go Go.RowKit
namespace Gw
theorem stp_cnt {t : Tm} (h : castValid t = true) : (mStp t).1.small ∧ tmCount (mStp t).1 ≤ 40300 := by
 obtain ⟨h1, h2⟩ := cv_of h
 have := stp_small t (cv_small t h1) h2
 exact ⟨this.1, by omega⟩
set_option maxHeartbeats 0 in
set_option maxRecDepth 100000 in
theorem sStepCast_fn (t : Tm) (G : IM) (cells : List Value) (hcnt : tmCount t ≤ 4294967296) (hr : RTm G t cells) : Fn Tryz.prog 109 [.agg ⟨cells⟩] [] G (StpX (mStepCast t)) := by
 have hRl := hr.len
 have hRo := hr.one
 have hV := sCastValid_fn t G cells hcnt hr
 have e1 := @stepCast_1 t
 have e2 := @stepCast_2 t
 have e3 := @stepCast_3 t
 have e4 := @stepCast_4 t
 have e5 := @stepCast_5 t
 have hsc := @stp_cnt t
 refine fn_enter Tryz.func109 rfl Tryz.ntmps109 Tryz.results109 rfl ?_
 intro w0
 refine tS (tR ?_)
 (refine seq_step (step_box_a rfl rfl) rfl ?_; rintro _ ⟨b3, rfl⟩)
 (refine seq_step (step_alloc rfl) rfl ?_; rintro _ ⟨b4, rfl⟩)
 refine sP (pA rfl) rfl rfl (sP (pA rfl) rfl rfl (sD (nS (tS (tS (tR ?_))))))
 refine sL (load_a rfl rfl (at_blk_all (by repeat first | exact mH | apply mT)) hRl) rfl rfl ?_
 refine seq_valb rfl (hV) rfl rfl (fun h13 => ?_) (fun h13 => ?_)
 refine sP (pNt rfl) rfl rfl (sD (nS (cF rfl ?_)))
 refine tK (nS (tS (tS (tR (sL (load_a rfl rfl (at_blk_all (by repeat first | exact mH | apply mT)) hRl) rfl rfl ?_)))))
 refine seq_valb rfl ((l5Value_fn t G cells (cv_of (by assumption)).1 hr)) rfl rfl (fun h24 => ?_) (fun h24 => ?_)
 refine sD (nS (cT rfl ?_))
 refine tS (tR (sL (load_a rfl rfl (at_blk_all (by repeat first | exact mH | apply mT)) hRl) rfl rfl ?_))
 (refine seq_imm rfl (l2Copy_fn t G cells (cV_small (by assumption)) hr) rfl rfl (fun v G1 hle1 hh => ?_); obtain ⟨cs1, F1, rfl, hs1, hn1⟩ := hh; have hul := hs1.R.len; have huo := hs1.R.one)
 refine sS rfl rfl rfl hul huo rfl ?_ (hu := by exact upd_all hul.symm)
 refine sP (pA rfl) rfl rfl (sP (pA rfl) rfl rfl (sD (nS (tT (rS (rF3 (rC rfl (load_a rfl rfl (at_blk_all (by repeat first | exact mH | apply mT)) hul)) (rT rfl) (rT rfl) ?_))))))
 (exact StpX.mk (e2 (by assumption) (by assumption)) (hs1.R.mono (Dif.le _ _)))
 refine sD (nS (cF rfl ?_))
 refine tK (nS (tS (tR (sL (load_a rfl rfl (at_blk_all (by repeat first | exact mH | apply mT)) hRl) rfl rfl ?_))))
 (have hcv : castValid t = true := (by assumption); have hnv : mVal t = false := (by assumption); obtain ⟨hsc1, hsc2⟩ := hsc hcv; replace e3 := e3 hcv hnv; replace e4 := e4 hcv hnv; replace e5 := e5 hcv hnv; refine seq_imm rfl (l5Step_fn t G cells (cv_of hcv).1 hnv hr) rfl rfl (fun v G1 hle1 hh => ?_); obtain ⟨uc, hvv, hru⟩ := hh; have hul := hru.len; have huo := hru.one; generalize mStp t = r at hvv hru hsc1 hsc2 e3 e4 e5; obtain ⟨u, cc, ll⟩ := r; simp only at hvv hru hsc1 hsc2 e3 e4 e5; subst hvv; have hVu := sCastValid_fn u G1 uc (by omega) hru)
 refine sP (pM rfl) rfl rfl (sP (pX rfl rfl) rfl rfl (sP (pX rfl rfl) rfl rfl (sP (pX rfl rfl) rfl rfl ?_)))
 (refine seq_step (step_alloc rfl) rfl ?_; rintro _ ⟨b54, rfl⟩)
 refine sS rfl rfl rfl hul huo rfl ?_ (hu := by exact upd_all hul.symm)
 refine sP (pA rfl) rfl rfl (sP (pA rfl) rfl rfl (sD (nS (tS (tS (tR ?_))))))
 refine sP (pM rfl) rfl rfl (sB (pure_neq rfl rfl) rfl rfl (fun h64 => ?_) (fun h64 => ?_))
 refine sD (nS (cT rfl ?_))
 refine tS (tR (sP (pBd rfl rfl) rfl rfl (sP (pM rfl) rfl rfl (sP (pM rfl) rfl rfl (sS rfl rfl rfl rfl rfl rfl ?_)))))
 refine sP (pA rfl) rfl rfl (sP (pA rfl) rfl rfl (sD (nS (tT (rS (rF3 (rC rfl (lBa rfl rfl)) (rT rfl) (rT rfl) ?_))))))
 (exact StpX.mk (e3 (by omega)) (tm0_r _))
 refine sD (nS (cF rfl ?_))
 refine tK (nS (tS (tS (tR (sL (load_a rfl rfl (at_blk_all (by repeat first | exact mH | apply mT)) hul) rfl rfl ?_)))))
 refine seq_valb rfl (hVu) rfl rfl (fun h91 => ?_) (fun h91 => ?_)
 refine sP (pNt rfl) rfl rfl (sD (nS (cF rfl ?_)))
 refine tK (nS (tS (tR (sL (load_a rfl rfl (at_blk_all (by repeat first | exact mH | apply mT)) hul) rfl rfl ?_))))
 (refine seq_imm rfl (l2Copy_fn u G1 uc hsc1 hru) rfl rfl (fun v G2 hle2 hh => ?_); obtain ⟨cs2, F2, rfl, hs2, hn2⟩ := hh; have hwl := hs2.R.len; have hwo := hs2.R.one)
 refine sS rfl rfl rfl hwl hwo rfl ?_ (hu := by exact upd_all hwl.symm)
 refine sP (pA rfl) rfl rfl (sP (pA rfl) rfl rfl (sD (nS (tT (rF3 (rC rfl (load_a rfl rfl (at_blk_all (by repeat first | exact mH | apply mT)) hwl)) (rT rfl) (rT rfl) ?_)))))
 (exact StpX.mk (e5 (by omega) (by assumption)) (hs2.R.mono (Dif.le _ _)))
 refine sP (pNf rfl) rfl rfl (sD (nS (cT rfl ?_)))
 refine tS (tR (sP (pBd rfl rfl) rfl rfl (sS rfl rfl rfl rfl rfl rfl ?_)))
 refine sP (pA rfl) rfl rfl (sP (pA rfl) rfl rfl (sD (nS (tT (rS (rF3 (rC rfl (lBa rfl rfl)) (rT rfl) (rT rfl) ?_))))))
 (exact StpX.mk (e4 (by omega) (by assumption)) (tm0_r _))
 refine sP (pNf rfl) rfl rfl (sD (nS (cT rfl ?_)))
 refine tS (tR (sP (pBd rfl rfl) rfl rfl (sS rfl rfl rfl rfl rfl rfl ?_)))
 refine sP (pA rfl) rfl rfl (sP (pA rfl) rfl rfl (sD (nS (tT (rS (rF3 (rC rfl (lBa rfl rfl)) (rT rfl) (rT rfl) ?_))))))
 (exact StpX.mk (e1 (by assumption)) (tm0_r _))
theorem evE_end {m i : Nat} {e : Tm} (h : (mStepCast e).2.1 ≠ 1) : evAdd i (mEv m e) = ((mStepCast e).1, (mStepCast e).2.1, (mStepCast e).2.2, i) := by
 cases m with
 | zero => rw [mEv, if_neg h]; simp [evAdd]
 | succ m => rw [mEv, if_neg h]; simp [evAdd]
theorem evE_much {m i : Nat} {e : Tm} (h : (mStepCast e).2.1 = 1) (hm : m = 0) : evAdd i (mEv m e) = (tm0, 5, 0, i) := by
 subst hm; rw [mEv, if_pos h]; simp [evAdd]
theorem evE_go {m i : Nat} {e : Tm} (h : (mStepCast e).2.1 = 1) (hm : 0 < m) : evAdd i (mEv m e) = evAdd (i + 1) (mEv (m - 1) (mStepCast e).1) := by
 obtain ⟨k, rfl⟩ : ∃ k, m = k + 1 := ⟨m - 1, by omega⟩
 rw [mEv, if_pos h]; simp only [evAdd, Nat.add_sub_cancel, Nat.add_assoc, Nat.add_comm 1 i]
set_option maxHeartbeats 0 in
set_option maxRecDepth 100000 in
theorem l5Eval_fn (e : Tm) (n : Nat) (hn : n ≤ 300) (G : IM) (cells : List Value) (hcnt : tmCount e ≤ 4294967296) (hr : RTm G e cells) : Fn Tryz.prog 55 [.agg ⟨cells⟩, .int .i64 (n : Int)] [] G (EvP (mEv n e)) := by
 have hRl := hr.len
 have hRo := hr.one
 refine fn_enter Tryz.func55 rfl Tryz.ntmps55 Tryz.results55 rfl ?_
 intro w0
 refine tS (tR ?_)
 (refine seq_step (step_box_a rfl rfl) rfl ?_; rintro _ ⟨b3, rfl⟩)
 (refine seq_step (step_alloc rfl) rfl ?_; rintro _ ⟨b4, rfl⟩)
 refine sP (pA rfl) rfl rfl (sP (pA rfl) rfl rfl (sP (pA rfl) rfl rfl (sD (nS (tS (tR ?_))))))
 refine sP (pA rfl) rfl rfl (sD (nS (tri_block ?_)))
 (refine tri_loopN (fun (x : Nat × Tm × List Value × IM) => ⟨[(8, .int .i64 (x.1 : Int)), (1, .int .i64 (n : Int)), (2, .pointer (some ⟨b3, 0, none⟩)), (4, .pointer (some ⟨b4, 0, none⟩))], [.blk b3 x.2.2.1, .blk b4 [.int .i64 0, .string ⟨⟨[]⟩⟩, .int .i64 0, .int .i64 0, .slice none 0 0, .int .i64 0, .slice none 0 0, .int .i64 0, .slice none 0 0]], x.2.2.2⟩) (fun x => x.1 ≤ n ∧ IMle G x.2.2.2 ∧ RTm x.2.2.2 x.2.1 x.2.2.1 ∧ tmCount x.2.1 ≤ 4294967296 ∧ evAdd x.1 (mEv (n - x.1) x.2.1) = mEv n e) (fun x => n - x.1) (0, e, cells, G) ?_ ?_ ?_)
 (simp only [flat_snoc]; exact sub_mk (by repeat (first | exact SubE.nil | refine SubE.cons rfl ?_)) (by repeat (first | exact SubH.refl | exact SubH.nil | refine SubH.cons (by repeat (first | exact Pk.here | apply Pk.there)) ?_ | apply SubH.drop)))
 (exact ⟨Nat.zero_le _, IMle.refl _, hr, hcnt, rfl⟩)
 (rintro ⟨i, u, uc, Gi⟩ ⟨hi, hle, hru, hcu, hev⟩; simp only [] at hi hle hru hcu hev ⊢; have hul := hru.len; have huo := hru.one)
 refine tS (tri_block (tS (tR (sL (load_a rfl rfl (at_blk_all (by repeat first | exact mH | apply mT)) hul) rfl rfl ?_))))
 (refine seq_imm rfl (sStepCast_fn u Gi uc hcu hru) rfl rfl (fun v G1 hle1 hh => ?_); obtain ⟨wc, hv, hrw⟩ := hh; have hwl := hrw.len; have hwo := hrw.one; have hend := @evE_end (n - i) i u; have hmu := @evE_much (n - i) i u; have hgo := @evE_go (n - i) i u; have hval := @stepCast_valid u; generalize mStepCast u = r at hv hrw hend hmu hgo hval; obtain ⟨w, c, l⟩ := r; simp only at hv hrw hend hmu hgo hval; subst hv)
 refine sP (pM rfl) rfl rfl (sP (pX rfl rfl) rfl rfl (sP (pX rfl rfl) rfl rfl (sP (pX rfl rfl) rfl rfl ?_)))
 (refine seq_step (step_alloc rfl) rfl ?_; rintro _ ⟨b30, rfl⟩)
 refine sS rfl rfl rfl hwl hwo rfl ?_ (hu := by exact upd_all hwl.symm)
 refine sP (pA rfl) rfl rfl (sP (pA rfl) rfl rfl (sD (nS (tS (tS (tR ?_))))))
 refine sP (pM rfl) rfl rfl (sB (pure_neq rfl rfl) rfl rfl (fun h40 => ?_) (fun h40 => ?_))
 refine sD (nS (cT rfl ?_))
 refine tS (tR (sL (load_a rfl rfl (at_blk_all (by repeat first | exact mH | apply mT)) hwl) rfl rfl ?_))
 refine sP (pM rfl) rfl rfl (sP (pM rfl) rfl rfl (sP (pM rfl) rfl rfl (sS rfl rfl rfl hwl hwo rfl ?_ (hu := by exact upd_all hwl.symm))))
 refine sP (pA rfl) rfl rfl (sP (pA rfl) rfl rfl (sP (pA rfl) rfl rfl (sD (nS (tT (rS ?_))))))
 refine rB (rS (ret_loopN (rB (ret_fin4 (rC rfl (load_a rfl rfl (at_blk_all (by repeat first | exact mH | apply mT)) hwl)) (rT rfl) (rT rfl) (rT rfl) ?_))))
 (exact EvP.mk (by rw [← hev]; exact hend (by omega)) hrw)
 refine sD (nS (cF rfl ?_))
 refine tK (nS (tS (tS (tR (sP (pM rfl) rfl rfl (sP (pM rfl) rfl rfl ?_))))))
 refine sB (pE rfl rfl) rfl rfl (fun h74 => ?_) (fun h74 => ?_)
 refine sD (nS (cT rfl ?_))
 refine tS (tR (sP (pBd rfl rfl) rfl rfl (sP (pM rfl) rfl rfl (sS rfl rfl rfl rfl rfl rfl ?_))))
 refine sP (pA rfl) rfl rfl (sP (pA rfl) rfl rfl (sP (pA rfl) rfl rfl (sD (nS (tT (rS ?_))))))
 refine rB (rS (ret_loopN (rB (ret_fin4 (rC rfl (lBa rfl rfl)) (rT rfl) (rT rfl) (rT rfl) ?_))))
 (exact EvP.mk (by rw [← hev]; exact hmu (by omega) (by omega)) (tm0_r _))
 refine sD (nS (cF rfl ?_))
 refine tK (nS (tR (sL (load_a rfl rfl (at_blk_all (by repeat first | exact mH | apply mT)) hwl) rfl rfl ?_)))
 refine seq_store rfl rfl rfl hwl hwo rfl (by repeat first | exact Sw.here | apply Sw.there) (by exact upd_all (hul.trans hwl.symm)) ?_
 refine sD (nrm_block (nS (tR (sP (pM rfl) rfl rfl (sP (pure_add rfl rfl (by omega) (by omega)) rfl rfl ?_)))))
 refine sP (pA rfl) rfl rfl (sD (nrm_loopN (i + 1, w, wc, G1) ?_ ?_ ?_))
 (simp only [flat_snoc]; exact sub_mk (by repeat (first | exact SubE.nil | refine SubE.cons rfl ?_)) (by repeat (first | exact SubH.refl | exact SubH.nil | refine SubH.cons (by repeat (first | exact Pk.here | apply Pk.there)) ?_ | apply SubH.drop)))
 (dsimp only; exact ⟨by omega, hle.trans hle1, hrw, by have := castValid_count (hval (by omega)); omega, by rw [← hev, hgo (by omega) (by omega), show n - (i + 1) = n - i - 1 by omega]⟩)
 (show n - (i + 1) < n - i; omega)
theorem evalCast_in {e : Tm} {fuel : Int} (h : withinB fuel 0 300 = true) : mEvalCast e fuel = ((mEv fuel.toNat e).1, (mEv fuel.toNat e).2.1, (mEv fuel.toNat e).2.2.1) := by
 unfold mEvalCast; rw [if_pos (withinB_t h)]
theorem within_no {fuel : Int} (h : fuel < 0 ∨ 300 < fuel) : withinB fuel 0 300 = false := by unfold withinB; rw [decide_eq_false (by omega)]
theorem within_yes {fuel : Int} (h : 0 ≤ fuel) (h2 : fuel ≤ 300) : withinB fuel 0 300 = true := by unfold withinB; rw [decide_eq_true ⟨h, h2⟩]
set_option maxHeartbeats 0 in
set_option maxRecDepth 100000 in
theorem sEvalCast_fn (e : Tm) (fuel : Int) (G : IM) (cells : List Value) (hcnt : tmCount e ≤ 4294967296) (hr : RTm G e cells) : Fn Tryz.prog 17 [.agg ⟨cells⟩, .int .i64 fuel] [] G (StpX (mEvalCast e fuel)) := by
 have hRl := hr.len
 have hRo := hr.one
 have hno := @evalCast_no e fuel
 have hin := @evalCast_in e fuel
 refine fn_enter Tryz.func17 rfl Tryz.ntmps17 Tryz.results17 rfl ?_
 intro w0
 refine tS (tR ?_)
 (refine seq_step (step_box_a rfl rfl) rfl ?_; rintro _ ⟨b3, rfl⟩)
 (refine seq_step (step_alloc rfl) rfl ?_; rintro _ ⟨b4, rfl⟩)
 refine sP (pA rfl) rfl rfl (sP (pA rfl) rfl rfl (sD (nS (tS (tS (tR ?_))))))
 refine sP (pM rfl) rfl rfl (sB (pure_lss rfl rfl) rfl rfl (fun h13 => ?_) (fun h13 => ?_))
 refine sP (pM rfl) rfl rfl (sK rfl rfl (sK rfl rfl (sP (pPt rfl rfl) rfl rfl (sD (nS (cT rfl ?_))))))
 refine tS (tR (sP (pBd rfl rfl) rfl rfl (sS rfl rfl rfl rfl rfl rfl ?_)))
 refine sP (pA rfl) rfl rfl (sP (pA rfl) rfl rfl (sD (nS (tT (rS (rF3 (rC rfl (lBa rfl rfl)) (rT rfl) (rT rfl) ?_))))))
 (exact StpX.mk (hno (within_no (by omega))) (tm0_r _))
 refine sP (pM rfl) rfl rfl (sP (pM rfl) rfl rfl (sB (pure_gtr rfl rfl) rfl rfl (fun h35 => ?_) (fun h35 => ?_)))
 refine sP (pPf rfl rfl) rfl rfl (sD (nS (cT rfl ?_)))
 refine tS (tR (sP (pBd rfl rfl) rfl rfl (sS rfl rfl rfl rfl rfl rfl ?_)))
 refine sP (pA rfl) rfl rfl (sP (pA rfl) rfl rfl (sD (nS (tT (rS (rF3 (rC rfl (lBa rfl rfl)) (rT rfl) (rT rfl) ?_))))))
 (exact StpX.mk (hno (within_no (by omega))) (tm0_r _))
 refine sP (pPf rfl rfl) rfl rfl (sD (nS (cF rfl ?_)))
 refine tK (nS (tS (tR (sL (load_a rfl rfl (at_blk_all (by repeat first | exact mH | apply mT)) hRl) rfl rfl ?_))))
 refine sP (pM rfl) rfl rfl ?_
 (have hE := l5Eval_fn e fuel.toNat (by omega) G cells hcnt hr; rw [Int.toNat_of_nonneg (by omega)] at hE; have hin := hin (within_yes (by omega) (by omega)); refine seq_imm rfl hE rfl rfl (fun v G1 hle1 hh => ?_); obtain ⟨wc, hv, hrw⟩ := hh; have hwl := hrw.len; have hwo := hrw.one; generalize mEv fuel.toNat e = r at hv hrw hin; obtain ⟨w, c, l, i⟩ := r; simp only at hv hrw hin; subst hv)
 refine sP (pM rfl) rfl rfl (sP (pX rfl rfl) rfl rfl (sP (pX rfl rfl) rfl rfl (sP (pX rfl rfl) rfl rfl (sP (pX rfl rfl) rfl rfl ?_))))
 (refine seq_step (step_alloc rfl) rfl ?_; rintro _ ⟨b68, rfl⟩)
 refine sS rfl rfl rfl hwl hwo rfl ?_ (hu := by exact upd_all hwl.symm)
 refine sP (pA rfl) rfl rfl (sP (pA rfl) rfl rfl (sP (pA rfl) rfl rfl (sD (nS (tS (tR ?_))))))
 refine sL (load_a rfl rfl (at_blk_all (by repeat first | exact mH | apply mT)) hwl) rfl rfl ?_
 refine sP (pM rfl) rfl rfl (sP (pM rfl) rfl rfl (sS rfl rfl rfl hwl hwo rfl ?_ (hu := by exact upd_all hwl.symm)))
 refine sP (pA rfl) rfl rfl (sP (pA rfl) rfl rfl (sD (nS (tT (rF3 (rC rfl (load_a rfl rfl (at_blk_all (by repeat first | exact mH | apply mT)) hwl)) (rT rfl) (rT rfl) ?_)))))
 (exact StpX.mk hin hrw)
set_option maxHeartbeats 0 in
set_option maxRecDepth 100000 in
theorem l5Text_fn : ∀ (t : Tm) (G : IM) (cells : List Value), cv t → mVal t = true → RTm G t cells → Fn Tryz.prog 41 [.agg ⟨cells⟩] [] G (Val (.string (mVText t)) G) := by
 refine Tm.ind fun k nm num ty fr lb ks ih G cells hc hv hr => ?_
 have hr0 := hr
 have hP := l5Proxy_fn _ G _ hr
 obtain ⟨hN, hkk⟩ := hc.node
 have hI := l5Inject_fn (.mk k nm num ty fr lb ks) G _ hN.frA hr
 have hop := hN.ops
 have hnum0 := hN.num0
 have h14 : k = 14 → ks.length = 1 := fun h => by rw [h] at hop; have : tmOps 14 = 1 := rfl; omega
 have hvp := @vt_pair k nm num ty fr lb ks
 have hvf := @vt_fun k nm num ty fr lb ks
 have hvc := @vt_cast k nm num ty fr lb ks
 have hvl := @vt_leaf k nm num ty fr lb ks
 have hvn := @val_no k nm num ty fr lb ks
 have hvy := @v_cast k nm num ty fr lb ks
 have hprx := prx_mk k nm num ty fr lb ks
 have hinj := inj_mk k nm num ty fr lb ks
 have h5 : k ≠ 10 → prx (.mk k nm num ty fr lb ks) = false → inj (.mk k nm num ty fr lb ks) = false → k = 2 ∨ k = 3 ∨ k = 4 ∨ k = 5 := fun h1 h2 h3 => by
  have := hvn h1 h2 h3; rw [hv] at this; exact of_decide_eq_true this.symm
 have hdis : prx (.mk k nm num ty fr lb ks) = true → inj (.mk k nm num ty fr lb ks) = false := fun h => by
  rw [hprx] at h; have := of_decide_eq_true h; rw [hinj, decide_eq_false (by omega)]; rfl
 have hik : inj (.mk k nm num ty fr lb ks) = true → k = 14 := fun h => inj_k h
 have hpk : prx (.mk k nm num ty fr lb ks) = true → k = 14 ∧ ty.k = fr.k := fun h => by rw [hprx] at h; have := of_decide_eq_true h; exact ⟨this.1, this.2.1.symm⟩
 have hkv := fun (h : inj (.mk k nm num ty fr lb ks) = true) => (hvy (.inr h) (h14 (hik h))).symm.trans hv
 obtain ⟨j, hj⟩ : ∃ j : Nat, num = j := ⟨num.toNat, by omega⟩
 have hdec := dec_fn j (by omega) G
 generalize hpx : prx (.mk k nm num ty fr lb ks) = bp at *
 generalize hij : inj (.mk k nm num ty fr lb ks) = bi at *
 subst hj
 obtain ⟨tk, tks⟩ := ty
 obtain ⟨fk, fks⟩ := fr
 obtain ⟨pt, ct, pf, cf, p, c, es, rfl, hk, hnum, hlb, hty, hfr, hsl, hkl⟩ := hr.open9
 refine fn_enter Tryz.func41 rfl Tryz.ntmps41 Tryz.results41 rfl ?_
 intro w0
 refine tS (tR ?_)
 (refine seq_step (step_box_a rfl rfl) rfl ?_; rintro _ ⟨b3, rfl⟩)
 refine sP (pA rfl) rfl rfl (sD (nS (tS (tri_block (tS (tR ?_))))))
 refine sP (pF0 rfl) rfl rfl (sL (lBs rfl rfl) rfl rfl ?_)
 refine sB (pE rfl rfl) rfl rfl (fun h13 => ?_) (fun h13 => ?_)
 refine sP (pA rfl) rfl rfl (sD (nS (cT rfl ?_)))
 refine tS (tR (sP (pF0 rfl) rfl rfl (sL (lBs rfl rfl) rfl rfl ?_)))
 refine seq_val rfl (hdec) rfl rfl ?_
 refine sP (pA rfl) rfl rfl (sD (nS (tT (rB (rS (rF1 (rT rfl) ?_))))))
 (have hbp : bp = false := (by cases hb : bp with | false => rfl | true => (have := (hpk hb).1; omega)); refine ⟨rfl, congrArg Value.string ?_, rfl⟩; rw [hvl hbp (by omega) (by omega) (by omega)]; unfold mLeaf; first | (rw [if_pos (by omega)]; rfl) | (rw [if_neg (by omega), if_pos (by omega)]; rfl) | (rw [if_neg (by omega), if_neg (by omega)]; rfl))
 refine sP (pA rfl) rfl rfl (sD (nS (cF rfl ?_)))
 refine tS (tR (sP (pF0 rfl) rfl rfl (sL (lBs rfl rfl) rfl rfl ?_)))
 refine sB (pE rfl rfl) rfl rfl (fun h39 => ?_) (fun h39 => ?_)
 refine sP (pA rfl) rfl rfl (sD (nS (cT rfl ?_)))
 refine tS (tR (sP (pA rfl) rfl rfl (sD (nS (tT (rB ?_))))))
 refine rS (rF1 (rT rfl) ?_)
 (have hbp : bp = false := (by cases hb : bp with | false => rfl | true => (have := (hpk hb).1; omega)); refine ⟨rfl, congrArg Value.string ?_, rfl⟩; rw [hvl hbp (by omega) (by omega) (by omega)]; unfold mLeaf; first | (rw [if_pos (by omega)]; rfl) | (rw [if_neg (by omega), if_pos (by omega)]; rfl) | (rw [if_neg (by omega), if_neg (by omega)]; rfl))
 refine sP (pA rfl) rfl rfl (sD (nS (cF rfl ?_)))
 refine tS (tR (sP (pF0 rfl) rfl rfl (sL (lBs rfl rfl) rfl rfl ?_)))
 refine sB (pE rfl rfl) rfl rfl (fun h62 => ?_) (fun h62 => ?_)
 refine sP (pA rfl) rfl rfl (sD (nS (cT rfl ?_)))
 refine tS (tR (sP (pA rfl) rfl rfl (sD (nS (tT (rB ?_))))))
 refine rS (rF1 (rT rfl) ?_)
 (have hbp : bp = false := (by cases hb : bp with | false => rfl | true => (have := (hpk hb).1; omega)); refine ⟨rfl, congrArg Value.string ?_, rfl⟩; rw [hvl hbp (by omega) (by omega) (by omega)]; unfold mLeaf; first | (rw [if_pos (by omega)]; rfl) | (rw [if_neg (by omega), if_pos (by omega)]; rfl) | (rw [if_neg (by omega), if_neg (by omega)]; rfl))
 refine sP (pA rfl) rfl rfl (sD (nS (cF rfl ?_)))
 refine tS (tR (sP (pF0 rfl) rfl rfl (sL (lBs rfl rfl) rfl rfl ?_)))
 refine sB (pE rfl rfl) rfl rfl (fun h85 => ?_) (fun h85 => ?_)
 refine sP (pM rfl) rfl rfl (sK rfl rfl (sK rfl rfl (sK rfl rfl (sK rfl rfl (sK rfl rfl (sK rfl rfl ?_))))))
 refine sK rfl rfl (sK rfl rfl (sP (pPt rfl rfl) rfl rfl (sP (pA rfl) rfl rfl (sD (nS (cT rfl ?_))))))
 refine tS (tR (sP (pA rfl) rfl rfl (sD (nS (tT (rB ?_))))))
 refine rS (rF1 (rT rfl) ?_)
 (refine ⟨rfl, congrArg Value.string ?_, rfl⟩; rw [hvp (by first | exact .inl (by omega) | exact .inr ⟨by assumption, by have := (hpk (by assumption)).2; simp only [Ty.k] at this ⊢; omega⟩)]; rfl)
 refine sP (pM rfl) rfl rfl (sL (lBa rfl rfl) rfl rfl ?_)
 refine seq_valb rfl (hP) rfl rfl (fun h112 => ?_) (fun h112 => ?_)
 refine sP (pM rfl) rfl rfl (sP (pF0 rfl) rfl rfl (sP (pF rfl) rfl rfl (sL (lBs rfl rfl) rfl rfl ?_)))
 refine sB (pE rfl rfl) rfl rfl (fun h117 => ?_) (fun h117 => ?_)
 refine sP (pPt rfl rfl) rfl rfl (sP (pPf rfl rfl) rfl rfl (sP (pA rfl) rfl rfl (sD (nS (cT rfl ?_)))))
 refine tS (tR (sP (pA rfl) rfl rfl (sD (nS (tT (rB ?_))))))
 refine rS (rF1 (rT rfl) ?_)
 (refine ⟨rfl, congrArg Value.string ?_, rfl⟩; rw [hvp (by first | exact .inl (by omega) | exact .inr ⟨by assumption, by have := (hpk (by assumption)).2; simp only [Ty.k] at this ⊢; omega⟩)]; rfl)
 refine sP (pPt rfl rfl) rfl rfl (sP (pPf rfl rfl) rfl rfl (sP (pA rfl) rfl rfl (sD (nS (cF rfl ?_)))))
 refine tS (tR (sL (lBa rfl rfl) rfl rfl ?_))
 refine seq_valb rfl (hI) rfl rfl (fun h143 => ?_) (fun h143 => ?_)
 refine sP (pA rfl) rfl rfl (sD (nS (cT rfl ?_)))
 refine tS (tR (sP (pF0 rfl) rfl rfl (sL (lBs rfl rfl) rfl rfl ?_)))
 (have hl1 := h14 (hik (by assumption)); obtain ⟨bx, ox, e, rfl, hl, hat, hre, hgb⟩ := hsl.kidTm hkl (i := 0) (by omega) (by omega); have hih := ih ks[0] (List.getElem_mem (by omega)) G e (hkk _ (List.getElem_mem (by omega))) (hkv (by assumption)) hre; refine sP (pIN (j := 0) rfl rfl rfl (by omega)) rfl rfl ?_)
 refine sL (load_a rfl rfl (hat _) hl) rfl rfl ?_
 refine seq_val rfl (hih) rfl rfl ?_
 refine sP (pA rfl) rfl rfl (sD (nS (tT (rB (rS (rF1 (rT rfl) ?_))))))
 (have hbp : bp = false := (by cases hb : bp with | false => rfl | true => (have := hdis hb; have h9 : bi = true := (by assumption); rw [h9] at this; cases this)); refine ⟨rfl, congrArg Value.string ?_, rfl⟩; rw [hvc hbp (hik (by assumption)) (by omega)])
 refine sP (pA rfl) rfl rfl (sD (nS (cF rfl ?_)))
 refine tK (nrm_block (nS (tS (tR (sP (pA rfl) rfl rfl (sD ?_))))))
 refine nS (tT (rF1 (rT rfl) ?_))
 (refine ⟨rfl, congrArg Value.string ?_, rfl⟩; rw [hvf (by rintro (h | ⟨h1, h2⟩) <;> first | omega | exact Bool.noConfusion (h1.symm.trans (show bp = false by assumption)) | (have := (hpk h1).2; simp only [Ty.k] at this h2; omega)) (by cases hb : bp with | true => exact .inr rfl | false => exact .inl (by have := h5 (by omega) hb (by assumption); omega))]; rfl)
 refine sP (pM rfl) rfl rfl (sK rfl rfl (sK rfl rfl (sK rfl rfl (sK rfl rfl (sP (pPf rfl rfl) rfl rfl (sP (pPf rfl rfl) rfl rfl ?_))))))
 refine sP (pA rfl) rfl rfl (sD (nS (cF rfl ?_)))
 refine tS (tR (sL (lBa rfl rfl) rfl rfl ?_))
 refine seq_valb rfl (hI) rfl rfl (fun h192 => ?_) (fun h192 => ?_)
 refine sP (pA rfl) rfl rfl (sD (nS (cT rfl ?_)))
 refine tS (tR (sP (pF0 rfl) rfl rfl (sL (lBs rfl rfl) rfl rfl ?_)))
 (have hl1 := h14 (hik (by assumption)); obtain ⟨bx, ox, e, rfl, hl, hat, hre, hgb⟩ := hsl.kidTm hkl (i := 0) (by omega) (by omega); have hih := ih ks[0] (List.getElem_mem (by omega)) G e (hkk _ (List.getElem_mem (by omega))) (hkv (by assumption)) hre; refine sP (pIN (j := 0) rfl rfl rfl (by omega)) rfl rfl ?_)
 refine sL (load_a rfl rfl (hat _) hl) rfl rfl ?_
 refine seq_val rfl (hih) rfl rfl ?_
 refine sP (pA rfl) rfl rfl (sD (nS (tT (rB (rS (rF1 (rT rfl) ?_))))))
 (have hbp : bp = false := (by cases hb : bp with | false => rfl | true => (have := hdis hb; have h9 : bi = true := (by assumption); rw [h9] at this; cases this)); refine ⟨rfl, congrArg Value.string ?_, rfl⟩; rw [hvc hbp (hik (by assumption)) (by omega)])
 refine sP (pA rfl) rfl rfl (sD (nS (cF rfl ?_)))
 refine tK (nrm_block (nS (tS (tR (sP (pA rfl) rfl rfl (sD ?_))))))
 refine nS (tT (rF1 (rT rfl) ?_))
 (refine ⟨rfl, congrArg Value.string ?_, rfl⟩; rw [hvf (by rintro (h | ⟨h1, h2⟩) <;> first | omega | exact Bool.noConfusion (h1.symm.trans (show bp = false by assumption)) | (have := (hpk h1).2; simp only [Ty.k] at this h2; omega)) (by cases hb : bp with | true => exact .inr rfl | false => exact .inl (by have := h5 (by omega) hb (by assumption); omega))]; rfl)
set_option maxHeartbeats 0 in
set_option maxRecDepth 100000 in
theorem sRunTerm_fn (e : Tm) (fuel : Int) (G : IM) (cells : List Value) (hcnt : tmCount e ≤ 4294967296) (hr : RTm G e cells) : Fn Tryz.prog 11 [.agg ⟨cells⟩, .int .i64 fuel] [] G (RunX (mRunTerm e fuel) G) := by
 have hRl := hr.len
 have hRo := hr.one
 have hno := @runTerm_no e fuel
 have hyv := fun u t => @runTerm_v e u t fuel
 have hyn := fun u t => @runTerm_n e u t fuel
 refine fn_enter Tryz.func11 rfl Tryz.ntmps11 Tryz.results11 rfl ?_
 intro w0
 refine tS (tR ?_)
 (refine seq_step (step_box_a rfl rfl) rfl ?_; rintro _ ⟨b3, rfl⟩)
 refine sP (pA rfl) rfl rfl (sP (pA rfl) rfl rfl (sP (pA rfl) rfl rfl (sD (nS (tS (tR ?_))))))
 refine sL (load_a rfl rfl (at_blk_all (by repeat first | exact mH | apply mT)) hRl) rfl rfl ?_
 focus (refine seq_imm rfl (sInsertCastsX_fn e G cells hcnt hr) rfl rfl (fun v G1 hle1 hh => ?_); obtain ⟨cu, ct, rfl, hru, hrt⟩ := hh; rcases hI : mInsert e with _ | ⟨u, t⟩; rotate_left; rw [hI] at hru hrt; simp only [Option.getD_some] at hru hrt; have hgI := insert_good hI; rotate_left; rw [hI] at hru hrt; simp only [Option.getD_none] at hru hrt; simp only [Option.isSome]; rotate_left; simp only [Option.isSome]; rotate_left; all_goals (have hul := hru.len; have huo := hru.one; obtain ⟨p3, c3, e3, rfl, _⟩ := hrt.open))
 refine sP (pM rfl) rfl rfl (sP (pX rfl rfl) rfl rfl (sP (pX rfl rfl) rfl rfl (sP (pX rfl rfl) rfl rfl ?_)))
 (refine seq_step (step_alloc rfl) rfl ?_; rintro _ ⟨b17, rfl⟩)
 (refine seq_step (step_alloc rfl) rfl ?_; rintro _ ⟨b18, rfl⟩)
 refine sS rfl rfl rfl hul huo rfl ?_ (hu := by exact upd_all hul.symm)
 refine sS rfl rfl rfl rfl rfl rfl ?_
 refine sP (pA rfl) rfl rfl (sD (nS (tS (tS (tR (sP (pM rfl) rfl rfl ?_))))))
 refine sP (pNf rfl) rfl rfl (sD (nS (cT rfl ?_)))
 refine tS (tR (sP (pA rfl) rfl rfl (sP (pA rfl) rfl rfl (sP (pA rfl) rfl rfl (sD (nS ?_))))))
 refine tT (rS (rF3 (rT rfl) (rT rfl) (rT rfl) ?_))
 (exact ⟨rfl, by rw [hno (by first | exact hI | rfl | assumption)]⟩)
 refine sP (pM rfl) rfl rfl (sP (pX rfl rfl) rfl rfl (sP (pX rfl rfl) rfl rfl (sP (pX rfl rfl) rfl rfl ?_)))
 (refine seq_step (step_alloc rfl) rfl ?_; rintro _ ⟨b47, rfl⟩)
 (refine seq_step (step_alloc rfl) rfl ?_; rintro _ ⟨b48, rfl⟩)
 refine sS rfl rfl rfl hul huo rfl ?_ (hu := by exact upd_all hul.symm)
 refine sS rfl rfl rfl rfl rfl rfl ?_
 refine sP (pA rfl) rfl rfl (sD (nS (tS (tS (tR (sP (pM rfl) rfl rfl ?_))))))
 refine sP (pNt rfl) rfl rfl (sD (nS (cF rfl ?_)))
 refine tK (nS (tS (tR (sL (load_a rfl rfl (at_blk_all (by repeat first | exact mH | apply mT)) hul) rfl rfl ?_))))
 refine sP (pM rfl) rfl rfl ?_
 (have hyv := hyv u t hI; have hyn := hyn u t hI; have hev := @evalCast_val u fuel; refine seq_imm rfl (sEvalCast_fn u fuel G1 cu (by have := castValid_count hgI.1; omega) hru) rfl rfl (fun v G2 hle2 hh => ?_); obtain ⟨wc, hvv, hrw⟩ := hh; have hwl := hrw.len; have hwo := hrw.one; generalize mEvalCast u fuel = r at hvv hrw hyv hyn hev; obtain ⟨w, c, l⟩ := r; simp only at hvv hrw hyv hyn hev; subst hvv)
 refine sP (pM rfl) rfl rfl (sP (pX rfl rfl) rfl rfl (sP (pX rfl rfl) rfl rfl (sP (pX rfl rfl) rfl rfl ?_)))
 (refine seq_step (step_alloc rfl) rfl ?_; rintro _ ⟨b73, rfl⟩)
 refine sS rfl rfl rfl hwl hwo rfl ?_ (hu := by exact upd_all hwl.symm)
 refine sP (pA rfl) rfl rfl (sP (pA rfl) rfl rfl (sD (nS (tS (tS (tR ?_))))))
 refine sP (pM rfl) rfl rfl (sB (pure_neq rfl rfl) rfl rfl (fun h83 => ?_) (fun h83 => ?_))
 refine sD (nS (cT rfl ?_))
 refine tS (tR (sP (pM rfl) rfl rfl (sP (pM rfl) rfl rfl (sP (pA rfl) rfl rfl (sP (pA rfl) rfl rfl (sP (pA rfl) rfl rfl ?_))))))
 refine sD (nS (tT (rS (rF3 (rT rfl) (rT rfl) (rT rfl) ?_))))
 (exact ⟨rfl, by rw [hyn (by omega)]⟩)
 refine sD (nS (cF rfl ?_))
 refine tK (nS (tS (tR (sL (load_a rfl rfl (at_blk_all (by repeat first | exact mH | apply mT)) hwl) rfl rfl ?_))))
 (obtain ⟨he1, he2, he3⟩ := hev (by omega); refine seq_val rfl (l5Text_fn w G2 wc (cv_of he1).1 he2 hrw) rfl rfl ?_)
 refine sP (pM rfl) rfl rfl (sP (pA rfl) rfl rfl (sP (pA rfl) rfl rfl (sP (pA rfl) rfl rfl (sD (nS (tT ?_))))))
 refine rF3 (rT rfl) (rT rfl) (rT rfl) ?_
 (obtain rfl : c = 0 := (by omega); subst he3; exact ⟨rfl, by rw [hyv rfl]⟩)
end Gw
end Go.Proofs.YtaiafkcflhcdaaaGreatDoor
namespace Go.Proofs.YtaiafkcflhcdaaaGreatDoor
open Go Go.RowKit
namespace Gw
set_option maxHeartbeats 0 in
set_option maxRecDepth 100000 in
theorem exactRunTerm_fn (t : Tm) (fuel : Int) (G : IM) (cells : List Value) (hT : TabG G) (hno : t.nok) (hr : RTm G t cells) (hf : I64 fuel) :
  Fn Tryz.prog 3 [.agg ⟨cells⟩, .int .i64 fuel] [] G (Imm fun _ v => v = .bool true) := by
 have hl := hr.len
 have hone := hr.one
 have hz := szTerm_fn t 1048576 G cells (by omega) (by omega) hno hr
 have hzn := szTm_nn t
 have hcs := count_sz t
 obtain ⟨s, c, l, hR⟩ : ∃ s c l, mRunTerm t fuel = (s, c, l) := ⟨_, _, _, rfl⟩
 refine fn_enter Tryz.func3 rfl Tryz.ntmps3 Tryz.results3 rfl ?_
 intro w0
 refine tS (tR ?_)
 (refine seq_step (step_box_a rfl rfl) rfl ?_; rintro _ ⟨b3, rfl⟩)
 refine sP (pA rfl) rfl rfl (sD (nS (tS (tR (sP (pA rfl) rfl rfl (sD ?_))))))
 refine nS (tS (tR (sL (load_a rfl rfl (at_blk_all (by repeat first | exact mH | apply mT)) hl) rfl rfl ?_)))
 refine sP (pM rfl) rfl rfl ?_
 (rcases res_cases 1048576 (szTm t) with ⟨hc, hrs⟩ | ⟨hc, hrs⟩ <;> (rw [hrs] at hz; refine seq_val rfl hz rfl rfl ?_))
 refine sP (pA rfl) rfl rfl (sD (nS (tS (tS (tR (sP (pM rfl) rfl rfl ?_))))))
 refine sP (pure_lss_f rfl rfl (by omega)) rfl rfl ?_
 refine sD (nS (cF rfl ?_))
 refine tK (nS (tS (tR (sL (load_a rfl rfl (at_blk_all (by repeat first | exact mH | apply mT)) hl) rfl rfl ?_))))
 (refine seq_imm rfl (toTerm_fn t G cells (small_tm t (by omega)) hr) rfl rfl (fun v1 G1 hle1 hh => ?_); obtain ⟨cells1, F1, rfl, hs1, hn1⟩ := hh; have hA := sRunTerm_fn t fuel G1 cells1 (by omega) (hs1.R.mono (Dif.le _ _)); have hr1 := hr.mono hle1)
 refine sP (pM rfl) rfl rfl ?_
 (refine seq_imm rfl hA rfl rfl (fun v2 G2 hle2 hh => ?_); rw [hR] at hh; subst hh; have hr2 := hr1.mono hle2)
 refine sP (pM rfl) rfl rfl (sP (pX rfl rfl) rfl rfl (sP (pX rfl rfl) rfl rfl (sP (pX rfl rfl) rfl rfl (sP (pA rfl) rfl rfl (sP (pA rfl) rfl rfl (sP (pA rfl) rfl rfl ?_))))))
 refine sD (nS (tS (tR (sL (load_a rfl rfl (at_blk_all (by repeat first | exact mH | apply mT)) hl) rfl rfl ?_))))
 (refine seq_imm rfl (toTerm_fn t G2 cells (small_tm t (by omega)) hr2) rfl rfl (fun v3 G3 hle3 hh => ?_); obtain ⟨cells3, F3, rfl, hs3, hn3⟩ := hh; have hl3 := hs3.R.len; have ho3 := hs3.R.one; have hr3 := hr2.mono hle3; have hI := runTerm_fn t fuel G3 cells3 (((hT.mono hle1).mono hle2).mono hle3) (hs3.R.mono (Dif.le _ _)))
 (refine seq_step (step_alloc rfl) rfl ?_; rintro _ ⟨b49, rfl⟩)
 refine seq_store rfl rfl rfl (by assumption) (by assumption) rfl (by repeat first | exact Sw.here | apply Sw.there) (by exact upd_all (by symm; assumption)) ?_
 refine sD (nS (tS (tR (sL (load_a rfl rfl (at_blk_all (by repeat first | exact mH | apply mT)) hl3) rfl rfl ?_))))
 refine sP (pM rfl) rfl rfl ?_
 (refine seq_imm rfl hI rfl rfl (fun v4 G4 hle4 hh => ?_); rw [hR] at hh; subst hh; have hr4 := hr3.mono hle4)
 refine sP (pM rfl) rfl rfl (sP (pX rfl rfl) rfl rfl (sP (pX rfl rfl) rfl rfl (sP (pX rfl rfl) rfl rfl (sP (pA rfl) rfl rfl (sP (pA rfl) rfl rfl (sP (pA rfl) rfl rfl ?_))))))
 refine sD (nS (tS (tS (tR (sP (pM rfl) rfl rfl (sP (pM rfl) rfl rfl ?_))))))
 refine sB (pure_sneq rfl rfl) rfl rfl (fun h72 => ?_) (fun h72 => ?_)
 refine sP (pM rfl) rfl rfl (sK rfl rfl (sK rfl rfl (sK rfl rfl (sP (pPt rfl rfl) rfl rfl (sP (pM rfl) rfl rfl (sK rfl rfl ?_))))))
 refine sK rfl rfl (sK rfl rfl (sP (pPt rfl rfl) rfl rfl (sD (nS (cT rfl ?_)))))
 refine tS (tR (sP (pA rfl) rfl rfl (sD (nS (tT (rS ?_))))))
 refine rF1 (rT rfl) ?_
 (exfalso; first | omega | (have hne : ¬ s = s := (by assumption); exact hne rfl))
 refine sP (pM rfl) rfl rfl (sP (pM rfl) rfl rfl (sP (pM rfl) rfl rfl (sP (pure_neq_f rfl rfl (by omega)) rfl rfl ?_)))
 refine sP (pPf rfl rfl) rfl rfl (sP (pM rfl) rfl rfl (sP (pM rfl) rfl rfl (sP (pM rfl) rfl rfl (sP (pure_neq_f rfl rfl (by omega)) rfl rfl ?_))))
 refine sP (pPf rfl rfl) rfl rfl (sD (nS (cF rfl ?_)))
 refine tK (nS (tS (tS (tri_draw mixed rfl ?_))))
 refine any_load (i := 0) (l' := [tt,ff,ff,ff,ff]) rfl npI (load_a rfl rfl (at_blk_all (by repeat first | exact mH | apply mT)) hl3) rfl (by kernel_rfl) rfl rfl ?_
 refine aL 1 rfl (load_a rfl rfl (at_blk_all (by repeat first | exact mH | apply mT)) hl) rfl rfl ?_
 refine aO (j := 2) (by kernel_rfl) ?_
 (refine one_imm (l' := [tt,tt,tt,ff,ff]) rfl rfl (toTerm_fn t G4 cells (small_tm t (by omega)) hr4) rfl rfl rfl (fun v5 G5 hle5 hh => ?_); obtain ⟨cells5, F5, rfl, hs5, hn5⟩ := hh)
 refine aO (j := 3) (by kernel_rfl) ?_
 refine one_val (l' := [tt,tt,tt,tt,ff]) rfl rfl (eqTerm_fn t G5 cells3 cells5 (hs3.R.mono ((Dif.le _ _).trans (hle4.trans hle5))) (hs5.R.mono (Dif.le _ _))) rfl rfl rfl ?_
 refine aP 4 rfl (pNt rfl) rfl rfl ?_
 refine aD (by kernel_rfl) ?_
 refine nS (cF rfl ?_)
 refine tK (nS (tS (tR (sP (pA rfl) rfl rfl (sD (nS ?_))))))
 refine tT (rF1 (rT rfl) ?_)
 (exact ⟨rfl, rfl⟩)
 refine sP (pA rfl) rfl rfl (sD (nS (tS (tS (tR (sP (pM rfl) rfl rfl ?_))))))
 refine sP (pure_lss_t rfl rfl (by omega)) rfl rfl ?_
 refine sD (nS (cT rfl ?_))
 refine tS (tR (sP (pA rfl) rfl rfl (sD (nS (tT (rS ?_))))))
 refine rF1 (rT rfl) ?_
 (exact ⟨rfl, rfl⟩)
end Gw
end Go.Proofs.YtaiafkcflhcdaaaGreatDoor
