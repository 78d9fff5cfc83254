/-
  The reference's evaluator: ground types, values, casts, replacing a name. The reference's evaluator: steps of nodes whose operands are values. The reference's insertion of casts, exactly. The reference's evaluator: a step, runs of steps, RunTerm.
-/
import Derived.Test.YtmnfamimopcldaaGreatDoorKa4
import Derived.Test.YtmnfamimopcldaaGreatDoorKa5
import Derived.Test.YtmnfamimopcldaaGreatDoorKa3
set_option linter.unusedVariables false
set_option linter.unusedSimpArgs false
set_option maxHeartbeats 0
set_option maxRecDepth 100000
set_option synthInstance.maxSize 4000
set_option synthInstance.maxHeartbeats 0
namespace Go.Proofs.YtmnfamimopcldaaGreatDoor
open Go Go.RowKit
namespace Gw
theorem mGround_rep {t : Ty} (ha : tAr t) : mGround t = .mk t.k (List.replicate t.ks.length tyAny) := by
 obtain ⟨k, ks⟩ := t
 rw [tAr] at ha
 show (if k = 4 ∨ k = 5 then Ty.mk k [tyAny, tyAny] else .mk k []) = _
 show _ = Ty.mk k (List.replicate ks.length tyAny)
 split
 ·rename_i h; rw [ha.1 h]; rfl
 ·rename_i h
  rw [ha.2.1 (fun e => h (.inl e)) (fun e => h (.inr e))]; rfl
theorem l1Ground_fn (t : Ty) (G : IM) (cells : List Value) (ha : tAr t) (hr : RTy G t cells) : Fn Tryz.prog 134 [.agg ⟨cells⟩] [] G (RetTy (mGround t) G) := by
 rw [mGround_rep ha]
 obtain ⟨tk, tks⟩ := t
 have hsm := ha.small
 rw [Ty.small] at hsm
 obtain ⟨hsm1, _⟩ := hsm
 obtain ⟨p, c, es, rfl, hk, hsl, hkl⟩ := hr.open
 simp only [Ty.k, Ty.ks] at hk hsl hkl ⊢
 have hn := hsl.le
 refine fn_enter Tryz.func134 rfl Tryz.ntmps134 Tryz.results134 rfl ?_
 intro w0
 refine tS (tR ?_)
 refine sE (step_box_a rfl rfl) rfl (fun b3 => ?_)
 refine sE (step_alloc rfl) rfl (fun b4 => ?_)
 refine sD (nS (tS (tR (sQ (pF0 rfl) rfl (sL (lBs rfl rfl) rfl rfl ?_)))))
 refine sQ (pBd rfl rfl) rfl ?_
 refine sE (step_alloc rfl) rfl (fun b12 => ?_)
 refine sS' ?_
 refine sD (nS (tS (tS (tR (sQ (pA rfl) rfl (sD ?_))))))
 refine nS (tri_block ?_)
 (refine tri_nil 32 2 ?_; refine tri_loopN (fun (x : Nat × Option Addr × Nat × List (List Value)) => ⟨[(4, .int .i64 x.1), (3, .pointer (some ⟨b12, 0, none⟩)), (1, .pointer (some ⟨b3, 0, none⟩)), (2, .pointer (some ⟨b4, 0, none⟩))], [.blk b12 [.int .i64 tk, .slice x.2.1 x.1 x.2.2.1], .slc x.2.1 x.2.2.1 32 2 x.1 x.2.2.2.flatten, .blk b4 [.int .i64 0, .slice none 0 0], .blk b3 [.int .i64 tk, .slice p tks.length c]], G⟩) (fun x => x.1 ≤ tks.length ∧ RTyL G (List.replicate x.1 tyAny) x.2.2.2) (fun x => tks.length - x.1) (0, none, 0, []) ?_ ?_ ?_)
 (simp only [flat_snoc]; exact sMk)
 (exact ⟨Nat.zero_le _, rfl⟩)
 (rintro ⟨i, pn, cn, es'⟩ ⟨hi, hst⟩; simp only [] at hi hst ⊢; have hsl' := hst.len; rw [List.length_replicate] at hsl')
 refine tS (tS (tR (sQ (pM rfl) rfl (sQ (pF0 rfl) rfl (sL (lBs rfl rfl) rfl rfl ?_)))))
 refine sQ (pLn rfl rfl) rfl (sB (pure_lss rfl rfl) rfl rfl (fun h34 => ?_) (fun h34 => ?_))
 refine sD (nS (cT rfl ?_))
 refine tK (nS (tS (tri_block (tri_draw mixed rfl ?_))))
 refine any_pure (i := 0) (l' := [tt,ff,ff,ff,ff,ff,ff]) rfl npI (pF0 rfl) rfl (by kernel_rfl) rfl rfl ?_
 refine aL 1 rfl (lBs rfl rfl) rfl ?_
 refine aO' 2 ?_
 refine one_val rfl rfl ((l1Any_fn _)) rfl rfl rfl ?_
 refine aO' 3 ?_
 (refine one_step0 rfl (step_buildSlice rfl rfl rfl (by omega) (by unfold maxLen; omega) rfl) rfl rfl ?_; rintro _ ⟨b48, rfl⟩)
 refine aO' 4 ?_
 refine one_append rfl rfl rfl rfl rfl rfl (fun _ _ => by repeat (first | exact Sw.here | apply Sw.there)) (at_slc_all (by repeat first | exact mH | apply mT)) rfl (by simp [Value.oneCell']) (by unfold maxLen; omega) (by omega) rfl rfl (by repeat (first | exact HmOk.nil | apply HmOk.dep (by decide +kernel) | apply HmOk.im (by decide +kernel) (by assumption) (by repeat first | exact mH | apply mT) | apply HmOk.blk (by decide +kernel) (by repeat (first | exact Pk.here | apply Pk.there)) (by repeat first | exact mH | apply mT) | apply HmOk.slc (by decide +kernel) (by repeat (first | exact Pk.here | apply Pk.there)) (by repeat first | exact mH | apply mT))) (fun pn' cn' => ?_)
 refine aP 5 rfl (pF0 rfl) rfl ?_
 refine aO' 6 ?_
 refine one_store rfl rfl rfl rfl rfl rfl rfl rfl (by decide +kernel) (by repeat first | exact Sw.here | apply Sw.there) (by rfl) ?_
 refine aD' ?_
 refine nrm_block (nS (tR (sQ (pM rfl) rfl (sP (pure_add rfl rfl (by omega) (by omega)) rfl rfl ?_))))
 refine sQ (pA rfl) rfl (sD (nrm_loopN (i + 1, pn', cn', es' ++ [[.int .i64 1, .slice none 0 0]]) ?_ ?_ ?_))
 (simp only [flat_snoc]; exact sMk)
 (dsimp only; exact ⟨by omega, by rw [List.replicate_succ']; exact RTyL.snoc hst (tyAny_r _)⟩)
 (show tks.length - (i + 1) < tks.length - i; omega)
 refine sD (nS (cF rfl ?_))
 refine tri_exit ?_
 refine ext_seq ?_
 refine ext_loopN ?_
 refine ext_block_eq ?_
 refine nS (tS (tR (sL (lBa rfl rfl) rfl rfl ?_)))
 refine sS' ?_
 refine sD (nS ?_)
 (refine ret_freeze (cs := es'.flatten) (by repeat (first | exact Pk.here | apply Pk.there)) (fun G2 hle2 hsl2 hno2 => ?_); obtain rfl : i = tks.length := (by omega))
 refine tT (rF1 (rC rfl (lBa rfl rfl)) ?_)
 (exact ⟨rfl, _, rfl, (hst.mono hle2).ty (by simp) hsl2 hk⟩)
theorem l5Ground_fn (t : Ty) (G : IM) (cells : List Value) (ha : tAr t) (hr : RTy G t cells) : Fn Tryz.prog 106 [.agg ⟨cells⟩] [] G (Val (.bool (isGrd t)) G) := by
 refine Fn.forget (post := Imm fun _ v => v = .bool (isGrd t)) ?_ (fun _ _ _ h => h.2)
 have hr0 := hr
 have hG := l1Ground_fn t G cells ha hr
 obtain ⟨tk, tks⟩ := t
 obtain ⟨p, c, es, rfl, hk, _⟩ := hr.open
 simp only [Ty.k, Ty.ks] at hk hr0 hG ⊢
 have hd : isGrd (.mk tk tks) = (decide (tk ≠ 1) && tSame (.mk tk tks) (mGround (.mk tk tks))) := rfl
 rw [hd]
 generalize mGround (.mk tk tks) = g at hG ⊢
 refine fn_enter Tryz.func106 rfl Tryz.ntmps106 Tryz.results106 rfl ?_
 intro w0
 refine tS (tR ?_)
 refine sE (step_box_a rfl rfl) rfl (fun b3 => ?_)
 refine sQ (pA rfl) rfl (sD (nS (tS (tri_draw mixed rfl ?_))))
 refine any_pure (i := 0) (l' := [tt,ff,ff,ff,ff,ff,ff,ff,ff,ff]) rfl npI (pF0 rfl) rfl (by kernel_rfl) rfl rfl ?_
 refine aL 1 rfl (lBs rfl rfl) rfl ?_
 refine any_bool (i := 2) (l' := [tt,tt,tt,ff,ff,ff,ff,ff,ff,ff]) rfl npI (pure_neq rfl rfl) rfl (by kernel_rfl) rfl rfl (fun h11 => ?_) (fun h11 => ?_)
 refine aP 3 rfl (pM rfl) rfl ?_
 refine aL 4 rfl (lBa rfl rfl) rfl ?_
 refine aL 5 rfl (lBa rfl rfl) rfl ?_
 refine aO' 6 ?_
 (refine one_imm rfl rfl hG rfl rfl rfl (fun v G1 hle1 hh => ?_); obtain ⟨cg, rfl, hrg⟩ := hh; have hT := sTypeSameX_fn (.mk tk tks) g G1 _ _ (hr0.mono hle1) hrg; obtain ⟨pg, cgg, eg, rfl, _⟩ := hrg.open)
 refine aO' 7 ?_
 refine one_val rfl rfl (hT) rfl rfl rfl ?_
 refine aP 8 rfl (pPt rfl rfl) rfl ?_
 refine aP 9 rfl (pA rfl) rfl ?_
 refine aD' ?_
 refine nS (tT (rF1 (rT rfl) ?_))
 (refine ⟨rfl, ?_⟩; show Value.bool _ = Value.bool _; rw [decide_eq_true (by omega), Bool.true_and])
 refine aP 3 rfl (pM rfl) rfl ?_
 refine aK' 4 rfl rfl rfl ?_
 refine aK' 5 rfl rfl rfl ?_
 refine aK' 6 rfl rfl rfl ?_
 refine aK' 7 rfl rfl rfl ?_
 refine aP 8 rfl (pPf rfl rfl) rfl ?_
 refine aP 9 rfl (pA rfl) rfl ?_
 refine aD' ?_
 refine nS (tT (rF1 (rT rfl) ?_))
 (refine ⟨rfl, ?_⟩; show Value.bool _ = Value.bool _; rw [decide_eq_false (by omega), Bool.false_and])
theorem l5Proxy_fn (t : Tm) (G : IM) (cells : List Value) (hr : RTm G t cells) : Fn Tryz.prog 69 [.agg ⟨cells⟩] [] G (Val (.bool (prx t)) G) := by
 obtain ⟨k, nm, num, ⟨tk, tks⟩, ⟨fk, fks⟩, lb, ks⟩ := t
 obtain ⟨pt, ct, pf, cf, p, c, es, rfl, hk, hnum, hlb, hty, hfr, hsl, hkl⟩ := hr.open9
 have hd : prx (.mk k nm num (.mk tk tks) (.mk fk fks) lb ks) = decide (k = 14 ∧ fk = tk ∧ (tk = 4 ∨ tk = 5)) := rfl
 rw [hd]
 refine fn_enter Tryz.func69 rfl Tryz.ntmps69 Tryz.results69 rfl ?_
 intro w0
 refine tS (tR ?_)
 refine sE (step_box_a rfl rfl) rfl (fun b3 => ?_)
 refine sQ (pA rfl) rfl (sD (nS (tS (tR (sQ (pF0 rfl) rfl (sL (lBs rfl rfl) rfl rfl ?_))))))
 refine sB (pE rfl rfl) rfl rfl (fun h11 => ?_) (fun h11 => ?_)
 refine sQ (pM rfl) rfl (sQ (pF0 rfl) rfl (sQ (pF rfl) rfl (sL (lBs rfl rfl) rfl rfl ?_)))
 refine sQ (pF0 rfl) rfl (sQ (pF rfl) rfl (sL (lBs rfl rfl) rfl rfl ?_))
 refine sB (pE rfl rfl) rfl rfl (fun h19 => ?_) (fun h19 => ?_)
 refine sQ (pPt rfl rfl) rfl (sQ (pM rfl) rfl (sQ (pF0 rfl) rfl (sQ (pF rfl) rfl (sL (lBs rfl rfl) rfl rfl ?_))))
 refine sB (pE rfl rfl) rfl rfl (fun h25 => ?_) (fun h25 => ?_)
 refine sQ (pM rfl) rfl (sK rfl rfl (sK rfl rfl (sK rfl rfl (sK rfl rfl (sQ (pPt rfl rfl) rfl (sQ (pPt rfl rfl) rfl ?_))))))
 refine sQ (pA rfl) rfl (sD (nS (tT (rF1 (rT rfl) ?_))))
 (exact ⟨rfl, by rw [decide_eq_true (by omega)], rfl⟩)
 refine sQ (pM rfl) rfl (sQ (pF0 rfl) rfl (sQ (pF rfl) rfl (sL (lBs rfl rfl) rfl rfl ?_)))
 refine sB (pE rfl rfl) rfl rfl (fun h43 => ?_) (fun h43 => ?_)
 refine sQ (pPf rfl rfl) rfl (sQ (pPt rfl rfl) rfl (sQ (pA rfl) rfl (sD (nS (tT (rF1 (rT rfl) ?_))))))
 (exact ⟨rfl, by rw [decide_eq_true (by omega)], rfl⟩)
 refine sQ (pPf rfl rfl) rfl (sQ (pPt rfl rfl) rfl (sQ (pA rfl) rfl (sD (nS (tT (rF1 (rT rfl) ?_))))))
 (exact ⟨rfl, by rw [decide_eq_false (by omega)], rfl⟩)
 refine sQ (pPt rfl rfl) rfl (sQ (pM rfl) rfl (sK rfl rfl (sK rfl rfl (sK rfl rfl (sK rfl rfl (sK rfl rfl ?_))))))
 refine sK rfl rfl (sK rfl rfl (sK rfl rfl (sK rfl rfl (sK rfl rfl (sQ (pPf rfl rfl) rfl (sQ (pA rfl) rfl ?_))))))
 refine sD (nS (tT (rF1 (rT rfl) ?_)))
 (exact ⟨rfl, by rw [decide_eq_false (by omega)], rfl⟩)
 refine sQ (pM rfl) rfl (sK rfl rfl (sK rfl rfl (sK rfl rfl (sK rfl rfl (sK rfl rfl (sK rfl rfl ?_))))))
 refine sK rfl rfl (sQ (pPf rfl rfl) rfl (sQ (pM rfl) rfl (sK rfl rfl (sK rfl rfl (sK rfl rfl (sK rfl rfl ?_))))))
 refine sK rfl rfl (sK rfl rfl (sK rfl rfl (sK rfl rfl (sK rfl rfl (sK rfl rfl (sQ (pPf rfl rfl) rfl ?_))))))
 refine sQ (pA rfl) rfl (sD (nS (tT (rF1 (rT rfl) ?_))))
 (exact ⟨rfl, by rw [decide_eq_false (by omega)], rfl⟩)
theorem l5Inject_fn (t : Tm) (G : IM) (cells : List Value) (ha : tAr t.fr) (hr : RTm G t cells) : Fn Tryz.prog 70 [.agg ⟨cells⟩] [] G (Val (.bool (inj t)) G) := by
 obtain ⟨k, nm, num, ⟨tk, tks⟩, ⟨fk, fks⟩, lb, ks⟩ := t
 obtain ⟨pt, ct, pf, cf, p, c, es, rfl, hk, hnum, hlb, hty, hfr, hsl, hkl⟩ := hr.open9
 have hd : inj (.mk k nm num (.mk tk tks) (.mk fk fks) lb ks) = (decide (k = 14 ∧ tk = 1) && isGrd (.mk fk fks)) := rfl
 rw [hd]
 have hG := l5Ground_fn (.mk fk fks) G _ ha hfr
 refine fn_enter Tryz.func70 rfl Tryz.ntmps70 Tryz.results70 rfl ?_
 intro w0
 refine tS (tR ?_)
 refine sE (step_box_a rfl rfl) rfl (fun b3 => ?_)
 refine sQ (pA rfl) rfl (sD (nS (tS (tR (sQ (pF0 rfl) rfl (sL (lBs rfl rfl) rfl rfl ?_))))))
 refine sB (pE rfl rfl) rfl rfl (fun h11 => ?_) (fun h11 => ?_)
 refine sQ (pM rfl) rfl (sQ (pF0 rfl) rfl (sQ (pF rfl) rfl (sL (lBs rfl rfl) rfl rfl ?_)))
 refine sB (pE rfl rfl) rfl rfl (fun h16 => ?_) (fun h16 => ?_)
 refine sQ (pPt rfl rfl) rfl (sQ (pM rfl) rfl (sQ (pF0 rfl) rfl (sL (lBa rfl rfl) rfl rfl ?_)))
 refine seq_val rfl (hG) rfl rfl ?_
 refine sQ (pPt rfl rfl) rfl (sQ (pA rfl) rfl (sD (nS (tT (rF1 (rT rfl) ?_)))))
 (exact ⟨rfl, by rw [decide_eq_true (by omega), Bool.true_and], rfl⟩)
 refine sQ (pPt rfl rfl) rfl (sQ (pM rfl) rfl (sK rfl rfl (sK rfl rfl (sK rfl rfl (sQ (pPf rfl rfl) rfl (sQ (pA rfl) rfl ?_))))))
 refine sD (nS (tT (rF1 (rT rfl) ?_)))
 (exact ⟨rfl, by rw [decide_eq_false (by omega), Bool.false_and], rfl⟩)
 refine sQ (pM rfl) rfl (sK rfl rfl (sK rfl rfl (sK rfl rfl (sK rfl rfl (sQ (pPf rfl rfl) rfl (sQ (pM rfl) rfl ?_))))))
 refine sK rfl rfl (sK rfl rfl (sK rfl rfl (sQ (pPf rfl rfl) rfl (sQ (pA rfl) rfl (sD (nS ?_))))))
 refine tT (rF1 (rT rfl) ?_)
 (exact ⟨rfl, by rw [decide_eq_false (by omega), Bool.false_and], rfl⟩)
section
variable {k : Int} {nm : ByteArray} {num : Int} {ty fr : Ty} {lb : Int} {ks : List Tm}
theorem v_leaf (h : k = 2 ∨ k = 3 ∨ k = 4 ∨ k = 5) : mVal (.mk k nm num ty fr lb ks) = true := by
 rw [mVal, if_neg (by omega)]; exact decide_eq_true h
theorem v_pair (h : k = 10) (hl : ks.length = 2) : mVal (.mk k nm num ty fr lb ks) = (mVal (ks[0]'(by omega)) && mVal (ks[1]'(by omega))) := by
 rw [val_yes (.inl h)]
 obtain ⟨a, b, rfl⟩ := ks2 hl
 simp
theorem v_cast (h : prx (.mk k nm num ty fr lb ks) = true ∨ inj (.mk k nm num ty fr lb ks) = true) (hl : ks.length = 1) : mVal (.mk k nm num ty fr lb ks) = mVal (ks[0]'(by omega)) := by
 rw [val_yes (.inr h)]
 obtain ⟨a, rfl⟩ := ks1 hl
 simp
theorem v_not (h : ¬(k = 2 ∨ k = 3 ∨ k = 4 ∨ k = 5)) (h10 : k ≠ 10) (h2 : prx (.mk k nm num ty fr lb ks) = false) (h3 : inj (.mk k nm num ty fr lb ks) = false) : mVal (.mk k nm num ty fr lb ks) = false := by
 rw [val_no h10 h2 h3]; exact decide_eq_false h
theorem prx_14 (h : prx (.mk k nm num ty fr lb ks) = true ∨ inj (.mk k nm num ty fr lb ks) = true) : k = 14 := by
 rcases h with h | h
 ·exact (prx_spec' h)
 ·exact inj_k h
where
 prx_spec' {k : Int} {nm : ByteArray} {num : Int} {ty fr : Ty} {lb : Int} {ks : List Tm} (h : prx (.mk k nm num ty fr lb ks) = true) : k = 14 := by rw [prx_mk] at h; exact (of_decide_eq_true h).1
end
theorem l5Value_fn : ∀ (t : Tm) (G : IM) (cells : List Value), cv t → RTm G t cells → Fn Tryz.prog 132 [.agg ⟨cells⟩] [] G (Val (.bool (mVal t)) G) := by
 refine Tm.ind fun k nm num ty fr lb ks ih G cells hc hr => ?_
 obtain ⟨hN, hkk⟩ := hc.node
 have hop := hN.ops
 have h10 : k = 10 → ks.length = 2 := fun h => by rw [h] at hop; have : tmOps 10 = 2 := rfl; omega
 have h14 : k = 14 → ks.length = 1 := fun h => by rw [h] at hop; have : tmOps 14 = 1 := rfl; omega
 have hP := l5Proxy_fn _ G _ hr
 have hI := l5Inject_fn (.mk k nm num ty fr lb ks) G _ hN.frA hr
 have e1 := @v_leaf k nm num ty fr lb ks
 have e2 := @v_pair k nm num ty fr lb ks
 have e3 := @v_cast k nm num ty fr lb ks
 have e4 := @v_not k nm num ty fr lb ks
 have e5 := @prx_14 k nm num ty fr lb ks
 generalize hpx : prx (.mk k nm num ty fr lb ks) = bp at hP e3 e4 e5
 generalize hij : inj (.mk k nm num ty fr lb ks) = bi at hI e3 e4 e5
 generalize mVal (.mk k nm num ty fr lb ks) = R at e1 e2 e3 e4 ⊢
 obtain ⟨tk, tks⟩ := ty
 obtain ⟨fk, fks⟩ := fr
 obtain ⟨pt, ct, pf, cf, p, c, es, rfl, hk, hnum, hlb, hty, hfr, hsl, hkl⟩ := hr.open9
 refine fn_enter Tryz.func132 rfl Tryz.ntmps132 Tryz.results132 rfl ?_
 intro w0
 refine tS (tR ?_)
 refine sE (step_box_a rfl rfl) rfl (fun b3 => ?_)
 refine sQ (pA rfl) rfl (sD (nS (tS (tS (tR (sQ (pF0 rfl) rfl ?_))))))
 refine sL (lBs rfl rfl) rfl rfl ?_
 refine sD (nS (tri_block (tS (tS (tR (sB (pE rfl rfl) rfl rfl (fun h18 => ?_) (fun h18 => ?_)))))))
 refine sQ (pA rfl) rfl (sD (nS (cT rfl ?_)))
 refine tK (nS (cT rfl ?_))
 refine tS (tR (sQ (pA rfl) rfl (sD (nS (tT (rB ?_))))))
 refine rS (rF1 (rT rfl) ?_)
 (exact ⟨rfl, by rw [e1 (by omega)], rfl⟩)
 refine sQ (pA rfl) rfl (sD (nS (cF rfl ?_)))
 refine tS (tR (sB (pE rfl rfl) rfl rfl (fun h42 => ?_) (fun h42 => ?_)))
 refine sQ (pA rfl) rfl (sD (nS (cT rfl ?_)))
 refine tK (nS (cT rfl ?_))
 refine tS (tR (sQ (pA rfl) rfl (sD (nS (tT (rB ?_))))))
 refine rS (rF1 (rT rfl) ?_)
 (exact ⟨rfl, by rw [e1 (by omega)], rfl⟩)
 refine sQ (pA rfl) rfl (sD (nS (cF rfl ?_)))
 refine tS (tR (sB (pE rfl rfl) rfl rfl (fun h66 => ?_) (fun h66 => ?_)))
 refine sQ (pA rfl) rfl (sD (nS (cT rfl ?_)))
 refine tK (nS (cT rfl ?_))
 refine tS (tR (sQ (pA rfl) rfl (sD (nS (tT (rB ?_))))))
 refine rS (rF1 (rT rfl) ?_)
 (exact ⟨rfl, by rw [e1 (by omega)], rfl⟩)
 refine sQ (pA rfl) rfl (sD (nS (cF rfl ?_)))
 refine tR (sB (pE rfl rfl) rfl rfl (fun h89 => ?_) (fun h89 => ?_))
 refine sQ (pA rfl) rfl (sD (nS (cT rfl ?_)))
 refine tS (tR (sQ (pA rfl) rfl (sD (nS (tT (rB ?_))))))
 refine rS (rF1 (rT rfl) ?_)
 (exact ⟨rfl, by rw [e1 (by omega)], rfl⟩)
 refine sQ (pA rfl) rfl (sD (nS (cF rfl ?_)))
 refine tS (tR (sB (pE rfl rfl) rfl rfl (fun h110 => ?_) (fun h110 => ?_)))
 refine sQ (pA rfl) rfl (sD (nS (cT rfl ?_)))
 refine tS (tR (sQ (pF0 rfl) rfl (sL (lBs rfl rfl) rfl rfl ?_)))
 (have hl2 := h10 (by omega); obtain ⟨bx, ox, e, rfl, hl, hat, hre, hgb⟩ := hsl.kidTm hkl (i := 0) (by omega) (by omega); have hih := ih ks[0] (List.getElem_mem (by omega)) G e (hkk _ (List.getElem_mem (by omega))) hre; obtain ⟨_, _, e', hp', hl', hat', hre', hgb'⟩ := hsl.kidTm hkl (i := 1) (by omega) (by omega); cases hp'; have hih' := ih ks[1] (List.getElem_mem (by omega)) G e' (hkk _ (List.getElem_mem (by omega))) hre'; refine sP (pIN (j := 0) rfl rfl rfl (by omega)) rfl rfl ?_)
 refine sL (load_a rfl rfl (hat _) hl) rfl rfl ?_
 refine seq_valb rfl (hih) rfl rfl (fun h121 => ?_) (fun h121 => ?_)
 refine sQ (pM rfl) rfl (sQ (pF0 rfl) rfl (sL (lBs rfl rfl) rfl rfl ?_))
 refine sP (pIN (j := 1) rfl rfl rfl (by omega)) rfl rfl ?_
 refine sL (load_a rfl rfl (hat' _) hl') rfl rfl ?_
 refine seq_valb rfl (hih') rfl rfl (fun h127 => ?_) (fun h127 => ?_)
 refine sQ (pPt rfl rfl) rfl (sQ (pA rfl) rfl (sD (nS (tT (rB (rS ?_))))))
 refine rF1 (rT rfl) ?_
 (exact ⟨rfl, by rw [e2 (by omega) hl2]; simp [*], rfl⟩)
 refine sQ (pPt rfl rfl) rfl (sQ (pA rfl) rfl (sD (nS (tT (rB (rS ?_))))))
 refine rF1 (rT rfl) ?_
 (exact ⟨rfl, by rw [e2 (by omega) hl2]; simp [*], rfl⟩)
 refine sQ (pM rfl) rfl (sK rfl rfl (sK rfl rfl (sK rfl rfl (sK rfl rfl (sK rfl rfl (sQ (pPf rfl rfl) rfl ?_))))))
 refine sQ (pA rfl) rfl (sD (nS (tT (rB (rS (rF1 (rT rfl) ?_))))))
 (exact ⟨rfl, by rw [e2 (by omega) hl2]; simp [*], rfl⟩)
 refine sQ (pA rfl) rfl (sD (nS (cF rfl ?_)))
 refine tK (nrm_block (nS (tS (tR (sL (lBa rfl rfl) rfl rfl ?_)))))
 refine seq_valb rfl (hP) rfl rfl (fun h171 => ?_) (fun h171 => ?_)
 refine sQ (pM rfl) rfl (sK rfl rfl (sK rfl rfl (sQ (pPt rfl rfl) rfl (sQ (pM rfl) rfl (sQ (pF0 rfl) rfl (sL (lBs rfl rfl) rfl rfl ?_))))))
 (have hl1 := h14 (by first | exact e5 (.inl (by assumption)) | exact e5 (.inr (by assumption))); obtain ⟨bx, ox, e, rfl, hl, hat, hre, hgb⟩ := hsl.kidTm hkl (i := 0) (by omega) (by omega); have hih := ih ks[0] (List.getElem_mem (by omega)) G e (hkk _ (List.getElem_mem (by omega))) hre; refine sP (pIN (j := 0) rfl rfl rfl (by omega)) rfl rfl ?_)
 refine sL (load_a rfl rfl (hat _) hl) rfl rfl ?_
 refine seq_valb rfl (hih) rfl rfl (fun h181 => ?_) (fun h181 => ?_)
 refine sQ (pPt rfl rfl) rfl (sQ (pA rfl) rfl (sD (nS (tT (rF1 (rT rfl) ?_)))))
 (exact ⟨rfl, by rw [e3 (by first | exact .inl (by assumption) | exact .inr (by assumption)) hl1]; simp [*], rfl⟩)
 refine sQ (pPt rfl rfl) rfl (sQ (pA rfl) rfl (sD (nS (tT (rF1 (rT rfl) ?_)))))
 (exact ⟨rfl, by rw [e3 (by first | exact .inl (by assumption) | exact .inr (by assumption)) hl1]; simp [*], rfl⟩)
 refine sQ (pM rfl) rfl (sL (lBa rfl rfl) rfl rfl ?_)
 refine seq_valb rfl (hI) rfl rfl (fun h198 => ?_) (fun h198 => ?_)
 refine sQ (pPf rfl rfl) rfl (sQ (pM rfl) rfl (sQ (pF0 rfl) rfl (sL (lBs rfl rfl) rfl rfl ?_)))
 (have hl1 := h14 (by first | exact e5 (.inl (by assumption)) | exact e5 (.inr (by assumption))); obtain ⟨bx, ox, e, rfl, hl, hat, hre, hgb⟩ := hsl.kidTm hkl (i := 0) (by omega) (by omega); have hih := ih ks[0] (List.getElem_mem (by omega)) G e (hkk _ (List.getElem_mem (by omega))) hre; refine sP (pIN (j := 0) rfl rfl rfl (by omega)) rfl rfl ?_)
 refine sL (load_a rfl rfl (hat _) hl) rfl rfl ?_
 refine seq_valb rfl (hih) rfl rfl (fun h205 => ?_) (fun h205 => ?_)
 refine sQ (pPt rfl rfl) rfl (sQ (pA rfl) rfl (sD (nS (tT (rF1 (rT rfl) ?_)))))
 (exact ⟨rfl, by rw [e3 (by first | exact .inl (by assumption) | exact .inr (by assumption)) hl1]; simp [*], rfl⟩)
 refine sQ (pPt rfl rfl) rfl (sQ (pA rfl) rfl (sD (nS (tT (rF1 (rT rfl) ?_)))))
 (exact ⟨rfl, by rw [e3 (by first | exact .inl (by assumption) | exact .inr (by assumption)) hl1]; simp [*], rfl⟩)
 refine sQ (pPf rfl rfl) rfl (sQ (pM rfl) rfl (sK rfl rfl (sK rfl rfl (sK rfl rfl (sK rfl rfl (sK rfl rfl ?_))))))
 refine sQ (pPf rfl rfl) rfl (sQ (pA rfl) rfl (sD (nS (tT (rF1 (rT rfl) ?_)))))
 (exact ⟨rfl, by rw [e4 (by omega) (by omega) (by assumption) (by assumption)], rfl⟩)
theorem l5Cast_fn (e : Tm) (a b : Ty) (l : Int) (G : IM) (ce ca cb : List Value) (hl : I64 l) (he : RTm G e ce) (ha : RTy G a ca) (hb : RTy G b cb) (hsa : a.small) (hsb : b.small) : Fn Tryz.prog 176 [.agg ⟨ce⟩, .agg ⟨ca⟩, .agg ⟨cb⟩, .int .i64 l] [] G (TmP (mCst e a b l)) := by
 have hel := he.len
 have heo := he.one
 obtain ⟨v1, v2, v3, v4, v5, v6, v7, v8, v9, rfl⟩ := nine hel
 obtain ⟨ak, aks⟩ := a
 obtain ⟨bk, bks⟩ := b
 obtain ⟨pa, cca, ea, rfl, _⟩ := ha.open
 obtain ⟨pb, ccb, eb, rfl, _⟩ := hb.open
 refine fn_enter Tryz.func176 rfl Tryz.ntmps176 Tryz.results176 rfl ?_
 intro w0
 refine tS (tR ?_)
 refine sE (step_box_a rfl rfl) rfl (fun b3 => ?_)
 refine sE (step_box_a rfl rfl) rfl (fun b4 => ?_)
 refine sE (step_box_a rfl rfl) rfl (fun b5 => ?_)
 refine sE (step_alloc rfl) rfl (fun b6 => ?_)
 refine sD (nS (tS (tri_draw mixed rfl ?_)))
 refine any_load (i := 0) (l' := [tt,ff,ff,ff,ff,ff,ff,ff,ff]) rfl npI (lBa rfl rfl) rfl (by kernel_rfl) rfl rfl ?_
 refine aL 2 rfl (lBa rfl rfl) rfl ?_
 refine aP 4 rfl (pM rfl) rfl ?_
 refine aL 5 rfl (lBa rfl rfl) rfl ?_
 refine any_two (j := 1) (j' := 6) (by kernel_rfl) ?_ ?_
 (refine one_imm rfl rfl (l1Copy_fn (.mk ak aks) _ _ hsa ha) rfl rfl rfl (fun v G1 hle1 hh => ?_); obtain ⟨cs1, F1, rfl, hs1, hn1⟩ := hh; obtain ⟨p1, c1, rfl, _⟩ := hs1.open; have hC2 := l1Copy_fn _ G1 _ hsb (hb.mono hle1))
 refine any_two (j := 3) (j' := 6) (by kernel_rfl) ?_ ?_
 (refine one_imm rfl rfl hC2 rfl rfl rfl (fun v G2 hle2 hh => ?_); obtain ⟨cs2, F2, rfl, hs2, hn2⟩ := hh; obtain ⟨p2, c2, rfl, _⟩ := hs2.open; have hr1 := hs1.R.mono ((Dif.le G1 _).trans hle2); have hr2 := hs2.R.mono (Dif.le G2 G1); have hre := he.mono (hle1.trans hle2))
 refine aO' 6 ?_
 (refine one_step0 rfl (step_buildSlice rfl rfl rfl (by omega) (by unfold maxLen; omega) rfl) rfl rfl ?_; rintro _ ⟨b20, rfl⟩)
 refine aP 7 rfl (pBd rfl rfl) rfl ?_
 refine aO' 8 ?_
 refine oT' rfl ?_
 refine aD' ?_
 refine nS ?_
 (refine ret_freeze (cs := [v1, v2, v3, v4, v5, v6, v7, v8, v9]) (by repeat (first | exact Pk.here | apply Pk.there)) (fun G5 hle5 hsl5 hno5 => ?_); obtain ⟨hone1, hone2⟩ := tm_one (hre.mono hle5) hsl5)
 refine tT (rF1 (rC rfl (lBa rfl rfl)) ?_)
 (exact TmP.mk (RTm.of9 (ks := [e]) ⟨by omega, by omega⟩ ⟨by omega, by omega⟩ hl (hr2.mono hle5) (hr1.mono hle5) hone1 hone2))
 (refine one_step0 rfl (step_buildSlice rfl rfl rfl (by omega) (by unfold maxLen; omega) rfl) rfl rfl ?_; rintro _ ⟨b30, rfl⟩)
 refine aO' 3 ?_
 (refine one_imm rfl rfl hC2 rfl rfl rfl (fun v G2 hle2 hh => ?_); obtain ⟨cs2, F2, rfl, hs2, hn2⟩ := hh; obtain ⟨p2, c2, rfl, _⟩ := hs2.open; have hr1 := hs1.R.mono ((Dif.le G1 _).trans hle2); have hr2 := hs2.R.mono (Dif.le G2 G1); have hre := he.mono (hle1.trans hle2))
 refine aP 7 rfl (pBd rfl rfl) rfl ?_
 refine aO' 8 ?_
 refine oT' rfl ?_
 refine aD' ?_
 refine nS ?_
 (refine ret_freeze (cs := [v1, v2, v3, v4, v5, v6, v7, v8, v9]) (by repeat (first | exact Pk.here | apply Pk.there)) (fun G5 hle5 hsl5 hno5 => ?_); obtain ⟨hone1, hone2⟩ := tm_one (hre.mono hle5) hsl5)
 refine tT (rF1 (rC rfl (lBa rfl rfl)) ?_)
 (exact TmP.mk (RTm.of9 (ks := [e]) ⟨by omega, by omega⟩ ⟨by omega, by omega⟩ hl (hr2.mono hle5) (hr1.mono hle5) hone1 hone2))
 (refine one_step0 rfl (step_buildSlice rfl rfl rfl (by omega) (by unfold maxLen; omega) rfl) rfl rfl ?_; rintro _ ⟨b42, rfl⟩)
 refine aO' 1 ?_
 (refine one_imm rfl rfl (l1Copy_fn (.mk ak aks) _ _ hsa ha) rfl rfl rfl (fun v G1 hle1 hh => ?_); obtain ⟨cs1, F1, rfl, hs1, hn1⟩ := hh; obtain ⟨p1, c1, rfl, _⟩ := hs1.open; have hC2 := l1Copy_fn _ G1 _ hsb (hb.mono hle1))
 refine aO' 3 ?_
 (refine one_imm rfl rfl hC2 rfl rfl rfl (fun v G2 hle2 hh => ?_); obtain ⟨cs2, F2, rfl, hs2, hn2⟩ := hh; obtain ⟨p2, c2, rfl, _⟩ := hs2.open; have hr1 := hs1.R.mono ((Dif.le G1 _).trans hle2); have hr2 := hs2.R.mono (Dif.le G2 G1); have hre := he.mono (hle1.trans hle2))
 refine aP 7 rfl (pBd rfl rfl) rfl ?_
 refine aO' 8 ?_
 refine oT' rfl ?_
 refine aD' ?_
 refine nS ?_
 (refine ret_freeze (cs := [v1, v2, v3, v4, v5, v6, v7, v8, v9]) (by repeat (first | exact Pk.here | apply Pk.there)) (fun G5 hle5 hsl5 hno5 => ?_); obtain ⟨hone1, hone2⟩ := tm_one (hre.mono hle5) hsl5)
 refine tT (rF1 (rC rfl (lBa rfl rfl)) ?_)
 (exact TmP.mk (RTm.of9 (ks := [e]) ⟨by omega, by omega⟩ ⟨by omega, by omega⟩ hl (hr2.mono hle5) (hr1.mono hle5) hone1 hone2))
theorem l5BoolT_fn (G : IM) : Fn Tryz.prog 179 [.bool true] [] G (TmP (mTru (true = true))) := by
 refine fn_enter Tryz.func179 rfl Tryz.ntmps179 Tryz.results179 rfl ?_
 intro w0
 refine tS (tR ?_)
 refine sE (step_alloc rfl) rfl (fun b3 => ?_)
 refine sD (nS (tS (tS (tR (sQ (pM rfl) rfl (sD ?_))))))
 refine nS (cT rfl ?_)
 refine tS (tR (sQ (pBd rfl rfl) rfl (sS' ?_)))
 refine sD (nS (tT (rS (rF1 (rC rfl (lBa rfl rfl)) ?_))))
 (exact TmP.mk (rtm_leaf _ ⟨by decide, by decide⟩))
theorem l5BoolF_fn (G : IM) : Fn Tryz.prog 179 [.bool false] [] G (TmP (mTru (false = true))) := by
 refine fn_enter Tryz.func179 rfl Tryz.ntmps179 Tryz.results179 rfl ?_
 intro w0
 refine tS (tR ?_)
 refine sE (step_alloc rfl) rfl (fun b3 => ?_)
 refine sD (nS (tS (tS (tR (sQ (pM rfl) rfl (sD ?_))))))
 refine nS (cF rfl ?_)
 refine tK (nS (tS (tR (sQ (pBd rfl rfl) rfl (sS' ?_)))))
 refine sD (nS (tT (rF1 (rC rfl (lBa rfl rfl)) ?_)))
 (exact TmP.mk (rtm_leaf _ ⟨by decide, by decide⟩))
theorem l5Bool_fn (b : Bool) (G : IM) : Fn Tryz.prog 179 [.bool b] [] G (TmP (mTru (b = true))) := by
 cases b
 ·exact l5BoolF_fn G
 ·exact l5BoolT_fn G
theorem l2Subst_fn (y : ByteArray) (v : Tm) (vc : List Value) (hvs : v.small) : ∀ (t : Tm) (G : IM) (cells : List Value), t.small → RTm G t cells → RTm G v vc → Fn Tryz.prog 175 [.agg ⟨cells⟩, .string y, .agg ⟨vc⟩] [] G (TmP (mSubst y v t)) := by
 refine Tm.ind fun k nm num ty fr lb ks ih G cells hts hr hv => ?_
 have hr0 := hr
 have hts0 := hts
 obtain ⟨_, htsm, hfsm, hsm, hks⟩ := small_mk.1 hts
 have hvl := hv.len
 have hvo := hv.one
 have hRl := hr.len
 have hRo := hr.one
 rw [mSubst]
 have hCv := l2Copy_fn v G vc hvs hv
 have hCt := l2Copy_fn _ G cells hts0 hr0
 obtain ⟨tk, tks⟩ := ty
 obtain ⟨fk, fks⟩ := fr
 obtain ⟨pt, ct, pf, cf, p, c, es, rfl, hk, hnum, hlb, hty, hfr, hsl, hkl⟩ := hr.open9
 have hn := hsl.le
 refine fn_enter Tryz.func175 rfl Tryz.ntmps175 Tryz.results175 rfl ?_
 intro w0
 refine tS (tR ?_)
 refine sE (step_box_a rfl rfl) rfl (fun b3 => ?_)
 refine sE (step_box_a rfl rfl) rfl (fun b4 => ?_)
 refine sE (step_alloc rfl) rfl (fun b5 => ?_)
 refine sD (nS (tS (tS (tR (sQ (pF0 rfl) rfl (sL (lBs rfl rfl) rfl rfl ?_))))))
 refine sB (pE rfl rfl) rfl rfl (fun h13 => ?_) (fun h13 => ?_)
 refine sQ (pM rfl) rfl (sQ (pF0 rfl) rfl (sL (lBs rfl rfl) rfl rfl ?_))
 refine sQ (pM rfl) rfl (sB (pure_seql rfl rfl) rfl rfl (fun h18 => ?_) (fun h18 => ?_))
 refine sQ (pPt rfl rfl) rfl (sD (nS (cT rfl ?_)))
 refine tS (tR (sL (load_a rfl rfl (at_blk_all (by repeat first | exact mH | apply mT)) hvl) rfl rfl ?_))
 (refine seq_imm rfl hCv rfl rfl (fun v9 G1 hle1 hh => ?_); obtain ⟨uc, F1, rfl, hs1, hn1⟩ := hh; have hru := hs1.R.mono (Dif.le G1 G); have hul := hru.len; have huo := hru.one)
 refine sS rfl rfl rfl hul huo rfl ?_ (hu := by exact upd_all hul.symm)
 refine sD (nS (tT (rS (rF1 (rC rfl (load_a rfl rfl (at_blk_all (by repeat first | exact mH | apply mT)) hul)) ?_))))
 (rw [if_pos (by refine ⟨by omega, by assumption⟩)]; exact TmP.mk hru)
 refine sQ (pPt rfl rfl) rfl (sD (nS (cF rfl ?_)))
 refine tK (nS (tS (tS (tR (sQ (pF0 rfl) rfl (sL (lBs rfl rfl) rfl rfl ?_))))))
 refine sP (pure_eql_f rfl rfl (by omega)) rfl rfl ?_
 refine sQ (pM rfl) rfl (sK rfl rfl (sK rfl rfl (sK rfl rfl (sK rfl rfl (sQ (pPf rfl rfl) rfl (sD ?_))))))
 refine nS (cF rfl ?_)
 refine tK (nS (tS (tR (sL (lBa rfl rfl) rfl rfl ?_))))
 refine sE (step_alloc rfl) rfl (fun b60 => ?_)
 refine sS' ?_
 refine sD (nS (tS (tR (sQ (pF0 rfl) rfl (sL (lBa rfl rfl) rfl rfl ?_)))))
 (refine seq_imm rfl (l1Copy_fn (.mk tk tks) _ _ htsm hty) rfl rfl (fun v9 G1 hle1 hh => ?_); obtain ⟨cs1, F1, rfl, hs1, hn1⟩ := hh; obtain ⟨q1, c1, rfl, _⟩ := hs1.open; have hC2 := l1Copy_fn (.mk fk fks) G1 _ hfsm (hfr.mono hle1))
 refine sQ (pF0 rfl) rfl (sS' ?_)
 refine sD (nS (tS (tR (sQ (pF0 rfl) rfl (sL (lBa rfl rfl) rfl rfl ?_)))))
 (refine seq_imm rfl hC2 rfl rfl (fun v9 G2 hle2 hh => ?_); obtain ⟨cs2, F2, rfl, hs2, hn2⟩ := hh; obtain ⟨q2, c2, rfl, _⟩ := hs2.open; have hty1 := hs1.R.mono ((Dif.le G1 _).trans hle2); have hfr1 := hs2.R.mono (Dif.le G2 G1); have hle12 := hle1.trans hle2; replace hsl := hsl.mono hle12; replace hkl := hkl.mono hle12; replace hv := hv.mono hle12)
 refine sQ (pF0 rfl) rfl (sS' ?_)
 refine sD (nS (tS (tR (sQ (pF0 rfl) rfl (sS' ?_)))))
 refine sD (nS (tS (tS (tR (sQ (pA rfl) rfl (sD ?_))))))
 refine nS (tri_block ?_)
 (refine tri_nil 35 9 ?_; refine tri_loopN (fun (x : Nat × Option Addr × Nat × List (List Value) × IM) => ⟨[(8, .int .i64 x.1), (1, .string y), (3, .pointer (some ⟨b3, 0, none⟩)), (5, .pointer (some ⟨b4, 0, none⟩)), (6, .pointer (some ⟨b5, 0, none⟩)), (7, .pointer (some ⟨b60, 0, none⟩))], [.blk b60 [.int .i64 k, .string nm, .int .i64 num, .int .i64 tk, .slice q1 tks.length c1, .int .i64 fk, .slice q2 fks.length c2, .int .i64 lb, .slice x.2.1 x.1 x.2.2.1], .slc x.2.1 x.2.2.1 35 9 x.1 x.2.2.2.1.flatten, .blk b5 [.int .i64 0, .string ⟨⟨[]⟩⟩, .int .i64 0, .int .i64 0, .slice none 0 0, .int .i64 0, .slice none 0 0, .int .i64 0, .slice none 0 0], .blk b4 vc, .blk b3 [.int .i64 k, .string nm, .int .i64 num, .int .i64 tk, .slice pt tks.length ct, .int .i64 fk, .slice pf fks.length cf, .int .i64 lb, .slice p ks.length c]], x.2.2.2.2⟩) (fun x => x.1 ≤ ks.length ∧ IMle G2 x.2.2.2.2 ∧ RTmL x.2.2.2.2 ((mSubstL y v ks).take x.1) x.2.2.2.1) (fun x => ks.length - x.1) (0, none, 0, [], G2) ?_ ?_ ?_)
 (simp only [flat_snoc]; exact sMk)
 (exact ⟨Nat.zero_le _, IMle.refl _, by simp [RTmL]⟩)
 (rintro ⟨i, pn, cn, es', Gi⟩ ⟨hi, hle, hst⟩; simp only [] at hi hle hst ⊢; replace hsl := hsl.mono hle; replace hkl := hkl.mono hle; replace hv := hv.mono hle; replace hty1 := hty1.mono hle; replace hfr1 := hfr1.mono hle; have hsl' := hst.len; rw [List.length_take, substL_len] at hsl')
 refine tS (tS (tR (sQ (pM rfl) rfl (sQ (pF0 rfl) rfl (sL (lBs rfl rfl) rfl rfl ?_)))))
 refine sQ (pLn rfl rfl) rfl (sB (pure_lss rfl rfl) rfl rfl (fun h106 => ?_) (fun h106 => ?_))
 refine sD (nS (cT rfl ?_))
 refine tK (nS (tS (tri_block ?_)))
 (have hil : i < ks.length := (by omega); obtain ⟨bx, ox, e, rfl, hl, hat, hre, hgb⟩ := hsl.kidTm hkl (i := i) (by omega) (by omega); have hel := hre.len; have heo := hre.one; refine tri_draw mixed rfl ?_)
 refine any_load (i := 8) (l' := [ff,ff,ff,ff,ff,ff,ff,ff,tt,ff,ff,ff,ff,ff]) rfl npI (load_a rfl rfl (at_blk_all (by repeat first | exact mH | apply mT)) hvl) rfl (by kernel_rfl) rfl rfl ?_
 refine aP 0 rfl (pF0 rfl) rfl ?_
 refine aL 1 rfl (lBs rfl rfl) rfl ?_
 refine aP 2 rfl (pF0 rfl) rfl ?_
 refine aL 3 rfl (lBs rfl rfl) rfl ?_
 refine aP 4 rfl (pM rfl) rfl ?_
 refine aP 5 rfl (pIN (j := i) rfl rfl rfl (by omega)) rfl ?_
 refine aL 6 rfl (load_a rfl rfl (hat _) hl) rfl ?_
 refine aP 7 rfl (pM rfl) rfl ?_
 refine aO' 9 ?_
 (refine one_imm rfl rfl (ih ks[i] (List.getElem_mem (by omega)) Gi _ (Tm.smallL_mem hks _ (List.getElem_mem (by omega))) hre hv) rfl rfl rfl (fun u G3 hle3 hh => ?_); obtain ⟨uc, rfl, hru⟩ := hh; have hul := hru.len; have huo := hru.one; obtain ⟨v1, v2, v3, v4, v5, v6, v7, v8, v9, rfl⟩ := nine hul)
 refine aO' 10 ?_
 (refine one_step0 rfl (step_buildSlice rfl rfl rfl (by omega) (by unfold maxLen; omega) rfl) rfl rfl ?_; rintro _ ⟨b127, rfl⟩)
 refine aO' 11 ?_
 (refine one_append rfl rfl rfl rfl rfl rfl (fun _ _ => by repeat (first | exact Sw.here | apply Sw.there)) (at_slc_all (by repeat first | exact mH | apply mT)) rfl (fun u hu => List.all_eq_true.1 huo u hu) (by unfold maxLen; omega) (by omega) rfl rfl (by repeat (first | exact HmOk.nil | apply HmOk.dep (by decide +kernel) | apply HmOk.im (by decide +kernel) (by assumption) (by repeat first | exact mH | apply mT) | apply HmOk.blk (by decide +kernel) (by repeat (first | exact Pk.here | apply Pk.there)) (by repeat first | exact mH | apply mT) | apply HmOk.slc (by decide +kernel) (by repeat (first | exact Pk.here | apply Pk.there)) (by repeat first | exact mH | apply mT))) (fun p7 c7 => ?_))
 refine aP 12 rfl (pF0 rfl) rfl ?_
 refine aO' 13 ?_
 refine one_store rfl rfl rfl rfl rfl rfl rfl rfl (by decide +kernel) (by repeat first | exact Sw.here | apply Sw.there) (by rfl) ?_
 refine aD' ?_
 refine nrm_block (nS (tR (sQ (pM rfl) rfl (sP (pure_add rfl rfl (by omega) (by omega)) rfl rfl ?_))))
 refine sQ (pA rfl) rfl (sD (nrm_loopN (i + 1, p7, c7, es' ++ [[v1, v2, v3, v4, v5, v6, v7, v8, v9]], G3) ?_ ?_ ?_))
 (simp only [flat_snoc]; exact sMk)
 (dsimp only; exact ⟨by omega, hle.trans hle3, by rw [substL_take (by omega)]; exact RTmL.snoc (hst.mono hle3) hru⟩)
 (show ks.length - (i + 1) < ks.length - i; omega)
 refine sD (nS (cF rfl ?_))
 refine tri_exit ?_
 refine ext_seq ?_
 refine ext_loopN ?_
 refine ext_block_eq ?_
 refine nS (tS (tR (sL (lBa rfl rfl) rfl rfl ?_)))
 refine sS' ?_
 refine sD (nS ?_)
 (refine ret_freeze (cs := es'.flatten) (by repeat (first | exact Pk.here | apply Pk.there)) (fun G4 hle4 hsl4 hno4 => ?_); obtain rfl : i = ks.length := (by omega))
 refine tT (rF1 (rC rfl (lBa rfl rfl)) ?_)
 (rw [if_neg (by rintro ⟨h1, h2⟩; first | omega | contradiction), if_neg (by rintro ⟨h1, h2⟩; first | omega | contradiction)]; rw [List.take_of_length_le (by rw [substL_len]; omega)] at hst; exact TmP.mk (RTm.put hk hnum hlb (hty1.mono hle4) (hfr1.mono hle4) (by rw [substL_len]) (SlE.of hsl4 (by omega) hst.all (fun e he => (hst.each e he).2)) (hst.mono hle4)))
 refine sQ (pM rfl) rfl (sK rfl rfl (sK rfl rfl (sK rfl rfl (sK rfl rfl (sQ (pPf rfl rfl) rfl (sD ?_))))))
 refine nS (cF rfl ?_)
 refine tK (nS (tS (tS (tR (sQ (pF0 rfl) rfl (sL (lBs rfl rfl) rfl rfl ?_))))))
 refine sB (pE rfl rfl) rfl rfl (fun h179 => ?_) (fun h179 => ?_)
 refine sQ (pM rfl) rfl (sQ (pF0 rfl) rfl (sL (lBs rfl rfl) rfl rfl ?_))
 refine sQ (pM rfl) rfl (sB (pure_seql rfl rfl) rfl rfl (fun h184 => ?_) (fun h184 => ?_))
 refine sQ (pPt rfl rfl) rfl (sD (nS (cT rfl ?_)))
 refine tS (tR (sL (lBa rfl rfl) rfl rfl ?_))
 (refine seq_imm rfl hCt rfl rfl (fun v9 G1 hle1 hh => ?_); obtain ⟨uc, F1, rfl, hs1, hn1⟩ := hh; have hru := hs1.R.mono (Dif.le G1 G); have hul := hru.len; have huo := hru.one)
 refine sS rfl rfl rfl hul huo rfl ?_ (hu := by exact upd_all hul.symm)
 refine sD (nS (tT (rS (rF1 (rC rfl (load_a rfl rfl (at_blk_all (by repeat first | exact mH | apply mT)) hul)) ?_))))
 (rw [if_neg (by rintro ⟨h1, h2⟩; first | omega | contradiction), if_pos (by refine ⟨by omega, by assumption⟩)]; exact TmP.mk hru)
 refine sQ (pPt rfl rfl) rfl (sD (nS (cF rfl ?_)))
 refine tK (nS (tS (tR (sL (lBa rfl rfl) rfl rfl ?_))))
 refine sE (step_alloc rfl) rfl (fun b209 => ?_)
 refine sS' ?_
 refine sD (nS (tS (tR (sQ (pF0 rfl) rfl (sL (lBa rfl rfl) rfl rfl ?_)))))
 (refine seq_imm rfl (l1Copy_fn (.mk tk tks) _ _ htsm hty) rfl rfl (fun v9 G1 hle1 hh => ?_); obtain ⟨cs1, F1, rfl, hs1, hn1⟩ := hh; obtain ⟨q1, c1, rfl, _⟩ := hs1.open; have hC2 := l1Copy_fn (.mk fk fks) G1 _ hfsm (hfr.mono hle1))
 refine sQ (pF0 rfl) rfl (sS' ?_)
 refine sD (nS (tS (tR (sQ (pF0 rfl) rfl (sL (lBa rfl rfl) rfl rfl ?_)))))
 (refine seq_imm rfl hC2 rfl rfl (fun v9 G2 hle2 hh => ?_); obtain ⟨cs2, F2, rfl, hs2, hn2⟩ := hh; obtain ⟨q2, c2, rfl, _⟩ := hs2.open; have hty1 := hs1.R.mono ((Dif.le G1 _).trans hle2); have hfr1 := hs2.R.mono (Dif.le G2 G1); have hle12 := hle1.trans hle2; replace hsl := hsl.mono hle12; replace hkl := hkl.mono hle12; replace hv := hv.mono hle12)
 refine sQ (pF0 rfl) rfl (sS' ?_)
 refine sD (nS (tS (tR (sQ (pF0 rfl) rfl (sS' ?_)))))
 refine sD (nS (tS (tS (tR (sQ (pA rfl) rfl (sD ?_))))))
 refine nS (tri_block ?_)
 (refine tri_nil 35 9 ?_; refine tri_loopN (fun (x : Nat × Option Addr × Nat × List (List Value) × IM) => ⟨[(8, .int .i64 x.1), (1, .string y), (3, .pointer (some ⟨b3, 0, none⟩)), (5, .pointer (some ⟨b4, 0, none⟩)), (6, .pointer (some ⟨b5, 0, none⟩)), (7, .pointer (some ⟨b209, 0, none⟩))], [.blk b209 [.int .i64 k, .string nm, .int .i64 num, .int .i64 tk, .slice q1 tks.length c1, .int .i64 fk, .slice q2 fks.length c2, .int .i64 lb, .slice x.2.1 x.1 x.2.2.1], .slc x.2.1 x.2.2.1 35 9 x.1 x.2.2.2.1.flatten, .blk b5 [.int .i64 0, .string ⟨⟨[]⟩⟩, .int .i64 0, .int .i64 0, .slice none 0 0, .int .i64 0, .slice none 0 0, .int .i64 0, .slice none 0 0], .blk b4 vc, .blk b3 [.int .i64 k, .string nm, .int .i64 num, .int .i64 tk, .slice pt tks.length ct, .int .i64 fk, .slice pf fks.length cf, .int .i64 lb, .slice p ks.length c]], x.2.2.2.2⟩) (fun x => x.1 ≤ ks.length ∧ IMle G2 x.2.2.2.2 ∧ RTmL x.2.2.2.2 ((mSubstL y v ks).take x.1) x.2.2.2.1) (fun x => ks.length - x.1) (0, none, 0, [], G2) ?_ ?_ ?_)
 (simp only [flat_snoc]; exact sMk)
 (exact ⟨Nat.zero_le _, IMle.refl _, by simp [RTmL]⟩)
 (rintro ⟨i, pn, cn, es', Gi⟩ ⟨hi, hle, hst⟩; simp only [] at hi hle hst ⊢; replace hsl := hsl.mono hle; replace hkl := hkl.mono hle; replace hv := hv.mono hle; replace hty1 := hty1.mono hle; replace hfr1 := hfr1.mono hle; have hsl' := hst.len; rw [List.length_take, substL_len] at hsl')
 refine tS (tS (tR (sQ (pM rfl) rfl (sQ (pF0 rfl) rfl (sL (lBs rfl rfl) rfl rfl ?_)))))
 refine sQ (pLn rfl rfl) rfl (sB (pure_lss rfl rfl) rfl rfl (fun h255 => ?_) (fun h255 => ?_))
 refine sD (nS (cT rfl ?_))
 refine tK (nS (tS (tri_block ?_)))
 (have hil : i < ks.length := (by omega); obtain ⟨bx, ox, e, rfl, hl, hat, hre, hgb⟩ := hsl.kidTm hkl (i := i) (by omega) (by omega); have hel := hre.len; have heo := hre.one; refine tri_draw mixed rfl ?_)
 refine any_load (i := 8) (l' := [ff,ff,ff,ff,ff,ff,ff,ff,tt,ff,ff,ff,ff,ff]) rfl npI (load_a rfl rfl (at_blk_all (by repeat first | exact mH | apply mT)) hvl) rfl (by kernel_rfl) rfl rfl ?_
 refine aP 0 rfl (pF0 rfl) rfl ?_
 refine aL 1 rfl (lBs rfl rfl) rfl ?_
 refine aP 2 rfl (pF0 rfl) rfl ?_
 refine aL 3 rfl (lBs rfl rfl) rfl ?_
 refine aP 4 rfl (pM rfl) rfl ?_
 refine aP 5 rfl (pIN (j := i) rfl rfl rfl (by omega)) rfl ?_
 refine aL 6 rfl (load_a rfl rfl (hat _) hl) rfl ?_
 refine aP 7 rfl (pM rfl) rfl ?_
 refine aO' 9 ?_
 (refine one_imm rfl rfl (ih ks[i] (List.getElem_mem (by omega)) Gi _ (Tm.smallL_mem hks _ (List.getElem_mem (by omega))) hre hv) rfl rfl rfl (fun u G3 hle3 hh => ?_); obtain ⟨uc, rfl, hru⟩ := hh; have hul := hru.len; have huo := hru.one; obtain ⟨v1, v2, v3, v4, v5, v6, v7, v8, v9, rfl⟩ := nine hul)
 refine aO' 10 ?_
 (refine one_step0 rfl (step_buildSlice rfl rfl rfl (by omega) (by unfold maxLen; omega) rfl) rfl rfl ?_; rintro _ ⟨b276, rfl⟩)
 refine aO' 11 ?_
 (refine one_append rfl rfl rfl rfl rfl rfl (fun _ _ => by repeat (first | exact Sw.here | apply Sw.there)) (at_slc_all (by repeat first | exact mH | apply mT)) rfl (fun u hu => List.all_eq_true.1 huo u hu) (by unfold maxLen; omega) (by omega) rfl rfl (by repeat (first | exact HmOk.nil | apply HmOk.dep (by decide +kernel) | apply HmOk.im (by decide +kernel) (by assumption) (by repeat first | exact mH | apply mT) | apply HmOk.blk (by decide +kernel) (by repeat (first | exact Pk.here | apply Pk.there)) (by repeat first | exact mH | apply mT) | apply HmOk.slc (by decide +kernel) (by repeat (first | exact Pk.here | apply Pk.there)) (by repeat first | exact mH | apply mT))) (fun p7 c7 => ?_))
 refine aP 12 rfl (pF0 rfl) rfl ?_
 refine aO' 13 ?_
 refine one_store rfl rfl rfl rfl rfl rfl rfl rfl (by decide +kernel) (by repeat first | exact Sw.here | apply Sw.there) (by rfl) ?_
 refine aD' ?_
 refine nrm_block (nS (tR (sQ (pM rfl) rfl (sP (pure_add rfl rfl (by omega) (by omega)) rfl rfl ?_))))
 refine sQ (pA rfl) rfl (sD (nrm_loopN (i + 1, p7, c7, es' ++ [[v1, v2, v3, v4, v5, v6, v7, v8, v9]], G3) ?_ ?_ ?_))
 (simp only [flat_snoc]; exact sMk)
 (dsimp only; exact ⟨by omega, hle.trans hle3, by rw [substL_take (by omega)]; exact RTmL.snoc (hst.mono hle3) hru⟩)
 (show ks.length - (i + 1) < ks.length - i; omega)
 refine sD (nS (cF rfl ?_))
 refine tri_exit ?_
 refine ext_seq ?_
 refine ext_loopN ?_
 refine ext_block_eq ?_
 refine nS (tS (tR (sL (lBa rfl rfl) rfl rfl ?_)))
 refine sS' ?_
 refine sD (nS ?_)
 (refine ret_freeze (cs := es'.flatten) (by repeat (first | exact Pk.here | apply Pk.there)) (fun G4 hle4 hsl4 hno4 => ?_); obtain rfl : i = ks.length := (by omega))
 refine tT (rF1 (rC rfl (lBa rfl rfl)) ?_)
 (rw [if_neg (by rintro ⟨h1, h2⟩; first | omega | contradiction), if_neg (by rintro ⟨h1, h2⟩; first | omega | contradiction)]; rw [List.take_of_length_le (by rw [substL_len]; omega)] at hst; exact TmP.mk (RTm.put hk hnum hlb (hty1.mono hle4) (hfr1.mono hle4) (by rw [substL_len]) (SlE.of hsl4 (by omega) hst.all (fun e he => (hst.each e he).2)) (hst.mono hle4)))
 refine sQ (pM rfl) rfl (sK rfl rfl (sK rfl rfl (sK rfl rfl (sK rfl rfl (sQ (pPf rfl rfl) rfl (sD ?_))))))
 refine nS (cF rfl ?_)
 refine tK (nS (tS (tR (sL (lBa rfl rfl) rfl rfl ?_))))
 refine sE (step_alloc rfl) rfl (fun b326 => ?_)
 refine sS' ?_
 refine sD (nS (tS (tR (sQ (pF0 rfl) rfl (sL (lBa rfl rfl) rfl rfl ?_)))))
 (refine seq_imm rfl (l1Copy_fn (.mk tk tks) _ _ htsm hty) rfl rfl (fun v9 G1 hle1 hh => ?_); obtain ⟨cs1, F1, rfl, hs1, hn1⟩ := hh; obtain ⟨q1, c1, rfl, _⟩ := hs1.open; have hC2 := l1Copy_fn (.mk fk fks) G1 _ hfsm (hfr.mono hle1))
 refine sQ (pF0 rfl) rfl (sS' ?_)
 refine sD (nS (tS (tR (sQ (pF0 rfl) rfl (sL (lBa rfl rfl) rfl rfl ?_)))))
 (refine seq_imm rfl hC2 rfl rfl (fun v9 G2 hle2 hh => ?_); obtain ⟨cs2, F2, rfl, hs2, hn2⟩ := hh; obtain ⟨q2, c2, rfl, _⟩ := hs2.open; have hty1 := hs1.R.mono ((Dif.le G1 _).trans hle2); have hfr1 := hs2.R.mono (Dif.le G2 G1); have hle12 := hle1.trans hle2; replace hsl := hsl.mono hle12; replace hkl := hkl.mono hle12; replace hv := hv.mono hle12)
 refine sQ (pF0 rfl) rfl (sS' ?_)
 refine sD (nS (tS (tR (sQ (pF0 rfl) rfl (sS' ?_)))))
 refine sD (nS (tS (tS (tR (sQ (pA rfl) rfl (sD ?_))))))
 refine nS (tri_block ?_)
 (refine tri_nil 35 9 ?_; refine tri_loopN (fun (x : Nat × Option Addr × Nat × List (List Value) × IM) => ⟨[(8, .int .i64 x.1), (1, .string y), (3, .pointer (some ⟨b3, 0, none⟩)), (5, .pointer (some ⟨b4, 0, none⟩)), (6, .pointer (some ⟨b5, 0, none⟩)), (7, .pointer (some ⟨b326, 0, none⟩))], [.blk b326 [.int .i64 k, .string nm, .int .i64 num, .int .i64 tk, .slice q1 tks.length c1, .int .i64 fk, .slice q2 fks.length c2, .int .i64 lb, .slice x.2.1 x.1 x.2.2.1], .slc x.2.1 x.2.2.1 35 9 x.1 x.2.2.2.1.flatten, .blk b5 [.int .i64 0, .string ⟨⟨[]⟩⟩, .int .i64 0, .int .i64 0, .slice none 0 0, .int .i64 0, .slice none 0 0, .int .i64 0, .slice none 0 0], .blk b4 vc, .blk b3 [.int .i64 k, .string nm, .int .i64 num, .int .i64 tk, .slice pt tks.length ct, .int .i64 fk, .slice pf fks.length cf, .int .i64 lb, .slice p ks.length c]], x.2.2.2.2⟩) (fun x => x.1 ≤ ks.length ∧ IMle G2 x.2.2.2.2 ∧ RTmL x.2.2.2.2 ((mSubstL y v ks).take x.1) x.2.2.2.1) (fun x => ks.length - x.1) (0, none, 0, [], G2) ?_ ?_ ?_)
 (simp only [flat_snoc]; exact sMk)
 (exact ⟨Nat.zero_le _, IMle.refl _, by simp [RTmL]⟩)
 (rintro ⟨i, pn, cn, es', Gi⟩ ⟨hi, hle, hst⟩; simp only [] at hi hle hst ⊢; replace hsl := hsl.mono hle; replace hkl := hkl.mono hle; replace hv := hv.mono hle; replace hty1 := hty1.mono hle; replace hfr1 := hfr1.mono hle; have hsl' := hst.len; rw [List.length_take, substL_len] at hsl')
 refine tS (tS (tR (sQ (pM rfl) rfl (sQ (pF0 rfl) rfl (sL (lBs rfl rfl) rfl rfl ?_)))))
 refine sQ (pLn rfl rfl) rfl (sB (pure_lss rfl rfl) rfl rfl (fun h372 => ?_) (fun h372 => ?_))
 refine sD (nS (cT rfl ?_))
 refine tK (nS (tS (tri_block ?_)))
 (have hil : i < ks.length := (by omega); obtain ⟨bx, ox, e, rfl, hl, hat, hre, hgb⟩ := hsl.kidTm hkl (i := i) (by omega) (by omega); have hel := hre.len; have heo := hre.one; refine tri_draw mixed rfl ?_)
 refine any_load (i := 8) (l' := [ff,ff,ff,ff,ff,ff,ff,ff,tt,ff,ff,ff,ff,ff]) rfl npI (load_a rfl rfl (at_blk_all (by repeat first | exact mH | apply mT)) hvl) rfl (by kernel_rfl) rfl rfl ?_
 refine aP 0 rfl (pF0 rfl) rfl ?_
 refine aL 1 rfl (lBs rfl rfl) rfl ?_
 refine aP 2 rfl (pF0 rfl) rfl ?_
 refine aL 3 rfl (lBs rfl rfl) rfl ?_
 refine aP 4 rfl (pM rfl) rfl ?_
 refine aP 5 rfl (pIN (j := i) rfl rfl rfl (by omega)) rfl ?_
 refine aL 6 rfl (load_a rfl rfl (hat _) hl) rfl ?_
 refine aP 7 rfl (pM rfl) rfl ?_
 refine aO' 9 ?_
 (refine one_imm rfl rfl (ih ks[i] (List.getElem_mem (by omega)) Gi _ (Tm.smallL_mem hks _ (List.getElem_mem (by omega))) hre hv) rfl rfl rfl (fun u G3 hle3 hh => ?_); obtain ⟨uc, rfl, hru⟩ := hh; have hul := hru.len; have huo := hru.one; obtain ⟨v1, v2, v3, v4, v5, v6, v7, v8, v9, rfl⟩ := nine hul)
 refine aO' 10 ?_
 (refine one_step0 rfl (step_buildSlice rfl rfl rfl (by omega) (by unfold maxLen; omega) rfl) rfl rfl ?_; rintro _ ⟨b393, rfl⟩)
 refine aO' 11 ?_
 (refine one_append rfl rfl rfl rfl rfl rfl (fun _ _ => by repeat (first | exact Sw.here | apply Sw.there)) (at_slc_all (by repeat first | exact mH | apply mT)) rfl (fun u hu => List.all_eq_true.1 huo u hu) (by unfold maxLen; omega) (by omega) rfl rfl (by repeat (first | exact HmOk.nil | apply HmOk.dep (by decide +kernel) | apply HmOk.im (by decide +kernel) (by assumption) (by repeat first | exact mH | apply mT) | apply HmOk.blk (by decide +kernel) (by repeat (first | exact Pk.here | apply Pk.there)) (by repeat first | exact mH | apply mT) | apply HmOk.slc (by decide +kernel) (by repeat (first | exact Pk.here | apply Pk.there)) (by repeat first | exact mH | apply mT))) (fun p7 c7 => ?_))
 refine aP 12 rfl (pF0 rfl) rfl ?_
 refine aO' 13 ?_
 refine one_store rfl rfl rfl rfl rfl rfl rfl rfl (by decide +kernel) (by repeat first | exact Sw.here | apply Sw.there) (by rfl) ?_
 refine aD' ?_
 refine nrm_block (nS (tR (sQ (pM rfl) rfl (sP (pure_add rfl rfl (by omega) (by omega)) rfl rfl ?_))))
 refine sQ (pA rfl) rfl (sD (nrm_loopN (i + 1, p7, c7, es' ++ [[v1, v2, v3, v4, v5, v6, v7, v8, v9]], G3) ?_ ?_ ?_))
 (simp only [flat_snoc]; exact sMk)
 (dsimp only; exact ⟨by omega, hle.trans hle3, by rw [substL_take (by omega)]; exact RTmL.snoc (hst.mono hle3) hru⟩)
 (show ks.length - (i + 1) < ks.length - i; omega)
 refine sD (nS (cF rfl ?_))
 refine tri_exit ?_
 refine ext_seq ?_
 refine ext_loopN ?_
 refine ext_block_eq ?_
 refine nS (tS (tR (sL (lBa rfl rfl) rfl rfl ?_)))
 refine sS' ?_
 refine sD (nS ?_)
 (refine ret_freeze (cs := es'.flatten) (by repeat (first | exact Pk.here | apply Pk.there)) (fun G4 hle4 hsl4 hno4 => ?_); obtain rfl : i = ks.length := (by omega))
 refine tT (rF1 (rC rfl (lBa rfl rfl)) ?_)
 (rw [if_neg (by rintro ⟨h1, h2⟩; first | omega | contradiction), if_neg (by rintro ⟨h1, h2⟩; first | omega | contradiction)]; rw [List.take_of_length_le (by rw [substL_len]; omega)] at hst; exact TmP.mk (RTm.put hk hnum hlb (hty1.mono hle4) (hfr1.mono hle4) (by rw [substL_len]) (SlE.of hsl4 (by omega) hst.all (fun e he => (hst.each e he).2)) (hst.mono hle4)))
theorem l5Number_fn (k : Int) (a b : Tm) (G : IM) (ca cb : List Value) (hk78 : k = 7 ∨ k = 8) (hca : 0 ≤ a.num ∧ a.num ≤ 999) (hcb : 0 ≤ b.num ∧ b.num ≤ 999) (hra : RTm G a ca) (hrb : RTm G b cb) : Fn Tryz.prog 161 [.int .i64 k, .agg ⟨ca⟩, .agg ⟨cb⟩] [] G (StpX (mRed k ty0 ty0 0 [a, b])) := by
 obtain ⟨ak, anm, anum, ⟨atk, atks⟩, ⟨afk, afks⟩, alb, aks⟩ := a
 obtain ⟨bk, bnm, bnum, ⟨btk, btks⟩, ⟨bfk, bfks⟩, blb, bks⟩ := b
 obtain ⟨apt, act, apf, acf, ap, ac, aes, rfl, hak, hanum, halb, haty, hafr, hasl, hakl⟩ := hra.open9
 obtain ⟨bpt, bct, bpf, bcf, bp, bc, bes, rfl, hbk, hbnum, hblb, hbty, hbfr, hbsl, hbkl⟩ := hrb.open9
 simp only [Tm.num] at hca hcb
 have hR : mRed k ty0 ty0 0 [Tm.mk ak anm anum (.mk atk atks) (.mk afk afks) alb aks, Tm.mk bk bnm bnum (.mk btk btks) (.mk bfk bfks) blb bks] = (if ak = 2 ∧ bk = 2 then (if k = 7 then mNum ((anum + bnum) % 1000) else mTru (anum < bnum), 1, 0) else stuck) := by
  unfold mRed; rw [if_neg (by omega), if_pos hk78]; rfl
 rw [hR]
 have htm : (anum + bnum).tmod 1000 = (anum + bnum) % 1000 := tmod_1000' hca hcb
 have hb : I64 ((anum + bnum) % 1000) := ⟨by omega, by omega⟩
 refine fn_enter Tryz.func161 rfl Tryz.ntmps161 Tryz.results161 rfl ?_
 intro w0
 refine tS (tR ?_)
 refine sE (step_box_a rfl rfl) rfl (fun b3 => ?_)
 refine sE (step_box_a rfl rfl) rfl (fun b4 => ?_)
 refine sE (step_alloc rfl) rfl (fun b5 => ?_)
 refine sQ (pA rfl) rfl (sQ (pA rfl) rfl (sD (nS (tS (tS (tR ?_))))))
 refine sQ (pF0 rfl) rfl (sL (lBs rfl rfl) rfl rfl ?_)
 refine sB (pure_neq rfl rfl) rfl rfl (fun h15 => ?_) (fun h15 => ?_)
 refine sQ (pM rfl) rfl (sK rfl rfl (sK rfl rfl (sK rfl rfl (sQ (pPt rfl rfl) rfl (sD (nS ?_))))))
 refine cT rfl ?_
 refine tS (tR (sQ (pBd rfl rfl) rfl (sS' ?_)))
 refine sQ (pA rfl) rfl (sQ (pA rfl) rfl (sD (nS (tT (rS (rF3 (rC rfl (lBa rfl rfl)) (rT rfl) (rT rfl) ?_))))))
 (exact StpX.mk (by rw [if_neg (by omega)]; rfl) (tm0_r _))
 refine sQ (pM rfl) rfl (sQ (pF0 rfl) rfl (sL (lBs rfl rfl) rfl rfl ?_))
 refine sB (pure_neq rfl rfl) rfl rfl (fun h39 => ?_) (fun h39 => ?_)
 refine sQ (pPf rfl rfl) rfl (sD (nS (cT rfl ?_)))
 refine tS (tR (sQ (pBd rfl rfl) rfl (sS' ?_)))
 refine sQ (pA rfl) rfl (sQ (pA rfl) rfl (sD (nS (tT (rS (rF3 (rC rfl (lBa rfl rfl)) (rT rfl) (rT rfl) ?_))))))
 (exact StpX.mk (by rw [if_neg (by omega)]; rfl) (tm0_r _))
 refine sQ (pPf rfl rfl) rfl (sD (nS (cF rfl ?_)))
 refine tK (nS (tS (tS (tR (sQ (pM rfl) rfl (sB (pE rfl rfl) rfl rfl (fun h66 => ?_) (fun h66 => ?_)))))))
 refine sD (nS (cT rfl ?_))
 refine tS (tR (sQ (pF0 rfl) rfl (sL (lBs rfl rfl) rfl rfl ?_)))
 refine sQ (pF0 rfl) rfl (sL (lBs rfl rfl) rfl rfl ?_)
 refine sP (pure_add rfl rfl (by omega) (by omega)) rfl rfl ?_
 refine sP (pure_rem rfl rfl (by omega)) rfl rfl ?_
 (rw [htm]; refine seq_val rfl (l2Num_fn _ _) rfl rfl ?_)
 refine sS' ?_
 refine sQ (pA rfl) rfl (sQ (pA rfl) rfl (sD (nS (tT (rS (rF3 (rC rfl (lBa rfl rfl)) (rT rfl) (rT rfl) ?_))))))
 (exact StpX.mk (u := mNum (HMod.hMod (anum + bnum) 1000)) (by rw [if_pos ⟨by omega, by omega⟩, if_pos (by omega)]) (RTm.put (us := []) ⟨by decide, by decide⟩ hb ⟨by decide, by decide⟩ (ty0_r _) (ty0_r _) rfl (SlE.nil _ _) rfl))
 refine sD (nS (cF rfl ?_))
 refine tK (nS (tS (tR (sQ (pF0 rfl) rfl (sL (lBs rfl rfl) rfl rfl ?_)))))
 refine sQ (pF0 rfl) rfl (sL (lBs rfl rfl) rfl rfl ?_)
 (refine sB (pure_lss rfl rfl) rfl rfl (fun h99 => ?_) (fun h99 => ?_))
 (refine seq_imm rfl (l5Bool_fn _ _) rfl rfl (fun u G1 hle1 hh => ?_); obtain ⟨uc, rfl, hru⟩ := hh; have hul := hru.len; have huo := hru.one)
 refine sS rfl rfl rfl hul huo rfl ?_ (hu := by exact upd_all hul.symm)
 refine sQ (pA rfl) rfl (sQ (pA rfl) rfl (sD (nS (tT (rF3 (rC rfl (load_a rfl rfl (at_blk_all (by repeat first | exact mH | apply mT)) hul)) (rT rfl) (rT rfl) ?_)))))
 (exact StpX.mk (by rw [if_pos ⟨by omega, by omega⟩, if_neg (by omega)]; unfold mTru; rw [if_pos (by omega), if_pos rfl]) hru)
 (refine seq_imm rfl (l5Bool_fn _ _) rfl rfl (fun u G1 hle1 hh => ?_); obtain ⟨uc, rfl, hru⟩ := hh; have hul := hru.len; have huo := hru.one)
 refine sS rfl rfl rfl hul huo rfl ?_ (hu := by exact upd_all hul.symm)
 refine sQ (pA rfl) rfl (sQ (pA rfl) rfl (sD (nS (tT (rF3 (rC rfl (load_a rfl rfl (at_blk_all (by repeat first | exact mH | apply mT)) hul)) (rT rfl) (rT rfl) ?_)))))
 (exact StpX.mk (by rw [if_pos ⟨by omega, by omega⟩, if_neg (by omega)]; unfold mTru; rw [if_neg (by omega), if_neg (by decide)]) hru)
theorem l5Apply_fn (a b : Tm) (G : IM) (ca cb : List Value) (hca : cv a) (hbs : b.small) (hra : RTm G a ca) (hrb : RTm G b cb) : Fn Tryz.prog 160 [.agg ⟨ca⟩, .agg ⟨cb⟩] [] G (StpX (mRed 6 ty0 ty0 0 [a, b])) := by
 have hsma := cv_small a hca
 have hP := l5Proxy_fn a G _ hra
 obtain ⟨ak, anm, anum, ⟨atk, atks⟩, ⟨afk, afks⟩, alb, aks⟩ := a
 obtain ⟨hN, hkk⟩ := hca.node
 have hops := hN.ops
 have hbl := hN.lbB
 have htyA := hN.tyA
 have hfrA := hN.frA
 rw [tAr] at htyA hfrA
 have htyS := fun t (h : t ∈ atks) => (tArL_mem.1 htyA.2.2 t h).small
 have hfrS := fun t (h : t ∈ afks) => (tArL_mem.1 hfrA.2.2 t h).small
 have h14 : ak = 14 → aks.length = 1 := fun h => by rw [h] at hops; have : tmOps 14 = 1 := rfl; omega
 have h5 : ak = 5 → aks.length = 1 := fun h => by rw [h] at hops; have : tmOps 5 = 1 := rfl; omega
 obtain ⟨_, _, _, _, hksm⟩ := small_mk.1 hsma
 have hbL := hrb.len
 have hbO := hrb.one
 obtain ⟨apt, act, apf, acf, ap, ac, aes, rfl, hak, hanum, halb, haty, hafr, hasl, hakl⟩ := hra.open9
 obtain ⟨tes, htS, htL⟩ := haty.kids
 obtain ⟨fes, hfS, hfL⟩ := hafr.kids
 simp only [Ty.ks] at htS htL hfS hfL
 obtain ⟨y1, y2, y3, y4, y5, y6, y7, y8, y9, rfl⟩ := nine hbL
 have hR : mRed 6 ty0 ty0 0 [Tm.mk ak anm anum (.mk atk atks) (.mk afk afks) alb aks, b] = (if ak = 5 then (mSubst anm b (kd aks 0), 1, 0) else if (ak = 14 ∧ afk = atk ∧ (atk = 4 ∨ atk = 5)) ∧ atk = 4 then (mCst (mNod 6 [kd aks 0, mCst b (kt atks 0) (kt afks 0) (-alb)]) (kt afks 1) (kt atks 1) alb, 1, 0) else stuck) := by
  unfold mRed
  rw [if_pos rfl, show kd [Tm.mk ak anm anum (.mk atk atks) (.mk afk afks) alb aks, b] 0 = Tm.mk ak anm anum (.mk atk atks) (.mk afk afks) alb aks from rfl, prx_mk]
  simp only [decide_eq_true_eq]
  rfl
 rw [hR]
 replace hP : Fn Tryz.prog 69 _ [] G (Val (.bool (decide (ak = 14 ∧ afk = atk ∧ (atk = 4 ∨ atk = 5)))) G) := hP
 refine fn_enter Tryz.func160 rfl Tryz.ntmps160 Tryz.results160 rfl ?_
 intro w0
 refine tS (tR ?_)
 refine sE (step_box_a rfl rfl) rfl (fun b3 => ?_)
 refine sE (step_box_a rfl rfl) rfl (fun b4 => ?_)
 refine sE (step_alloc rfl) rfl (fun b5 => ?_)
 refine sQ (pA rfl) rfl (sQ (pA rfl) rfl (sD (nS (tS (tS (tR ?_))))))
 refine sQ (pF0 rfl) rfl (sL (lBs rfl rfl) rfl rfl ?_)
 refine sB (pE rfl rfl) rfl rfl (fun h15 => ?_) (fun h15 => ?_)
 refine sD (nS (cT rfl ?_))
 refine tS ?_
 (have hq : ak = 5 := (by assumption); have hq1 := h5 hq; obtain ⟨bq, oq, e3, rfl, hl3, hat3, hre3, hgb3⟩ := hasl.kidTm hakl (i := 0) (by omega) (by omega); have hS := l2Subst_fn anm b _ hbs aks[0] G e3 (Tm.smallL_mem hksm _ (List.getElem_mem (by omega))) hre3 hrb; refine tri_draw mixed rfl ?_)
 refine any_load (i := 6) (l' := [ff,ff,ff,ff,ff,ff,tt,ff,ff,ff,ff]) rfl npI (load_a rfl rfl (at_blk_all (by repeat first | exact mH | apply mT)) rfl) rfl (by kernel_rfl) rfl rfl ?_
 refine aP 0 rfl (pF0 rfl) rfl ?_
 refine aL 1 rfl (lBs rfl rfl) rfl ?_
 refine aP 2 rfl (pIN (j := 0) rfl rfl rfl (by omega)) rfl ?_
 refine aL 3 rfl (load_a rfl rfl (hat3 _) hl3) rfl ?_
 refine aP 4 rfl (pF0 rfl) rfl ?_
 refine aL 5 rfl (lBs rfl rfl) rfl ?_
 refine aO' 7 ?_
 (refine one_imm rfl rfl hS rfl rfl rfl (fun u G1 hle1 hh => ?_); obtain ⟨uc, rfl, hru⟩ := hh; have hwl := hru.len; have hwo := hru.one)
 refine aO' 8 ?_
 (refine oS rfl rfl rfl rfl hwl hwo rfl rfl ?_ (hu := by exact upd_all hwl.symm))
 refine aP 9 rfl (pA rfl) rfl ?_
 refine aP 10 rfl (pA rfl) rfl ?_
 refine aD' ?_
 refine nS (tT (rS (rF3 (rC rfl (load_a rfl rfl (at_blk_all (by repeat first | exact mH | apply mT)) hwl)) (rT rfl) (rT rfl) ?_)))
 (exact StpX.mk (by rw [if_pos hq, kd_at (by omega)]) hru)
 refine sD (nS (cF rfl ?_))
 refine tK (nS (tS (tS (tR (sL (lBa rfl rfl) rfl rfl ?_)))))
 focus (by_cases hpx : (ak = 14 ∧ afk = atk ∧ (atk = 4 ∨ atk = 5)); rw [decide_eq_true hpx] at hP; rotate_left; rw [decide_eq_false hpx] at hP; rotate_left; all_goals (refine seq_val rfl hP rfl rfl ?_))
 refine sQ (pNt rfl) rfl (sQ (pM rfl) rfl (sQ (pF0 rfl) rfl (sQ (pF rfl) rfl (sL (lBs rfl rfl) rfl rfl ?_))))
 refine sB (pure_neq rfl rfl) rfl rfl (fun h55 => ?_) (fun h55 => ?_)
 refine sQ (pPf rfl rfl) rfl (sD (nS (cT rfl ?_)))
 refine tS (tR (sQ (pBd rfl rfl) rfl (sS' ?_)))
 refine sQ (pA rfl) rfl (sQ (pA rfl) rfl (sD (nS (tT (rS (rF3 (rC rfl (lBa rfl rfl)) (rT rfl) (rT rfl) ?_))))))
 (exact StpX.mk (by rw [if_neg (by omega), if_neg (by omega)]; rfl) (tm0_r _))
 refine sQ (pPf rfl rfl) rfl (sD (nS (cF rfl ?_)))
 refine tK (nS (tS ?_))
 (have hnd : ¬ak = 5 := (by omega); have hq : (ak = 14 ∧ afk = atk ∧ (atk = 4 ∨ atk = 5)) ∧ atk = 4 := ⟨hpx, by omega⟩; have hq1 := h14 hq.1.1; have hq2 := htyA.1 (by omega); have hq3 := hfrA.1 (by omega); obtain ⟨bq, oq, e3, rfl, hl3, hat3, hre3, hgb3⟩ := hasl.kidTm hakl (i := 0) (by omega) (by omega); have ho3 := hre3.one; obtain ⟨b5, o5, q5, d5, rfl, hat5, hre5, hgb5⟩ := htS.kidTy htL (i := 0) (by omega) (by omega); obtain ⟨_, _, q6, d6, hp6, hat6, hre6, hgb6⟩ := htS.kidTy htL (i := 1) (by omega) (by omega); cases hp6; obtain ⟨b7, o7, q7, d7, rfl, hat7, hre7, hgb7⟩ := hfS.kidTy hfL (i := 0) (by omega) (by omega); obtain ⟨_, _, q8, d8, hp8, hat8, hre8, hgb8⟩ := hfS.kidTy hfL (i := 1) (by omega) (by omega); cases hp8; obtain ⟨x1, x2, x3, x4, x5, x6, x7, x8, x9, rfl⟩ := nine hl3; refine tri_draw mixed rfl ?_)
 refine any_load (i := 0) (l' := [tt,ff,ff,ff,ff,ff,ff,ff,ff,ff,ff,ff,ff,ff,ff,ff,ff]) rfl npI (load_a rfl rfl (at_blk_all (by repeat first | exact mH | apply mT)) rfl) rfl (by kernel_rfl) rfl rfl ?_
 refine aP 1 rfl (pF0 rfl) rfl ?_
 refine aP 2 rfl (pF rfl) rfl ?_
 refine aL 3 rfl (lBs rfl rfl) rfl ?_
 refine aP 4 rfl (pIN (j := 0) rfl rfl rfl (by omega)) rfl ?_
 refine aL 5 rfl (load_a rfl rfl (hat5 _) rfl) rfl ?_
 refine aP 6 rfl (pF0 rfl) rfl ?_
 refine aP 7 rfl (pF rfl) rfl ?_
 refine aL 8 rfl (lBs rfl rfl) rfl ?_
 refine aP 9 rfl (pIN (j := 0) rfl rfl rfl (by omega)) rfl ?_
 refine aL 10 rfl (load_a rfl rfl (hat7 _) rfl) rfl ?_
 refine aP 11 rfl (pF0 rfl) rfl ?_
 refine aL 12 rfl (lBs rfl rfl) rfl ?_
 refine aP 13 rfl (pure_neg rfl (by omega) (by omega)) rfl ?_
 refine any_two (j := 14) (j' := 15) (by kernel_rfl) ?_ ?_
 (have hcO := hnd; refine one_imm rfl rfl (l5Cast_fn b atks[0] afks[0] (-alb) G _ _ _ ⟨by omega, by omega⟩ hrb hre5 hre7 (htyS _ (List.getElem_mem (by omega))) (hfrS _ (List.getElem_mem (by omega)))) rfl rfl rfl (fun u G1 hle1 hh => ?_); obtain ⟨uc, rfl, hru⟩ := hh; have hul := hru.len; have huo := hru.one; obtain ⟨z1, z2, z3, z4, z5, z6, z7, z8, z9, rfl⟩ := nine hul; replace hre3 := hre3.mono hle1; replace hre6 := hre6.mono hle1; replace hre8 := hre8.mono hle1)
 refine aO' 15 ?_
 (refine one_step0 rfl (step_alloc rfl) rfl rfl ?_; rintro _ ⟨b97, rfl⟩)
 refine aO' 16 ?_
 (refine oS rfl rfl rfl rfl rfl huo rfl rfl ?_ (hu := by exact upd_all rfl))
 refine aD' ?_
 refine nS (tS (tri_draw mixed rfl ?_))
 refine any_load (i := 4) (l' := [ff,ff,ff,ff,tt,ff,ff,ff,ff]) rfl npI (load_a rfl rfl (at_blk_all (by repeat first | exact mH | apply mT)) rfl) rfl (by kernel_rfl) rfl rfl ?_
 refine aP 0 rfl (pF0 rfl) rfl ?_
 refine aL 1 rfl (lBs rfl rfl) rfl ?_
 refine aP 2 rfl (pIN (j := 0) rfl rfl rfl (by omega)) rfl ?_
 refine aL 3 rfl (load_a rfl rfl (At.mono' hle1 (hat3 _)) rfl) rfl ?_
 refine any_two (j := 5) (j' := 7) (by kernel_rfl) ?_ ?_
 (refine one_step0 rfl (step_buildSlice rfl rfl rfl (by omega) (by unfold maxLen; omega) rfl) rfl rfl ?_; rintro _ ⟨b110, rfl⟩)
 refine any_two (j := 6) (j' := 7) (by kernel_rfl) ?_ ?_
 (refine one_freeze (cs := [x1, x2, x3, x4, x5, x6, x7, x8, x9, z1, z2, z3, z4, z5, z6, z7, z8, z9]) (by repeat (first | exact Pk.here | apply Pk.there)) (fun G2 hle2 hsl2 hno2 => ?_); have hrN := rtm_nod (k := 6) (ks := [aks[0], mCst b atks[0] afks[0] (-alb)]) (es := [[x1, x2, x3, x4, x5, x6, x7, x8, x9], [z1, z2, z3, z4, z5, z6, z7, z8, z9]]) ⟨by decide, by decide⟩ rfl (SlE.of hsl2 rfl (by simp) (by intro x hx; rcases List.mem_cons.1 hx with rfl | hx; exact ho3; obtain rfl := List.mem_singleton.1 hx; exact huo)) (by simp only [RTmL]; exact ⟨_, _, rfl, hre3.mono hle2, _, _, rfl, hru.mono hle2, rfl⟩); replace hre6 := hre6.mono hle2; replace hre8 := hre8.mono hle2; refine one_val rfl rfl (l2Node_fn _ _ _ _ _) rfl rfl rfl ?_)
 refine aO' 7 ?_
 (refine one_step0 rfl (step_alloc rfl) rfl rfl ?_; rintro _ ⟨b114, rfl⟩)
 refine aO' 8 ?_
 refine oT' rfl ?_
 refine aD' ?_
 refine nS (tS (tri_draw mixed rfl ?_))
 refine any_load (i := 0) (l' := [tt,ff,ff,ff,ff,ff,ff,ff,ff,ff,ff,ff,ff,ff,ff,ff,ff]) rfl npI (load_a rfl rfl (at_blk_all (by repeat first | exact mH | apply mT)) rfl) rfl (by kernel_rfl) rfl rfl ?_
 refine aP 1 rfl (pF0 rfl) rfl ?_
 refine aP 2 rfl (pF rfl) rfl ?_
 refine aL 3 rfl (lBs rfl rfl) rfl ?_
 refine aP 4 rfl (pIN (j := 1) rfl rfl rfl (by omega)) rfl ?_
 refine aL 5 rfl (load_a rfl rfl (At.mono' (hle1.trans hle2) (hat8 _)) rfl) rfl ?_
 refine aP 6 rfl (pF0 rfl) rfl ?_
 refine aP 7 rfl (pF rfl) rfl ?_
 refine aL 8 rfl (lBs rfl rfl) rfl ?_
 refine aP 9 rfl (pIN (j := 1) rfl rfl rfl (by omega)) rfl ?_
 refine aL 10 rfl (load_a rfl rfl (At.mono' (hle1.trans hle2) (hat6 _)) rfl) rfl ?_
 refine aP 11 rfl (pF0 rfl) rfl ?_
 refine aL 12 rfl (lBs rfl rfl) rfl ?_
 refine aO' 13 ?_
 (refine one_imm rfl rfl (l5Cast_fn _ afks[1] atks[1] alb G2 _ _ _ ⟨by omega, by omega⟩ hrN hre8 hre6 (hfrS _ (List.getElem_mem (by omega))) (htyS _ (List.getElem_mem (by omega)))) rfl rfl rfl (fun u G3 hle3 hh => ?_); obtain ⟨wc, rfl, hrw⟩ := hh; have hwl := hrw.len; have hwo := hrw.one)
 refine aO' 14 ?_
 (refine oS rfl rfl rfl rfl hwl hwo rfl rfl ?_ (hu := by exact upd_all hwl.symm))
 refine aP 15 rfl (pA rfl) rfl ?_
 refine aP 16 rfl (pA rfl) rfl ?_
 refine aD' ?_
 refine nS (tT (rF3 (rC rfl (load_a rfl rfl (at_blk_all (by repeat first | exact mH | apply mT)) hwl)) (rT rfl) (rT rfl) ?_))
 (exact StpX.mk (by rw [if_neg hnd, if_pos hq, kd_at (by omega), kt_at (by omega), kt_at (by omega), kt_at (by omega), kt_at (by omega)]) hrw)
 (refine one_step0 rfl (step_alloc rfl) rfl rfl ?_; rintro _ ⟨b145, rfl⟩)
 refine aO' 6 ?_
 (refine one_freeze (cs := [x1, x2, x3, x4, x5, x6, x7, x8, x9, z1, z2, z3, z4, z5, z6, z7, z8, z9]) (by repeat (first | exact Pk.here | apply Pk.there)) (fun G2 hle2 hsl2 hno2 => ?_); have hrN := rtm_nod (k := 6) (ks := [aks[0], mCst b atks[0] afks[0] (-alb)]) (es := [[x1, x2, x3, x4, x5, x6, x7, x8, x9], [z1, z2, z3, z4, z5, z6, z7, z8, z9]]) ⟨by decide, by decide⟩ rfl (SlE.of hsl2 rfl (by simp) (by intro x hx; rcases List.mem_cons.1 hx with rfl | hx; exact ho3; obtain rfl := List.mem_singleton.1 hx; exact huo)) (by simp only [RTmL]; exact ⟨_, _, rfl, hre3.mono hle2, _, _, rfl, hru.mono hle2, rfl⟩); replace hre6 := hre6.mono hle2; replace hre8 := hre8.mono hle2; refine one_val rfl rfl (l2Node_fn _ _ _ _ _) rfl rfl rfl ?_)
 refine aO' 8 ?_
 refine oT' rfl ?_
 refine aD' ?_
 refine nS (tS (tri_draw mixed rfl ?_))
 refine any_load (i := 0) (l' := [tt,ff,ff,ff,ff,ff,ff,ff,ff,ff,ff,ff,ff,ff,ff,ff,ff]) rfl npI (load_a rfl rfl (at_blk_all (by repeat first | exact mH | apply mT)) rfl) rfl (by kernel_rfl) rfl rfl ?_
 refine aP 1 rfl (pF0 rfl) rfl ?_
 refine aP 2 rfl (pF rfl) rfl ?_
 refine aL 3 rfl (lBs rfl rfl) rfl ?_
 refine aP 4 rfl (pIN (j := 1) rfl rfl rfl (by omega)) rfl ?_
 refine aL 5 rfl (load_a rfl rfl (At.mono' (hle1.trans hle2) (hat8 _)) rfl) rfl ?_
 refine aP 6 rfl (pF0 rfl) rfl ?_
 refine aP 7 rfl (pF rfl) rfl ?_
 refine aL 8 rfl (lBs rfl rfl) rfl ?_
 refine aP 9 rfl (pIN (j := 1) rfl rfl rfl (by omega)) rfl ?_
 refine aL 10 rfl (load_a rfl rfl (At.mono' (hle1.trans hle2) (hat6 _)) rfl) rfl ?_
 refine aP 11 rfl (pF0 rfl) rfl ?_
 refine aL 12 rfl (lBs rfl rfl) rfl ?_
 refine aO' 13 ?_
 (refine one_imm rfl rfl (l5Cast_fn _ afks[1] atks[1] alb G2 _ _ _ ⟨by omega, by omega⟩ hrN hre8 hre6 (hfrS _ (List.getElem_mem (by omega))) (htyS _ (List.getElem_mem (by omega)))) rfl rfl rfl (fun u G3 hle3 hh => ?_); obtain ⟨wc, rfl, hrw⟩ := hh; have hwl := hrw.len; have hwo := hrw.one)
 refine aO' 14 ?_
 (refine oS rfl rfl rfl rfl hwl hwo rfl rfl ?_ (hu := by exact upd_all hwl.symm))
 refine aP 15 rfl (pA rfl) rfl ?_
 refine aP 16 rfl (pA rfl) rfl ?_
 refine aD' ?_
 refine nS (tT (rF3 (rC rfl (load_a rfl rfl (at_blk_all (by repeat first | exact mH | apply mT)) hwl)) (rT rfl) (rT rfl) ?_))
 (exact StpX.mk (by rw [if_neg hnd, if_pos hq, kd_at (by omega), kt_at (by omega), kt_at (by omega), kt_at (by omega), kt_at (by omega)]) hrw)
 (refine one_step0 rfl (step_alloc rfl) rfl rfl ?_; rintro _ ⟨b178, rfl⟩)
 refine aO' 5 ?_
 (refine one_step0 rfl (step_buildSlice rfl rfl rfl (by omega) (by unfold maxLen; omega) rfl) rfl rfl ?_; rintro _ ⟨b180, rfl⟩)
 refine aO' 6 ?_
 (refine one_freeze (cs := [x1, x2, x3, x4, x5, x6, x7, x8, x9, z1, z2, z3, z4, z5, z6, z7, z8, z9]) (by repeat (first | exact Pk.here | apply Pk.there)) (fun G2 hle2 hsl2 hno2 => ?_); have hrN := rtm_nod (k := 6) (ks := [aks[0], mCst b atks[0] afks[0] (-alb)]) (es := [[x1, x2, x3, x4, x5, x6, x7, x8, x9], [z1, z2, z3, z4, z5, z6, z7, z8, z9]]) ⟨by decide, by decide⟩ rfl (SlE.of hsl2 rfl (by simp) (by intro x hx; rcases List.mem_cons.1 hx with rfl | hx; exact ho3; obtain rfl := List.mem_singleton.1 hx; exact huo)) (by simp only [RTmL]; exact ⟨_, _, rfl, hre3.mono hle2, _, _, rfl, hru.mono hle2, rfl⟩); replace hre6 := hre6.mono hle2; replace hre8 := hre8.mono hle2; refine one_val rfl rfl (l2Node_fn _ _ _ _ _) rfl rfl rfl ?_)
 refine aO' 8 ?_
 refine oT' rfl ?_
 refine aD' ?_
 refine nS (tS (tri_draw mixed rfl ?_))
 refine any_load (i := 0) (l' := [tt,ff,ff,ff,ff,ff,ff,ff,ff,ff,ff,ff,ff,ff,ff,ff,ff]) rfl npI (load_a rfl rfl (at_blk_all (by repeat first | exact mH | apply mT)) rfl) rfl (by kernel_rfl) rfl rfl ?_
 refine aP 1 rfl (pF0 rfl) rfl ?_
 refine aP 2 rfl (pF rfl) rfl ?_
 refine aL 3 rfl (lBs rfl rfl) rfl ?_
 refine aP 4 rfl (pIN (j := 1) rfl rfl rfl (by omega)) rfl ?_
 refine aL 5 rfl (load_a rfl rfl (At.mono' (hle1.trans hle2) (hat8 _)) rfl) rfl ?_
 refine aP 6 rfl (pF0 rfl) rfl ?_
 refine aP 7 rfl (pF rfl) rfl ?_
 refine aL 8 rfl (lBs rfl rfl) rfl ?_
 refine aP 9 rfl (pIN (j := 1) rfl rfl rfl (by omega)) rfl ?_
 refine aL 10 rfl (load_a rfl rfl (At.mono' (hle1.trans hle2) (hat6 _)) rfl) rfl ?_
 refine aP 11 rfl (pF0 rfl) rfl ?_
 refine aL 12 rfl (lBs rfl rfl) rfl ?_
 refine aO' 13 ?_
 (refine one_imm rfl rfl (l5Cast_fn _ afks[1] atks[1] alb G2 _ _ _ ⟨by omega, by omega⟩ hrN hre8 hre6 (hfrS _ (List.getElem_mem (by omega))) (htyS _ (List.getElem_mem (by omega)))) rfl rfl rfl (fun u G3 hle3 hh => ?_); obtain ⟨wc, rfl, hrw⟩ := hh; have hwl := hrw.len; have hwo := hrw.one)
 refine aO' 14 ?_
 (refine oS rfl rfl rfl rfl hwl hwo rfl rfl ?_ (hu := by exact upd_all hwl.symm))
 refine aP 15 rfl (pA rfl) rfl ?_
 refine aP 16 rfl (pA rfl) rfl ?_
 refine aD' ?_
 refine nS (tT (rF3 (rC rfl (load_a rfl rfl (at_blk_all (by repeat first | exact mH | apply mT)) hwl)) (rT rfl) (rT rfl) ?_))
 (exact StpX.mk (by rw [if_neg hnd, if_pos hq, kd_at (by omega), kt_at (by omega), kt_at (by omega), kt_at (by omega), kt_at (by omega)]) hrw)
 (refine one_step0 rfl (step_alloc rfl) rfl rfl ?_; rintro _ ⟨b213, rfl⟩)
 refine aO' 14 ?_
 (have hcO := hnd; refine one_imm rfl rfl (l5Cast_fn b atks[0] afks[0] (-alb) G _ _ _ ⟨by omega, by omega⟩ hrb hre5 hre7 (htyS _ (List.getElem_mem (by omega))) (hfrS _ (List.getElem_mem (by omega)))) rfl rfl rfl (fun u G1 hle1 hh => ?_); obtain ⟨uc, rfl, hru⟩ := hh; have hul := hru.len; have huo := hru.one; obtain ⟨z1, z2, z3, z4, z5, z6, z7, z8, z9, rfl⟩ := nine hul; replace hre3 := hre3.mono hle1; replace hre6 := hre6.mono hle1; replace hre8 := hre8.mono hle1)
 refine aO' 16 ?_
 (refine oS rfl rfl rfl rfl rfl huo rfl rfl ?_ (hu := by exact upd_all rfl))
 refine aD' ?_
 refine nS (tS (tri_draw mixed rfl ?_))
 refine any_load (i := 4) (l' := [ff,ff,ff,ff,tt,ff,ff,ff,ff]) rfl npI (load_a rfl rfl (at_blk_all (by repeat first | exact mH | apply mT)) rfl) rfl (by kernel_rfl) rfl rfl ?_
 refine aP 0 rfl (pF0 rfl) rfl ?_
 refine aL 1 rfl (lBs rfl rfl) rfl ?_
 refine aP 2 rfl (pIN (j := 0) rfl rfl rfl (by omega)) rfl ?_
 refine aL 3 rfl (load_a rfl rfl (At.mono' hle1 (hat3 _)) rfl) rfl ?_
 refine any_two (j := 5) (j' := 7) (by kernel_rfl) ?_ ?_
 (refine one_step0 rfl (step_buildSlice rfl rfl rfl (by omega) (by unfold maxLen; omega) rfl) rfl rfl ?_; rintro _ ⟨b228, rfl⟩)
 refine any_two (j := 6) (j' := 7) (by kernel_rfl) ?_ ?_
 (refine one_freeze (cs := [x1, x2, x3, x4, x5, x6, x7, x8, x9, z1, z2, z3, z4, z5, z6, z7, z8, z9]) (by repeat (first | exact Pk.here | apply Pk.there)) (fun G2 hle2 hsl2 hno2 => ?_); have hrN := rtm_nod (k := 6) (ks := [aks[0], mCst b atks[0] afks[0] (-alb)]) (es := [[x1, x2, x3, x4, x5, x6, x7, x8, x9], [z1, z2, z3, z4, z5, z6, z7, z8, z9]]) ⟨by decide, by decide⟩ rfl (SlE.of hsl2 rfl (by simp) (by intro x hx; rcases List.mem_cons.1 hx with rfl | hx; exact ho3; obtain rfl := List.mem_singleton.1 hx; exact huo)) (by simp only [RTmL]; exact ⟨_, _, rfl, hre3.mono hle2, _, _, rfl, hru.mono hle2, rfl⟩); replace hre6 := hre6.mono hle2; replace hre8 := hre8.mono hle2; refine one_val rfl rfl (l2Node_fn _ _ _ _ _) rfl rfl rfl ?_)
 refine aO' 7 ?_
 (refine one_step0 rfl (step_alloc rfl) rfl rfl ?_; rintro _ ⟨b232, rfl⟩)
 refine aO' 8 ?_
 refine oT' rfl ?_
 refine aD' ?_
 refine nS (tS (tri_draw mixed rfl ?_))
 refine any_load (i := 0) (l' := [tt,ff,ff,ff,ff,ff,ff,ff,ff,ff,ff,ff,ff,ff,ff,ff,ff]) rfl npI (load_a rfl rfl (at_blk_all (by repeat first | exact mH | apply mT)) rfl) rfl (by kernel_rfl) rfl rfl ?_
 refine aP 1 rfl (pF0 rfl) rfl ?_
 refine aP 2 rfl (pF rfl) rfl ?_
 refine aL 3 rfl (lBs rfl rfl) rfl ?_
 refine aP 4 rfl (pIN (j := 1) rfl rfl rfl (by omega)) rfl ?_
 refine aL 5 rfl (load_a rfl rfl (At.mono' (hle1.trans hle2) (hat8 _)) rfl) rfl ?_
 refine aP 6 rfl (pF0 rfl) rfl ?_
 refine aP 7 rfl (pF rfl) rfl ?_
 refine aL 8 rfl (lBs rfl rfl) rfl ?_
 refine aP 9 rfl (pIN (j := 1) rfl rfl rfl (by omega)) rfl ?_
 refine aL 10 rfl (load_a rfl rfl (At.mono' (hle1.trans hle2) (hat6 _)) rfl) rfl ?_
 refine aP 11 rfl (pF0 rfl) rfl ?_
 refine aL 12 rfl (lBs rfl rfl) rfl ?_
 refine aO' 13 ?_
 (refine one_imm rfl rfl (l5Cast_fn _ afks[1] atks[1] alb G2 _ _ _ ⟨by omega, by omega⟩ hrN hre8 hre6 (hfrS _ (List.getElem_mem (by omega))) (htyS _ (List.getElem_mem (by omega)))) rfl rfl rfl (fun u G3 hle3 hh => ?_); obtain ⟨wc, rfl, hrw⟩ := hh; have hwl := hrw.len; have hwo := hrw.one)
 refine aO' 14 ?_
 (refine oS rfl rfl rfl rfl hwl hwo rfl rfl ?_ (hu := by exact upd_all hwl.symm))
 refine aP 15 rfl (pA rfl) rfl ?_
 refine aP 16 rfl (pA rfl) rfl ?_
 refine aD' ?_
 refine nS (tT (rF3 (rC rfl (load_a rfl rfl (at_blk_all (by repeat first | exact mH | apply mT)) hwl)) (rT rfl) (rT rfl) ?_))
 (exact StpX.mk (by rw [if_neg hnd, if_pos hq, kd_at (by omega), kt_at (by omega), kt_at (by omega), kt_at (by omega), kt_at (by omega)]) hrw)
 (refine one_step0 rfl (step_alloc rfl) rfl rfl ?_; rintro _ ⟨b263, rfl⟩)
 refine aO' 6 ?_
 (refine one_freeze (cs := [x1, x2, x3, x4, x5, x6, x7, x8, x9, z1, z2, z3, z4, z5, z6, z7, z8, z9]) (by repeat (first | exact Pk.here | apply Pk.there)) (fun G2 hle2 hsl2 hno2 => ?_); have hrN := rtm_nod (k := 6) (ks := [aks[0], mCst b atks[0] afks[0] (-alb)]) (es := [[x1, x2, x3, x4, x5, x6, x7, x8, x9], [z1, z2, z3, z4, z5, z6, z7, z8, z9]]) ⟨by decide, by decide⟩ rfl (SlE.of hsl2 rfl (by simp) (by intro x hx; rcases List.mem_cons.1 hx with rfl | hx; exact ho3; obtain rfl := List.mem_singleton.1 hx; exact huo)) (by simp only [RTmL]; exact ⟨_, _, rfl, hre3.mono hle2, _, _, rfl, hru.mono hle2, rfl⟩); replace hre6 := hre6.mono hle2; replace hre8 := hre8.mono hle2; refine one_val rfl rfl (l2Node_fn _ _ _ _ _) rfl rfl rfl ?_)
 refine aO' 8 ?_
 refine oT' rfl ?_
 refine aD' ?_
 refine nS (tS (tri_draw mixed rfl ?_))
 refine any_load (i := 0) (l' := [tt,ff,ff,ff,ff,ff,ff,ff,ff,ff,ff,ff,ff,ff,ff,ff,ff]) rfl npI (load_a rfl rfl (at_blk_all (by repeat first | exact mH | apply mT)) rfl) rfl (by kernel_rfl) rfl rfl ?_
 refine aP 1 rfl (pF0 rfl) rfl ?_
 refine aP 2 rfl (pF rfl) rfl ?_
 refine aL 3 rfl (lBs rfl rfl) rfl ?_
 refine aP 4 rfl (pIN (j := 1) rfl rfl rfl (by omega)) rfl ?_
 refine aL 5 rfl (load_a rfl rfl (At.mono' (hle1.trans hle2) (hat8 _)) rfl) rfl ?_
 refine aP 6 rfl (pF0 rfl) rfl ?_
 refine aP 7 rfl (pF rfl) rfl ?_
 refine aL 8 rfl (lBs rfl rfl) rfl ?_
 refine aP 9 rfl (pIN (j := 1) rfl rfl rfl (by omega)) rfl ?_
 refine aL 10 rfl (load_a rfl rfl (At.mono' (hle1.trans hle2) (hat6 _)) rfl) rfl ?_
 refine aP 11 rfl (pF0 rfl) rfl ?_
 refine aL 12 rfl (lBs rfl rfl) rfl ?_
 refine aO' 13 ?_
 (refine one_imm rfl rfl (l5Cast_fn _ afks[1] atks[1] alb G2 _ _ _ ⟨by omega, by omega⟩ hrN hre8 hre6 (hfrS _ (List.getElem_mem (by omega))) (htyS _ (List.getElem_mem (by omega)))) rfl rfl rfl (fun u G3 hle3 hh => ?_); obtain ⟨wc, rfl, hrw⟩ := hh; have hwl := hrw.len; have hwo := hrw.one)
 refine aO' 14 ?_
 (refine oS rfl rfl rfl rfl hwl hwo rfl rfl ?_ (hu := by exact upd_all hwl.symm))
 refine aP 15 rfl (pA rfl) rfl ?_
 refine aP 16 rfl (pA rfl) rfl ?_
 refine aD' ?_
 refine nS (tT (rF3 (rC rfl (load_a rfl rfl (at_blk_all (by repeat first | exact mH | apply mT)) hwl)) (rT rfl) (rT rfl) ?_))
 (exact StpX.mk (by rw [if_neg hnd, if_pos hq, kd_at (by omega), kt_at (by omega), kt_at (by omega), kt_at (by omega), kt_at (by omega)]) hrw)
 (refine one_step0 rfl (step_alloc rfl) rfl rfl ?_; rintro _ ⟨b296, rfl⟩)
 refine aO' 5 ?_
 (refine one_step0 rfl (step_buildSlice rfl rfl rfl (by omega) (by unfold maxLen; omega) rfl) rfl rfl ?_; rintro _ ⟨b298, rfl⟩)
 refine aO' 6 ?_
 (refine one_freeze (cs := [x1, x2, x3, x4, x5, x6, x7, x8, x9, z1, z2, z3, z4, z5, z6, z7, z8, z9]) (by repeat (first | exact Pk.here | apply Pk.there)) (fun G2 hle2 hsl2 hno2 => ?_); have hrN := rtm_nod (k := 6) (ks := [aks[0], mCst b atks[0] afks[0] (-alb)]) (es := [[x1, x2, x3, x4, x5, x6, x7, x8, x9], [z1, z2, z3, z4, z5, z6, z7, z8, z9]]) ⟨by decide, by decide⟩ rfl (SlE.of hsl2 rfl (by simp) (by intro x hx; rcases List.mem_cons.1 hx with rfl | hx; exact ho3; obtain rfl := List.mem_singleton.1 hx; exact huo)) (by simp only [RTmL]; exact ⟨_, _, rfl, hre3.mono hle2, _, _, rfl, hru.mono hle2, rfl⟩); replace hre6 := hre6.mono hle2; replace hre8 := hre8.mono hle2; refine one_val rfl rfl (l2Node_fn _ _ _ _ _) rfl rfl rfl ?_)
 refine aO' 8 ?_
 refine oT' rfl ?_
 refine aD' ?_
 refine nS (tS (tri_draw mixed rfl ?_))
 refine any_load (i := 0) (l' := [tt,ff,ff,ff,ff,ff,ff,ff,ff,ff,ff,ff,ff,ff,ff,ff,ff]) rfl npI (load_a rfl rfl (at_blk_all (by repeat first | exact mH | apply mT)) rfl) rfl (by kernel_rfl) rfl rfl ?_
 refine aP 1 rfl (pF0 rfl) rfl ?_
 refine aP 2 rfl (pF rfl) rfl ?_
 refine aL 3 rfl (lBs rfl rfl) rfl ?_
 refine aP 4 rfl (pIN (j := 1) rfl rfl rfl (by omega)) rfl ?_
 refine aL 5 rfl (load_a rfl rfl (At.mono' (hle1.trans hle2) (hat8 _)) rfl) rfl ?_
 refine aP 6 rfl (pF0 rfl) rfl ?_
 refine aP 7 rfl (pF rfl) rfl ?_
 refine aL 8 rfl (lBs rfl rfl) rfl ?_
 refine aP 9 rfl (pIN (j := 1) rfl rfl rfl (by omega)) rfl ?_
 refine aL 10 rfl (load_a rfl rfl (At.mono' (hle1.trans hle2) (hat6 _)) rfl) rfl ?_
 refine aP 11 rfl (pF0 rfl) rfl ?_
 refine aL 12 rfl (lBs rfl rfl) rfl ?_
 refine aO' 13 ?_
 (refine one_imm rfl rfl (l5Cast_fn _ afks[1] atks[1] alb G2 _ _ _ ⟨by omega, by omega⟩ hrN hre8 hre6 (hfrS _ (List.getElem_mem (by omega))) (htyS _ (List.getElem_mem (by omega)))) rfl rfl rfl (fun u G3 hle3 hh => ?_); obtain ⟨wc, rfl, hrw⟩ := hh; have hwl := hrw.len; have hwo := hrw.one)
 refine aO' 14 ?_
 (refine oS rfl rfl rfl rfl hwl hwo rfl rfl ?_ (hu := by exact upd_all hwl.symm))
 refine aP 15 rfl (pA rfl) rfl ?_
 refine aP 16 rfl (pA rfl) rfl ?_
 refine aD' ?_
 refine nS (tT (rF3 (rC rfl (load_a rfl rfl (at_blk_all (by repeat first | exact mH | apply mT)) hwl)) (rT rfl) (rT rfl) ?_))
 (exact StpX.mk (by rw [if_neg hnd, if_pos hq, kd_at (by omega), kt_at (by omega), kt_at (by omega), kt_at (by omega), kt_at (by omega)]) hrw)
 refine sQ (pNf rfl) rfl (sQ (pM rfl) rfl (sK rfl rfl (sK rfl rfl (sK rfl rfl (sK rfl rfl (sQ (pPt rfl rfl) rfl ?_))))))
 refine sD (nS (cT rfl ?_))
 refine tS (tR (sQ (pBd rfl rfl) rfl (sS' ?_)))
 refine sQ (pA rfl) rfl (sQ (pA rfl) rfl (sD (nS (tT (rS (rF3 (rC rfl (lBa rfl rfl)) (rT rfl) (rT rfl) ?_))))))
 (exact StpX.mk (by rw [if_neg (by omega), if_neg (by omega)]; rfl) (tm0_r _))
theorem l5Part_fn (k : Int) (a : Tm) (G : IM) (ca : List Value) (hk1 : k = 11 ∨ k = 12) (hca : cv a) (hra : RTm G a ca) : Fn Tryz.prog 162 [.int .i64 k, .agg ⟨ca⟩] [] G (StpX (mRed k ty0 ty0 0 [a])) := by
 have hP := l5Proxy_fn a G _ hra
 obtain ⟨ak, anm, anum, ⟨atk, atks⟩, ⟨afk, afks⟩, alb, aks⟩ := a
 obtain ⟨hN, hkk⟩ := hca.node
 have hops := hN.ops
 have hbl := hN.lbB
 have htyA := hN.tyA
 have hfrA := hN.frA
 rw [tAr] at htyA hfrA
 have htyS := fun t (h : t ∈ atks) => (tArL_mem.1 htyA.2.2 t h).small
 have hfrS := fun t (h : t ∈ afks) => (tArL_mem.1 hfrA.2.2 t h).small
 have h14 : ak = 14 → aks.length = 1 := fun h => by rw [h] at hops; have : tmOps 14 = 1 := rfl; omega
 have h10 : ak = 10 → aks.length = 2 := fun h => by rw [h] at hops; have : tmOps 10 = 2 := rfl; omega
 obtain ⟨apt, act, apf, acf, ap, ac, aes, rfl, hak, hanum, halb, haty, hafr, hasl, hakl⟩ := hra.open9
 obtain ⟨tes, htS, htL⟩ := haty.kids
 obtain ⟨fes, hfS, hfL⟩ := hafr.kids
 simp only [Ty.ks] at htS htL hfS hfL
 obtain ⟨i, hi⟩ : ∃ i : Nat, (k - 11).toNat = i := ⟨_, rfl⟩
 have hR : mRed k ty0 ty0 0 [Tm.mk ak anm anum (.mk atk atks) (.mk afk afks) alb aks] = (if ak = 10 then (kd aks i, 1, 0) else if (ak = 14 ∧ afk = atk ∧ (atk = 4 ∨ atk = 5)) ∧ atk = 5 then (mCst (mNod k [kd aks 0]) (kt afks i) (kt atks i) alb, 1, 0) else stuck) := by
  unfold mRed
  rw [if_neg (by omega), if_neg (by omega), if_neg (by omega), if_pos hk1, hi, show kd [Tm.mk ak anm anum (.mk atk atks) (.mk afk afks) alb aks] 0 = Tm.mk ak anm anum (.mk atk atks) (.mk afk afks) alb aks from rfl, prx_mk]
  simp only [decide_eq_true_eq]
  rfl
 rw [hR]
 replace hP : Fn Tryz.prog 69 _ [] G (Val (.bool (decide (ak = 14 ∧ afk = atk ∧ (atk = 4 ∨ atk = 5)))) G) := hP
 refine fn_enter Tryz.func162 rfl Tryz.ntmps162 Tryz.results162 rfl ?_
 intro w0
 refine tS (tR ?_)
 refine sE (step_box_a rfl rfl) rfl (fun b3 => ?_)
 refine sE (step_alloc rfl) rfl (fun b4 => ?_)
 refine sQ (pA rfl) rfl (sQ (pA rfl) rfl (sD (nS (tS (tR (sQ (pM rfl) rfl ?_))))))
 refine sP (pure_sub rfl rfl (by omega) (by omega)) rfl rfl ?_
 (rw [show (k - 11 : Int) = ((i : Nat) : Int) from (by omega)]; refine sQ (pA rfl) rfl ?_)
 refine sD (nS (tS (tS (tR (sQ (pF0 rfl) rfl (sL (lBs rfl rfl) rfl rfl ?_))))))
 refine sB (pE rfl rfl) rfl rfl (fun h21 => ?_) (fun h21 => ?_)
 refine sD (nS (cT rfl ?_))
 refine tS (tR (sQ (pF0 rfl) rfl (sL (lBs rfl rfl) rfl rfl ?_)))
 refine sQ (pM rfl) rfl ?_
 (have hq := h10 (by omega); obtain ⟨bq, oq, e3, rfl, hl3, hat3, hre3, hgb3⟩ := hasl.kidTm hakl (i := i) (by omega) (by omega); have ho3 := hre3.one; refine sP (pIN (j := i) rfl rfl rfl (by omega)) rfl rfl ?_)
 refine sL (load_a rfl rfl (hat3 _) hl3) rfl rfl ?_
 refine sS rfl rfl rfl hl3 ho3 rfl ?_ (hu := by exact upd_all hl3.symm)
 refine sQ (pA rfl) rfl (sQ (pA rfl) rfl (sD (nS (tT (rS (rF3 (rC rfl (load_a rfl rfl (at_blk_all (by repeat first | exact mH | apply mT)) hl3)) (rT rfl) (rT rfl) ?_))))))
 (exact StpX.mk (by rw [if_pos (by omega), kd_at (by omega)]) hre3)
 refine sD (nS (cF rfl ?_))
 refine tK (nS (tS (tS (tR (sL (lBa rfl rfl) rfl rfl ?_)))))
 focus (by_cases hpx : (ak = 14 ∧ afk = atk ∧ (atk = 4 ∨ atk = 5)); rw [decide_eq_true hpx] at hP; rotate_left; rw [decide_eq_false hpx] at hP; rotate_left; all_goals (refine seq_val rfl hP rfl rfl ?_))
 refine sQ (pNt rfl) rfl (sQ (pM rfl) rfl (sQ (pF0 rfl) rfl (sQ (pF rfl) rfl (sL (lBs rfl rfl) rfl rfl ?_))))
 refine sB (pure_neq rfl rfl) rfl rfl (fun h56 => ?_) (fun h56 => ?_)
 refine sQ (pPf rfl rfl) rfl (sD (nS (cT rfl ?_)))
 refine tS (tR (sQ (pBd rfl rfl) rfl (sS' ?_)))
 refine sQ (pA rfl) rfl (sQ (pA rfl) rfl (sD (nS (tT (rS (rF3 (rC rfl (lBa rfl rfl)) (rT rfl) (rT rfl) ?_))))))
 (exact StpX.mk (by rw [if_neg (by omega), if_neg (by omega)]; rfl) (tm0_r _))
 refine sQ (pPf rfl rfl) rfl (sD (nS (cF rfl ?_)))
 refine tK (nS (tS ?_))
 (have hnd : ¬ak = 10 := (by omega); have hq : (ak = 14 ∧ afk = atk ∧ (atk = 4 ∨ atk = 5)) ∧ atk = 5 := ⟨hpx, by omega⟩; have hq1 := h14 hq.1.1; have hq2 := htyA.1 (by omega); have hq3 := hfrA.1 (by omega); obtain ⟨bq, oq, e3, rfl, hl3, hat3, hre3, hgb3⟩ := hasl.kidTm hakl (i := 0) (by omega) (by omega); have ho3 := hre3.one; obtain ⟨b5, o5, q5, d5, rfl, hat5, hre5, hgb5⟩ := htS.kidTy htL (i := i) (by omega) (by omega); obtain ⟨b7, o7, q7, d7, rfl, hat7, hre7, hgb7⟩ := hfS.kidTy hfL (i := i) (by omega) (by omega); obtain ⟨x1, x2, x3, x4, x5, x6, x7, x8, x9, rfl⟩ := nine hl3; refine tri_draw mixed rfl ?_)
 refine any_pure (i := 0) (l' := [tt,ff,ff,ff,ff,ff,ff,ff,ff,ff,ff,ff,ff,ff,ff,ff,ff,ff,ff,ff,ff,ff,ff,ff,ff]) rfl npI (pM rfl) rfl (by kernel_rfl) rfl rfl ?_
 refine aP 1 rfl (pF0 rfl) rfl ?_
 refine aL 2 rfl (lBs rfl rfl) rfl ?_
 refine aP 3 rfl (pIN (j := 0) rfl rfl rfl (by omega)) rfl ?_
 refine aL 4 rfl (load_a rfl rfl (hat3 _) rfl) rfl ?_
 refine aP 7 rfl (pF0 rfl) rfl ?_
 refine aP 8 rfl (pF rfl) rfl ?_
 refine aL 9 rfl (lBs rfl rfl) rfl ?_
 refine aP 10 rfl (pM rfl) rfl ?_
 refine aP 11 rfl (pIN (j := i) rfl rfl rfl (by omega)) rfl ?_
 refine aL 12 rfl (load_a rfl rfl (hat7 _) rfl) rfl ?_
 refine aP 13 rfl (pF0 rfl) rfl ?_
 refine aP 14 rfl (pF rfl) rfl ?_
 refine aL 15 rfl (lBs rfl rfl) rfl ?_
 refine aP 16 rfl (pM rfl) rfl ?_
 refine aP 17 rfl (pIN (j := i) rfl rfl rfl (by omega)) rfl ?_
 refine aL 18 rfl (load_a rfl rfl (hat5 _) rfl) rfl ?_
 refine aP 19 rfl (pF0 rfl) rfl ?_
 refine aL 20 rfl (lBs rfl rfl) rfl ?_
 refine aO' 5 ?_
 (refine one_step0 rfl (step_buildSlice rfl rfl rfl (by omega) (by unfold maxLen; omega) rfl) rfl rfl ?_; rintro _ ⟨b101, rfl⟩)
 refine aO' 6 ?_
 (refine one_freeze (cs := [x1, x2, x3, x4, x5, x6, x7, x8, x9]) (by repeat (first | exact Pk.here | apply Pk.there)) (fun G2 hle2 hsl2 hno2 => ?_); have hrN := rtm_nod (k := k) (ks := [aks[0]]) (es := [[x1, x2, x3, x4, x5, x6, x7, x8, x9]]) ⟨by omega, by omega⟩ rfl (SlE.of hsl2 rfl (by simp) (by intro x hx; obtain rfl := List.mem_singleton.1 hx; exact ho3)) (by simp only [RTmL]; exact ⟨_, _, rfl, hre3.mono hle2, rfl⟩); replace hre5 := hre5.mono hle2; replace hre7 := hre7.mono hle2; refine one_val rfl rfl (l2Node_fn _ _ _ _ _) rfl rfl rfl ?_)
 refine aO' 21 ?_
 (refine one_imm rfl rfl (l5Cast_fn _ afks[i] atks[i] alb G2 _ _ _ ⟨by omega, by omega⟩ hrN hre7 hre5 (hfrS _ (List.getElem_mem (by omega))) (htyS _ (List.getElem_mem (by omega)))) rfl rfl rfl (fun u G3 hle3 hh => ?_); obtain ⟨wc, rfl, hrw⟩ := hh; have hwl := hrw.len; have hwo := hrw.one)
 refine aO' 22 ?_
 (refine oS rfl rfl rfl rfl hwl hwo rfl rfl ?_ (hu := by exact upd_all hwl.symm))
 refine aP 23 rfl (pA rfl) rfl ?_
 refine aP 24 rfl (pA rfl) rfl ?_
 refine aD' ?_
 refine nS (tT (rF3 (rC rfl (load_a rfl rfl (at_blk_all (by repeat first | exact mH | apply mT)) hwl)) (rT rfl) (rT rfl) ?_))
 (exact StpX.mk (by rw [if_neg hnd, if_pos hq, kd_at (by omega), kt_at (by omega), kt_at (by omega)]) hrw)
 refine sQ (pNf rfl) rfl (sQ (pM rfl) rfl (sK rfl rfl (sK rfl rfl (sK rfl rfl (sK rfl rfl (sQ (pPt rfl rfl) rfl ?_))))))
 refine sD (nS (cT rfl ?_))
 refine tS (tR (sQ (pBd rfl rfl) rfl (sS' ?_)))
 refine sQ (pA rfl) rfl (sQ (pA rfl) rfl (sD (nS (tT (rS (rF3 (rC rfl (lBa rfl rfl)) (rT rfl) (rT rfl) ?_))))))
 (exact StpX.mk (by rw [if_neg (by omega), if_neg (by omega)]; rfl) (tm0_r _))
theorem l5Convert_fn (a : Tm) (nm : ByteArray) (num : Int) (ty fr : Ty) (lb : Int) (G : IM) (cells : List Value) (hc : cv (.mk 14 nm num ty fr lb [a])) (hr : RTm G (.mk 14 nm num ty fr lb [a]) cells) : Fn Tryz.prog 163 [.agg ⟨cells⟩] [] G (StpX (mRed 14 ty fr lb [a])) := by
 obtain ⟨hNe, hkk0⟩ := hc.node
 have hca := hkk0 a (by simp)
 have hlb9 := hNe.lbB
 obtain ⟨hcons, htv, hfv⟩ := hNe.c14 rfl
 have hji := @inj_grd a
 have hjk := @inj_k a
 obtain ⟨ak, anm, anum, ⟨atk, atks⟩, ⟨afk, afks⟩, alb, aks⟩ := a
 obtain ⟨hN, hkk⟩ := hca.node
 have hops := hN.ops
 have h14 : ak = 14 → aks.length = 1 := fun h => by rw [h] at hops; have : tmOps 14 = 1 := rfl; omega
 obtain ⟨tk, tks⟩ := ty
 obtain ⟨fk, fks⟩ := fr
 rw [tCons_mk] at hcons
 simp only [Bool.or_eq_true, Bool.and_eq_true, decide_eq_true_eq] at hcons
 have hcc : fk ≠ tk → tk ≠ 1 → fk = 1 := fun h1 h2 => by rcases hcons with (h | h) | h; exact h; exact absurd h h2; exact absurd h.1 h1
 have hta := tValid_ar htv
 have hfa := tValid_ar hfv
 obtain ⟨pt, ct, pf, cf, p, c, es, rfl, hk, hnum, hlb, hty, hfr, hsl, hkl⟩ := hr.open9
 obtain ⟨bx, ox, e0, rfl, hl0, hat0, hre0, hgb0⟩ := hsl.kidTm hkl (i := 0) (by simp) (by simp)
 replace hre0 : RTm G (Tm.mk ak anm anum (.mk atk atks) (.mk afk afks) alb aks) e0 := hre0
 have hI := l5Inject_fn (Tm.mk ak anm anum (.mk atk atks) (.mk afk afks) alb aks) G _ hN.frA hre0
 have ho0 := hre0.one
 obtain ⟨apt, act, apf, acf, ap, ac, aes, rfl, hak, hanum, halb, haty, hafr, hasl, hakl⟩ := hre0.open9
 obtain ⟨J, hJ⟩ : ∃ J, inj (Tm.mk ak anm anum (.mk atk atks) (.mk afk afks) alb aks) = J := ⟨_, rfl⟩
 obtain ⟨D, hD⟩ : ∃ D, isGrd (.mk tk tks) = D := ⟨_, rfl⟩
 have hGr := l5Ground_fn (.mk tk tks) G _ hta hty
 rw [hD] at hGr
 rw [hJ] at hI hji hjk
 have hR : mRed 14 (.mk tk tks) (.mk fk fks) lb [Tm.mk ak anm anum (.mk atk atks) (.mk afk afks) alb aks] = (if fk = tk then (Tm.mk ak anm anum (.mk atk atks) (.mk afk afks) alb aks, 1, 0)
   else if tk = 1 then (mCst (mCst (Tm.mk ak anm anum (.mk atk atks) (.mk afk afks) alb aks) (.mk fk fks) (mGround (.mk fk fks)) lb) (mGround (.mk fk fks)) (.mk tk tks) lb, 1, 0)
   else if D = false then (mCst (mCst (Tm.mk ak anm anum (.mk atk atks) (.mk afk afks) alb aks) (.mk fk fks) (mGround (.mk tk tks)) lb) (mGround (.mk tk tks)) (.mk tk tks) lb, 1, 0)
   else if J = false then stuck
   else if afk = tk then (kd aks 0, 1, 0)
   else (tm0, 2, lb)) := by
  rw [← hJ, ← hD]; rfl
 rw [hR]
 refine fn_enter Tryz.func163 rfl Tryz.ntmps163 Tryz.results163 rfl ?_
 intro w0
 refine tS (tR ?_)
 refine sE (step_box_a rfl rfl) rfl (fun b3 => ?_)
 refine sE (step_alloc rfl) rfl (fun b4 => ?_)
 refine sQ (pA rfl) rfl (sQ (pA rfl) rfl (sD (nS (tS (tR (sQ (pF0 rfl) rfl ?_))))))
 refine sL (lBs rfl rfl) rfl rfl ?_
 refine sP (pIN (j := 0) rfl rfl rfl (by simp)) rfl rfl ?_
 refine sL (load_a rfl rfl (hat0 _) rfl) rfl rfl ?_
 refine sE (step_alloc rfl) rfl (fun b15 => ?_)
 refine sS' ?_
 refine sD (nS (tS (tri_block (tS (tR (sQ (pF0 rfl) rfl ?_))))))
 refine sQ (pF rfl) rfl (sL (lBs rfl rfl) rfl rfl ?_)
 refine sQ (pF0 rfl) rfl (sQ (pF rfl) rfl (sL (lBs rfl rfl) rfl rfl ?_))
 refine sB (pE rfl rfl) rfl rfl (fun h29 => ?_) (fun h29 => ?_)
 refine sQ (pA rfl) rfl (sD (nS (cT rfl ?_)))
 refine tS (tR (sL (lBa rfl rfl) rfl rfl ?_))
 refine sS' ?_
 refine sQ (pA rfl) rfl (sQ (pA rfl) rfl (sD (nS (tT (rB (rS ?_))))))
 refine rF3 (rC rfl (lBa rfl rfl)) (rT rfl) (rT rfl) ?_
 (exact StpX.mk (by rw [if_pos (by omega)]) hre0)
 refine sQ (pA rfl) rfl (sD (nS (cF rfl ?_)))
 refine tS (tR (sQ (pF0 rfl) rfl (sQ (pF rfl) rfl (sL (lBs rfl rfl) rfl rfl ?_))))
 refine sB (pE rfl rfl) rfl rfl (fun h56 => ?_) (fun h56 => ?_)
 refine sQ (pA rfl) rfl (sD (nS (cT rfl ?_)))
 refine tS (tR (sQ (pF0 rfl) rfl (sL (lBa rfl rfl) rfl rfl ?_)))
 (have hgk : tk = 1 := (by omega); refine seq_imm rfl (l1Ground_fn (.mk fk fks) G _ hfa hfr) rfl rfl (fun u G1 hle1 hh => ?_); obtain ⟨gc, rfl, hrg⟩ := hh; have hgs := mGround_small (.mk fk fks); generalize mGround (.mk fk fks) = g at hrg hgs ⊢; obtain ⟨pg, cg, eg, rfl, _⟩ := hrg.open; replace hre0 := hre0.mono hle1; replace hfr := hfr.mono hle1; replace hty := hty.mono hle1)
 refine sE (step_alloc rfl) rfl (fun b66 => ?_)
 refine sS' ?_
 refine sD (nS (tS (tri_draw mixed rfl ?_)))
 refine any_load (i := 0) (l' := [tt,ff,ff,ff,ff,ff,ff,ff,ff,ff,ff,ff,ff,ff,ff,ff]) rfl npI (load_a rfl rfl (at_blk_all (by repeat first | exact mH | apply mT)) rfl) rfl (by kernel_rfl) rfl rfl ?_
 refine aL 3 rfl (load_a rfl rfl (at_blk_all (by repeat first | exact mH | apply mT)) rfl) rfl ?_
 refine aL 7 rfl (load_a rfl rfl (at_blk_all (by repeat first | exact mH | apply mT)) rfl) rfl ?_
 refine aP 1 rfl (pF0 rfl) rfl ?_
 refine aL 2 rfl (lBa rfl rfl) rfl ?_
 refine aP 4 rfl (pF0 rfl) rfl ?_
 refine aL 5 rfl (lBs rfl rfl) rfl ?_
 refine aP 8 rfl (pF0 rfl) rfl ?_
 refine aL 9 rfl (lBa rfl rfl) rfl ?_
 refine aP 10 rfl (pF0 rfl) rfl ?_
 refine aL 11 rfl (lBs rfl rfl) rfl ?_
 refine aO' 6 ?_
 (refine one_imm rfl rfl (l5Cast_fn _ (.mk fk fks) _ lb G1 _ _ _ ⟨by omega, by omega⟩ hre0 hfr hrg hfa.small hgs) rfl rfl rfl (fun u G3 hle3 hh => ?_); obtain ⟨wc, rfl, hrw⟩ := hh; have hwl := hrw.len; have hwo := hrw.one; replace hrg := hrg.mono hle3; replace hty := hty.mono hle3)
 refine aO' 12 ?_
 (refine one_imm rfl rfl (l5Cast_fn _ _ (.mk tk tks) lb G3 _ _ _ ⟨by omega, by omega⟩ hrw hrg hty hgs hta.small) rfl rfl rfl (fun u G4 hle4 hh => ?_); obtain ⟨xc, rfl, hrx⟩ := hh; have hxl := hrx.len; have hxo := hrx.one)
 refine aO' 13 ?_
 (refine oS rfl rfl rfl rfl hxl hxo rfl rfl ?_ (hu := by exact upd_all hxl.symm))
 refine aP 14 rfl (pA rfl) rfl ?_
 refine aP 15 rfl (pA rfl) rfl ?_
 refine aD' ?_
 refine nS (tT (rB (rS (rF3 (rC rfl (load_a rfl rfl (at_blk_all (by repeat first | exact mH | apply mT)) hxl)) (rT rfl) (rT rfl) ?_))))
 (exact StpX.mk (by rw [if_neg (by omega), if_pos (by omega)]) hrx)
 refine sQ (pA rfl) rfl (sD (nS (cF rfl ?_)))
 refine tS (tR (sQ (pF0 rfl) rfl (sQ (pF rfl) rfl (sL (lBs rfl rfl) rfl rfl ?_))))
 refine sP (pure_neq_f rfl rfl (by omega)) rfl rfl ?_
 refine sQ (pA rfl) rfl (sD (nS (cF rfl ?_)))
 refine tS (tR (sQ (pF0 rfl) rfl (sL (lBa rfl rfl) rfl rfl ?_)))
 focus (cases hDD : D; all_goals (rw [hDD] at hGr; refine seq_val rfl hGr rfl rfl ?_))
 refine sQ (pNf rfl) rfl (sQ (pA rfl) rfl (sD (nS (cT rfl ?_))))
 refine tS (tR (sQ (pF0 rfl) rfl (sL (lBa rfl rfl) rfl rfl ?_)))
 (refine seq_imm rfl (l1Ground_fn (.mk tk tks) G _ hta hty) rfl rfl (fun u G1 hle1 hh => ?_); obtain ⟨gc, rfl, hrg⟩ := hh; have hgs := mGround_small (.mk tk tks); generalize mGround (.mk tk tks) = g at hrg hgs ⊢; obtain ⟨pg, cg, eg, rfl, _⟩ := hrg.open; replace hre0 := hre0.mono hle1; replace hfr := hfr.mono hle1; replace hty := hty.mono hle1)
 refine sE (step_alloc rfl) rfl (fun b127 => ?_)
 refine sS' ?_
 refine sD (nS (tS (tri_draw mixed rfl ?_)))
 refine any_load (i := 0) (l' := [tt,ff,ff,ff,ff,ff,ff,ff,ff,ff,ff,ff,ff,ff,ff,ff]) rfl npI (load_a rfl rfl (at_blk_all (by repeat first | exact mH | apply mT)) rfl) rfl (by kernel_rfl) rfl rfl ?_
 refine aL 3 rfl (load_a rfl rfl (at_blk_all (by repeat first | exact mH | apply mT)) rfl) rfl ?_
 refine aL 7 rfl (load_a rfl rfl (at_blk_all (by repeat first | exact mH | apply mT)) rfl) rfl ?_
 refine aP 1 rfl (pF0 rfl) rfl ?_
 refine aL 2 rfl (lBa rfl rfl) rfl ?_
 refine aP 4 rfl (pF0 rfl) rfl ?_
 refine aL 5 rfl (lBs rfl rfl) rfl ?_
 refine aP 8 rfl (pF0 rfl) rfl ?_
 refine aL 9 rfl (lBa rfl rfl) rfl ?_
 refine aP 10 rfl (pF0 rfl) rfl ?_
 refine aL 11 rfl (lBs rfl rfl) rfl ?_
 refine aO' 6 ?_
 (refine one_imm rfl rfl (l5Cast_fn _ (.mk fk fks) _ lb G1 _ _ _ ⟨by omega, by omega⟩ hre0 hfr hrg hfa.small hgs) rfl rfl rfl (fun u G3 hle3 hh => ?_); obtain ⟨wc, rfl, hrw⟩ := hh; have hwl := hrw.len; have hwo := hrw.one; replace hrg := hrg.mono hle3; replace hty := hty.mono hle3)
 refine aO' 12 ?_
 (refine one_imm rfl rfl (l5Cast_fn _ _ (.mk tk tks) lb G3 _ _ _ ⟨by omega, by omega⟩ hrw hrg hty hgs hta.small) rfl rfl rfl (fun u G4 hle4 hh => ?_); obtain ⟨xc, rfl, hrx⟩ := hh; have hxl := hrx.len; have hxo := hrx.one)
 refine aO' 13 ?_
 (refine oS rfl rfl rfl rfl hxl hxo rfl rfl ?_ (hu := by exact upd_all hxl.symm))
 refine aP 14 rfl (pA rfl) rfl ?_
 refine aP 15 rfl (pA rfl) rfl ?_
 refine aD' ?_
 refine nS (tT (rB (rS (rF3 (rC rfl (load_a rfl rfl (at_blk_all (by repeat first | exact mH | apply mT)) hxl)) (rT rfl) (rT rfl) ?_))))
 (exact StpX.mk (by rw [if_neg (by omega), if_neg (by omega), if_pos rfl]) hrx)
 refine sQ (pNt rfl) rfl (sQ (pA rfl) rfl (sD (nS (cF rfl ?_))))
 refine tS (tR (sL (lBa rfl rfl) rfl rfl ?_))
 focus (cases hJJ : J; all_goals (rw [hJJ] at hI; refine seq_val rfl hI rfl rfl ?_))
 refine sQ (pNf rfl) rfl (sQ (pA rfl) rfl (sD (nS (cT rfl ?_))))
 refine tS (tR (sQ (pBd rfl rfl) rfl (sS' ?_)))
 refine sQ (pA rfl) rfl (sQ (pA rfl) rfl (sD (nS (tT (rB (rS ?_))))))
 refine rF3 (rC rfl (lBa rfl rfl)) (rT rfl) (rT rfl) ?_
 (exact StpX.mk (by rw [if_neg (by omega), if_neg (by omega), if_neg (by decide), if_pos rfl]; rfl) (tm0_r _))
 refine sQ (pNt rfl) rfl (sQ (pA rfl) rfl (sD (nS (cF rfl ?_))))
 refine tS (tR (sQ (pF0 rfl) rfl (sQ (pF rfl) rfl (sL (lBs rfl rfl) rfl rfl ?_))))
 refine sQ (pF0 rfl) rfl (sQ (pF rfl) rfl (sL (lBs rfl rfl) rfl rfl ?_))
 refine sB (pE rfl rfl) rfl rfl (fun h199 => ?_) (fun h199 => ?_)
 refine sQ (pA rfl) rfl (sD (nS (cT rfl ?_)))
 refine tS (tR (sQ (pF0 rfl) rfl (sL (lBs rfl rfl) rfl rfl ?_)))
 (have hq1 := h14 (hjk (by assumption)); obtain ⟨bq, oq, e3, rfl, hl3, hat3, hre3, hgb3⟩ := hasl.kidTm hakl (i := 0) (by omega) (by omega); have ho3 := hre3.one; refine sP (pIN (j := 0) rfl rfl rfl (by omega)) rfl rfl ?_)
 refine sL (load_a rfl rfl (hat3 _) hl3) rfl rfl ?_
 refine sS rfl rfl rfl hl3 ho3 rfl ?_ (hu := by exact upd_all hl3.symm)
 refine sQ (pA rfl) rfl (sQ (pA rfl) rfl (sD (nS (tT (rB (rS ?_))))))
 refine rF3 (rC rfl (load_a rfl rfl (at_blk_all (by repeat first | exact mH | apply mT)) hl3)) (rT rfl) (rT rfl) ?_
 (exact StpX.mk (by rw [if_neg (by omega), if_neg (by omega), if_neg (by decide), if_neg (by decide), if_pos (by assumption), kd_at (by omega)]) hre3)
 refine sQ (pA rfl) rfl (sD (nS (cF rfl ?_)))
 refine tK (nrm_block (nS (tS (tri_draw mixed rfl ?_))))
 refine any_pure (i := 0) (l' := [tt,ff,ff,ff,ff,ff]) rfl npI (pBd rfl rfl) rfl (by kernel_rfl) rfl rfl ?_
 refine aP 1 rfl (pF0 rfl) rfl ?_
 refine aL 2 rfl (lBs rfl rfl) rfl ?_
 refine aO' 3 ?_
 refine oT' rfl ?_
 refine aP 4 rfl (pA rfl) rfl ?_
 refine aP 5 rfl (pA rfl) rfl ?_
 refine aD' ?_
 refine nS (tT (rF3 (rC rfl (lBa rfl rfl)) (rT rfl) (rT rfl) ?_))
 (exact StpX.mk (by rw [if_neg (by omega), if_neg (by omega), if_neg (by decide), if_neg (by decide), if_neg (by assumption)]) (tm0_r _))
theorem typeOf_tyS {e : Tm} (h : termValid e = true) : mTypeOf e = mTyS [] e := by
 have hs := ((termValid_iff e).1 h).1
 obtain ⟨h1, h2⟩ := el_tyS e 1 [] 0 hs cxV_nil
 unfold mTypeOf
 cases hE : mEl [] e 0 with
 | none => rw [insert_none h hE, h2 hE]
 | some r =>
  obtain ⟨u, a, l⟩ := r
  rw [insert_some h hE, (h1 u a l hE).1]
theorem insert_inv {e u : Tm} {t : Ty} (h : mInsert e = some (u, t)) : termValid e = true ∧ ∃ l, mEl [] e 0 = some (u, t, l) := by
 unfold mInsert at h
 split at h
 ·rename_i hv
  refine ⟨hv, ?_⟩
  split at h
  ·rename_i u' t' l' he; cases h; exact ⟨l', he⟩
  ·cases h
 ·cases h
/-- A type where there is one, the zero value elsewhere. -/
def SureX (t : Ty) (x : Bool) (G : IM) : IM → Value → List Ent → Prop := Imm fun G' v => ∃ cells, v = .tuple ⟨[.agg ⟨cells⟩, .bool x]⟩ ∧ RTy G' (if x = true then t else ty0) cells
theorem l3SureXT_fn (t : Ty) (G : IM) (cells : List Value) (hr : RTy G t cells) : Fn Tryz.prog 62 [.agg ⟨cells⟩, .bool true] [] G (SureX t true G) := by
 obtain ⟨p, c, e, rfl, _⟩ := hr.open
 refine fn_enter Tryz.func62 rfl Tryz.ntmps62 Tryz.results62 rfl ?_
 intro w0
 refine tS (tR ?_)
 refine sE (step_box_a rfl rfl) rfl (fun b3 => ?_)
 refine sE (step_alloc rfl) rfl (fun b4 => ?_)
 refine sQ (pA rfl) rfl (sD (nS (tS (tS (tR (sQ (pM rfl) rfl ?_))))))
 refine sQ (pNt rfl) rfl (sD (nS (cF rfl ?_)))
 refine tK (nS (tS (tR (sL (lBa rfl rfl) rfl rfl ?_))))
 refine sS' ?_
 refine sQ (pA rfl) rfl (sD (nS (tT (rF2 (rC rfl (lBa rfl rfl)) (rT rfl) ?_))))
 (exact ⟨rfl, _, rfl, hr⟩)
theorem l3SureXF_fn (t : Ty) (G : IM) (cells : List Value) (hr : RTy G t cells) : Fn Tryz.prog 62 [.agg ⟨cells⟩, .bool false] [] G (SureX t false G) := by
 obtain ⟨p, c, e, rfl, _⟩ := hr.open
 refine fn_enter Tryz.func62 rfl Tryz.ntmps62 Tryz.results62 rfl ?_
 intro w0
 refine tS (tR ?_)
 refine sE (step_box_a rfl rfl) rfl (fun b3 => ?_)
 refine sE (step_alloc rfl) rfl (fun b4 => ?_)
 refine sQ (pA rfl) rfl (sD (nS (tS (tS (tR (sQ (pM rfl) rfl ?_))))))
 refine sQ (pNf rfl) rfl (sD (nS (cT rfl ?_)))
 refine tS (tR (sQ (pBd rfl rfl) rfl (sS' ?_)))
 refine sQ (pA rfl) rfl (sD (nS (tT (rS (rF2 (rC rfl (lBa rfl rfl)) (rT rfl) ?_)))))
 (exact ⟨rfl, _, rfl, tyLeaf_r _ ⟨by omega, by omega⟩⟩)
theorem l3SureX_fn (t : Ty) (x : Bool) (G : IM) (cells : List Value) (hr : RTy G t cells) : Fn Tryz.prog 62 [.agg ⟨cells⟩, .bool x] [] G (SureX t x G) := by
 cases x
 ·exact l3SureXF_fn t G cells hr
 ·exact l3SureXT_fn t G cells hr
theorem TyOk.sure {o : Option Ty} {t : Ty} {G G' : IM} {cells : List Value} (h : ∀ u, o = some u → u = t) (hr : RTy G' (if o.isSome = true then t else ty0) cells) : TyOk o G G' (.tuple ⟨[.agg ⟨cells⟩, .bool o.isSome]⟩) [] := by
 cases o with
 | none => exact ⟨rfl, cells, ty0, rfl, hr, by simp⟩
 | some u => exact ⟨rfl, cells, t, rfl, hr, fun x hx => by cases hx; exact (h _ rfl).symm⟩
theorem typeInX_fn (e : Tm) (G : IM) (cells : List Value) (hcnt : tmCount e ≤ 4294967296) (hr : RTm G e cells) :
  Fn Tryz.prog 37 [.slice none 0 0, .agg ⟨cells⟩] [] G (TyOk (mTypeOf e) G) := by
 have hl := hr.len
 have hone := hr.one
 have hw := sTermValid_fn e G cells hcnt hr
 have hT := fun h : termValid e = true => l3TypeX_fn e 1 [] G none 0 0 cells ((termValid_iff e).1 h).1 (by omega) cxV_nil (RCx.nil G) hr
 have hts := fun h => @typeOf_tyS e h
 have hno := @typeOf_no e
 refine fn_enter Tryz.func37 rfl Tryz.ntmps37 Tryz.results37 rfl ?_
 intro w0
 refine tS (tR ?_)
 refine sE (step_box_a rfl rfl) rfl (fun b3 => ?_)
 refine sE (step_alloc rfl) rfl (fun b4 => ?_)
 refine sQ (pA rfl) rfl (sD (nS (tS (tS (tR (sQ (pM rfl) rfl ?_))))))
 refine seq_val rfl ((ctxValid_fn _)) rfl rfl ?_
 refine sQ (pNt rfl) rfl (sQ (pM rfl) rfl (sL (load_a rfl rfl (at_blk_all (by repeat first | exact mH | apply mT)) (by assumption)) rfl rfl ?_))
 refine seq_valb rfl (hw) rfl rfl (fun h16 => ?_) (fun h16 => ?_)
 refine sQ (pNt rfl) rfl (sQ (pPf rfl rfl) rfl (sD (nS (cF rfl ?_))))
 refine tK (nS (tS (tR (sQ (pM rfl) rfl (sL (load_a rfl rfl (at_blk_all (by repeat first | exact mH | apply mT)) (by assumption)) rfl rfl ?_)))))
 (refine seq_imm rfl (hT (by assumption)) rfl rfl (fun v G1 hle1 hh => ?_); obtain ⟨mt, mc, rfl, hmr, hma, hmu⟩ := hh; obtain ⟨p1, c1, e1, rfl, _⟩ := hmr.open; have hmo := hts (by assumption))
 refine sQ (pX rfl rfl) rfl (sQ (pX rfl rfl) rfl ?_)
 (refine seq_imm rfl (l3SureX_fn mt _ _ _ hmr) rfl rfl (fun v G2 hle2 hh => ?_); obtain ⟨mc2, rfl, hmr2⟩ := hh; obtain ⟨p2, c2, e2, rfl, _⟩ := hmr2.open)
 refine sQ (pX rfl rfl) rfl (sQ (pX rfl rfl) rfl (sS' ?_))
 refine sQ (pA rfl) rfl (sD (nS (tT (rF2 (rC rfl (lBa rfl rfl)) (rT rfl) ?_))))
 (rw [hmo]; exact TyOk.sure hmu hmr2)
 refine sQ (pNf rfl) rfl (sQ (pPf rfl rfl) rfl (sD (nS (cT rfl ?_))))
 refine tS (tR (sQ (pBd rfl rfl) rfl (sS' ?_)))
 refine sQ (pA rfl) rfl (sD (nS (tT (rS (rF2 (rC rfl (lBa rfl rfl)) (rT rfl) ?_)))))
 (exact TyOk.no (u := ty0) (tyLeaf_r _ ⟨by omega, by omega⟩) rfl (hno (by assumption)))
theorem typeOfX_fn (e : Tm) (G : IM) (cells : List Value) (hcnt : tmCount e ≤ 4294967296) (hr : RTm G e cells) :
  Fn Tryz.prog 18 [.agg ⟨cells⟩] [] G (TyOk (mTypeOf e) G) := by
 have hl := hr.len
 have hone := hr.one
 refine fn_enter Tryz.func18 rfl Tryz.ntmps18 Tryz.results18 rfl ?_
 intro w0
 refine tS (tR ?_)
 refine sE (step_box_a rfl rfl) rfl (fun b3 => ?_)
 refine sE (step_alloc rfl) rfl (fun b4 => ?_)
 refine sQ (pA rfl) rfl (sD (nS (tS (tR (sL (load_a rfl rfl (at_blk_all (by repeat first | exact mH | apply mT)) (by assumption)) rfl rfl ?_)))))
 (refine seq_imm rfl (typeInX_fn e G cells hcnt hr) rfl rfl (fun v G1 hle1 hh => ?_); obtain ⟨cu, u, rfl, hru, hu⟩ := hh; obtain ⟨p1, c1, e1, rfl, _⟩ := hru.open)
 refine sQ (pX rfl rfl) rfl (sQ (pX rfl rfl) rfl (sS' ?_))
 refine sQ (pA rfl) rfl (sD (nS (tT (rF2 (rC rfl (lBa rfl rfl)) (rT rfl) ?_))))
 (exact ⟨rfl, _, u, rfl, hru, hu⟩)
/-- A term, perhaps cast, and the next label. -/
def CastX (e : Tm) (a b : Ty) (l : Int) : IM → Value → List Ent → Prop := Imm fun G' v => ∃ cells, v = .tuple ⟨[.agg ⟨cells⟩, .int .i64 (if tSame a b = true then l else l + 1)]⟩ ∧ RTm G' (if tSame a b = true then e else mCst e a b l) cells
theorem CastX.yes {G : IM} {e : Tm} {a b : Ty} {l : Int} {cells : List Value} (h : tSame a b = true) (hr : RTm G e cells) : CastX e a b l G (.tuple ⟨[.agg ⟨cells⟩, .int .i64 l]⟩) [] := ⟨rfl, cells, by rw [if_pos h], by rw [if_pos h]; exact hr⟩
theorem CastX.no {G : IM} {e : Tm} {a b : Ty} {l : Int} {cells : List Value} (h : tSame a b = false) (hr : RTm G (mCst e a b l) cells) : CastX e a b l G (.tuple ⟨[.agg ⟨cells⟩, .int .i64 (l + 1)]⟩) [] := ⟨rfl, cells, by rw [if_neg (by rw [h]; decide)], by rw [if_neg (by rw [h]; decide)]; exact hr⟩
theorem l4CastX_fn (e : Tm) (a b : Ty) (label : Int) (G : IM) (ce ca cb : List Value) (hlab : -1099511627776 ≤ label ∧ label ≤ 1099511627776) (hr : RTm G e ce) (hra : RTy G a ca) (hrb : RTy G b cb) (hsa : a.small) (hsb : b.small) :
  Fn Tryz.prog 85 [.agg ⟨ce⟩, .agg ⟨ca⟩, .agg ⟨cb⟩, .int .i64 label] [] G (CastX e a b label) := by
 have hl := hr.len
 have hone := hr.one
 obtain ⟨hlab1, hlab2⟩ := hlab
 have hSame := sTypeSameX_fn a b G ca cb hra hrb
 obtain ⟨ak, aks⟩ := a
 obtain ⟨bk, bks⟩ := b
 obtain ⟨pa, cca, ea, rfl, _⟩ := hra.open
 obtain ⟨pb, ccb, eb, rfl, _⟩ := hrb.open
 simp only [Ty.k, Ty.ks] at hra hrb hSame ⊢
 obtain ⟨v1, v2, v3, v4, v5, v6, v7, v8, v9, rfl⟩ := nine hl
 refine fn_enter Tryz.func85 rfl Tryz.ntmps85 Tryz.results85 rfl ?_
 intro w0
 refine tS (tR ?_)
 refine sE (step_box_a rfl rfl) rfl (fun b3 => ?_)
 refine sE (step_box_a rfl rfl) rfl (fun b4 => ?_)
 refine sE (step_box_a rfl rfl) rfl (fun b5 => ?_)
 refine sE (step_alloc rfl) rfl (fun b6 => ?_)
 refine sQ (pA rfl) rfl (sD (nS (tS (tS (tR (sL (lBa rfl rfl) rfl rfl ?_))))))
 refine sL (lBa rfl rfl) rfl rfl ?_
 refine seq_valb rfl (hSame) rfl rfl (fun h15 => ?_) (fun h15 => ?_)
 refine sD (nS (cT rfl ?_))
 refine tS (tR (sL (load_a rfl rfl (at_blk_all (by repeat first | exact mH | apply mT)) hl) rfl rfl ?_))
 refine sQ (pM rfl) rfl (sS rfl rfl rfl hl hone rfl ?_ (hu := by exact upd_all hl.symm))
 refine sQ (pA rfl) rfl (sD (nS (tT (rS (rF2 (rC rfl (load_a rfl rfl (at_blk_all (by repeat first | exact mH | apply mT)) hl)) (rT rfl) ?_)))))
 (exact CastX.yes (by assumption) hr)
 refine sD (nS (cF rfl ?_))
 refine tK (nS (tS (tri_draw mixed rfl ?_)))
 refine any_load (i := 5) (l' := [ff,ff,ff,ff,ff,tt,ff,ff,ff,ff,ff,ff]) rfl npI (load_a rfl rfl (at_blk_all (by repeat first | exact mH | apply mT)) hl) rfl (by kernel_rfl) rfl rfl ?_
 refine aL 0 rfl (lBa rfl rfl) rfl ?_
 refine aL 2 rfl (lBa rfl rfl) rfl ?_
 refine aP 4 rfl (pM rfl) rfl ?_
 refine aP 8 rfl (pM rfl) rfl ?_
 refine aP 9 rfl (pure_add rfl rfl (by omega) (by omega)) rfl ?_
 refine any_two (j := 1) (j' := 6) (by kernel_rfl) ?_ ?_
 (refine one_imm rfl rfl (l1Copy_fn _ _ _ hsa hra) rfl rfl rfl (fun v G1 hle1 hh => ?_); obtain ⟨cs1, F1, rfl, hs1, hn1⟩ := hh; obtain ⟨p1, c1, rfl, _⟩ := hs1.open; have hC2 := l1Copy_fn _ G1 _ hsb (hrb.mono hle1))
 refine any_two (j := 3) (j' := 6) (by kernel_rfl) ?_ ?_
 (refine one_imm rfl rfl hC2 rfl rfl rfl (fun v G2 hle2 hh => ?_); obtain ⟨cs2, F2, rfl, hs2, hn2⟩ := hh; obtain ⟨p2, c2, rfl, _⟩ := hs2.open; have hr1 := hs1.R.mono ((Dif.le G1 _).trans hle2); have hr2 := hs2.R.mono (Dif.le G2 G1); have hre := hr.mono (hle1.trans hle2))
 refine aO' 6 ?_
 (refine one_step0 rfl (step_buildSlice rfl rfl rfl (by omega) (by unfold maxLen; omega) rfl) rfl rfl ?_; rintro _ ⟨b49, rfl⟩)
 refine aP 7 rfl (pBd rfl rfl) rfl ?_
 refine aO' 10 ?_
 refine oT' rfl ?_
 refine aP 11 rfl (pA rfl) rfl ?_
 refine aD' ?_
 refine nS ?_
 (refine ret_freeze (cs := [v1, v2, v3, v4, v5, v6, v7, v8, v9]) (by repeat (first | exact Pk.here | apply Pk.there)) (fun G5 hle5 hsl5 hno5 => ?_); obtain ⟨hone1, hone2⟩ := tm_one (hre.mono hle5) hsl5)
 refine tT (rF2 (rC rfl (lBa rfl rfl)) (rT rfl) ?_)
 (exact CastX.no (by assumption) (RTm.of9 (ks := [e]) ⟨by omega, by omega⟩ ⟨by omega, by omega⟩ ⟨by omega, by omega⟩ (hr2.mono hle5) (hr1.mono hle5) hone1 hone2))
 (refine one_step0 rfl (step_buildSlice rfl rfl rfl (by omega) (by unfold maxLen; omega) rfl) rfl rfl ?_; rintro _ ⟨b60, rfl⟩)
 refine aO' 3 ?_
 (refine one_imm rfl rfl hC2 rfl rfl rfl (fun v G2 hle2 hh => ?_); obtain ⟨cs2, F2, rfl, hs2, hn2⟩ := hh; obtain ⟨p2, c2, rfl, _⟩ := hs2.open; have hr1 := hs1.R.mono ((Dif.le G1 _).trans hle2); have hr2 := hs2.R.mono (Dif.le G2 G1); have hre := hr.mono (hle1.trans hle2))
 refine aP 7 rfl (pBd rfl rfl) rfl ?_
 refine aO' 10 ?_
 refine oT' rfl ?_
 refine aP 11 rfl (pA rfl) rfl ?_
 refine aD' ?_
 refine nS ?_
 (refine ret_freeze (cs := [v1, v2, v3, v4, v5, v6, v7, v8, v9]) (by repeat (first | exact Pk.here | apply Pk.there)) (fun G5 hle5 hsl5 hno5 => ?_); obtain ⟨hone1, hone2⟩ := tm_one (hre.mono hle5) hsl5)
 refine tT (rF2 (rC rfl (lBa rfl rfl)) (rT rfl) ?_)
 (exact CastX.no (by assumption) (RTm.of9 (ks := [e]) ⟨by omega, by omega⟩ ⟨by omega, by omega⟩ ⟨by omega, by omega⟩ (hr2.mono hle5) (hr1.mono hle5) hone1 hone2))
 (refine one_step0 rfl (step_buildSlice rfl rfl rfl (by omega) (by unfold maxLen; omega) rfl) rfl rfl ?_; rintro _ ⟨b73, rfl⟩)
 refine aO' 1 ?_
 (refine one_imm rfl rfl (l1Copy_fn _ _ _ hsa hra) rfl rfl rfl (fun v G1 hle1 hh => ?_); obtain ⟨cs1, F1, rfl, hs1, hn1⟩ := hh; obtain ⟨p1, c1, rfl, _⟩ := hs1.open; have hC2 := l1Copy_fn _ G1 _ hsb (hrb.mono hle1))
 refine aO' 3 ?_
 (refine one_imm rfl rfl hC2 rfl rfl rfl (fun v G2 hle2 hh => ?_); obtain ⟨cs2, F2, rfl, hs2, hn2⟩ := hh; obtain ⟨p2, c2, rfl, _⟩ := hs2.open; have hr1 := hs1.R.mono ((Dif.le G1 _).trans hle2); have hr2 := hs2.R.mono (Dif.le G2 G1); have hre := hr.mono (hle1.trans hle2))
 refine aP 7 rfl (pBd rfl rfl) rfl ?_
 refine aO' 10 ?_
 refine oT' rfl ?_
 refine aP 11 rfl (pA rfl) rfl ?_
 refine aD' ?_
 refine nS ?_
 (refine ret_freeze (cs := [v1, v2, v3, v4, v5, v6, v7, v8, v9]) (by repeat (first | exact Pk.here | apply Pk.there)) (fun G5 hle5 hsl5 hno5 => ?_); obtain ⟨hone1, hone2⟩ := tm_one (hre.mono hle5) hsl5)
 refine tT (rF2 (rC rfl (lBa rfl rfl)) (rT rfl) ?_)
 (exact CastX.no (by assumption) (RTm.of9 (ks := [e]) ⟨by omega, by omega⟩ ⟨by omega, by omega⟩ ⟨by omega, by omega⟩ (hr2.mono hle5) (hr1.mono hle5) hone1 hone2))
/-- What the reference casts the operands to. -/
def wantOf (w ts : List Ty) : List Ty := if w = [] then ts else w
theorem wantOf_cons {a : Ty} {w ts : List Ty} : wantOf (a :: w) ts = a :: w := by unfold wantOf; rw [if_neg (by simp)]
def WantX (ws : List Ty) (n : Nat) (G : IM) : IM → Value → List Ent → Prop := Imm fun G' v => ∃ p c es, v = .slice p n c ∧ ws.length = n ∧ SlE G' p n c 2 es ∧ RTyL G' ws es
theorem WantX.mk {G G' : IM} {p : Option Addr} {n c : Nat} {ws ws' : List Ty} {es : List (List Value)} (he : ws = ws') (hl : ws'.length = n) (hs : Sl G' p n c 2 es.flatten) (hst : RTyL G' ws' es) : WantX ws n G G' (.slice p n c) [] := by
 subst he
 exact ⟨rfl, p, c, es, rfl, hl, SlE.of hs (by rw [hst.len, hl]) hst.all (fun e he => (hst.each e he).2), hst⟩
theorem WantX.mk1 {G G' : IM} {p : Option Addr} {n c : Nat} {ws : List Ty} {a : Ty} {ca : List Value} (he : ws = [a]) (hn : n = 1) (hs : Sl G' p 1 c 2 ca) (ha : RTy G' a ca) : WantX ws n G G' (.slice p 1 c) [] := by
 subst hn
 exact WantX.mk (ws' := [a]) (es := [ca]) he rfl (by simpa using hs) ⟨_, _, rfl, ha, rfl⟩
theorem WantX.mk2 {G G' : IM} {p : Option Addr} {n c : Nat} {ws : List Ty} {a b : Ty} {ca cb : List Value} (he : ws = [a, b]) (hn : n = 2) (hs : Sl G' p 2 c 2 (ca ++ cb)) (ha : RTy G' a ca) (hb : RTy G' b cb) : WantX ws n G G' (.slice p 2 c) [] := by
 subst hn
 exact WantX.mk (ws' := [a, b]) (es := [ca, cb]) he rfl (by simpa using hs) ⟨_, _, rfl, ha, _, _, rfl, hb, rfl⟩
theorem WantX.mk3 {G G' : IM} {p : Option Addr} {n c : Nat} {ws : List Ty} {a b d : Ty} {ca cb cd : List Value} (he : ws = [a, b, d]) (hn : n = 3) (hs : Sl G' p 3 c 2 (ca ++ (cb ++ cd))) (ha : RTy G' a ca) (hb : RTy G' b cb) (hd : RTy G' d cd) : WantX ws n G G' (.slice p 3 c) [] := by
 subst hn
 exact WantX.mk (ws' := [a, b, d]) (es := [ca, cb, cd]) he rfl (by simpa using hs) ⟨_, _, rfl, ha, _, _, rfl, hb, _, _, rfl, hd, rfl⟩
section
variable {cx : Cx} {k : Int} {nm : ByteArray} {ty : Ty} {ts w : List Ty} {t : Ty}
theorem wo6 (hk : k = 6) (h : mWanted cx k nm ty ts = some (w, t)) (hl : 0 < ts.length) : ∃ a b, mMatch 4 ts[0] = some (a, b) ∧ wantOf w ts = [.mk 4 [a, b], a] := by
 subst hk
 rw [mW6, gD hl] at h
 split at h
 ·rename_i a b hm
  split at h
  ·cases h; exact ⟨a, _, hm, wantOf_cons⟩
  ·cases h
 ·cases h
theorem wo78 (hk : k = 7 ∨ k = 8) (h : mWanted cx k nm ty ts = some (w, t)) : wantOf w ts = [tyInt, tyInt] := by
 rw [mW78 hk] at h
 split at h
 ·cases h; exact wantOf_cons
 ·cases h
theorem wo9 (hk : k = 9) (h : mWanted cx k nm ty ts = some (w, t)) : wantOf w ts = [tyBool, t, t] := by
 subst hk
 rw [mW9] at h
 split at h
 ·cases h; exact wantOf_cons
 ·cases h
theorem wo11 (hk : k = 11 ∨ k = 12) (h : mWanted cx k nm ty ts = some (w, t)) (hl : 0 < ts.length) : ∃ a b, mMatch 5 ts[0] = some (a, b) ∧ wantOf w ts = [.mk 5 [a, b]] := by
 rw [mW11 hk, gD hl] at h
 split at h
 ·rename_i a b hm; cases h; exact ⟨a, b, hm, wantOf_cons⟩
 ·cases h
theorem wo13 (hk : k = 13) (h : mWanted cx k nm ty ts = some (w, t)) : wantOf w ts = [t] := by
 subst hk
 rw [mW13] at h
 split at h
 ·cases h; exact wantOf_cons
 ·cases h
theorem wo0 (hk : 1 ≤ k ∧ k ≤ 5 ∨ k = 10) (h : mWanted cx k nm ty ts = some (w, t)) : wantOf w ts = ts := by
 have : w = [] := by
  have hk' : k = 1 ∨ k = 2 ∨ (k = 3 ∨ k = 4) ∨ k = 5 ∨ k = 10 := by omega
  rcases hk' with rfl | rfl | hk | rfl | rfl
  ·rw [mW1] at h; split at h <;> cases h; rfl
  ·rw [mW2] at h; cases h; rfl
  ·rw [mW34 hk] at h; cases h; rfl
  ·rw [mW5] at h; cases h; rfl
  ·rw [mW10] at h; cases h; rfl
 subst this; rfl
end
theorem l4WantX_fn (cx : Cx) (k : Int) (nm : ByteArray) (num : Int) (ty fr : Ty) (lb : Int) (ks : List Tm) (ts w : List Ty) (t : Ty) (G : IM) (cells tcells : List Value) (p : Option Addr) (c : Nat) (es : List (List Value))
  (hw : mWanted cx k nm ty ts = some (w, t)) (hk14 : k ≠ 14) (hops : tmOps k = ts.length) (hr : RTm G (.mk k nm num ty fr lb ks) cells) (hsl : SlE G p ts.length c 2 es) (hkl : RTyL G ts es) (har : ∀ t ∈ ts, tAr t) (hrt : RTy G t tcells) :
  Fn Tryz.prog 84 [.agg ⟨cells⟩, .slice p ts.length c, .agg ⟨tcells⟩] [] G (WantX (wantOf w ts) ts.length G) := by
 have hone := hr.one
 have hop := tm_ops hops
 have hkr : 1 ≤ k ∧ k ≤ 14 := tmOps_rng (by rw [hops]; omega)
 have ha0 := fun h : 0 < ts.length => har _ (List.getElem_mem h)
 obtain ⟨tyk, tyks⟩ := ty
 obtain ⟨fk, fks⟩ := fr
 obtain ⟨tk, tks⟩ := t
 obtain ⟨q9, d9, e9, rfl, _⟩ := hrt.open
 obtain ⟨pt, ct, pf, cf, pk, ck, ek, rfl, hk, hnum, hlb, hrty, hrfr, _, _⟩ := hr.open9
 have o6 := fun h hl => wo6 h hw hl
 have o78 := fun h => wo78 h hw
 have o9 := fun h => wo9 h hw
 have o11 := fun h hl => wo11 h hw hl
 have o13 := fun h => wo13 h hw
 have o0 := fun h => wo0 h hw
 refine fn_enter Tryz.func84 rfl Tryz.ntmps84 Tryz.results84 rfl ?_
 intro w0
 refine tS (tR ?_)
 refine sE (step_box_a rfl rfl) rfl (fun b3 => ?_)
 refine sE (step_box_a rfl rfl) rfl (fun b4 => ?_)
 refine sQ (pA rfl) rfl (sD (nS (tS (tS (tR (sQ (pF0 rfl) rfl ?_))))))
 refine sL (lBs rfl rfl) rfl rfl ?_
 refine sD (nS (tri_block (tS (tR (sB (pE rfl rfl) rfl rfl (fun h18 => ?_) (fun h18 => ?_))))))
 refine sQ (pA rfl) rfl (sD (nS (cT rfl ?_)))
 refine tS (tR (sQ (pM rfl) rfl ?_))
 (have hl2 : ts.length = 2 := hop.1 (by omega); obtain ⟨b0, o0', q0, d0, hp0, hat0, hre0, hg0⟩ := hsl.kidTy hkl (i := 0) (by omega) (by omega); cases hp0; refine sP (pIN (j := 0) rfl rfl rfl (by omega)) rfl rfl ?_)
 refine sL (load_a rfl rfl (hat0 _) rfl) rfl rfl ?_
 (obtain ⟨ma', mb', hm, hwo⟩ := o6 (by omega) (by omega); refine seq_imm rfl (l3MatchX_fn 4 ts[0] G _ (.inl rfl) (ha0 (by omega)) hre0) rfl rfl (fun v G1 hle1 hh => ?_); obtain ⟨ma, mca, mb, mcb, rfl, hma, hmb, hma2, hmb2, hpp⟩ := hh; have hpe := hpp _ hm; simp only [Prod.mk.injEq] at hpe; obtain ⟨rfl, rfl⟩ := hpe; obtain ⟨p1, c1, e1, rfl, _⟩ := hma.open; obtain ⟨p2, c2, e2, rfl, _⟩ := hmb.open; have hTwo := l3TwoX_fn 4 _ _ G1 _ _ (.inl rfl) hma2 hmb2 hma hmb)
 refine sQ (pM rfl) rfl (sQ (pX rfl rfl) rfl (sQ (pX rfl rfl) rfl (sQ (pX rfl rfl) rfl ?_)))
 refine sE (step_alloc rfl) rfl (fun b33 => ?_)
 refine sE (step_alloc rfl) rfl (fun b34 => ?_)
 refine sS' ?_
 refine sS' ?_
 refine sQ (pA rfl) rfl (sD (nS (tS (tR (sL (lBa rfl rfl) rfl rfl ?_)))))
 refine sL (lBa rfl rfl) rfl rfl ?_
 (refine seq_imm rfl hTwo rfl rfl (fun v G2 hle2 hh => ?_); obtain ⟨mc, rfl, hmr⟩ := hh; obtain ⟨p3, c3, e3, rfl, _⟩ := hmr.open; have hma4 := hma.mono hle2)
 refine sQ (pM rfl) rfl (sQ (pX rfl rfl) rfl (sQ (pX rfl rfl) rfl ?_))
 refine sE (step_alloc rfl) rfl (fun b48 => ?_)
 refine sS' ?_
 refine sQ (pA rfl) rfl (sD (nS (tS (tR (sL (lBa rfl rfl) rfl rfl ?_)))))
 refine sL (lBa rfl rfl) rfl rfl ?_
 (refine seq_step (step_buildSlice rfl rfl rfl (by omega) (by unfold maxLen; omega) rfl) rfl ?_; rintro _ ⟨b57, rfl⟩)
 refine sQ (pA rfl) rfl (sD (nS ?_))
 (refine ret_freeze (by repeat (first | exact Pk.here | apply Pk.there)) (fun G5 hle5 hsl5 hno5 => ?_))
 refine tT (rB (rS (rF1 (rT rfl) ?_)))
 (exact WantX.mk2 hwo (hop.1 (by omega)) hsl5 (hmr.mono hle5) (hma4.mono hle5))
 refine sQ (pA rfl) rfl (sD (nS (cF rfl ?_)))
 refine tS (tS (tR (sB (pE rfl rfl) rfl rfl (fun h74 => ?_) (fun h74 => ?_))))
 refine sQ (pA rfl) rfl (sD (nS (cT rfl ?_)))
 refine tK (nS (cT rfl ?_))
 refine tS (tR (seq_val rfl ((l3Int_fn _)) rfl rfl ?_))
 refine seq_val rfl ((l3Int_fn _)) rfl rfl ?_
 (refine seq_step (step_buildSlice rfl rfl rfl (by omega) (by unfold maxLen; omega) rfl) rfl ?_; rintro _ ⟨b86, rfl⟩)
 refine sQ (pA rfl) rfl (sD (nS ?_))
 (refine ret_freeze (by repeat (first | exact Pk.here | apply Pk.there)) (fun G5 hle5 hsl5 hno5 => ?_))
 refine tT (rB (rS (rF1 (rT rfl) ?_)))
 (exact WantX.mk2 (o78 (by omega)) (hop.1 (by omega)) hsl5 (tyInt_r _) (tyInt_r _))
 refine sQ (pA rfl) rfl (sD (nS (cF rfl ?_)))
 refine tR (sB (pE rfl rfl) rfl rfl (fun h101 => ?_) (fun h101 => ?_))
 refine sQ (pA rfl) rfl (sD (nS (cT rfl ?_)))
 refine tS (tR (seq_val rfl ((l3Int_fn _)) rfl rfl ?_))
 refine seq_val rfl ((l3Int_fn _)) rfl rfl ?_
 (refine seq_step (step_buildSlice rfl rfl rfl (by omega) (by unfold maxLen; omega) rfl) rfl ?_; rintro _ ⟨b110, rfl⟩)
 refine sQ (pA rfl) rfl (sD (nS ?_))
 (refine ret_freeze (by repeat (first | exact Pk.here | apply Pk.there)) (fun G5 hle5 hsl5 hno5 => ?_))
 refine tT (rB (rS (rF1 (rT rfl) ?_)))
 (exact WantX.mk2 (o78 (by omega)) (hop.1 (by omega)) hsl5 (tyInt_r _) (tyInt_r _))
 refine sQ (pA rfl) rfl (sD (nS (cF rfl ?_)))
 refine tS (tR (sB (pE rfl rfl) rfl rfl (fun h126 => ?_) (fun h126 => ?_)))
 refine sQ (pA rfl) rfl (sD (nS (cT rfl ?_)))
 refine tS (tri_draw mixed rfl ?_)
 refine any_load (i := 1) (l' := [ff,tt,ff,ff,ff]) rfl npI (lBa rfl rfl) rfl (by kernel_rfl) rfl rfl ?_
 refine aL 2 rfl (lBa rfl rfl) rfl ?_
 refine aO' 0 ?_
 refine one_val rfl rfl ((l3Bool_fn _)) rfl rfl rfl ?_
 refine aO' 3 ?_
 (refine one_step0 rfl (step_buildSlice rfl rfl rfl (by omega) (by unfold maxLen; omega) rfl) rfl rfl ?_; rintro _ ⟨b138, rfl⟩)
 refine aP 4 rfl (pA rfl) rfl ?_
 refine aD' ?_
 refine nS ?_
 (refine ret_freeze (by repeat (first | exact Pk.here | apply Pk.there)) (fun G5 hle5 hsl5 hno5 => ?_))
 refine tT (rB (rS (rF1 (rT rfl) ?_)))
 (exact WantX.mk3 (o9 (by omega)) (hop.2.1 (by omega)) hsl5 (tyBool_r _) (hrt.mono hle5) (hrt.mono hle5))
 refine sQ (pA rfl) rfl (sD (nS (cF rfl ?_)))
 refine tS (tS (tR (sB (pE rfl rfl) rfl rfl (fun h155 => ?_) (fun h155 => ?_))))
 refine sQ (pA rfl) rfl (sD (nS (cT rfl ?_)))
 refine tK (nS (cT rfl ?_))
 refine tS (tR (sQ (pM rfl) rfl ?_))
 (have hl1 : ts.length = 1 := hop.2.2 (by omega); obtain ⟨b0, o0', q0, d0, hp0, hat0, hre0, hg0⟩ := hsl.kidTy hkl (i := 0) (by omega) (by omega); cases hp0; refine sP (pIN (j := 0) rfl rfl rfl (by omega)) rfl rfl ?_)
 refine sL (load_a rfl rfl (hat0 _) rfl) rfl rfl ?_
 (obtain ⟨ma', mb', hm, hwo⟩ := o11 (by omega) (by omega); refine seq_imm rfl (l3MatchX_fn 5 ts[0] G _ (.inr rfl) (ha0 (by omega)) hre0) rfl rfl (fun v G1 hle1 hh => ?_); obtain ⟨ma, mca, mb, mcb, rfl, hma, hmb, hma2, hmb2, hpp⟩ := hh; have hpe := hpp _ hm; simp only [Prod.mk.injEq] at hpe; obtain ⟨rfl, rfl⟩ := hpe; obtain ⟨p1, c1, e1, rfl, _⟩ := hma.open; obtain ⟨p2, c2, e2, rfl, _⟩ := hmb.open; have hTwo := l3TwoX_fn 5 _ _ G1 _ _ (.inr rfl) hma2 hmb2 hma hmb)
 refine sQ (pM rfl) rfl (sQ (pX rfl rfl) rfl (sQ (pX rfl rfl) rfl (sQ (pX rfl rfl) rfl ?_)))
 refine sE (step_alloc rfl) rfl (fun b173 => ?_)
 refine sE (step_alloc rfl) rfl (fun b174 => ?_)
 refine sS' ?_
 refine sS' ?_
 refine sQ (pA rfl) rfl (sD (nS (tS (tR (sL (lBa rfl rfl) rfl rfl ?_)))))
 refine sL (lBa rfl rfl) rfl rfl ?_
 (refine seq_imm rfl hTwo rfl rfl (fun v G2 hle2 hh => ?_); obtain ⟨mc, rfl, hmr⟩ := hh; obtain ⟨p3, c3, e3, rfl, _⟩ := hmr.open; have hma4 := hma.mono hle2)
 refine sQ (pM rfl) rfl (sQ (pX rfl rfl) rfl (sQ (pX rfl rfl) rfl ?_))
 refine sE (step_alloc rfl) rfl (fun b188 => ?_)
 refine sS' ?_
 refine sQ (pA rfl) rfl (sD (nS (tS (tR (sL (lBa rfl rfl) rfl rfl ?_)))))
 (refine seq_step (step_buildSlice rfl rfl rfl (by omega) (by unfold maxLen; omega) rfl) rfl ?_; rintro _ ⟨b196, rfl⟩)
 refine sQ (pA rfl) rfl (sD (nS ?_))
 (refine ret_freeze (by repeat (first | exact Pk.here | apply Pk.there)) (fun G5 hle5 hsl5 hno5 => ?_))
 refine tT (rB (rS (rF1 (rT rfl) ?_)))
 (exact WantX.mk1 hwo (hop.2.2 (by omega)) hsl5 (hmr.mono hle5))
 refine sQ (pA rfl) rfl (sD (nS (cF rfl ?_)))
 refine tR (sB (pE rfl rfl) rfl rfl (fun h211 => ?_) (fun h211 => ?_))
 refine sQ (pA rfl) rfl (sD (nS (cT rfl ?_)))
 refine tS (tR (sQ (pM rfl) rfl ?_))
 (have hl1 : ts.length = 1 := hop.2.2 (by omega); obtain ⟨b0, o0', q0, d0, hp0, hat0, hre0, hg0⟩ := hsl.kidTy hkl (i := 0) (by omega) (by omega); cases hp0; refine sP (pIN (j := 0) rfl rfl rfl (by omega)) rfl rfl ?_)
 refine sL (load_a rfl rfl (hat0 _) rfl) rfl rfl ?_
 (obtain ⟨ma', mb', hm, hwo⟩ := o11 (by omega) (by omega); refine seq_imm rfl (l3MatchX_fn 5 ts[0] G _ (.inr rfl) (ha0 (by omega)) hre0) rfl rfl (fun v G1 hle1 hh => ?_); obtain ⟨ma, mca, mb, mcb, rfl, hma, hmb, hma2, hmb2, hpp⟩ := hh; have hpe := hpp _ hm; simp only [Prod.mk.injEq] at hpe; obtain ⟨rfl, rfl⟩ := hpe; obtain ⟨p1, c1, e1, rfl, _⟩ := hma.open; obtain ⟨p2, c2, e2, rfl, _⟩ := hmb.open; have hTwo := l3TwoX_fn 5 _ _ G1 _ _ (.inr rfl) hma2 hmb2 hma hmb)
 refine sQ (pM rfl) rfl (sQ (pX rfl rfl) rfl (sQ (pX rfl rfl) rfl (sQ (pX rfl rfl) rfl ?_)))
 refine sE (step_alloc rfl) rfl (fun b226 => ?_)
 refine sE (step_alloc rfl) rfl (fun b227 => ?_)
 refine sS' ?_
 refine sS' ?_
 refine sQ (pA rfl) rfl (sD (nS (tS (tR (sL (lBa rfl rfl) rfl rfl ?_)))))
 refine sL (lBa rfl rfl) rfl rfl ?_
 (refine seq_imm rfl hTwo rfl rfl (fun v G2 hle2 hh => ?_); obtain ⟨mc, rfl, hmr⟩ := hh; obtain ⟨p3, c3, e3, rfl, _⟩ := hmr.open; have hma4 := hma.mono hle2)
 refine sQ (pM rfl) rfl (sQ (pX rfl rfl) rfl (sQ (pX rfl rfl) rfl ?_))
 refine sE (step_alloc rfl) rfl (fun b241 => ?_)
 refine sS' ?_
 refine sQ (pA rfl) rfl (sD (nS (tS (tR (sL (lBa rfl rfl) rfl rfl ?_)))))
 (refine seq_step (step_buildSlice rfl rfl rfl (by omega) (by unfold maxLen; omega) rfl) rfl ?_; rintro _ ⟨b249, rfl⟩)
 refine sQ (pA rfl) rfl (sD (nS ?_))
 (refine ret_freeze (by repeat (first | exact Pk.here | apply Pk.there)) (fun G5 hle5 hsl5 hno5 => ?_))
 refine tT (rB (rS (rF1 (rT rfl) ?_)))
 (exact WantX.mk1 hwo (hop.2.2 (by omega)) hsl5 (hmr.mono hle5))
 refine sQ (pA rfl) rfl (sD (nS (cF rfl ?_)))
 refine tS (tR (sB (pE rfl rfl) rfl rfl (fun h265 => ?_) (fun h265 => ?_)))
 refine sQ (pA rfl) rfl (sD (nS (cT rfl ?_)))
 refine tS (tR (sL (lBa rfl rfl) rfl rfl ?_))
 (refine seq_step (step_buildSlice rfl rfl rfl (by omega) (by unfold maxLen; omega) rfl) rfl ?_; rintro _ ⟨b273, rfl⟩)
 refine sQ (pA rfl) rfl (sD (nS ?_))
 (refine ret_freeze (by repeat (first | exact Pk.here | apply Pk.there)) (fun G5 hle5 hsl5 hno5 => ?_))
 refine tT (rB (rS (rF1 (rT rfl) ?_)))
 (exact WantX.mk1 (o13 (by omega)) (hop.2.2 (by omega)) hsl5 (hrt.mono hle5))
 refine sQ (pA rfl) rfl (sD (nS (cF rfl ?_)))
 refine tK (nrm_block (nS (tS (tR (sQ (pM rfl) rfl (sQ (pA rfl) rfl ?_))))))
 refine sD (nS (tT (rF1 (rT rfl) ?_)))
 (exact WantX.mk (o0 (by omega)) rfl hsl.sl hkl)
theorem mCasts_self : ∀ (us : List Tm) (h : List Ty) (l : Int), mCasts us h h l = (us, l)
 | [], h, l => by simp [mCasts]
 | u :: us, [], l => by simp [mCasts]
 | u :: us, a :: h, l => by simp only [mCasts, tSame_self, if_true, mCasts_self us h l]
theorem mCasts_want {us : List Tm} {h w : List Ty} {l : Int} : mCasts us h (wantOf w h) l = mCasts us h w l := by
 unfold wantOf
 split
 ·rename_i hw; subst hw; rw [mCasts_self, mCasts_nil]
 ·rfl
theorem wantOf_valid {cx : Cx} {k : Int} {nm : ByteArray} {ty : Ty} {h w : List Ty} {t : Ty} (hh : ∀ a ∈ h, tValid a = true) (hw : Wt cx k nm ty h w t) : ∀ a ∈ wantOf w h, tValid a = true := by
 intro a ha
 unfold wantOf at ha
 split at ha
 ·exact hh a ha
 ·rename_i hne
  obtain ⟨i, hi, rfl⟩ := List.mem_iff_getElem.1 ha
  exact (hw.ok i hi (by rcases hw.len with h1 | h1; exact absurd h1 hne; omega)).2
/-- A term with casts, its type, the next label. -/
def InsXR (u : Tm) (t : Ty) (l : Int) (G : IM) : IM → Value → List Ent → Prop := Imm fun G' v => ∃ cu ct, v = .tuple ⟨[.agg ⟨cu⟩, .agg ⟨ct⟩, .int .i64 (l + 1)]⟩ ∧ RTm G' u cu ∧ RTy G' t ct
theorem elL_len {cx : Cx} : ∀ {ks : List Tm} {l : Int} {us : List Tm} {h : List Ty} {l' : Int}, mElL cx ks l = some (us, h, l') → us.length = ks.length ∧ h.length = ks.length
 | [], l, us, h, l', he => by simp only [mElL, Option.some.injEq, Prod.mk.injEq] at he; obtain ⟨rfl, rfl, _⟩ := he; exact ⟨rfl, rfl⟩
 | t :: ts, l, us, h, l', he => by
  rw [mElL] at he
  split at he
  ·cases he
  ·split at he
   ·cases he
   ·rename_i hz
    simp only [Option.some.injEq, Prod.mk.injEq] at he
    obtain ⟨rfl, rfl, _⟩ := he
    have := elL_len hz
    simp [this.1, this.2]
theorem l4InsertX_fn : ∀ (e : Tm) (d : Int) (cx : Cx) (l0 : Int) (u0 : Tm) (t0 : Ty) (l1 : Int) (G : IM) (p : Option Addr) (n c : Nat) (cells : List Value), mEl cx e l0 = some (u0, t0, l1) → sShape 12 14 e d = true → (n : Int) ≤ d → cxV cx → RCx G cx p n c → RTm G e cells → 0 ≤ l0 → l0 + (tmCount e : Int) ≤ 1000000000 →
  Fn Tryz.prog 51 [.slice p n c, .agg ⟨cells⟩, .int .i64 (l0 + 1)] [] G (InsXR u0 t0 l1 G) := by
 refine Tm.ind fun k nm num ty fr lb ks ih d cx l0 u0 t0 l1 G p n c cells hel hv hnd hcv hx hr hl0 hlc => ?_
 have hr0 := hr
 have hone := hr.one
 have hT := l3TypeX_fn _ d cx G p n c cells hv hnd hcv hx hr
 obtain ⟨hts1, hts2⟩ := (el_tyS _ d cx l0 hv hcv).1 u0 t0 l1 hel
 rw [hts1] at hT
 have hsm := shape_small _ d hv
 obtain ⟨hv1, hv2, hv3, hv4⟩ := sShape_go2 hv
 have hvk := (sShapeL_iff 12 14 ks _).1 hv4
 have har := (tmNode_iff.1 hv3).1
 have hop := tm_ops har
 obtain ⟨hta, hts⟩ := node_ann hv3
 have hcvX : cxV (inCx cx k nm ty) := cxV_in hcv fun hk => (tmNode_iff.1 hv3).2.2.2.2.2.1 (.inl hk)
 have hck : tmCount (.mk k nm num ty fr lb ks) = tmCountL ks + 1 := tmCount_mk ..
 rw [hck] at hlc
 rw [mEl] at hel
 rcases hEL : mElL (inCx cx k nm ty) ks l0 with _ | ⟨usA, tsA, lA⟩
 ·rw [hEL] at hel; cases hel
 rw [hEL] at hel
 unfold mElN at hel
 rcases hNT : mNodeT cx k nm ty tsA with _ | ⟨w, t9⟩
 ·simp only [hNT] at hel; cases hel
 simp only [hNT, Option.some.injEq, Prod.mk.injEq] at hel
 obtain ⟨hu0, rfl, rfl⟩ := hel
 obtain ⟨hlA1, hlA2⟩ := elL_len hEL
 have hmw := (mNodeT_valid hNT).2
 obtain ⟨_, htv, _⟩ := (el_tySL ks (fun t ht d' cx' l' h1 h2 => el_tyS t d' cx' l' h1 h2) (d + 1) _ l0 hv4 hcvX).1 usA tsA lA hEL
 have hcAll := mCasts_lab usA tsA w lA
 have hWV : ∀ a ∈ wantOf w tsA, tValid a = true := wantOf_valid htv (wanted_wt htv (fun hk => (tmNode_iff.1 hv3).2.2.2.2.2.1 (.inr (.inl hk))) (by rw [hlA2]; exact har) hv2 hmw)
 obtain ⟨tk, tks⟩ := ty
 obtain ⟨fk, fks⟩ := fr
 obtain ⟨pt, ct, pf, cf, q, cq, es, rfl, hk, hnum, hlb, hty, hfr, hsl, hkl⟩ := hr.open9
 have hlen : ks.length ≤ 3 := by have := tmOps_le k; omega
 have hk13 : k = 13 → ks.length = 1 := fun h => hop.2.2 (by omega)
 refine fn_enter Tryz.func51 rfl Tryz.ntmps51 Tryz.results51 rfl ?_
 intro w0
 refine tS ?_
 refine tR ?_
 refine sE (step_box_a rfl rfl) rfl (fun b3 => ?_)
 refine sE (step_alloc rfl) rfl (fun b4 => ?_)
 refine sE (step_alloc rfl) rfl (fun b5 => ?_)
 refine sQ (pA rfl) rfl ?_
 refine sD ?_
 refine nS ?_
 refine tS ?_
 refine tR ?_
 refine sQ (pM rfl) rfl ?_
 refine sL (lBa rfl rfl) rfl rfl ?_
 (refine seq_imm rfl hT rfl rfl (fun v G1 hle1 hh => ?_); obtain ⟨mt, mc, rfl, hmr, hma, hmu⟩ := hh; obtain rfl := hmu _ rfl; obtain ⟨p1, d1, e1, rfl, _⟩ := hmr.open; have hC := l2Copy_fn _ G1 _ hsm (hr0.mono hle1))
 refine sQ (pM rfl) rfl ?_
 refine sQ (pX rfl rfl) rfl ?_
 refine sQ (pX rfl rfl) rfl ?_
 refine sE (step_alloc rfl) rfl (fun b17 => ?_)
 refine sS' ?_
 refine sQ (pA rfl) rfl ?_
 refine sD ?_
 refine nS ?_
 refine tS ?_
 refine tR ?_
 refine sL (lBa rfl rfl) rfl rfl ?_
 (refine seq_imm rfl hC rfl rfl (fun v G2 hle2 hh => ?_); obtain ⟨cs1, F1, rfl, hs1, hn1⟩ := hh; have hr1 := hs1.R.mono (Dif.le G2 G1); obtain ⟨q1, c1, q2, c2, q3, c3, es1, rfl, _, _, _, hty1, hfr1, _, _⟩ := hr1.open9; have hle02 := hle1.trans hle2; replace hx := hx.mono hle02; replace hty := hty.mono hle02; replace hsl := hsl.mono hle02; replace hkl := hkl.mono hle02; replace hmr := hmr.mono hle2; replace hr0 := hr0.mono hle02)
 refine sE (step_alloc rfl) rfl (fun b26 => ?_)
 refine sS' ?_
 refine sD ?_
 refine nS ?_
 refine tS ?_
 refine tR ?_
 refine sQ (pF0 rfl) rfl ?_
 refine sS' ?_
 refine sD ?_
 refine nS ?_
 refine tS ?_
 refine tS ?_
 (show Tri _ _ (.region 4 ..) _ _; refine tri_cut (fun (x : Bool) => ⟨[(30, .bool x), (0, .slice p n c), (2, .int .i64 (l0 + 1)), (4, .pointer (some ⟨b3, 0, none⟩)), (6, .pointer (some ⟨b4, 0, none⟩)), (7, .pointer (some ⟨b5, 0, none⟩)), (9, .pointer (some ⟨b17, 0, none⟩)), (11, .pointer (some ⟨b26, 0, none⟩))], [.blk b26 [.int .i64 k, .string nm, .int .i64 num, .int .i64 tk, .slice q1 tks.length c1, .int .i64 fk, .slice q2 fks.length c2, .int .i64 lb, .slice none 0 0], .blk b17 [.int .i64 t9.k, .slice p1 t9.ks.length d1], .blk b5 [.int .i64 0, .slice none 0 0], .blk b4 [.int .i64 0, .string ⟨⟨[]⟩⟩, .int .i64 0, .int .i64 0, .slice none 0 0, .int .i64 0, .slice none 0 0, .int .i64 0, .slice none 0 0], .blk b3 [.int .i64 k, .string nm, .int .i64 num, .int .i64 tk, .slice pt tks.length ct, .int .i64 fk, .slice pf fks.length cf, .int .i64 lb, .slice q ks.length cq]], G2⟩) (fun x => x = true ↔ k = 5) ?_ ?_)
 ·refine tR ?_
  refine sQ (pF0 rfl) rfl ?_
  refine sL (lBs rfl rfl) rfl rfl ?_
  refine sB (pE rfl rfl) rfl rfl (fun h42 => ?_) (fun h42 => ?_)
  ·refine sD ?_
   refine nrm_cut true (sub_mk (by repeat (first | exact SubE.nil | refine SubE.cons rfl ?_)) (by repeat (first | exact SubH.refl | exact SubH.nil | refine SubH.cons (by repeat (first | exact Pk.here | apply Pk.there)) ?_ | apply SubH.drop))) ⟨fun _ => (by omega), fun _ => rfl⟩
  ·refine sD ?_
   refine nrm_cut false (sub_mk (by repeat (first | exact SubE.nil | refine SubE.cons rfl ?_)) (by repeat (first | exact SubH.refl | exact SubH.nil | refine SubH.cons (by repeat (first | exact Pk.here | apply Pk.there)) ?_ | apply SubH.drop))) ⟨fun h => (by cases h), fun _ => (by omega)⟩
 ·(rintro (x : Bool) hx5)
  (show Tri _ _ (.cond (.tmp 30) _ _) _ _; refine tri_cut (fun (x : Option Addr × Nat × Nat × IM) => ⟨[(0, .slice x.1 x.2.1 x.2.2.1), (2, .int .i64 (l0 + 1)), (4, .pointer (some ⟨b3, 0, none⟩)), (6, .pointer (some ⟨b4, 0, none⟩)), (7, .pointer (some ⟨b5, 0, none⟩)), (9, .pointer (some ⟨b17, 0, none⟩)), (11, .pointer (some ⟨b26, 0, none⟩))], [.blk b26 [.int .i64 k, .string nm, .int .i64 num, .int .i64 tk, .slice q1 tks.length c1, .int .i64 fk, .slice q2 fks.length c2, .int .i64 lb, .slice none 0 0], .blk b17 [.int .i64 t9.k, .slice p1 t9.ks.length d1], .blk b5 [.int .i64 0, .slice none 0 0], .blk b4 [.int .i64 0, .string ⟨⟨[]⟩⟩, .int .i64 0, .int .i64 0, .slice none 0 0, .int .i64 0, .slice none 0 0, .int .i64 0, .slice none 0 0], .blk b3 [.int .i64 k, .string nm, .int .i64 num, .int .i64 tk, .slice pt tks.length ct, .int .i64 fk, .slice pf fks.length cf, .int .i64 lb, .slice q ks.length cq]], x.2.2.2⟩) (fun x => IMle G2 x.2.2.2 ∧ RCx x.2.2.2 (inCx cx k nm (.mk tk tks)) x.1 x.2.1 x.2.2.1 ∧ (x.2.1 : Int) ≤ d + 1) (tri_cond rfl (fun hxt => ?_) (fun hxf => ?_)) ?_)
  ·refine tR ?_
   refine sQ (pM rfl) rfl ?_
   refine sQ (pF0 rfl) rfl ?_
   refine sL (lBs rfl rfl) rfl rfl ?_
   refine sQ (pF0 rfl) rfl ?_
   refine sL (lBa rfl rfl) rfl rfl ?_
   (refine seq_imm rfl (l3MoreX_fn G2 cx p n c nm (.mk tk tks) _ hx (by omega) hty) rfl rfl (fun v G3 hle3 hh => ?_); obtain ⟨pm0, cm0, rfl, hxm⟩ := hh)
   refine sQ (pA rfl) rfl ?_
   refine sD ?_
   refine nrm_cut (pm0, n + 1, cm0, G3) (sub_mk (by repeat (first | exact SubE.nil | refine SubE.cons rfl ?_)) (by repeat (first | exact SubH.refl | exact SubH.nil | refine SubH.cons (by repeat (first | exact Pk.here | apply Pk.there)) ?_ | apply SubH.drop))) ?_
   (dsimp only; exact ⟨hle3, by rw [inCx, if_pos (hx5.1 (by assumption))]; exact hxm, by omega⟩)
  ·refine tK ?_
   refine nrm_cut (p, n, c, G2) (sub_mk (by repeat (first | exact SubE.nil | refine SubE.cons rfl ?_)) (by repeat (first | exact SubH.refl | exact SubH.nil | refine SubH.cons (by repeat (first | exact Pk.here | apply Pk.there)) ?_ | apply SubH.drop))) ?_
   (dsimp only; exact ⟨IMle.refl _, by rw [inCx, if_neg (fun h => by have := hx5.2 h; rw [this] at hxf; cases hxf)]; exact hx, by omega⟩)
  ·(rintro ⟨(px : Option Addr), nx, cxx, Gx⟩ ⟨hleX, hxX, hnX⟩; simp only [] at hleX hxX hnX ⊢; replace hty1 := hty1.mono hleX; replace hfr1 := hfr1.mono hleX; replace hsl := hsl.mono hleX; replace hkl := hkl.mono hleX; replace hmr := hmr.mono hleX; replace hr0 := hr0.mono hleX)
   refine tS ?_
   refine tR ?_
   (refine seq_step (step_buildSlice rfl rfl rfl (by omega) (by unfold maxLen; omega) rfl) rfl ?_; rintro _ ⟨b66, rfl⟩)
   refine sQ (pA rfl) rfl ?_
   refine sD ?_
   refine nS ?_
   refine tS ?_
   refine tS ?_
   refine tR ?_
   refine sQ (pA rfl) rfl ?_
   refine sD ?_
   refine nS ?_
   refine tri_block ?_
   (refine tri_nil 35 9 ?_; refine tri_loopN (fun (x : Nat × (Option Addr × Nat × List Tm × List (List Value)) × (Option Addr × Nat × List Ty × List (List Value)) × Int × IM) => ⟨[(13, .int .i64 x.1), (12, .slice x.2.2.1.1 x.1 x.2.2.1.2.1), (0, .slice px nx cxx), (2, .int .i64 (x.2.2.2.1 + 1)), (4, .pointer (some ⟨b3, 0, none⟩)), (6, .pointer (some ⟨b4, 0, none⟩)), (7, .pointer (some ⟨b5, 0, none⟩)), (9, .pointer (some ⟨b17, 0, none⟩)), (11, .pointer (some ⟨b26, 0, none⟩))], [.blk b26 [.int .i64 k, .string nm, .int .i64 num, .int .i64 tk, .slice q1 tks.length c1, .int .i64 fk, .slice q2 fks.length c2, .int .i64 lb, .slice x.2.1.1 x.1 x.2.1.2.1], .slc x.2.1.1 x.2.1.2.1 35 9 x.1 x.2.1.2.2.2.flatten, .slc x.2.2.1.1 x.2.2.1.2.1 32 2 x.1 x.2.2.1.2.2.2.flatten, .blk b17 [.int .i64 t9.k, .slice p1 t9.ks.length d1], .blk b5 [.int .i64 0, .slice none 0 0], .blk b4 [.int .i64 0, .string ⟨⟨[]⟩⟩, .int .i64 0, .int .i64 0, .slice none 0 0, .int .i64 0, .slice none 0 0, .int .i64 0, .slice none 0 0], .blk b3 [.int .i64 k, .string nm, .int .i64 num, .int .i64 tk, .slice pt tks.length ct, .int .i64 fk, .slice pf fks.length cf, .int .i64 lb, .slice q ks.length cq]], x.2.2.2.2⟩) (fun x => x.1 ≤ ks.length ∧ IMle Gx x.2.2.2.2 ∧ x.2.1.2.2.1.length = x.1 ∧ RTmL x.2.2.2.2 x.2.1.2.2.1 x.2.1.2.2.2 ∧ x.2.2.1.2.2.1.length = x.1 ∧ RTyL x.2.2.2.2 x.2.2.1.2.2.1 x.2.2.1.2.2.2 ∧ mElL (inCx cx k nm (.mk tk tks)) (ks.take x.1) l0 = some (x.2.1.2.2.1, x.2.2.1.2.2.1, x.2.2.2.1) ∧ l0 ≤ x.2.2.2.1 ∧ x.2.2.2.1 + x.1 ≤ l0 + (tmCountL (ks.take x.1) : Int)) (fun x => ks.length - x.1) (0, (none, 0, [], []), (some ⟨b66, 0, none⟩, 0, [], []), l0, Gx) ?_ ?_ ?_)
   ·(simp only [List.take_zero, mCasts_nil]; exact (sub_mk (by repeat (first | exact SubE.nil | refine SubE.cons rfl ?_)) (by repeat (first | exact SubH.refl | exact SubH.nil | refine SubH.cons (by repeat (first | exact Pk.here | apply Pk.there)) ?_ | apply SubH.drop))))
   ·(exact ⟨by simp, IMle.refl _, rfl, by simp [RTmL], rfl, by simp [RTyL], by simp [mElL], Int.le_refl _, by simp [tmCountL]⟩)
   ·(rintro ⟨i, ⟨pn, cn, us, es'⟩, ⟨pm, cm, ts, ess⟩, l, Gi⟩ ⟨hi, hle, hlu, hst, hlt, hstt, hml, hl1, hl2⟩; simp only [] at hi hle hlu hst hlt hstt hml hl1 hl2 ⊢; replace hty1 := hty1.mono hle; replace hfr1 := hfr1.mono hle; replace hsl := hsl.mono hle; replace hkl := hkl.mono hle; replace hmr := hmr.mono hle; replace hr0 := hr0.mono hle; replace hxX := hxX.mono hle)
    refine tS ?_
    refine tS ?_
    refine tR ?_
    refine sQ (pM rfl) rfl ?_
    refine sQ (pF0 rfl) rfl ?_
    refine sL (lBs rfl rfl) rfl rfl ?_
    refine sQ (pLn rfl rfl) rfl ?_
    refine sB (pure_lss rfl rfl) rfl rfl (fun h88 => ?_) (fun h88 => ?_)
    ·refine sD ?_
     refine nS ?_
     refine cT rfl ?_
     refine tK ?_
     refine nS ?_
     refine tS ?_
     refine tri_block ?_
     refine tS ?_
     refine tR ?_
     refine sQ (pM rfl) rfl ?_
     refine sQ (pF0 rfl) rfl ?_
     refine sL (lBs rfl rfl) rfl rfl ?_
     refine sQ (pM rfl) rfl ?_
     (obtain ⟨b, o, e, rfl, hl, hate, hre, hgb⟩ := hsl.kidTm hkl (i := i) (by omega) (by omega); have hsc := tmCountL_succ (ks := ks) (i := i) (by omega); have hsk := tmCountL_take (ks := ks) (i := i) (by omega); rcases hE : mEl (inCx cx k nm (Ty.mk tk tks)) ks[i] l with _ | ⟨u, t, l3⟩; (have hno := mElL_no (by omega) hml hE; rw [hEL] at hno; cases hno); have hlm := el_goodL.el_mono _ _ _ _ _ _ hE; have hlx := el_labK ks[i] (d + 1) _ l u t l3 (hvk i (by omega)) hE; refine sP (pIN rfl rfl rfl (by omega)) rfl rfl ?_)
     refine sL (load_a rfl rfl (hate _) hl) rfl rfl ?_
     refine sQ (pM rfl) rfl ?_
     (refine seq_imm rfl (ih ks[i] (List.getElem_mem (by omega)) (d + 1) _ l u t l3 Gi px nx cxx _ hE (hvk i (by omega)) (by omega) hcvX hxX hre (by omega) (by omega)) rfl rfl (fun v G3 hle3 hh => ?_); obtain ⟨uc, tc, rfl, hru, hrt⟩ := hh; obtain ⟨v1, v2, v3, v4, v5, v6, v7, v8, v9, rfl⟩ := nine hru.len; obtain ⟨p3, c3, e3, rfl, _⟩ := hrt.open; have hlu9 := hru.len; have hou9 := hru.one)
     refine sQ (pM rfl) rfl ?_
     refine sQ (pX rfl rfl) rfl ?_
     refine sQ (pX rfl rfl) rfl ?_
     refine sQ (pX rfl rfl) rfl ?_
     refine sE (step_alloc rfl) rfl (fun b110 => ?_)
     refine sE (step_alloc rfl) rfl (fun b111 => ?_)
     refine sS rfl rfl rfl hlu9 hou9 rfl ?_ (hu := by exact upd_all hlu9.symm)
     refine sS' ?_
     refine sQ (pA rfl) rfl ?_
     refine sD ?_
     refine nS ?_
     refine tS ?_
     refine tR ?_
     refine sQ (pF0 rfl) rfl ?_
     refine sL (lBs rfl rfl) rfl rfl ?_
     refine sL (lBa rfl rfl) rfl rfl ?_
     (refine seq_step (step_buildSlice rfl rfl rfl (by omega) (by unfold maxLen; omega) rfl) rfl ?_; rintro _ ⟨b122, rfl⟩)
     refine seq_append rfl rfl rfl rfl rfl (fun _ _ => by repeat (first | exact Sw.here | apply Sw.there)) (at_slc_all (by repeat first | exact mH | apply mT)) rfl (fun u hu => List.all_eq_true.1 hou9 u hu) (by unfold maxLen; omega) (by omega) rfl (fun pn' cn' => ?_)
     refine sQ (pF0 rfl) rfl ?_
     refine sS' ?_
     refine sD ?_
     refine nS ?_
     refine tS ?_
     refine tR ?_
     refine sQ (pM rfl) rfl ?_
     refine sL (lBa rfl rfl) rfl rfl ?_
     (refine seq_step (step_buildSlice rfl rfl rfl (by omega) (by unfold maxLen; omega) rfl) rfl ?_; rintro _ ⟨b132, rfl⟩)
     refine seq_append rfl rfl rfl rfl rfl (fun _ _ => by repeat (first | exact Sw.here | apply Sw.there)) (at_slc_all (by repeat first | exact mH | apply mT)) rfl (by simp [Value.oneCell']) (by unfold maxLen; omega) (by omega) rfl (fun pm' cm' => ?_)
     refine sQ (pA rfl) rfl ?_
     refine sD ?_
     refine nS ?_
     refine tR ?_
     refine sQ (pM rfl) rfl ?_
     refine sQ (pA rfl) rfl ?_
     refine sD ?_
     refine nrm_block ?_
     refine nS ?_
     refine tR ?_
     refine sQ (pM rfl) rfl ?_
     refine sP (pure_add rfl rfl (by omega) (by omega)) rfl rfl ?_
     refine sQ (pA rfl) rfl ?_
     refine sD ?_
     refine nrm_loopN (i + 1, (pn', cn', us ++ [u], es' ++ [[v1, v2, v3, v4, v5, v6, v7, v8, v9]]), (pm', cm', ts ++ [t], ess ++ [[.int .i64 t.k, .slice p3 t.ks.length c3]]), l3, G3) ?_ ?_ ?_
     ·(simp only [flat_snoc]; exact sMk)
     ·(dsimp only; exact ⟨by omega, hle.trans hle3, by simp [hlu], RTmL.snoc (hst.mono hle3) hru, by simp [hlt], RTyL.snoc (hstt.mono hle3) hrt, mElL_succ (by omega) hml hE, by omega, by omega⟩)
     ·(show ks.length - (i + 1) < ks.length - i; omega)
    ·refine sD ?_
     refine nS ?_
     refine cF rfl ?_
     refine tri_exit ?_
     refine ext_seq ?_
     refine ext_loopN ?_
     refine ext_block_eq ?_
     refine nS ?_
     refine tS ?_
     refine tR ?_
     refine sL (lBa rfl rfl) rfl rfl ?_
     refine sQ (pM rfl) rfl ?_
     refine sL (lBa rfl rfl) rfl rfl ?_
     (obtain rfl : i = ks.length := (by omega); rw [List.take_length] at hml hl2; rw [hEL] at hml; simp only [Option.some.injEq, Prod.mk.injEq] at hml; obtain ⟨rfl, rfl, rfl⟩ := hml; refine triL_freeze (cs := ess.flatten) (by repeat (first | exact Pk.here | apply Pk.there)) (fun G4 hle4 hsl4 hno4 => ?_); have hstt4 := hstt.mono hle4; have hslT : SlE G4 pm ks.length cm 2 ess := SlE.of hsl4 (by rw [hstt4.len, hlt]) hstt4.all (fun e he => (hstt4.each e he).2); have hW := l4WantX_fn cx k nm num (.mk tk tks) (.mk fk fks) lb ks _ w _ G4 _ _ pm cm ess hmw hv2 (by rw [hlt]; exact har) (hr0.mono hle4) (by rw [hlt]; exact hslT) hstt4 (fun t ht => tValid_ar' (htv t ht)) (hmr.mono hle4); rw [hlt] at hW; refine seq_imm rfl hW rfl rfl (fun v G5 hle5 hh => ?_); obtain ⟨pw, cw, esw, rfl, hlw, hsw, hstw⟩ := hh; have hle45 := hle4.trans hle5; replace hty1 := hty1.mono hle45; replace hfr1 := hfr1.mono hle45; replace hmr := hmr.mono hle45; replace hst := hst.mono hle45; replace hslT := hslT.mono hle5; replace hstt := hstt.mono hle45; rcases Nat.eq_zero_or_pos ks.length with h0 | h0)
     ·refine sQ (pA rfl) rfl ?_
      refine sD ?_
      refine nS ?_
      refine tS ?_
      refine tS ?_
      refine tR ?_
      refine sQ (pA rfl) rfl ?_
      refine sD ?_
      refine nS ?_
      refine tri_block ?_
      (have h0' : ks.length = 0 := h0; refine tri_loopN (fun (_ : Nat) => ⟨[(18, .int .i64 0), (17, .slice pw ks.length cw), (12, .slice pm ks.length cm), (2, .int .i64 (lA + 1)), (4, .pointer (some ⟨b3, 0, none⟩)), (6, .pointer (some ⟨b4, 0, none⟩)), (7, .pointer (some ⟨b5, 0, none⟩)), (9, .pointer (some ⟨b17, 0, none⟩)), (11, .pointer (some ⟨b26, 0, none⟩))], [.blk b26 [.int .i64 k, .string nm, .int .i64 num, .int .i64 tk, .slice q1 tks.length c1, .int .i64 fk, .slice q2 fks.length c2, .int .i64 lb, .slice pn ks.length cn], .slc pn cn 35 9 ks.length es'.flatten, .blk b17 [.int .i64 t9.k, .slice p1 t9.ks.length d1], .blk b5 [.int .i64 0, .slice none 0 0], .blk b4 [.int .i64 0, .string ⟨⟨[]⟩⟩, .int .i64 0, .int .i64 0, .slice none 0 0, .int .i64 0, .slice none 0 0, .int .i64 0, .slice none 0 0], .blk b3 [.int .i64 k, .string nm, .int .i64 num, .int .i64 tk, .slice pt tks.length ct, .int .i64 fk, .slice pf fks.length cf, .int .i64 lb, .slice q ks.length cq]], G5⟩) (fun _ => True) (fun i => i) 0 ?_ ?_ ?_)
      ·exact sMk
      ·trivial
      ·(rintro (i0 : Nat) _)
       refine tS ?_
       refine tS ?_
       refine tR ?_
       refine sQ (pM rfl) rfl ?_
       refine sQ (pM rfl) rfl ?_
       refine sQ (pLn rfl rfl) rfl ?_
       refine sP (pure_lss_f rfl rfl (by omega)) rfl rfl ?_
       refine sD ?_
       refine nS ?_
       refine cF rfl ?_
       refine tri_exit ?_
       refine ext_seq ?_
       refine ext_loopN ?_
       refine ext_block_eq ?_
       refine nS ?_
       refine tS ?_
       refine tS ?_
       refine tR ?_
       refine sQ (pF0 rfl) rfl ?_
       refine sL (lBs rfl rfl) rfl rfl ?_
       refine sP (pure_eql_f rfl rfl (by omega)) rfl rfl ?_
       refine sD ?_
       refine nS ?_
       refine cF rfl ?_
       refine tK ?_
       refine nS ?_
       refine tS ?_
       refine tri_draw mixed rfl ?_
       refine any_load (i := 0) (l' := [tt,ff,ff,ff,ff,ff]) rfl npI (lBa rfl rfl) rfl (by kernel_rfl) rfl rfl ?_
       refine aL 1 rfl (lBa rfl rfl) rfl ?_
       refine aP 2 rfl (pM rfl) rfl ?_
       refine aO' 3 ?_
       refine oS rfl rfl rfl rfl rfl rfl rfl rfl ?_
       refine aO' 4 ?_
       refine oS rfl rfl rfl rfl rfl rfl rfl rfl ?_
       refine aP 5 rfl (pA rfl) rfl ?_
       refine aD' ?_
       refine nS ?_
       (refine ret_freeze (cs := es'.flatten) (by repeat (first | exact Pk.here | apply Pk.there)) (fun G8 hle8 hsl8 hno8 => ?_); have hst8 := hst.mono hle8)
       refine tT ?_
       refine rF3 (rC rfl (lBa rfl rfl)) (rC rfl (lBa rfl rfl)) (rT rfl) ?_
       (have hu9 : usA = [] := List.length_eq_zero_iff.1 (by omega); have hne : k ≠ 13 := (fun h => by have := hk13 h; omega); have hz : mCasts usA tsA w lA = (usA, lA) := (by rw [hu9]; simp [mCasts]); rw [if_neg hne, hz] at hu0; subst hu0; rw [hz]; exact ⟨rfl, _, _, rfl, RTm.put hk hnum hlb (hty1.mono hle8) (hfr1.mono hle8) hlA1.symm (SlE.of hsl8 (by rw [hst8.len, hlA1]) hst8.all (fun e he => (hst8.each e he).2)) hst8, hmr.mono hle8⟩)
     ·(refine triL_open (cs := es'.flatten) (by repeat (first | exact Pk.here | apply Pk.there)) h0 (fun bc C hpe hnc hcm => ?_); subst hpe; refine sQ (pA rfl) rfl ?_)
      refine sD ?_
      refine nS ?_
      refine tS ?_
      refine tS ?_
      refine tR ?_
      refine sQ (pA rfl) rfl ?_
      refine sD ?_
      refine nS ?_
      refine tri_block ?_
      (have hLoop2 := hlw; refine tri_loopN (fun (x : Nat × List (List Value) × IM) => ⟨[(18, .int .i64 x.1), (17, .slice pw ks.length cw), (12, .slice pm ks.length cm), (2, .int .i64 ((mCasts usA tsA ((wantOf w tsA).take x.1) lA).2 + 1)), (4, .pointer (some ⟨b3, 0, none⟩)), (6, .pointer (some ⟨b4, 0, none⟩)), (7, .pointer (some ⟨b5, 0, none⟩)), (9, .pointer (some ⟨b17, 0, none⟩)), (11, .pointer (some ⟨b26, 0, none⟩))], [.blk b26 [.int .i64 k, .string nm, .int .i64 num, .int .i64 tk, .slice q1 tks.length c1, .int .i64 fk, .slice q2 fks.length c2, .int .i64 lb, .slice (some ⟨bc, 0, none⟩) ks.length cn], .blk bc (x.2.1.flatten ++ C), .blk b17 [.int .i64 t9.k, .slice p1 t9.ks.length d1], .blk b5 [.int .i64 0, .slice none 0 0], .blk b4 [.int .i64 0, .string ⟨⟨[]⟩⟩, .int .i64 0, .int .i64 0, .slice none 0 0, .int .i64 0, .slice none 0 0, .int .i64 0, .slice none 0 0], .blk b3 [.int .i64 k, .string nm, .int .i64 num, .int .i64 tk, .slice pt tks.length ct, .int .i64 fk, .slice pf fks.length cf, .int .i64 lb, .slice q ks.length cq]], x.2.2⟩) (fun x => x.1 ≤ ks.length ∧ IMle G5 x.2.2 ∧ RTmL x.2.2 (mCasts usA tsA ((wantOf w tsA).take x.1) lA).1 x.2.1) (fun x => ks.length - x.1) (0, es', G5) ?_ ?_ ?_)
      ·(simp only [List.take_zero, mCasts_nil]; exact (sub_mk (by repeat (first | exact SubE.nil | refine SubE.cons rfl ?_)) (by repeat (first | exact SubH.refl | exact SubH.nil | refine SubH.cons (by repeat (first | exact Pk.here | apply Pk.there)) ?_ | apply SubH.drop))))
      ·(exact ⟨Nat.zero_le _, IMle.refl _, by simp only [List.take_zero, mCasts_nil]; exact hst⟩)
      ·(rintro ⟨j, es2, G6⟩ ⟨hj, hle6, hst2⟩; simp only [] at hj hle6 hst2 ⊢; replace hty1 := hty1.mono hle6; replace hfr1 := hfr1.mono hle6; replace hmr := hmr.mono hle6; replace hslT := hslT.mono hle6; replace hstt := hstt.mono hle6; replace hsw := hsw.mono hle6; replace hstw := hstw.mono hle6; have hle2s := hst2.len; rw [mCasts_len] at hle2s; have hall2 := hst2.all)
       refine tS ?_
       refine tS ?_
       refine tR ?_
       refine sQ (pM rfl) rfl ?_
       refine sQ (pM rfl) rfl ?_
       refine sQ (pLn rfl rfl) rfl ?_
       refine sB (pure_lss rfl rfl) rfl rfl (fun h242 => ?_) (fun h242 => ?_)
       ·refine sD ?_
        refine nS ?_
        refine cT rfl ?_
        refine tK ?_
        refine nS ?_
        refine tS ?_
        refine tri_block ?_
        (have hjw : j < (wantOf w tsA).length := (by omega); obtain ⟨bt, ot, qt, dt, hpt, hatt, hrtt, hgt⟩ := hslT.kidTy hstt (i := j) (by omega) (by omega); obtain ⟨bw, ow, qw, dw, hpw, hatw, hrtw, hgw⟩ := (show SlE G6 pw (wantOf w tsA).length cw 2 esw from by rw [hlw]; exact hsw).kidTy hstw (i := j) (by omega) (by omega); cases hpt; cases hpw; obtain ⟨m1, m2, _⟩ := mCasts_succ usA tsA (wantOf w tsA) lA j hjw (by omega) (by omega); obtain ⟨m3, m4⟩ := mCasts_next (us := usA) (h := tsA) (w := wantOf w tsA) (l := lA) hjw (by omega) (by omega); obtain ⟨hE1, hE2⟩ := hst2.at2 (i := j) (by omega) (by omega); rw [m2] at hE2; have hE3 := hE2.len; have hcj := mCasts_lab usA tsA ((wantOf w tsA).take j) lA; refine tri_draw mixed rfl ?_)
        refine any_pure (i := 0) (l' := [tt,ff,ff,ff,ff,ff,ff,ff,ff,ff,ff,ff,ff,ff,ff,ff,ff,ff,ff,ff,ff,ff,ff,ff]) rfl npI (pF0 rfl) rfl (by kernel_rfl) rfl rfl ?_
        refine aL 1 rfl (lBs rfl rfl) rfl ?_
        refine aP 2 rfl (pM rfl) rfl ?_
        refine aP 3 rfl (pF0 rfl) rfl ?_
        refine aL 4 rfl (lBs rfl rfl) rfl ?_
        refine aP 5 rfl (pM rfl) rfl ?_
        refine aP 6 rfl (pIN (j := j) rfl rfl rfl (by omega)) rfl ?_
        refine aL 7 rfl (load_a rfl rfl (at_elem (es := es2) (by repeat first | exact mH | apply mT) (by omega) hall2) hE3) rfl ?_
        refine aP 8 rfl (pM rfl) rfl ?_
        refine aP 9 rfl (pM rfl) rfl ?_
        refine aP 10 rfl (pIN (j := j) rfl rfl rfl (by omega)) rfl ?_
        refine aL 11 rfl (load_a rfl rfl (hatt _) rfl) rfl ?_
        refine aP 12 rfl (pM rfl) rfl ?_
        refine aP 13 rfl (pM rfl) rfl ?_
        refine aP 14 rfl (pIN (j := j) rfl rfl rfl (by omega)) rfl ?_
        refine aL 15 rfl (load_a rfl rfl (hatw _) rfl) rfl ?_
        refine aP 16 rfl (pM rfl) rfl ?_
        refine aO' 17 ?_
        (have hwsm := (tValid_ar' (hWV _ (List.getElem_mem (show j < (wantOf w tsA).length by omega)))).small; refine one_imm rfl rfl (l4CastX_fn usA[j] tsA[j] (wantOf w tsA)[j] _ _ _ _ _ (by omega) hE2 hrtt hrtw (tValid_ar' (htv _ (List.getElem_mem (by omega)))).small hwsm) rfl rfl rfl (fun v G7 hle7 hh => ?_); obtain ⟨uc, rfl, hru⟩ := hh; rw [show (if tSame tsA[j] (wantOf w tsA)[j] = true then (mCasts usA tsA ((wantOf w tsA).take j) lA).2 + 1 else (mCasts usA tsA ((wantOf w tsA).take j) lA).2 + 1 + 1) = (mCasts usA tsA ((wantOf w tsA).take (j + 1)) lA).2 + 1 from by rw [m4]; split <;> rfl]; have hlu9 := hru.len; have hou9 := hru.one)
        refine aP 18 rfl (pM rfl) rfl ?_
        refine aP 19 rfl (pX rfl rfl) rfl ?_
        refine aP 21 rfl (pIN (j := j) rfl rfl rfl (by omega)) rfl ?_
        refine aP 20 rfl (pX rfl rfl) rfl ?_
        refine aO' 22 ?_
        refine one_store rfl rfl rfl rfl hlu9 hou9 rfl rfl (by kernel_rfl) (by repeat first | exact Sw.here | apply Sw.there) (by exact upd_set (by omega) hall2 hlu9) ?_
        refine aP 23 rfl (pA rfl) rfl ?_
        refine aD' ?_
        refine nrm_block ?_
        refine nS ?_
        refine tR ?_
        refine sQ (pM rfl) rfl ?_
        refine sP (pure_add rfl rfl (by omega) (by omega)) rfl rfl ?_
        refine sQ (pA rfl) rfl ?_
        refine sD ?_
        refine nrm_loopN (j + 1, es2.set j uc, G7) ?_ ?_ ?_
        ·(simp only [List.take_zero, mCasts_nil]; exact (sub_mk (by repeat (first | exact SubE.nil | refine SubE.cons rfl ?_)) (by repeat (first | exact SubH.refl | exact SubH.nil | refine SubH.cons (by repeat (first | exact Pk.here | apply Pk.there)) ?_ | apply SubH.drop))))
        ·(dsimp only; exact ⟨by omega, hle6.trans hle7, by rw [m3]; exact RTmL.set (hst2.mono hle7) hru⟩)
        ·(show ks.length - (j + 1) < ks.length - j; omega)
       ·refine sD ?_
        refine nS ?_
        refine cF rfl ?_
        refine tri_exit ?_
        refine ext_seq ?_
        refine ext_loopN ?_
        refine ext_block_eq ?_
        refine nS ?_
        refine tS ?_
        refine tS ?_
        refine tR ?_
        refine sQ (pF0 rfl) rfl ?_
        refine sL (lBs rfl rfl) rfl rfl ?_
        refine sB (pE rfl rfl) rfl rfl (fun h302 => ?_) (fun h302 => ?_)
        ·refine sD ?_
         refine nS ?_
         refine cT rfl ?_
         refine tS ?_
         (have hq13 : k = 13 := (by omega); have hl13 := hk13 hq13; have hjw : j = (wantOf w tsA).length := (by omega); rw [hjw, List.take_length, mCasts_want] at hst2; have hm0 := mCasts_len usA tsA w lA; obtain ⟨hE1, hE2⟩ := hst2.at2 (i := 0) (by omega) (by omega); have hE3 := hE2.len; have hE4 := hE2.one; refine tri_draw mixed rfl ?_)
         refine any_pure (i := 0) (l' := [tt,ff,ff,ff,ff,ff,ff,ff,ff]) rfl npI (pF0 rfl) rfl (by kernel_rfl) rfl rfl ?_
         refine aL 1 rfl (lBs rfl rfl) rfl ?_
         refine aP 2 rfl (pIN (j := 0) rfl rfl rfl (by omega)) rfl ?_
         refine aL 3 rfl (load_a rfl rfl (at_elem (es := es2) (by repeat first | exact mH | apply mT) (by omega) hall2) hE3) rfl ?_
         refine aL 4 rfl (lBa rfl rfl) rfl ?_
         refine aP 5 rfl (pM rfl) rfl ?_
         refine aO' 6 ?_
         refine oS rfl rfl rfl rfl hE3 hE4 rfl rfl ?_ (hu := by exact upd_all hE3.symm)
         refine aO' 7 ?_
         refine oS rfl rfl rfl rfl rfl rfl rfl rfl ?_
         refine aP 8 rfl (pA rfl) rfl ?_
         refine aD' ?_
         refine nS ?_
         (refine tri_freezes (bs := [(bc, es2.flatten ++ C)]) (Pk.perm (by repeat (first | exact Pk.here | apply Pk.there))) (fun hn9 hd9 hle9 => ?_))
         refine tT ?_
         refine rS ?_
         refine rF3 (rC rfl (load_a rfl rfl (at_blk_all (by repeat first | exact mH | apply mT)) hE3)) (rC rfl (lBa rfl rfl)) (rT rfl) ?_
         (rw [if_pos hq13, getD0 (by omega)] at hu0; subst hu0; rw [hjw, List.take_length, mCasts_want]; exact ⟨rfl, _, _, rfl, hE2.mono hle9, hmr.mono hle9⟩)
        ·refine sD ?_
         refine nS ?_
         refine cF rfl ?_
         refine tK ?_
         refine nS ?_
         refine tS ?_
         refine tri_draw mixed rfl ?_
         refine any_load (i := 0) (l' := [tt,ff,ff,ff,ff,ff]) rfl npI (lBa rfl rfl) rfl (by kernel_rfl) rfl rfl ?_
         refine aL 1 rfl (lBa rfl rfl) rfl ?_
         refine aP 2 rfl (pM rfl) rfl ?_
         refine aO' 3 ?_
         refine oS rfl rfl rfl rfl rfl rfl rfl rfl ?_
         refine aO' 4 ?_
         refine oS rfl rfl rfl rfl rfl rfl rfl rfl ?_
         refine aP 5 rfl (pA rfl) rfl ?_
         refine aD' ?_
         refine nS ?_
         (refine tri_freezes (bs := [(bc, es2.flatten ++ C)]) (Pk.perm (by repeat (first | exact Pk.here | apply Pk.there))) (fun hn9 hd9 hle9 => ?_))
         refine tT ?_
         refine rF3 (rC rfl (lBa rfl rfl)) (rC rfl (lBa rfl rfl)) (rT rfl) ?_
         (have hjw : j = (wantOf w tsA).length := (by omega); rw [hjw, List.take_length, mCasts_want] at hst2; have hst9 := hst2.mono hle9; have hm0 := mCasts_len usA tsA w lA; rw [if_neg (by omega)] at hu0; subst hu0; rw [hjw, List.take_length, mCasts_want]; exact ⟨rfl, _, _, rfl, RTm.put hk hnum hlb (hty1.mono hle9) (hfr1.mono hle9) (by rw [hm0, hlA1]) (SlE.of (Sl.of_blk (A := []) (by rw [flat_len hst9.all, hst9.len, hm0, hlA1]) (by omega) hcm (Wi.in hn9 List.mem_cons_self)) (by rw [hst9.len, hm0, hlA1]) hst9.all (fun e he => (hst9.each e he).2)) hst9, hmr.mono hle9⟩)
theorem sInsertCastsX_fn (e : Tm) (G : IM) (cells : List Value) (hcnt : tmCount e ≤ 4294967296) (hr : RTm G e cells) : Fn Tryz.prog 29 [.agg ⟨cells⟩] [] G (InsX (mInsert e)) := by
 have hl := hr.len
 have hone := hr.one
 refine fn_enter Tryz.func29 rfl Tryz.ntmps29 Tryz.results29 rfl ?_
 intro w0
 refine tS (tR ?_)
 refine sE (step_box_a rfl rfl) rfl (fun b3 => ?_)
 refine sE (step_alloc rfl) rfl (fun b4 => ?_)
 refine sE (step_alloc rfl) rfl (fun b5 => ?_)
 refine sQ (pA rfl) rfl (sD (nS (tS (tR (sL (load_a rfl rfl (at_blk_all (by repeat first | exact mH | apply mT)) (by assumption)) rfl rfl ?_)))))
 focus (refine seq_imm rfl (typeOfX_fn e _ _ (by omega) hr) rfl rfl (fun v G1 hle1 hh => ?_); obtain ⟨mc, mt, rfl, hmr, hmu⟩ := hh; obtain ⟨pt, ct, et, rfl, _⟩ := hmr.open; obtain ⟨r, hI⟩ : ∃ r, mInsert e = r := ⟨_, rfl⟩; rcases r with _ | ⟨u, t⟩; (have hto : mTypeOf e = none := by unfold mTypeOf; rw [hI]); rotate_left; (have hto : mTypeOf e = some t := by unfold mTypeOf; rw [hI]); obtain ⟨hv, l3, hE⟩ := insert_inv hI; obtain ⟨hv1, hv2⟩ := (termValid_iff e).1 hv; rotate_left; all_goals rw [hto]; all_goals simp only [Option.isSome])
 refine sQ (pM rfl) rfl (sQ (pX rfl rfl) rfl (sQ (pX rfl rfl) rfl ?_))
 refine sE (step_alloc rfl) rfl (fun b16 => ?_)
 refine sS' ?_
 refine sQ (pA rfl) rfl (sD (nS (tS (tS (tR (sQ (pM rfl) rfl ?_))))))
 refine sQ (pNf rfl) rfl (sD (nS (cT rfl ?_)))
 refine tS (tR (sQ (pBd rfl rfl) rfl (sQ (pBd rfl rfl) rfl (sS' ?_))))
 refine sS' ?_
 refine sQ (pA rfl) rfl (sD (nS (tT (rS (rF3 (rC rfl (lBa rfl rfl)) (rC rfl (lBa rfl rfl)) (rT rfl) ?_)))))
 (exact InsX.no (by first | exact hI | rfl) (tm0_r _) (tyLeaf_r _ ⟨by omega, by omega⟩))
 refine sQ (pM rfl) rfl (sQ (pX rfl rfl) rfl (sQ (pX rfl rfl) rfl ?_))
 refine sE (step_alloc rfl) rfl (fun b45 => ?_)
 refine sS' ?_
 refine sQ (pA rfl) rfl (sD (nS (tS (tS (tR (sQ (pM rfl) rfl ?_))))))
 refine sQ (pNt rfl) rfl (sD (nS (cF rfl ?_)))
 refine tK (nS (tS (tR (sL (load_a rfl rfl (at_blk_all (by repeat first | exact mH | apply mT)) (by assumption)) rfl rfl ?_))))
 (have hIn := l4InsertX_fn e 1 [] 0 u t l3 G1 none 0 0 cells hE hv1 (by omega) cxV_nil (RCx.nil _) (hr.mono hle1) (by omega) (by omega); refine seq_imm rfl hIn rfl rfl (fun v G2 hle2 hh => ?_); obtain ⟨cu, tc, rfl, hru, hrt⟩ := hh; obtain ⟨qt, dt, et2, rfl, _⟩ := hrt.open; have hlu := hru.len; have hou := hru.one)
 refine sQ (pM rfl) rfl (sQ (pX rfl rfl) rfl (sQ (pX rfl rfl) rfl (sQ (pX rfl rfl) rfl ?_)))
 refine sE (step_alloc rfl) rfl (fun b68 => ?_)
 refine sE (step_alloc rfl) rfl (fun b69 => ?_)
 refine seq_store rfl rfl rfl hlu hou rfl (by repeat first | exact Sw.here | apply Sw.there) (by exact upd_all (by first | exact hlu.symm | omega)) ?_
 refine sS' ?_
 refine sQ (pA rfl) rfl (sD (nS (tS (tri_draw mixed rfl ?_))))
 refine any_load (i := 0) (l' := [tt,ff,ff,ff,ff]) rfl npI (load_a rfl rfl (at_blk_all (by repeat first | exact mH | apply mT)) hlu) rfl (by kernel_rfl) rfl rfl ?_
 refine aL 1 rfl (lBa rfl rfl) rfl ?_
 refine aO' 2 ?_
 refine oS rfl rfl rfl rfl hlu hou rfl rfl ?_ (hu := by exact upd_all hlu.symm)
 refine aO' 3 ?_
 refine oS rfl rfl rfl rfl rfl rfl rfl rfl ?_
 refine aP 4 rfl (pA rfl) rfl ?_
 refine aD' ?_
 refine nS (tT (rF3 (rC rfl (load_a rfl rfl (at_blk_all (by repeat first | exact mH | apply mT)) hlu)) (rC rfl (lBa rfl rfl)) (rT rfl) ?_))
 (exact InsX.yes (by first | exact hI | rfl) hru hrt)
theorem red_any {k : Int} {ty fr ty' fr' : Ty} {lb lb' : Int} {ks : List Tm} (h : k ≠ 14) : mRed k ty fr lb ks = mRed k ty' fr' lb' ks := by
 unfold mRed
 rw [if_neg h, if_neg h]
theorem l5Reduce_fn (k : Int) (nm : ByteArray) (num : Int) (ty fr : Ty) (lb : Int) (ks : List Tm) (G : IM) (cells : List Value) (h7 : k = 1 ∨ k = 6 ∨ k = 7 ∨ k = 8 ∨ k = 11 ∨ k = 12 ∨ k = 14) (hc : cv (.mk k nm num ty fr lb ks)) (hr : RTm G (.mk k nm num ty fr lb ks) cells) : Fn Tryz.prog 149 [.agg ⟨cells⟩] [] G (StpX (mRed k ty fr lb ks)) := by
 have hr0 := hr
 obtain ⟨hN, hkk⟩ := hc.node
 have hops := hN.ops
 have hL2 : k = 6 ∨ k = 7 ∨ k = 8 → ∃ a b, ks = [a, b] := fun h => ks2 (by
  rcases h with rfl | rfl | rfl
  ·have : tmOps 6 = 2 := rfl; omega
  ·have : tmOps 7 = 2 := rfl; omega
  ·have : tmOps 8 = 2 := rfl; omega)
 have hL1 : k = 11 ∨ k = 12 ∨ k = 14 → ∃ a, ks = [a] := fun h => ks1 (by
  rcases h with rfl | rfl | rfl
  ·have : tmOps 11 = 1 := rfl; omega
  ·have : tmOps 12 = 1 := rfl; omega
  ·have : tmOps 14 = 1 := rfl; omega)
 have hC : k = 14 → Fn Tryz.prog 163 [.agg ⟨cells⟩] [] G (StpX (mRed k ty fr lb ks)) := by
  rintro rfl
  obtain ⟨a, rfl⟩ := hL1 (by omega)
  exact l5Convert_fn a nm num ty fr lb G cells hc hr
 have hA : k = 6 → ∀ a b, ks = [a, b] → mRed k ty fr lb ks = mRed 6 ty0 ty0 0 [a, b] := by rintro rfl a b rfl; exact red_any (by decide)
 have hB : k = 7 ∨ k = 8 → ∀ a b, ks = [a, b] → mRed k ty fr lb ks = mRed k ty0 ty0 0 [a, b] := by rintro h a b rfl; exact red_any (by omega)
 have hD : k = 11 ∨ k = 12 → ∀ a, ks = [a] → mRed k ty fr lb ks = mRed k ty0 ty0 0 [a] := by rintro h a rfl; exact red_any (by omega)
 have hO : k = 1 → mRed k ty fr lb ks = stuck := by rintro rfl; rfl
 generalize mRed k ty fr lb ks = R at hC hA hB hD hO ⊢
 obtain ⟨tk, tks⟩ := ty
 obtain ⟨fk, fks⟩ := fr
 obtain ⟨pt, ct, pf, cf, p, c, es, rfl, hk, hnum, hlb, hty, hfr, hsl, hkl⟩ := hr.open9
 refine fn_enter Tryz.func149 rfl Tryz.ntmps149 Tryz.results149 rfl ?_
 intro w0
 refine tS (tR ?_)
 refine sE (step_box_a rfl rfl) rfl (fun b3 => ?_)
 refine sE (step_alloc rfl) rfl (fun b4 => ?_)
 refine sQ (pA rfl) rfl (sQ (pA rfl) rfl (sD (nS (tS (tS (tR ?_))))))
 refine sQ (pF0 rfl) rfl (sL (lBs rfl rfl) rfl rfl ?_)
 refine sD (nS (tri_block (tS (tR (sB (pE rfl rfl) rfl rfl (fun h19 => ?_) (fun h19 => ?_))))))
 refine sQ (pA rfl) rfl (sD (nS (cT rfl ?_)))
 refine tS ?_
 (have hq : k = 6 := (by assumption); obtain ⟨x, y, hxy⟩ := hL2 (by omega); have hAq := hA hq x y hxy; subst hxy; obtain ⟨bx, ox, e0, rfl, hl0, hat0, hre0, hgb0⟩ := hsl.kidTm hkl (i := 0) (by simp) (by simp); obtain ⟨_, _, e1, hp1, hl1, hat1, hre1, hgb1⟩ := hsl.kidTm hkl (i := 1) (by simp) (by simp); cases hp1; have hF := l5Apply_fn x y G e0 e1 (hkk x (by simp)) (cv_small y (hkk y (by simp))) hre0 hre1; rw [← hAq] at hF; refine tri_draw mixed rfl ?_)
 refine any_pure (i := 0) (l' := [tt,ff,ff,ff,ff,ff,ff,ff,ff,ff,ff,ff,ff,ff,ff]) rfl npI (pF0 rfl) rfl (by kernel_rfl) rfl rfl ?_
 refine aL 1 rfl (lBs rfl rfl) rfl ?_
 refine aP 2 rfl (pIN (j := 0) rfl rfl rfl (by simp)) rfl ?_
 refine aL 3 rfl (load_a rfl rfl (hat0 _) hl0) rfl ?_
 refine aP 4 rfl (pF0 rfl) rfl ?_
 refine aL 5 rfl (lBs rfl rfl) rfl ?_
 refine aP 6 rfl (pIN (j := 1) rfl rfl rfl (by simp)) rfl ?_
 refine aL 7 rfl (load_a rfl rfl (hat1 _) hl1) rfl ?_
 refine aO' 8 ?_
 (refine one_imm rfl rfl hF rfl rfl rfl (fun v G1 hle1 hh => ?_); obtain ⟨wc, rfl, hrw⟩ := hh; have hwl := hrw.len; have hwo := hrw.one)
 refine aP 9 rfl (pX rfl rfl) rfl ?_
 refine aP 10 rfl (pX rfl rfl) rfl ?_
 refine aP 11 rfl (pX rfl rfl) rfl ?_
 refine aO' 12 ?_
 (refine oS rfl rfl rfl rfl hwl hwo rfl rfl ?_ (hu := by exact upd_all hwl.symm))
 refine aP 13 rfl (pA rfl) rfl ?_
 refine aP 14 rfl (pA rfl) rfl ?_
 refine aD' ?_
 refine nS (tT (rB (rS (rF3 (rC rfl (load_a rfl rfl (at_blk_all (by repeat first | exact mH | apply mT)) hwl)) (rT rfl) (rT rfl) ?_))))
 (exact ⟨rfl, _, rfl, hrw⟩)
 refine sQ (pA rfl) rfl (sD (nS (cF rfl ?_)))
 refine tS (tS (tR (sB (pE rfl rfl) rfl rfl (fun h57 => ?_) (fun h57 => ?_))))
 refine sQ (pA rfl) rfl (sD (nS (cT rfl ?_)))
 refine tK (nS (cT rfl ?_))
 refine tS ?_
 (have hq : k = 7 ∨ k = 8 := (by omega); obtain ⟨x, y, hxy⟩ := hL2 (by omega); have hBq := hB hq x y hxy; subst hxy; obtain ⟨bx, ox, e0, rfl, hl0, hat0, hre0, hgb0⟩ := hsl.kidTm hkl (i := 0) (by simp) (by simp); obtain ⟨_, _, e1, hp1, hl1, hat1, hre1, hgb1⟩ := hsl.kidTm hkl (i := 1) (by simp) (by simp); cases hp1; have hF := l5Number_fn k x y G e0 e1 hq (by have := (hkk x (by simp)); cases x; exact this.node.1.num0) (by have := (hkk y (by simp)); cases y; exact this.node.1.num0) hre0 hre1; rw [← hBq] at hF; refine tri_draw mixed rfl ?_)
 refine any_pure (i := 0) (l' := [tt,ff,ff,ff,ff,ff,ff,ff,ff,ff,ff,ff,ff,ff,ff,ff,ff]) rfl npI (pF0 rfl) rfl (by kernel_rfl) rfl rfl ?_
 refine aL 1 rfl (lBs rfl rfl) rfl ?_
 refine aP 2 rfl (pF0 rfl) rfl ?_
 refine aL 3 rfl (lBs rfl rfl) rfl ?_
 refine aP 4 rfl (pIN (j := 0) rfl rfl rfl (by simp)) rfl ?_
 refine aL 5 rfl (load_a rfl rfl (hat0 _) hl0) rfl ?_
 refine aP 6 rfl (pF0 rfl) rfl ?_
 refine aL 7 rfl (lBs rfl rfl) rfl ?_
 refine aP 8 rfl (pIN (j := 1) rfl rfl rfl (by simp)) rfl ?_
 refine aL 9 rfl (load_a rfl rfl (hat1 _) hl1) rfl ?_
 refine aO' 10 ?_
 (refine one_imm rfl rfl hF rfl rfl rfl (fun v G1 hle1 hh => ?_); obtain ⟨wc, rfl, hrw⟩ := hh; have hwl := hrw.len; have hwo := hrw.one)
 refine aP 11 rfl (pX rfl rfl) rfl ?_
 refine aP 12 rfl (pX rfl rfl) rfl ?_
 refine aP 13 rfl (pX rfl rfl) rfl ?_
 refine aO' 14 ?_
 (refine oS rfl rfl rfl rfl hwl hwo rfl rfl ?_ (hu := by exact upd_all hwl.symm))
 refine aP 15 rfl (pA rfl) rfl ?_
 refine aP 16 rfl (pA rfl) rfl ?_
 refine aD' ?_
 refine nS (tT (rB (rS (rF3 (rC rfl (load_a rfl rfl (at_blk_all (by repeat first | exact mH | apply mT)) hwl)) (rT rfl) (rT rfl) ?_))))
 (exact ⟨rfl, _, rfl, hrw⟩)
 refine sQ (pA rfl) rfl (sD (nS (cF rfl ?_)))
 refine tR (sB (pE rfl rfl) rfl rfl (fun h98 => ?_) (fun h98 => ?_))
 refine sQ (pA rfl) rfl (sD (nS (cT rfl ?_)))
 refine tS ?_
 (have hq : k = 7 ∨ k = 8 := (by omega); obtain ⟨x, y, hxy⟩ := hL2 (by omega); have hBq := hB hq x y hxy; subst hxy; obtain ⟨bx, ox, e0, rfl, hl0, hat0, hre0, hgb0⟩ := hsl.kidTm hkl (i := 0) (by simp) (by simp); obtain ⟨_, _, e1, hp1, hl1, hat1, hre1, hgb1⟩ := hsl.kidTm hkl (i := 1) (by simp) (by simp); cases hp1; have hF := l5Number_fn k x y G e0 e1 hq (by have := (hkk x (by simp)); cases x; exact this.node.1.num0) (by have := (hkk y (by simp)); cases y; exact this.node.1.num0) hre0 hre1; rw [← hBq] at hF; refine tri_draw mixed rfl ?_)
 refine any_pure (i := 0) (l' := [tt,ff,ff,ff,ff,ff,ff,ff,ff,ff,ff,ff,ff,ff,ff,ff,ff]) rfl npI (pF0 rfl) rfl (by kernel_rfl) rfl rfl ?_
 refine aL 1 rfl (lBs rfl rfl) rfl ?_
 refine aP 2 rfl (pF0 rfl) rfl ?_
 refine aL 3 rfl (lBs rfl rfl) rfl ?_
 refine aP 4 rfl (pIN (j := 0) rfl rfl rfl (by simp)) rfl ?_
 refine aL 5 rfl (load_a rfl rfl (hat0 _) hl0) rfl ?_
 refine aP 6 rfl (pF0 rfl) rfl ?_
 refine aL 7 rfl (lBs rfl rfl) rfl ?_
 refine aP 8 rfl (pIN (j := 1) rfl rfl rfl (by simp)) rfl ?_
 refine aL 9 rfl (load_a rfl rfl (hat1 _) hl1) rfl ?_
 refine aO' 10 ?_
 (refine one_imm rfl rfl hF rfl rfl rfl (fun v G1 hle1 hh => ?_); obtain ⟨wc, rfl, hrw⟩ := hh; have hwl := hrw.len; have hwo := hrw.one)
 refine aP 11 rfl (pX rfl rfl) rfl ?_
 refine aP 12 rfl (pX rfl rfl) rfl ?_
 refine aP 13 rfl (pX rfl rfl) rfl ?_
 refine aO' 14 ?_
 (refine oS rfl rfl rfl rfl hwl hwo rfl rfl ?_ (hu := by exact upd_all hwl.symm))
 refine aP 15 rfl (pA rfl) rfl ?_
 refine aP 16 rfl (pA rfl) rfl ?_
 refine aD' ?_
 refine nS (tT (rB (rS (rF3 (rC rfl (load_a rfl rfl (at_blk_all (by repeat first | exact mH | apply mT)) hwl)) (rT rfl) (rT rfl) ?_))))
 (exact ⟨rfl, _, rfl, hrw⟩)
 refine sQ (pA rfl) rfl (sD (nS (cF rfl ?_)))
 refine tS (tS (tR (sB (pE rfl rfl) rfl rfl (fun h138 => ?_) (fun h138 => ?_))))
 refine sQ (pA rfl) rfl (sD (nS (cT rfl ?_)))
 refine tK (nS (cT rfl ?_))
 refine tS ?_
 (have hq : k = 11 ∨ k = 12 := (by omega); obtain ⟨x, hxy⟩ := hL1 (by omega); have hDq := hD hq x hxy; subst hxy; obtain ⟨bx, ox, e0, rfl, hl0, hat0, hre0, hgb0⟩ := hsl.kidTm hkl (i := 0) (by simp) (by simp); have hF := l5Part_fn k x G e0 hq (hkk x (by simp)) hre0; rw [← hDq] at hF; refine tri_draw mixed rfl ?_)
 refine any_pure (i := 0) (l' := [tt,ff,ff,ff,ff,ff,ff,ff,ff,ff,ff,ff,ff]) rfl npI (pF0 rfl) rfl (by kernel_rfl) rfl rfl ?_
 refine aL 1 rfl (lBs rfl rfl) rfl ?_
 refine aP 2 rfl (pF0 rfl) rfl ?_
 refine aL 3 rfl (lBs rfl rfl) rfl ?_
 refine aP 4 rfl (pIN (j := 0) rfl rfl rfl (by simp)) rfl ?_
 refine aL 5 rfl (load_a rfl rfl (hat0 _) hl0) rfl ?_
 refine aO' 6 ?_
 (refine one_imm rfl rfl hF rfl rfl rfl (fun v G1 hle1 hh => ?_); obtain ⟨wc, rfl, hrw⟩ := hh; have hwl := hrw.len; have hwo := hrw.one)
 refine aP 7 rfl (pX rfl rfl) rfl ?_
 refine aP 8 rfl (pX rfl rfl) rfl ?_
 refine aP 9 rfl (pX rfl rfl) rfl ?_
 refine aO' 10 ?_
 (refine oS rfl rfl rfl rfl hwl hwo rfl rfl ?_ (hu := by exact upd_all hwl.symm))
 refine aP 11 rfl (pA rfl) rfl ?_
 refine aP 12 rfl (pA rfl) rfl ?_
 refine aD' ?_
 refine nS (tT (rB (rS (rF3 (rC rfl (load_a rfl rfl (at_blk_all (by repeat first | exact mH | apply mT)) hwl)) (rT rfl) (rT rfl) ?_))))
 (exact ⟨rfl, _, rfl, hrw⟩)
 refine sQ (pA rfl) rfl (sD (nS (cF rfl ?_)))
 refine tR (sB (pE rfl rfl) rfl rfl (fun h175 => ?_) (fun h175 => ?_))
 refine sQ (pA rfl) rfl (sD (nS (cT rfl ?_)))
 refine tS ?_
 (have hq : k = 11 ∨ k = 12 := (by omega); obtain ⟨x, hxy⟩ := hL1 (by omega); have hDq := hD hq x hxy; subst hxy; obtain ⟨bx, ox, e0, rfl, hl0, hat0, hre0, hgb0⟩ := hsl.kidTm hkl (i := 0) (by simp) (by simp); have hF := l5Part_fn k x G e0 hq (hkk x (by simp)) hre0; rw [← hDq] at hF; refine tri_draw mixed rfl ?_)
 refine any_pure (i := 0) (l' := [tt,ff,ff,ff,ff,ff,ff,ff,ff,ff,ff,ff,ff]) rfl npI (pF0 rfl) rfl (by kernel_rfl) rfl rfl ?_
 refine aL 1 rfl (lBs rfl rfl) rfl ?_
 refine aP 2 rfl (pF0 rfl) rfl ?_
 refine aL 3 rfl (lBs rfl rfl) rfl ?_
 refine aP 4 rfl (pIN (j := 0) rfl rfl rfl (by simp)) rfl ?_
 refine aL 5 rfl (load_a rfl rfl (hat0 _) hl0) rfl ?_
 refine aO' 6 ?_
 (refine one_imm rfl rfl hF rfl rfl rfl (fun v G1 hle1 hh => ?_); obtain ⟨wc, rfl, hrw⟩ := hh; have hwl := hrw.len; have hwo := hrw.one)
 refine aP 7 rfl (pX rfl rfl) rfl ?_
 refine aP 8 rfl (pX rfl rfl) rfl ?_
 refine aP 9 rfl (pX rfl rfl) rfl ?_
 refine aO' 10 ?_
 (refine oS rfl rfl rfl rfl hwl hwo rfl rfl ?_ (hu := by exact upd_all hwl.symm))
 refine aP 11 rfl (pA rfl) rfl ?_
 refine aP 12 rfl (pA rfl) rfl ?_
 refine aD' ?_
 refine nS (tT (rB (rS (rF3 (rC rfl (load_a rfl rfl (at_blk_all (by repeat first | exact mH | apply mT)) hwl)) (rT rfl) (rT rfl) ?_))))
 (exact ⟨rfl, _, rfl, hrw⟩)
 refine sQ (pA rfl) rfl (sD (nS (cF rfl ?_)))
 refine tS (tR (sB (pE rfl rfl) rfl rfl (fun h210 => ?_) (fun h210 => ?_)))
 refine sQ (pA rfl) rfl (sD (nS (cT rfl ?_)))
 refine tS (tR (sL (lBa rfl rfl) rfl rfl ?_))
 (refine seq_imm rfl (hC (by omega)) rfl rfl (fun v G1 hle1 hh => ?_); obtain ⟨wc, rfl, hrw⟩ := hh; have hwl := hrw.len; have hwo := hrw.one)
 refine sQ (pX rfl rfl) rfl (sQ (pX rfl rfl) rfl (sQ (pX rfl rfl) rfl (sS rfl rfl rfl hwl hwo rfl ?_ (hu := by exact upd_all hwl.symm))))
 refine sQ (pA rfl) rfl (sQ (pA rfl) rfl (sD (nS (tT (rB (rS ?_))))))
 refine rF3 (rC rfl (load_a rfl rfl (at_blk_all (by repeat first | exact mH | apply mT)) hwl)) (rT rfl) (rT rfl) ?_
 (exact ⟨rfl, _, rfl, hrw⟩)
 refine sQ (pA rfl) rfl (sD (nS (cF rfl ?_)))
 refine tK (nrm_block (nS (tS (tR (sQ (pBd rfl rfl) rfl (sS' ?_))))))
 refine sQ (pA rfl) rfl (sQ (pA rfl) rfl (sD (nS (tT (rF3 (rC rfl (lBa rfl rfl)) (rT rfl) (rT rfl) ?_)))))
 (rw [hO (by omega)]; exact StpX.mk rfl (tm0_r _))
theorem stp_kidX {k : Int} {nm : ByteArray} {num : Int} {ty fr : Ty} {lb : Int} {ks : List Tm} {i : Nat} (hi : i < ks.length) (hn : i < (if k = 9 then 1 else ks.length)) (hj : ∀ j, j < i → (h : j < ks.length) → mVal ks[j] = true) (hv : mVal ks[i] = false) :
  mStp (.mk k nm num ty fr lb ks) = if (mStp ks[i]).2.1 = 1 then (.mk k nm num ty fr lb (ks.set i (mStp ks[i]).1), 1, 0) else (tm0, (mStp ks[i]).2.1, (mStp ks[i]).2.2) := by
 rw [mStp, stpL_at _ ks i hi hn hj hv]
theorem stp_redX {k : Int} {nm : ByteArray} {num : Int} {ty fr : Ty} {lb : Int} {ks : List Tm} (h : ∀ i, i < (if k = 9 then 1 else ks.length) → (hl : i < ks.length) → mVal ks[i] = true) : mStp (.mk k nm num ty fr lb ks) = mRed k ty fr lb ks := by
 rw [mStp, stpL_none _ _ h]
theorem red_9 {ty fr : Ty} {lb : Int} {a b c : Tm} : mRed 9 ty fr lb [a, b, c] = (if a.k = 3 then (b, 1, 0) else if a.k = 4 then (c, 1, 0) else stuck) := rfl
theorem l5Step_fn : ∀ (t : Tm) (G : IM) (cells : List Value), cv t → mVal t = false → RTm G t cells → Fn Tryz.prog 133 [.agg ⟨cells⟩] [] G (StpX (mStp t)) := by
 refine Tm.ind fun k nm num ty fr lb ks ih G cells hc hv hr => ?_
 have hr0 := hr
 have hRl := hr.len
 have hN := hc.node.1
 have hkk := hc.node.2
 have hops := hN.ops
 have hle3 := tmOps_le k
 have hkd := @stp_kinds k nm num ty fr lb ks hc hv
 have hkX := fun (i : Nat) => @stp_kidX k nm num ty fr lb ks i
 have hrX := @stp_redX k nm num ty fr lb ks
 have hRd := fun h7 => l5Reduce_fn k nm num ty fr lb ks G cells h7 hc hr
 obtain ⟨C, hC⟩ : ∃ C : Nat, (if k = 9 then 1 else ks.length : Nat) = C := ⟨_, rfl⟩
 rw [hC] at hkd hrX
 have hkX' := fun (i : Nat) (hi : i < ks.length) (hn : i < C) => hkX i hi (by rw [hC]; exact hn)
 have h93 : k = 9 → ks.length = 3 := fun h => by rw [h] at hops; have : tmOps 9 = 3 := rfl; omega
 have hC1 : k = 9 → C = 1 := fun h => by rw [← hC, if_pos h]
 have hC2 : k ≠ 9 → C = ks.length := fun h => by rw [← hC, if_neg h]
 have hC9 : C ≤ ks.length := by by_cases h9 : k = 9; have := h93 h9; have := hC1 h9; omega; have := hC2 h9; omega
 generalize mStp (.mk k nm num ty fr lb ks) = R at hkX hkX' hrX ⊢
 obtain ⟨tk, tks⟩ := ty
 obtain ⟨fk, fks⟩ := fr
 obtain ⟨pt, ct, pf, cf, p, c, es, rfl, hk, hnum, hlb, hty, hfr, hsl, hkl⟩ := hr.open9
 have hn := hsl.le
 have hnc := hsl.sl.2.1
 have hes1 : ∀ u ∈ es.flatten, u.oneCell' = true := by
  intro u hu
  obtain ⟨e, he, hue⟩ := List.mem_flatten.1 hu
  exact List.all_eq_true.1 (hsl.one e he) u hue
 refine fn_enter Tryz.func133 rfl Tryz.ntmps133 Tryz.results133 rfl ?_
 intro w0
 refine tS (tR ?_)
 refine sE (step_box_a rfl rfl) rfl (fun b3 => ?_)
 refine sE (step_alloc rfl) rfl (fun b4 => ?_)
 refine sQ (pA rfl) rfl (sQ (pA rfl) rfl (sD (nS (tS (tR (sQ (pF0 rfl) rfl ?_))))))
 refine sL (lBs rfl rfl) rfl rfl ?_
 refine sQ (pLn rfl rfl) rfl (sQ (pA rfl) rfl (sD (nS (tS (tS (tR ?_))))))
 refine sQ (pF0 rfl) rfl (sL (lBs rfl rfl) rfl rfl ?_)
 refine sB (pE rfl rfl) rfl rfl (fun h22 => ?_) (fun h22 => ?_)
 refine sD (nS ?_)
 (show Tri _ _ (.cond (.tmp 16) _ _) _ _; refine tri_cut (fun (_ : Unit) => ⟨[(5, .int .i64 (C : Int)), (1, .pointer (some ⟨b3, 0, none⟩)), (2, .pointer (some ⟨b4, 0, none⟩))], [.blk b4 [.int .i64 0, .string ⟨⟨[]⟩⟩, .int .i64 0, .int .i64 0, .slice none 0 0, .int .i64 0, .slice none 0 0, .int .i64 0, .slice none 0 0], .blk b3 [.int .i64 k, .string nm, .int .i64 num, .int .i64 tk, .slice pt tks.length ct, .int .i64 fk, .slice pf fks.length cf, .int .i64 lb, .slice p ks.length c]], G⟩) (fun _ => True) (cT rfl ?_) ?_)
 refine tR (sQ (pA rfl) rfl (sD ?_))
 (have hCC := hC1 (by omega); subst hCC; refine nrm_cut () (sub_mk (by repeat (first | exact SubE.nil | refine SubE.cons rfl ?_)) (by repeat (first | exact SubH.refl | exact SubH.nil | refine SubH.cons (by repeat (first | exact Pk.here | apply Pk.there)) ?_ | apply SubH.drop))) trivial)
 (rintro (_ : Unit) _)
 refine tS (tS (tR (sQ (pA rfl) rfl (sD (nS (tri_block ?_))))))
 (refine tri_loopN (fun (i : Nat) => ⟨[(6, .int .i64 (i : Int)), (5, .int .i64 (C : Int)), (1, .pointer (some ⟨b3, 0, none⟩)), (2, .pointer (some ⟨b4, 0, none⟩))], [.blk b4 [.int .i64 0, .string ⟨⟨[]⟩⟩, .int .i64 0, .int .i64 0, .slice none 0 0, .int .i64 0, .slice none 0 0, .int .i64 0, .slice none 0 0], .blk b3 [.int .i64 k, .string nm, .int .i64 num, .int .i64 tk, .slice pt tks.length ct, .int .i64 fk, .slice pf fks.length cf, .int .i64 lb, .slice p ks.length c]], G⟩) (fun i => i ≤ C ∧ ∀ j, j < i → (h : j < ks.length) → mVal ks[j] = true) (fun i => C - i) 0 ?_ ?_ ?_)
 exact sMk
 (exact ⟨Nat.zero_le _, fun j hj => absurd hj (Nat.not_lt_zero j)⟩)
 (rintro i ⟨hi, hj⟩)
 refine tS (tS (tR (sQ (pM rfl) rfl (sQ (pM rfl) rfl (sB (pure_lss rfl rfl) rfl rfl (fun h47 => ?_) (fun h47 => ?_))))))
 refine sD (nS (cT rfl ?_))
 refine tK (nS (tS (tri_block (tS (tS (tR ?_))))))
 refine sQ (pF0 rfl) rfl (sL (lBs rfl rfl) rfl rfl ?_)
 refine sQ (pM rfl) rfl ?_
 (have hiC : i < C := (by omega); obtain ⟨bx, ox, e, rfl, hl, hat, hre, hgb⟩ := hsl.kidTm hkl (i := i) (by omega) (by omega); have heo := hre.one; have hVi := l5Value_fn ks[i] G e (hkk _ (List.getElem_mem (by omega))) hre; refine sP (pIN (j := i) rfl rfl rfl (by omega)) rfl rfl ?_)
 refine sL (load_a rfl rfl (hat _) hl) rfl rfl ?_
 refine seq_valb rfl (hVi) rfl rfl (fun h63 => ?_) (fun h63 => ?_)
 refine sD (nS (cT rfl ?_))
 refine tri_exit ?_
 refine ext_seq ?_
 refine ext_block_eq ?_
 refine nS (tR (sQ (pM rfl) rfl (sP (pure_add rfl rfl (by omega) (by omega)) rfl rfl ?_)))
 refine sQ (pA rfl) rfl (sD (nrm_loopN (i + 1) ?_ ?_ ?_))
 exact sMk
 (exact ⟨by omega, fun j hji hl2 => (by by_cases he : j = i; (subst he; assumption); exact hj j (by omega) hl2)⟩)
 (show C - (i + 1) < C - i; omega)
 refine sD (nS (cF rfl ?_))
 refine tK (nS (tS (tR (sQ (pF0 rfl) rfl (sL (lBs rfl rfl) rfl rfl ?_)))))
 refine sQ (pM rfl) rfl (sP (pIN (j := i) rfl rfl rfl (by omega)) rfl rfl ?_)
 refine sL (load_a rfl rfl (hat _) hl) rfl rfl ?_
 (have hvF : mVal ks[i] = false := (by assumption); have hst := hkX' i (by omega) hiC (fun j hji hl2 => hj j hji hl2) hvF; refine seq_imm rfl (ih ks[i] (List.getElem_mem (by omega)) G e (hkk _ (List.getElem_mem (by omega))) hvF hre) rfl rfl (fun v G1 hle1 hh => ?_); obtain ⟨uc, hvv, hru⟩ := hh; have hul := hru.len; have huo := hru.one; generalize mStp ks[i] = r at hvv hru hst; obtain ⟨u, cc, ll⟩ := r; simp only at hvv hru hst; subst hvv)
 refine sQ (pM rfl) rfl (sQ (pX rfl rfl) rfl (sQ (pX rfl rfl) rfl (sQ (pX rfl rfl) rfl ?_)))
 refine sE (step_alloc rfl) rfl (fun b97 => ?_)
 refine sS rfl rfl rfl hul huo rfl ?_ (hu := by exact upd_all hul.symm)
 refine sQ (pA rfl) rfl (sQ (pA rfl) rfl (sD (nS (tS (tS (tR ?_))))))
 refine sQ (pM rfl) rfl (sB (pure_neq rfl rfl) rfl rfl (fun h107 => ?_) (fun h107 => ?_))
 refine sD (nS (cT rfl ?_))
 refine tS (tR (sQ (pBd rfl rfl) rfl (sQ (pM rfl) rfl (sQ (pM rfl) rfl (sS' ?_)))))
 refine sQ (pA rfl) rfl (sQ (pA rfl) rfl (sD (nS (tT (rS (rB ?_))))))
 refine rS (ret_loopN (rB (rS (rF3 (rC rfl (lBa rfl rfl)) (rT rfl) (rT rfl) ?_))))
 (rw [hst, if_neg (by omega)]; exact StpX.mk rfl (tm0_r _))
 refine sD (nS (cF rfl ?_))
 refine tK (nS (tS (tR (sL (lBa rfl rfl) rfl rfl ?_))))
 refine sE (step_alloc rfl) rfl (fun b138 => ?_)
 refine sS' ?_
 refine sD (nS (tS (tR ?_)))
 (refine seq_step (step_buildSlice rfl rfl rfl (by omega) (by unfold maxLen; omega) rfl) rfl ?_; rintro _ ⟨b144, rfl⟩)
 refine sQ (pF0 rfl) rfl (sL (lBs rfl rfl) rfl rfl ?_)
 (refine seq_appendSl rfl rfl rfl rfl rfl (fun _ _ => by repeat (first | exact Sw.here | apply Sw.there)) (hsl.mono hle1).sl hes1 (Nat.zero_le _) (by unfold maxLen; omega) (by omega) rfl (fun p4 c4 => ?_); simp only [Nat.zero_add, List.nil_append]; refine triL_open (cs := es.flatten) (by repeat (first | exact Pk.here | apply Pk.there)) (by omega) (fun bc Cc hpe hnc1 hcm => ?_); subst hpe)
 refine sQ (pF0 rfl) rfl (sS' ?_)
 refine sD (nS (tS (tR (sQ (pF0 rfl) rfl (sL (lBs rfl rfl) rfl rfl ?_)))))
 refine sQ (pM rfl) rfl (sL (load_a rfl rfl (at_blk_all (by repeat first | exact mH | apply mT)) hul) rfl rfl ?_)
 refine sP (pIN (j := i) rfl rfl rfl (by omega)) rfl rfl ?_
 refine seq_store rfl rfl rfl hul huo rfl (by repeat first | exact Sw.here | apply Sw.there) (by exact upd_set (by rw [hkl.len]; omega) (fun e he => (hsl.all e he)) hul) ?_
 refine sD (nS (tS (tR (sL (lBa rfl rfl) rfl rfl ?_))))
 refine sS' ?_
 refine sQ (pA rfl) rfl (sQ (pA rfl) rfl (sD (nS ?_)))
 (refine tri_freezes (bs := [(bc, (es.set i uc).flatten ++ Cc)]) (Pk.perm (by repeat (first | exact Pk.here | apply Pk.there))) (fun hn2 hd2 hle2 => ?_))
 refine tT (rB (rS (ret_loopN (rB (rS (rF3 (rC rfl (lBa rfl rfl)) (rT rfl) (rT rfl) ?_))))))
 (have hks2 := RTmL.set (j := i) ((hkl.mono hle1).mono hle2) (hru.mono hle2); rw [hst, if_pos (by omega)]; exact StpX.mk rfl (RTm.put (us := ks.set i u) (es := es.set i uc) hk hnum hlb ((hty.mono hle1).mono hle2) ((hfr.mono hle1).mono hle2) (by rw [List.length_set]) (SlE.of (Sl.of_blk (A := []) (by rw [flat_len hks2.all, hks2.len, List.length_set]) (by omega) hcm (Wi.in hn2 List.mem_cons_self)) (by rw [hks2.len, List.length_set]) hks2.all (fun e he => by obtain ⟨q, hq⟩ := List.getElem?_of_mem he; exact (hks2.inv hq tm0).2.one)) hks2))
 refine sD (nS (cF rfl ?_))
 refine tri_exit ?_
 refine ext_seq ?_
 refine ext_loopN ?_
 refine ext_block_eq ?_
 refine nS (tS (tS (tR (sQ (pF0 rfl) rfl (sL (lBs rfl rfl) rfl rfl ?_)))))
 refine sP (pure_neq_f rfl rfl (by omega)) rfl rfl ?_
 refine sD (nS (cF rfl ?_))
 refine tK (nS (tS (tS (tR (sQ (pF0 rfl) rfl (sL (lBs rfl rfl) rfl rfl ?_))))))
 (have hall : ∀ i, i < C → (hl : i < ks.length) → mVal ks[i] = true := (fun j hjc hl2 => hj j (by omega) hl2); have hrd' := hrX hall; have h9 : k = 9 := (by omega); subst h9; obtain ⟨xa, xb, xc, hxs⟩ := ks3 (h93 rfl); subst hxs; rw [red_9] at hrd'; obtain ⟨bx, ox, e0, rfl, hl0, hat0, hre0, hgb0⟩ := hsl.kidTm hkl (i := 0) (by simp) (by simp); obtain ⟨_, _, e1, hp1, hl1, hat1, hre1, hgb1⟩ := hsl.kidTm hkl (i := 1) (by simp) (by simp); cases hp1; obtain ⟨_, _, e2, hp2, hl2, hat2, hre2, hgb2⟩ := hsl.kidTm hkl (i := 2) (by simp) (by simp); cases hp2; replace hre0 : RTm G xa e0 := hre0; replace hre1 : RTm G xb e1 := hre1; replace hre2 : RTm G xc e2 := hre2; have ho1 := hre1.one; have ho2 := hre2.one; obtain ⟨ak, anm, anum, ⟨atk, atks⟩, ⟨afk, afks⟩, alb, aks⟩ := xa; obtain ⟨apt, act, apf, acf, ap, ac, aes, rfl, hak, hanum, halb, haty, hafr, hasl, hakl⟩ := hre0.open9; replace hrd' : R = (if ak = 3 then (xb, 1, 0) else if ak = 4 then (xc, 1, 0) else stuck) := hrd'; refine sP (pIN (j := 0) rfl rfl rfl (by simp)) rfl rfl ?_)
 refine sQ (pF rfl) rfl (sL (load_s rfl rfl ((hat0 _).sub (j := 0) rfl)) rfl rfl ?_)
 refine sD (nS (tri_block (tS (tR (sB (pE rfl rfl) rfl rfl (fun h211 => ?_) (fun h211 => ?_))))))
 refine sQ (pA rfl) rfl (sD (nS (cT rfl ?_)))
 refine tS (tR (sQ (pF0 rfl) rfl (sL (lBs rfl rfl) rfl rfl ?_)))
 refine sP (pIN (j := 1) rfl rfl rfl (by simp)) rfl rfl ?_
 refine sL (load_a rfl rfl (hat1 _) hl1) rfl rfl ?_
 refine sS rfl rfl rfl hl1 ho1 rfl ?_ (hu := by exact upd_all hl1.symm)
 refine sQ (pA rfl) rfl (sQ (pA rfl) rfl (sD (nS (tT (rB (rS ?_))))))
 refine rF3 (rC rfl (load_a rfl rfl (at_blk_all (by repeat first | exact mH | apply mT)) hl1)) (rT rfl) (rT rfl) ?_
 (rw [hrd', if_pos (by omega)]; exact StpX.mk rfl hre1)
 refine sQ (pA rfl) rfl (sD (nS (cF rfl ?_)))
 refine tS (tR (sB (pE rfl rfl) rfl rfl (fun h238 => ?_) (fun h238 => ?_)))
 refine sQ (pA rfl) rfl (sD (nS (cT rfl ?_)))
 refine tS (tR (sQ (pF0 rfl) rfl (sL (lBs rfl rfl) rfl rfl ?_)))
 refine sP (pIN (j := 2) rfl rfl rfl (by simp)) rfl rfl ?_
 refine sL (load_a rfl rfl (hat2 _) hl2) rfl rfl ?_
 refine sS rfl rfl rfl hl2 ho2 rfl ?_ (hu := by exact upd_all hl2.symm)
 refine sQ (pA rfl) rfl (sQ (pA rfl) rfl (sD (nS (tT (rB (rS ?_))))))
 refine rF3 (rC rfl (load_a rfl rfl (at_blk_all (by repeat first | exact mH | apply mT)) hl2)) (rT rfl) (rT rfl) ?_
 (rw [hrd', if_neg (by omega), if_pos (by omega)]; exact StpX.mk rfl hre2)
 refine sQ (pA rfl) rfl (sD (nS (cF rfl ?_)))
 refine tK (nrm_block (nS (tS (tR (sQ (pBd rfl rfl) rfl (sS' ?_))))))
 refine sQ (pA rfl) rfl (sQ (pA rfl) rfl (sD (nS (tT (rF3 (rC rfl (lBa rfl rfl)) (rT rfl) (rT rfl) ?_)))))
 (rw [hrd', if_neg (by omega), if_neg (by omega)]; exact StpX.mk rfl (tm0_r _))
 refine sD (nS ?_)
 (show Tri _ _ (.cond (.tmp 16) _ _) _ _; refine tri_cut (fun (_ : Unit) => ⟨[(5, .int .i64 (C : Int)), (1, .pointer (some ⟨b3, 0, none⟩)), (2, .pointer (some ⟨b4, 0, none⟩))], [.blk b4 [.int .i64 0, .string ⟨⟨[]⟩⟩, .int .i64 0, .int .i64 0, .slice none 0 0, .int .i64 0, .slice none 0 0, .int .i64 0, .slice none 0 0], .blk b3 [.int .i64 k, .string nm, .int .i64 num, .int .i64 tk, .slice pt tks.length ct, .int .i64 fk, .slice pf fks.length cf, .int .i64 lb, .slice p ks.length c]], G⟩) (fun _ => True) (cF rfl ?_) ?_)
 refine tK ?_
 (have hCC := hC2 (by omega); subst hCC; refine nrm_cut () (sub_mk (by repeat (first | exact SubE.nil | refine SubE.cons rfl ?_)) (by repeat (first | exact SubH.refl | exact SubH.nil | refine SubH.cons (by repeat (first | exact Pk.here | apply Pk.there)) ?_ | apply SubH.drop))) trivial)
 (rintro (_ : Unit) _)
 refine tS (tS (tR (sQ (pA rfl) rfl (sD (nS (tri_block ?_))))))
 (refine tri_loopN (fun (i : Nat) => ⟨[(6, .int .i64 (i : Int)), (5, .int .i64 (C : Int)), (1, .pointer (some ⟨b3, 0, none⟩)), (2, .pointer (some ⟨b4, 0, none⟩))], [.blk b4 [.int .i64 0, .string ⟨⟨[]⟩⟩, .int .i64 0, .int .i64 0, .slice none 0 0, .int .i64 0, .slice none 0 0, .int .i64 0, .slice none 0 0], .blk b3 [.int .i64 k, .string nm, .int .i64 num, .int .i64 tk, .slice pt tks.length ct, .int .i64 fk, .slice pf fks.length cf, .int .i64 lb, .slice p ks.length c]], G⟩) (fun i => i ≤ C ∧ ∀ j, j < i → (h : j < ks.length) → mVal ks[j] = true) (fun i => C - i) 0 ?_ ?_ ?_)
 exact sMk
 (exact ⟨Nat.zero_le _, fun j hj => absurd hj (Nat.not_lt_zero j)⟩)
 (rintro i ⟨hi, hj⟩)
 refine tS (tS (tR (sQ (pM rfl) rfl (sQ (pM rfl) rfl (sB (pure_lss rfl rfl) rfl rfl (fun h299 => ?_) (fun h299 => ?_))))))
 refine sD (nS (cT rfl ?_))
 refine tK (nS (tS (tri_block (tS (tS (tR ?_))))))
 refine sQ (pF0 rfl) rfl (sL (lBs rfl rfl) rfl rfl ?_)
 refine sQ (pM rfl) rfl ?_
 (have hiC : i < C := (by omega); obtain ⟨bx, ox, e, rfl, hl, hat, hre, hgb⟩ := hsl.kidTm hkl (i := i) (by omega) (by omega); have heo := hre.one; have hVi := l5Value_fn ks[i] G e (hkk _ (List.getElem_mem (by omega))) hre; refine sP (pIN (j := i) rfl rfl rfl (by omega)) rfl rfl ?_)
 refine sL (load_a rfl rfl (hat _) hl) rfl rfl ?_
 refine seq_valb rfl (hVi) rfl rfl (fun h315 => ?_) (fun h315 => ?_)
 refine sD (nS (cT rfl ?_))
 refine tri_exit ?_
 refine ext_seq ?_
 refine ext_block_eq ?_
 refine nS (tR (sQ (pM rfl) rfl (sP (pure_add rfl rfl (by omega) (by omega)) rfl rfl ?_)))
 refine sQ (pA rfl) rfl (sD (nrm_loopN (i + 1) ?_ ?_ ?_))
 exact sMk
 (exact ⟨by omega, fun j hji hl2 => (by by_cases he : j = i; (subst he; assumption); exact hj j (by omega) hl2)⟩)
 (show C - (i + 1) < C - i; omega)
 refine sD (nS (cF rfl ?_))
 refine tK (nS (tS (tR (sQ (pF0 rfl) rfl (sL (lBs rfl rfl) rfl rfl ?_)))))
 refine sQ (pM rfl) rfl (sP (pIN (j := i) rfl rfl rfl (by omega)) rfl rfl ?_)
 refine sL (load_a rfl rfl (hat _) hl) rfl rfl ?_
 (have hvF : mVal ks[i] = false := (by assumption); have hst := hkX' i (by omega) hiC (fun j hji hl2 => hj j hji hl2) hvF; refine seq_imm rfl (ih ks[i] (List.getElem_mem (by omega)) G e (hkk _ (List.getElem_mem (by omega))) hvF hre) rfl rfl (fun v G1 hle1 hh => ?_); obtain ⟨uc, hvv, hru⟩ := hh; have hul := hru.len; have huo := hru.one; generalize mStp ks[i] = r at hvv hru hst; obtain ⟨u, cc, ll⟩ := r; simp only at hvv hru hst; subst hvv)
 refine sQ (pM rfl) rfl (sQ (pX rfl rfl) rfl (sQ (pX rfl rfl) rfl (sQ (pX rfl rfl) rfl ?_)))
 refine sE (step_alloc rfl) rfl (fun b349 => ?_)
 refine sS rfl rfl rfl hul huo rfl ?_ (hu := by exact upd_all hul.symm)
 refine sQ (pA rfl) rfl (sQ (pA rfl) rfl (sD (nS (tS (tS (tR ?_))))))
 refine sQ (pM rfl) rfl (sB (pure_neq rfl rfl) rfl rfl (fun h359 => ?_) (fun h359 => ?_))
 refine sD (nS (cT rfl ?_))
 refine tS (tR (sQ (pBd rfl rfl) rfl (sQ (pM rfl) rfl (sQ (pM rfl) rfl (sS' ?_)))))
 refine sQ (pA rfl) rfl (sQ (pA rfl) rfl (sD (nS (tT (rS (rB ?_))))))
 refine rS (ret_loopN (rB (rS (rF3 (rC rfl (lBa rfl rfl)) (rT rfl) (rT rfl) ?_))))
 (rw [hst, if_neg (by omega)]; exact StpX.mk rfl (tm0_r _))
 refine sD (nS (cF rfl ?_))
 refine tK (nS (tS (tR (sL (lBa rfl rfl) rfl rfl ?_))))
 refine sE (step_alloc rfl) rfl (fun b390 => ?_)
 refine sS' ?_
 refine sD (nS (tS (tR ?_)))
 (refine seq_step (step_buildSlice rfl rfl rfl (by omega) (by unfold maxLen; omega) rfl) rfl ?_; rintro _ ⟨b396, rfl⟩)
 refine sQ (pF0 rfl) rfl (sL (lBs rfl rfl) rfl rfl ?_)
 (refine seq_appendSl rfl rfl rfl rfl rfl (fun _ _ => by repeat (first | exact Sw.here | apply Sw.there)) (hsl.mono hle1).sl hes1 (Nat.zero_le _) (by unfold maxLen; omega) (by omega) rfl (fun p4 c4 => ?_); simp only [Nat.zero_add, List.nil_append]; refine triL_open (cs := es.flatten) (by repeat (first | exact Pk.here | apply Pk.there)) (by omega) (fun bc Cc hpe hnc1 hcm => ?_); subst hpe)
 refine sQ (pF0 rfl) rfl (sS' ?_)
 refine sD (nS (tS (tR (sQ (pF0 rfl) rfl (sL (lBs rfl rfl) rfl rfl ?_)))))
 refine sQ (pM rfl) rfl (sL (load_a rfl rfl (at_blk_all (by repeat first | exact mH | apply mT)) hul) rfl rfl ?_)
 refine sP (pIN (j := i) rfl rfl rfl (by omega)) rfl rfl ?_
 refine seq_store rfl rfl rfl hul huo rfl (by repeat first | exact Sw.here | apply Sw.there) (by exact upd_set (by rw [hkl.len]; omega) (fun e he => (hsl.all e he)) hul) ?_
 refine sD (nS (tS (tR (sL (lBa rfl rfl) rfl rfl ?_))))
 refine sS' ?_
 refine sQ (pA rfl) rfl (sQ (pA rfl) rfl (sD (nS ?_)))
 (refine tri_freezes (bs := [(bc, (es.set i uc).flatten ++ Cc)]) (Pk.perm (by repeat (first | exact Pk.here | apply Pk.there))) (fun hn2 hd2 hle2 => ?_))
 refine tT (rB (rS (ret_loopN (rB (rS (rF3 (rC rfl (lBa rfl rfl)) (rT rfl) (rT rfl) ?_))))))
 (have hks2 := RTmL.set (j := i) ((hkl.mono hle1).mono hle2) (hru.mono hle2); rw [hst, if_pos (by omega)]; exact StpX.mk rfl (RTm.put (us := ks.set i u) (es := es.set i uc) hk hnum hlb ((hty.mono hle1).mono hle2) ((hfr.mono hle1).mono hle2) (by rw [List.length_set]) (SlE.of (Sl.of_blk (A := []) (by rw [flat_len hks2.all, hks2.len, List.length_set]) (by omega) hcm (Wi.in hn2 List.mem_cons_self)) (by rw [hks2.len, List.length_set]) hks2.all (fun e he => by obtain ⟨q, hq⟩ := List.getElem?_of_mem he; exact (hks2.inv hq tm0).2.one)) hks2))
 refine sD (nS (cF rfl ?_))
 refine tri_exit ?_
 refine ext_seq ?_
 refine ext_loopN ?_
 refine ext_block_eq ?_
 refine nS (tS (tS (tR (sQ (pF0 rfl) rfl (sL (lBs rfl rfl) rfl rfl ?_)))))
 refine sP (pure_neq_t rfl rfl (by omega)) rfl rfl ?_
 refine sD (nS (cT rfl ?_))
 refine tS (tR (sL (lBa rfl rfl) rfl rfl ?_))
 (have hall : ∀ i, i < C → (hl : i < ks.length) → mVal ks[i] = true := (fun j hjc hl2 => hj j (by omega) hl2); have hk8 := hkd hall; have hrd' := hrX hall; refine seq_imm rfl (hRd (by omega)) rfl rfl (fun v G1 hle1 hh => ?_); obtain ⟨uc, rfl, hru⟩ := hh; have hul := hru.len; have huo := hru.one)
 refine sQ (pX rfl rfl) rfl (sQ (pX rfl rfl) rfl (sQ (pX rfl rfl) rfl (sS rfl rfl rfl hul huo rfl ?_ (hu := by exact upd_all hul.symm))))
 refine sQ (pA rfl) rfl (sQ (pA rfl) rfl (sD (nS (tT (rS (rF3 (rC rfl (load_a rfl rfl (at_blk_all (by repeat first | exact mH | apply mT)) hul)) (rT rfl) (rT rfl) ?_))))))
 (rw [hrd']; exact ⟨rfl, _, rfl, hru⟩)
end Gw
end Go.Proofs.YtmnfamimopcldaaGreatDoor
