/-
  The reference's evaluator: ground types, values, casts, replacing a name. The reference's evaluator: steps of nodes whose operands are values. The reference's insertion of casts, exactly. Values of the stack machine: as trees, and as they lie in memory; what an instruction does, in plain words. The reference's decimal digits of a number. The program's RunTerm: texts of values.
-/
import Derived.Test.YtaiafkcflhcdaaaGreatDoorKa4
import Derived.Test.YtaiafkcflhcdaaaGreatDoorKa5
import Derived.Test.YtaiafkcflhcdaaaGreatDoorKa3
import Derived.Test.YtaiafkcflhcdaaaGreatDoorKa1
import Derived.Lib.ItoaNum
namespace Go.Proofs.YtaiafkcflhcdaaaGreatDoor
open Go Go.RowKit
namespace Gw
theorem mGround_rep {t : Ty} (ha : tAr t) : mGround t = .mk t.k (List.replicate t.ks.length tyAny) := by
 obtain ⟨k, ks⟩ := t
 rw [tAr] at ha
 show (if k = 4 ∨ k = 5 then Ty.mk k [tyAny, tyAny] else .mk k []) = _
 show _ = Ty.mk k (List.replicate ks.length tyAny)
 split
 ·rename_i h; rw [ha.1 h]; rfl
 ·rename_i h
  rw [ha.2.1 (fun e => h (.inl e)) (fun e => h (.inr e))]; rfl
set_option maxHeartbeats 0 in
set_option maxRecDepth 100000 in
theorem l1Ground_fn (t : Ty) (G : IM) (cells : List Value) (ha : tAr t) (hr : RTy G t cells) : Fn Tryz.prog 184 [.agg ⟨cells⟩] [] G (RetTy (mGround t) G) := by
 rw [mGround_rep ha]
 obtain ⟨tk, tks⟩ := t
 have hsm := ha.small
 rw [Ty.small] at hsm
 obtain ⟨hsm1, _⟩ := hsm
 obtain ⟨p, c, es, rfl, hk, hsl, hkl⟩ := hr.open
 simp only [Ty.k, Ty.ks] at hk hsl hkl ⊢
 have hn := hsl.le
 refine fn_enter Tryz.func184 rfl Tryz.ntmps184 Tryz.results184 rfl ?_
 intro w0
 refine tS (tR ?_)
 (refine seq_step (step_box_a rfl rfl) rfl ?_; rintro _ ⟨b3, rfl⟩)
 (refine seq_step (step_alloc rfl) rfl ?_; rintro _ ⟨b4, rfl⟩)
 refine sD (nS (tS (tR (sP (pF0 rfl) rfl rfl (sL (lBs rfl rfl) rfl rfl ?_)))))
 refine sP (pBd rfl rfl) rfl rfl ?_
 (refine seq_step (step_alloc rfl) rfl ?_; rintro _ ⟨b12, rfl⟩)
 refine sS rfl rfl rfl rfl rfl rfl ?_
 refine sD (nS (tS (tS (tR (sP (pA rfl) rfl rfl (sD ?_))))))
 refine nS (tri_block ?_)
 (refine tri_nil 33 2 ?_; refine tri_loopN (fun (x : Nat × Option Addr × Nat × List (List Value)) => ⟨[(4, .int .i64 x.1), (3, .pointer (some ⟨b12, 0, none⟩)), (1, .pointer (some ⟨b3, 0, none⟩)), (2, .pointer (some ⟨b4, 0, none⟩))], [.blk b12 [.int .i64 tk, .slice x.2.1 x.1 x.2.2.1], .slc x.2.1 x.2.2.1 33 2 x.1 x.2.2.2.flatten, .blk b4 [.int .i64 0, .slice none 0 0], .blk b3 [.int .i64 tk, .slice p tks.length c]], G⟩) (fun x => x.1 ≤ tks.length ∧ RTyL G (List.replicate x.1 tyAny) x.2.2.2) (fun x => tks.length - x.1) (0, none, 0, []) ?_ ?_ ?_)
 (simp only [flat_snoc]; exact sub_mk (by repeat (first | exact SubE.nil | refine SubE.cons rfl ?_)) (by repeat (first | exact SubH.refl | exact SubH.nil | refine SubH.cons (by repeat (first | exact Pk.here | apply Pk.there)) ?_ | apply SubH.drop)))
 (exact ⟨Nat.zero_le _, rfl⟩)
 (rintro ⟨i, pn, cn, es'⟩ ⟨hi, hst⟩; simp only [] at hi hst ⊢; have hsl' := hst.len; rw [List.length_replicate] at hsl')
 refine tS (tS (tR (sP (pM rfl) rfl rfl (sP (pF0 rfl) rfl rfl (sL (lBs rfl rfl) rfl rfl ?_)))))
 refine sP (pLn rfl rfl) rfl rfl (sB (pure_lss rfl rfl) rfl rfl (fun h34 => ?_) (fun h34 => ?_))
 refine sD (nS (cT rfl ?_))
 refine tK (nS (tS (tri_block (tri_draw mixed rfl ?_))))
 refine any_pure (i := 0) (l' := [tt,ff,ff,ff,ff,ff,ff]) rfl npI (pF0 rfl) rfl (by kernel_rfl) rfl rfl ?_
 refine aL 1 rfl (lBs rfl rfl) rfl rfl ?_
 refine aO (j := 2) (by kernel_rfl) ?_
 refine one_val (l' := [tt,tt,tt,ff,ff,ff,ff]) rfl rfl ((l1Any_fn _)) rfl rfl rfl ?_
 refine aO (j := 3) (by kernel_rfl) ?_
 (refine one_step0 (l' := [tt,tt,tt,tt,ff,ff,ff]) rfl (step_buildSlice rfl rfl rfl (by omega) (by unfold maxLen; omega) rfl) rfl rfl ?_; rintro _ ⟨b48, rfl⟩)
 refine aO (j := 4) (by kernel_rfl) ?_
 refine one_append (l' := [tt,tt,tt,tt,tt,ff,ff]) rfl rfl rfl rfl rfl rfl (fun _ _ => by repeat (first | exact Sw.here | apply Sw.there)) (at_slc_all (by repeat first | exact mH | apply mT)) rfl (by simp [Value.oneCell']) (by unfold maxLen; omega) (by omega) rfl rfl (by repeat (first | exact HmOk.nil | apply HmOk.dep (by decide +kernel) | apply HmOk.im (by decide +kernel) (by assumption) (by repeat first | exact mH | apply mT) | apply HmOk.blk (by decide +kernel) (by repeat (first | exact Pk.here | apply Pk.there)) (by repeat first | exact mH | apply mT) | apply HmOk.slc (by decide +kernel) (by repeat (first | exact Pk.here | apply Pk.there)) (by repeat first | exact mH | apply mT))) (fun pn' cn' => ?_)
 refine aP 5 rfl (pF0 rfl) rfl rfl ?_
 refine aO (j := 6) (by kernel_rfl) ?_
 refine one_store (l' := [tt,tt,tt,tt,tt,tt,tt]) rfl rfl rfl rfl rfl rfl rfl rfl (by decide +kernel) (by repeat first | exact Sw.here | apply Sw.there) (by rfl) ?_
 refine aD (by kernel_rfl) ?_
 refine nrm_block (nS (tR (sP (pM rfl) rfl rfl (sP (pure_add rfl rfl (by omega) (by omega)) rfl rfl ?_))))
 refine sP (pA rfl) rfl rfl (sD (nrm_loopN (i + 1, pn', cn', es' ++ [[.int .i64 1, .slice none 0 0]]) ?_ ?_ ?_))
 (simp only [flat_snoc]; exact sub_mk (by repeat (first | exact SubE.nil | refine SubE.cons rfl ?_)) (by repeat (first | exact SubH.refl | exact SubH.nil | refine SubH.cons (by repeat (first | exact Pk.here | apply Pk.there)) ?_ | apply SubH.drop)))
 (dsimp only; exact ⟨by omega, by rw [List.replicate_succ']; exact RTyL.snoc hst (tyAny_r _)⟩)
 (show tks.length - (i + 1) < tks.length - i; omega)
 refine sD (nS (cF rfl ?_))
 refine tri_exit ?_
 refine ext_seq ?_
 refine ext_loopN ?_
 refine ext_block_eq ?_
 refine nS (tS (tR (sL (lBa rfl rfl) rfl rfl ?_)))
 refine sS rfl rfl rfl rfl rfl rfl ?_
 refine sD (nS ?_)
 (refine ret_freeze (cs := es'.flatten) (by repeat (first | exact Pk.here | apply Pk.there)) (fun G2 hle2 hsl2 hno2 => ?_); obtain rfl : i = tks.length := (by omega))
 refine tT (rF1 (rC rfl (lBa rfl rfl)) ?_)
 (exact ⟨rfl, _, rfl, (hst.mono hle2).ty (by simp) hsl2 hk⟩)
set_option maxHeartbeats 0 in
set_option maxRecDepth 100000 in
theorem l5Ground_fn (t : Ty) (G : IM) (cells : List Value) (ha : tAr t) (hr : RTy G t cells) : Fn Tryz.prog 139 [.agg ⟨cells⟩] [] G (Val (.bool (isGrd t)) G) := by
 refine Fn.forget (post := Imm fun _ v => v = .bool (isGrd t)) ?_ (fun _ _ _ h => h.2)
 have hr0 := hr
 have hG := l1Ground_fn t G cells ha hr
 obtain ⟨tk, tks⟩ := t
 obtain ⟨p, c, es, rfl, hk, _⟩ := hr.open
 simp only [Ty.k, Ty.ks] at hk hr0 hG ⊢
 have hd : isGrd (.mk tk tks) = (decide (tk ≠ 1) && tSame (.mk tk tks) (mGround (.mk tk tks))) := rfl
 rw [hd]
 generalize mGround (.mk tk tks) = g at hG ⊢
 refine fn_enter Tryz.func139 rfl Tryz.ntmps139 Tryz.results139 rfl ?_
 intro w0
 refine tS (tR ?_)
 (refine seq_step (step_box_a rfl rfl) rfl ?_; rintro _ ⟨b3, rfl⟩)
 refine sP (pA rfl) rfl rfl (sD (nS (tS (tri_draw mixed rfl ?_))))
 refine any_pure (i := 0) (l' := [tt,ff,ff,ff,ff,ff,ff,ff,ff,ff]) rfl npI (pF0 rfl) rfl (by kernel_rfl) rfl rfl ?_
 refine aL 1 rfl (lBs rfl rfl) rfl rfl ?_
 refine any_bool (i := 2) (l' := [tt,tt,tt,ff,ff,ff,ff,ff,ff,ff]) rfl npI (pure_neq rfl rfl) rfl (by kernel_rfl) rfl rfl (fun h11 => ?_) (fun h11 => ?_)
 refine aP 3 rfl (pM rfl) rfl rfl ?_
 refine aL 4 rfl (lBa rfl rfl) rfl rfl ?_
 refine aL 5 rfl (lBa rfl rfl) rfl rfl ?_
 refine aO (j := 6) (by kernel_rfl) ?_
 (refine one_imm (l' := [tt,tt,tt,tt,tt,tt,tt,ff,ff,ff]) rfl rfl hG rfl rfl rfl (fun v G1 hle1 hh => ?_); obtain ⟨cg, rfl, hrg⟩ := hh; have hT := sTypeSameX_fn (.mk tk tks) g G1 _ _ (hr0.mono hle1) hrg; obtain ⟨pg, cgg, eg, rfl, _⟩ := hrg.open)
 refine aO (j := 7) (by kernel_rfl) ?_
 refine one_val (l' := [tt,tt,tt,tt,tt,tt,tt,tt,ff,ff]) rfl rfl (hT) rfl rfl rfl ?_
 refine aP 8 rfl (pPt rfl rfl) rfl rfl ?_
 refine aP 9 rfl (pA rfl) rfl rfl ?_
 refine aD (by kernel_rfl) ?_
 refine nS (tT (rF1 (rT rfl) ?_))
 (refine ⟨rfl, ?_⟩; show Value.bool _ = Value.bool _; rw [decide_eq_true (by omega), Bool.true_and])
 refine aP 3 rfl (pM rfl) rfl rfl ?_
 refine aK (i := 4) (l' := [tt,tt,tt,tt,tt,ff,ff,ff,ff,ff]) rfl npI rfl (by kernel_rfl) rfl rfl ?_
 refine aK (i := 5) (l' := [tt,tt,tt,tt,tt,tt,ff,ff,ff,ff]) rfl npI rfl (by kernel_rfl) rfl rfl ?_
 refine aK (i := 6) (l' := [tt,tt,tt,tt,tt,tt,tt,ff,ff,ff]) rfl npI rfl (by kernel_rfl) rfl rfl ?_
 refine aK (i := 7) (l' := [tt,tt,tt,tt,tt,tt,tt,tt,ff,ff]) rfl npI rfl (by kernel_rfl) rfl rfl ?_
 refine aP 8 rfl (pPf rfl rfl) rfl rfl ?_
 refine aP 9 rfl (pA rfl) rfl rfl ?_
 refine aD (by kernel_rfl) ?_
 refine nS (tT (rF1 (rT rfl) ?_))
 (refine ⟨rfl, ?_⟩; show Value.bool _ = Value.bool _; rw [decide_eq_false (by omega), Bool.false_and])
set_option maxHeartbeats 0 in
set_option maxRecDepth 100000 in
theorem l5Proxy_fn (t : Tm) (G : IM) (cells : List Value) (hr : RTm G t cells) : Fn Tryz.prog 89 [.agg ⟨cells⟩] [] G (Val (.bool (prx t)) G) := by
 obtain ⟨k, nm, num, ⟨tk, tks⟩, ⟨fk, fks⟩, lb, ks⟩ := t
 obtain ⟨pt, ct, pf, cf, p, c, es, rfl, hk, hnum, hlb, hty, hfr, hsl, hkl⟩ := hr.open9
 have hd : prx (.mk k nm num (.mk tk tks) (.mk fk fks) lb ks) = decide (k = 14 ∧ fk = tk ∧ (tk = 4 ∨ tk = 5)) := rfl
 rw [hd]
 refine fn_enter Tryz.func89 rfl Tryz.ntmps89 Tryz.results89 rfl ?_
 intro w0
 refine tS (tR ?_)
 (refine seq_step (step_box_a rfl rfl) rfl ?_; rintro _ ⟨b3, rfl⟩)
 refine sP (pA rfl) rfl rfl (sD (nS (tS (tR (sP (pF0 rfl) rfl rfl (sL (lBs rfl rfl) rfl rfl ?_))))))
 refine sB (pE rfl rfl) rfl rfl (fun h11 => ?_) (fun h11 => ?_)
 refine sP (pM rfl) rfl rfl (sP (pF0 rfl) rfl rfl (sP (pF rfl) rfl rfl (sL (lBs rfl rfl) rfl rfl ?_)))
 refine sP (pF0 rfl) rfl rfl (sP (pF rfl) rfl rfl (sL (lBs rfl rfl) rfl rfl ?_))
 refine sB (pE rfl rfl) rfl rfl (fun h19 => ?_) (fun h19 => ?_)
 refine sP (pPt rfl rfl) rfl rfl (sP (pM rfl) rfl rfl (sP (pF0 rfl) rfl rfl (sP (pF rfl) rfl rfl (sL (lBs rfl rfl) rfl rfl ?_))))
 refine sB (pE rfl rfl) rfl rfl (fun h25 => ?_) (fun h25 => ?_)
 refine sP (pM rfl) rfl rfl (sK rfl rfl (sK rfl rfl (sK rfl rfl (sK rfl rfl (sP (pPt rfl rfl) rfl rfl (sP (pPt rfl rfl) rfl rfl ?_))))))
 refine sP (pA rfl) rfl rfl (sD (nS (tT (rF1 (rT rfl) ?_))))
 (exact ⟨rfl, by rw [decide_eq_true (by omega)], rfl⟩)
 refine sP (pM rfl) rfl rfl (sP (pF0 rfl) rfl rfl (sP (pF rfl) rfl rfl (sL (lBs rfl rfl) rfl rfl ?_)))
 refine sB (pE rfl rfl) rfl rfl (fun h43 => ?_) (fun h43 => ?_)
 refine sP (pPf rfl rfl) rfl rfl (sP (pPt rfl rfl) rfl rfl (sP (pA rfl) rfl rfl (sD (nS (tT (rF1 (rT rfl) ?_))))))
 (exact ⟨rfl, by rw [decide_eq_true (by omega)], rfl⟩)
 refine sP (pPf rfl rfl) rfl rfl (sP (pPt rfl rfl) rfl rfl (sP (pA rfl) rfl rfl (sD (nS (tT (rF1 (rT rfl) ?_))))))
 (exact ⟨rfl, by rw [decide_eq_false (by omega)], rfl⟩)
 refine sP (pPt rfl rfl) rfl rfl (sP (pM rfl) rfl rfl (sK rfl rfl (sK rfl rfl (sK rfl rfl (sK rfl rfl (sK rfl rfl ?_))))))
 refine sK rfl rfl (sK rfl rfl (sK rfl rfl (sK rfl rfl (sK rfl rfl (sP (pPf rfl rfl) rfl rfl (sP (pA rfl) rfl rfl ?_))))))
 refine sD (nS (tT (rF1 (rT rfl) ?_)))
 (exact ⟨rfl, by rw [decide_eq_false (by omega)], rfl⟩)
 refine sP (pM rfl) rfl rfl (sK rfl rfl (sK rfl rfl (sK rfl rfl (sK rfl rfl (sK rfl rfl (sK rfl rfl ?_))))))
 refine sK rfl rfl (sP (pPf rfl rfl) rfl rfl (sP (pM rfl) rfl rfl (sK rfl rfl (sK rfl rfl (sK rfl rfl (sK rfl rfl ?_))))))
 refine sK rfl rfl (sK rfl rfl (sK rfl rfl (sK rfl rfl (sK rfl rfl (sK rfl rfl (sP (pPf rfl rfl) rfl rfl ?_))))))
 refine sP (pA rfl) rfl rfl (sD (nS (tT (rF1 (rT rfl) ?_))))
 (exact ⟨rfl, by rw [decide_eq_false (by omega)], rfl⟩)
set_option maxHeartbeats 0 in
set_option maxRecDepth 100000 in
theorem l5Inject_fn (t : Tm) (G : IM) (cells : List Value) (ha : tAr t.fr) (hr : RTm G t cells) : Fn Tryz.prog 90 [.agg ⟨cells⟩] [] G (Val (.bool (inj t)) G) := by
 obtain ⟨k, nm, num, ⟨tk, tks⟩, ⟨fk, fks⟩, lb, ks⟩ := t
 obtain ⟨pt, ct, pf, cf, p, c, es, rfl, hk, hnum, hlb, hty, hfr, hsl, hkl⟩ := hr.open9
 have hd : inj (.mk k nm num (.mk tk tks) (.mk fk fks) lb ks) = (decide (k = 14 ∧ tk = 1) && isGrd (.mk fk fks)) := rfl
 rw [hd]
 have hG := l5Ground_fn (.mk fk fks) G _ ha hfr
 refine fn_enter Tryz.func90 rfl Tryz.ntmps90 Tryz.results90 rfl ?_
 intro w0
 refine tS (tR ?_)
 (refine seq_step (step_box_a rfl rfl) rfl ?_; rintro _ ⟨b3, rfl⟩)
 refine sP (pA rfl) rfl rfl (sD (nS (tS (tR (sP (pF0 rfl) rfl rfl (sL (lBs rfl rfl) rfl rfl ?_))))))
 refine sB (pE rfl rfl) rfl rfl (fun h11 => ?_) (fun h11 => ?_)
 refine sP (pM rfl) rfl rfl (sP (pF0 rfl) rfl rfl (sP (pF rfl) rfl rfl (sL (lBs rfl rfl) rfl rfl ?_)))
 refine sB (pE rfl rfl) rfl rfl (fun h16 => ?_) (fun h16 => ?_)
 refine sP (pPt rfl rfl) rfl rfl (sP (pM rfl) rfl rfl (sP (pF0 rfl) rfl rfl (sL (lBa rfl rfl) rfl rfl ?_)))
 refine seq_val rfl (hG) rfl rfl ?_
 refine sP (pPt rfl rfl) rfl rfl (sP (pA rfl) rfl rfl (sD (nS (tT (rF1 (rT rfl) ?_)))))
 (exact ⟨rfl, by rw [decide_eq_true (by omega), Bool.true_and], rfl⟩)
 refine sP (pPt rfl rfl) rfl rfl (sP (pM rfl) rfl rfl (sK rfl rfl (sK rfl rfl (sK rfl rfl (sP (pPf rfl rfl) rfl rfl (sP (pA rfl) rfl rfl ?_))))))
 refine sD (nS (tT (rF1 (rT rfl) ?_)))
 (exact ⟨rfl, by rw [decide_eq_false (by omega), Bool.false_and], rfl⟩)
 refine sP (pM rfl) rfl rfl (sK rfl rfl (sK rfl rfl (sK rfl rfl (sK rfl rfl (sP (pPf rfl rfl) rfl rfl (sP (pM rfl) rfl rfl ?_))))))
 refine sK rfl rfl (sK rfl rfl (sK rfl rfl (sP (pPf rfl rfl) rfl rfl (sP (pA rfl) rfl rfl (sD (nS ?_))))))
 refine tT (rF1 (rT rfl) ?_)
 (exact ⟨rfl, by rw [decide_eq_false (by omega), Bool.false_and], rfl⟩)
section
variable {k : Int} {nm : ByteArray} {num : Int} {ty fr : Ty} {lb : Int} {ks : List Tm}
theorem v_leaf (h : k = 2 ∨ k = 3 ∨ k = 4 ∨ k = 5) : mVal (.mk k nm num ty fr lb ks) = true := by
 rw [mVal, if_neg (by omega)]; exact decide_eq_true h
theorem v_pair (h : k = 10) (hl : ks.length = 2) : mVal (.mk k nm num ty fr lb ks) = (mVal (ks[0]'(by omega)) && mVal (ks[1]'(by omega))) := by
 rw [val_yes (.inl h)]
 obtain ⟨a, b, rfl⟩ := ks2 hl
 simp
theorem v_cast (h : prx (.mk k nm num ty fr lb ks) = true ∨ inj (.mk k nm num ty fr lb ks) = true) (hl : ks.length = 1) : mVal (.mk k nm num ty fr lb ks) = mVal (ks[0]'(by omega)) := by
 rw [val_yes (.inr h)]
 obtain ⟨a, rfl⟩ := ks1 hl
 simp
theorem v_not (h : ¬(k = 2 ∨ k = 3 ∨ k = 4 ∨ k = 5)) (h10 : k ≠ 10) (h2 : prx (.mk k nm num ty fr lb ks) = false) (h3 : inj (.mk k nm num ty fr lb ks) = false) : mVal (.mk k nm num ty fr lb ks) = false := by
 rw [val_no h10 h2 h3]; exact decide_eq_false h
theorem prx_14 (h : prx (.mk k nm num ty fr lb ks) = true ∨ inj (.mk k nm num ty fr lb ks) = true) : k = 14 := by
 rcases h with h | h
 ·exact (prx_spec' h)
 ·exact inj_k h
where
 prx_spec' {k : Int} {nm : ByteArray} {num : Int} {ty fr : Ty} {lb : Int} {ks : List Tm} (h : prx (.mk k nm num ty fr lb ks) = true) : k = 14 := by rw [prx_mk] at h; exact (of_decide_eq_true h).1
end
set_option maxHeartbeats 0 in
set_option maxRecDepth 100000 in
theorem l5Value_fn : ∀ (t : Tm) (G : IM) (cells : List Value), cv t → RTm G t cells → Fn Tryz.prog 153 [.agg ⟨cells⟩] [] G (Val (.bool (mVal t)) G) := by
 refine Tm.ind fun k nm num ty fr lb ks ih G cells hc hr => ?_
 obtain ⟨hN, hkk⟩ := hc.node
 have hop := hN.ops
 have h10 : k = 10 → ks.length = 2 := fun h => by rw [h] at hop; have : tmOps 10 = 2 := rfl; omega
 have h14 : k = 14 → ks.length = 1 := fun h => by rw [h] at hop; have : tmOps 14 = 1 := rfl; omega
 have hP := l5Proxy_fn _ G _ hr
 have hI := l5Inject_fn (.mk k nm num ty fr lb ks) G _ hN.frA hr
 have e1 := @v_leaf k nm num ty fr lb ks
 have e2 := @v_pair k nm num ty fr lb ks
 have e3 := @v_cast k nm num ty fr lb ks
 have e4 := @v_not k nm num ty fr lb ks
 have e5 := @prx_14 k nm num ty fr lb ks
 generalize hpx : prx (.mk k nm num ty fr lb ks) = bp at hP e3 e4 e5
 generalize hij : inj (.mk k nm num ty fr lb ks) = bi at hI e3 e4 e5
 generalize mVal (.mk k nm num ty fr lb ks) = R at e1 e2 e3 e4 ⊢
 obtain ⟨tk, tks⟩ := ty
 obtain ⟨fk, fks⟩ := fr
 obtain ⟨pt, ct, pf, cf, p, c, es, rfl, hk, hnum, hlb, hty, hfr, hsl, hkl⟩ := hr.open9
 refine fn_enter Tryz.func153 rfl Tryz.ntmps153 Tryz.results153 rfl ?_
 intro w0
 refine tS (tR ?_)
 (refine seq_step (step_box_a rfl rfl) rfl ?_; rintro _ ⟨b3, rfl⟩)
 refine sP (pA rfl) rfl rfl (sD (nS (tS (tS (tR (sP (pF0 rfl) rfl rfl ?_))))))
 refine sL (lBs rfl rfl) rfl rfl ?_
 refine sD (nS (tri_block (tS (tS (tR (sB (pE rfl rfl) rfl rfl (fun h18 => ?_) (fun h18 => ?_)))))))
 refine sP (pA rfl) rfl rfl (sD (nS (cT rfl ?_)))
 refine tK (nS (cT rfl ?_))
 refine tS (tR (sP (pA rfl) rfl rfl (sD (nS (tT (rB ?_))))))
 refine rS (rF1 (rT rfl) ?_)
 (exact ⟨rfl, by rw [e1 (by omega)], rfl⟩)
 refine sP (pA rfl) rfl rfl (sD (nS (cF rfl ?_)))
 refine tS (tR (sB (pE rfl rfl) rfl rfl (fun h42 => ?_) (fun h42 => ?_)))
 refine sP (pA rfl) rfl rfl (sD (nS (cT rfl ?_)))
 refine tK (nS (cT rfl ?_))
 refine tS (tR (sP (pA rfl) rfl rfl (sD (nS (tT (rB ?_))))))
 refine rS (rF1 (rT rfl) ?_)
 (exact ⟨rfl, by rw [e1 (by omega)], rfl⟩)
 refine sP (pA rfl) rfl rfl (sD (nS (cF rfl ?_)))
 refine tS (tR (sB (pE rfl rfl) rfl rfl (fun h66 => ?_) (fun h66 => ?_)))
 refine sP (pA rfl) rfl rfl (sD (nS (cT rfl ?_)))
 refine tK (nS (cT rfl ?_))
 refine tS (tR (sP (pA rfl) rfl rfl (sD (nS (tT (rB ?_))))))
 refine rS (rF1 (rT rfl) ?_)
 (exact ⟨rfl, by rw [e1 (by omega)], rfl⟩)
 refine sP (pA rfl) rfl rfl (sD (nS (cF rfl ?_)))
 refine tR (sB (pE rfl rfl) rfl rfl (fun h89 => ?_) (fun h89 => ?_))
 refine sP (pA rfl) rfl rfl (sD (nS (cT rfl ?_)))
 refine tS (tR (sP (pA rfl) rfl rfl (sD (nS (tT (rB ?_))))))
 refine rS (rF1 (rT rfl) ?_)
 (exact ⟨rfl, by rw [e1 (by omega)], rfl⟩)
 refine sP (pA rfl) rfl rfl (sD (nS (cF rfl ?_)))
 refine tS (tR (sB (pE rfl rfl) rfl rfl (fun h110 => ?_) (fun h110 => ?_)))
 refine sP (pA rfl) rfl rfl (sD (nS (cT rfl ?_)))
 refine tS (tR (sP (pF0 rfl) rfl rfl (sL (lBs rfl rfl) rfl rfl ?_)))
 (have hl2 := h10 (by omega); obtain ⟨bx, ox, e, rfl, hl, hat, hre, hgb⟩ := hsl.kidTm hkl (i := 0) (by omega) (by omega); have hih := ih ks[0] (List.getElem_mem (by omega)) G e (hkk _ (List.getElem_mem (by omega))) hre; obtain ⟨_, _, e', hp', hl', hat', hre', hgb'⟩ := hsl.kidTm hkl (i := 1) (by omega) (by omega); cases hp'; have hih' := ih ks[1] (List.getElem_mem (by omega)) G e' (hkk _ (List.getElem_mem (by omega))) hre'; refine sP (pIN (j := 0) rfl rfl rfl (by omega)) rfl rfl ?_)
 refine sL (load_a rfl rfl (hat _) hl) rfl rfl ?_
 refine seq_valb rfl (hih) rfl rfl (fun h121 => ?_) (fun h121 => ?_)
 refine sP (pM rfl) rfl rfl (sP (pF0 rfl) rfl rfl (sL (lBs rfl rfl) rfl rfl ?_))
 refine sP (pIN (j := 1) rfl rfl rfl (by omega)) rfl rfl ?_
 refine sL (load_a rfl rfl (hat' _) hl') rfl rfl ?_
 refine seq_valb rfl (hih') rfl rfl (fun h127 => ?_) (fun h127 => ?_)
 refine sP (pPt rfl rfl) rfl rfl (sP (pA rfl) rfl rfl (sD (nS (tT (rB (rS ?_))))))
 refine rF1 (rT rfl) ?_
 (exact ⟨rfl, by rw [e2 (by omega) hl2]; simp [*], rfl⟩)
 refine sP (pPt rfl rfl) rfl rfl (sP (pA rfl) rfl rfl (sD (nS (tT (rB (rS ?_))))))
 refine rF1 (rT rfl) ?_
 (exact ⟨rfl, by rw [e2 (by omega) hl2]; simp [*], rfl⟩)
 refine sP (pM rfl) rfl rfl (sK rfl rfl (sK rfl rfl (sK rfl rfl (sK rfl rfl (sK rfl rfl (sP (pPf rfl rfl) rfl rfl ?_))))))
 refine sP (pA rfl) rfl rfl (sD (nS (tT (rB (rS (rF1 (rT rfl) ?_))))))
 (exact ⟨rfl, by rw [e2 (by omega) hl2]; simp [*], rfl⟩)
 refine sP (pA rfl) rfl rfl (sD (nS (cF rfl ?_)))
 refine tK (nrm_block (nS (tS (tR (sL (lBa rfl rfl) rfl rfl ?_)))))
 refine seq_valb rfl (hP) rfl rfl (fun h171 => ?_) (fun h171 => ?_)
 refine sP (pM rfl) rfl rfl (sK rfl rfl (sK rfl rfl (sP (pPt rfl rfl) rfl rfl (sP (pM rfl) rfl rfl (sP (pF0 rfl) rfl rfl (sL (lBs rfl rfl) rfl rfl ?_))))))
 (have hl1 := h14 (by first | exact e5 (.inl (by assumption)) | exact e5 (.inr (by assumption))); obtain ⟨bx, ox, e, rfl, hl, hat, hre, hgb⟩ := hsl.kidTm hkl (i := 0) (by omega) (by omega); have hih := ih ks[0] (List.getElem_mem (by omega)) G e (hkk _ (List.getElem_mem (by omega))) hre; refine sP (pIN (j := 0) rfl rfl rfl (by omega)) rfl rfl ?_)
 refine sL (load_a rfl rfl (hat _) hl) rfl rfl ?_
 refine seq_valb rfl (hih) rfl rfl (fun h181 => ?_) (fun h181 => ?_)
 refine sP (pPt rfl rfl) rfl rfl (sP (pA rfl) rfl rfl (sD (nS (tT (rF1 (rT rfl) ?_)))))
 (exact ⟨rfl, by rw [e3 (by first | exact .inl (by assumption) | exact .inr (by assumption)) hl1]; simp [*], rfl⟩)
 refine sP (pPt rfl rfl) rfl rfl (sP (pA rfl) rfl rfl (sD (nS (tT (rF1 (rT rfl) ?_)))))
 (exact ⟨rfl, by rw [e3 (by first | exact .inl (by assumption) | exact .inr (by assumption)) hl1]; simp [*], rfl⟩)
 refine sP (pM rfl) rfl rfl (sL (lBa rfl rfl) rfl rfl ?_)
 refine seq_valb rfl (hI) rfl rfl (fun h198 => ?_) (fun h198 => ?_)
 refine sP (pPf rfl rfl) rfl rfl (sP (pM rfl) rfl rfl (sP (pF0 rfl) rfl rfl (sL (lBs rfl rfl) rfl rfl ?_)))
 (have hl1 := h14 (by first | exact e5 (.inl (by assumption)) | exact e5 (.inr (by assumption))); obtain ⟨bx, ox, e, rfl, hl, hat, hre, hgb⟩ := hsl.kidTm hkl (i := 0) (by omega) (by omega); have hih := ih ks[0] (List.getElem_mem (by omega)) G e (hkk _ (List.getElem_mem (by omega))) hre; refine sP (pIN (j := 0) rfl rfl rfl (by omega)) rfl rfl ?_)
 refine sL (load_a rfl rfl (hat _) hl) rfl rfl ?_
 refine seq_valb rfl (hih) rfl rfl (fun h205 => ?_) (fun h205 => ?_)
 refine sP (pPt rfl rfl) rfl rfl (sP (pA rfl) rfl rfl (sD (nS (tT (rF1 (rT rfl) ?_)))))
 (exact ⟨rfl, by rw [e3 (by first | exact .inl (by assumption) | exact .inr (by assumption)) hl1]; simp [*], rfl⟩)
 refine sP (pPt rfl rfl) rfl rfl (sP (pA rfl) rfl rfl (sD (nS (tT (rF1 (rT rfl) ?_)))))
 (exact ⟨rfl, by rw [e3 (by first | exact .inl (by assumption) | exact .inr (by assumption)) hl1]; simp [*], rfl⟩)
 refine sP (pPf rfl rfl) rfl rfl (sP (pM rfl) rfl rfl (sK rfl rfl (sK rfl rfl (sK rfl rfl (sK rfl rfl (sK rfl rfl ?_))))))
 refine sP (pPf rfl rfl) rfl rfl (sP (pA rfl) rfl rfl (sD (nS (tT (rF1 (rT rfl) ?_)))))
 (exact ⟨rfl, by rw [e4 (by omega) (by omega) (by assumption) (by assumption)], rfl⟩)
set_option maxHeartbeats 0 in
set_option maxRecDepth 100000 in
theorem l5Cast_fn (e : Tm) (a b : Ty) (l : Int) (G : IM) (ce ca cb : List Value) (hl : I64 l) (he : RTm G e ce) (ha : RTy G a ca) (hb : RTy G b cb) (hsa : a.small) (hsb : b.small) : Fn Tryz.prog 233 [.agg ⟨ce⟩, .agg ⟨ca⟩, .agg ⟨cb⟩, .int .i64 l] [] G (TmP (mCst e a b l)) := by
 have hel := he.len
 have heo := he.one
 obtain ⟨v1, v2, v3, v4, v5, v6, v7, v8, v9, rfl⟩ := nine hel
 obtain ⟨ak, aks⟩ := a
 obtain ⟨bk, bks⟩ := b
 obtain ⟨pa, cca, ea, rfl, _⟩ := ha.open
 obtain ⟨pb, ccb, eb, rfl, _⟩ := hb.open
 refine fn_enter Tryz.func233 rfl Tryz.ntmps233 Tryz.results233 rfl ?_
 intro w0
 refine tS (tR ?_)
 (refine seq_step (step_box_a rfl rfl) rfl ?_; rintro _ ⟨b3, rfl⟩)
 (refine seq_step (step_box_a rfl rfl) rfl ?_; rintro _ ⟨b4, rfl⟩)
 (refine seq_step (step_box_a rfl rfl) rfl ?_; rintro _ ⟨b5, rfl⟩)
 (refine seq_step (step_alloc rfl) rfl ?_; rintro _ ⟨b6, rfl⟩)
 refine sD (nS (tS (tri_draw mixed rfl ?_)))
 refine any_load (i := 0) (l' := [tt,ff,ff,ff,ff,ff,ff,ff,ff]) rfl npI (lBa rfl rfl) rfl (by kernel_rfl) rfl rfl ?_
 refine aL 2 rfl (lBa rfl rfl) rfl rfl ?_
 refine aP 4 rfl (pM rfl) rfl rfl ?_
 refine aL 5 rfl (lBa rfl rfl) rfl rfl ?_
 refine any_two (j := 1) (j' := 6) (by kernel_rfl) ?_ ?_
 (refine one_imm (l' := [tt,tt,tt,ff,tt,tt,ff,ff,ff]) rfl rfl (l1Copy_fn (.mk ak aks) _ _ hsa ha) rfl rfl rfl (fun v G1 hle1 hh => ?_); obtain ⟨cs1, F1, rfl, hs1, hn1⟩ := hh; obtain ⟨p1, c1, rfl, _⟩ := hs1.open; have hC2 := l1Copy_fn _ G1 _ hsb (hb.mono hle1))
 refine any_two (j := 3) (j' := 6) (by kernel_rfl) ?_ ?_
 (refine one_imm (l' := [tt,tt,tt,tt,tt,tt,ff,ff,ff]) rfl rfl hC2 rfl rfl rfl (fun v G2 hle2 hh => ?_); obtain ⟨cs2, F2, rfl, hs2, hn2⟩ := hh; obtain ⟨p2, c2, rfl, _⟩ := hs2.open; have hr1 := hs1.R.mono ((Dif.le G1 _).trans hle2); have hr2 := hs2.R.mono (Dif.le G2 G1); have hre := he.mono (hle1.trans hle2))
 refine aO (j := 6) (by kernel_rfl) ?_
 (refine one_step0 (l' := [tt,tt,tt,tt,tt,tt,tt,ff,ff]) rfl (step_buildSlice rfl rfl rfl (by omega) (by unfold maxLen; omega) rfl) rfl rfl ?_; rintro _ ⟨b20, rfl⟩)
 refine aP 7 rfl (pBd rfl rfl) rfl rfl ?_
 refine aO (j := 8) (by kernel_rfl) ?_
 refine oT rfl rfl rfl rfl rfl rfl rfl ?_
 refine aD (by kernel_rfl) ?_
 refine nS ?_
 (refine ret_freeze (cs := [v1, v2, v3, v4, v5, v6, v7, v8, v9]) (by repeat (first | exact Pk.here | apply Pk.there)) (fun G5 hle5 hsl5 hno5 => ?_); obtain ⟨hone1, hone2⟩ := tm_one (hre.mono hle5) hsl5)
 refine tT (rF1 (rC rfl (lBa rfl rfl)) ?_)
 (exact TmP.mk (RTm.of9 (ks := [e]) ⟨by omega, by omega⟩ ⟨by omega, by omega⟩ hl (hr2.mono hle5) (hr1.mono hle5) hone1 hone2))
 (refine one_step0 (l' := [tt,tt,tt,ff,tt,tt,tt,ff,ff]) rfl (step_buildSlice rfl rfl rfl (by omega) (by unfold maxLen; omega) rfl) rfl rfl ?_; rintro _ ⟨b30, rfl⟩)
 refine aO (j := 3) (by kernel_rfl) ?_
 (refine one_imm (l' := [tt,tt,tt,tt,tt,tt,tt,ff,ff]) rfl rfl hC2 rfl rfl rfl (fun v G2 hle2 hh => ?_); obtain ⟨cs2, F2, rfl, hs2, hn2⟩ := hh; obtain ⟨p2, c2, rfl, _⟩ := hs2.open; have hr1 := hs1.R.mono ((Dif.le G1 _).trans hle2); have hr2 := hs2.R.mono (Dif.le G2 G1); have hre := he.mono (hle1.trans hle2))
 refine aP 7 rfl (pBd rfl rfl) rfl rfl ?_
 refine aO (j := 8) (by kernel_rfl) ?_
 refine oT rfl rfl rfl rfl rfl rfl rfl ?_
 refine aD (by kernel_rfl) ?_
 refine nS ?_
 (refine ret_freeze (cs := [v1, v2, v3, v4, v5, v6, v7, v8, v9]) (by repeat (first | exact Pk.here | apply Pk.there)) (fun G5 hle5 hsl5 hno5 => ?_); obtain ⟨hone1, hone2⟩ := tm_one (hre.mono hle5) hsl5)
 refine tT (rF1 (rC rfl (lBa rfl rfl)) ?_)
 (exact TmP.mk (RTm.of9 (ks := [e]) ⟨by omega, by omega⟩ ⟨by omega, by omega⟩ hl (hr2.mono hle5) (hr1.mono hle5) hone1 hone2))
 (refine one_step0 (l' := [tt,ff,tt,ff,tt,tt,tt,ff,ff]) rfl (step_buildSlice rfl rfl rfl (by omega) (by unfold maxLen; omega) rfl) rfl rfl ?_; rintro _ ⟨b42, rfl⟩)
 refine aO (j := 1) (by kernel_rfl) ?_
 (refine one_imm (l' := [tt,tt,tt,ff,tt,tt,tt,ff,ff]) rfl rfl (l1Copy_fn (.mk ak aks) _ _ hsa ha) rfl rfl rfl (fun v G1 hle1 hh => ?_); obtain ⟨cs1, F1, rfl, hs1, hn1⟩ := hh; obtain ⟨p1, c1, rfl, _⟩ := hs1.open; have hC2 := l1Copy_fn _ G1 _ hsb (hb.mono hle1))
 refine aO (j := 3) (by kernel_rfl) ?_
 (refine one_imm (l' := [tt,tt,tt,tt,tt,tt,tt,ff,ff]) rfl rfl hC2 rfl rfl rfl (fun v G2 hle2 hh => ?_); obtain ⟨cs2, F2, rfl, hs2, hn2⟩ := hh; obtain ⟨p2, c2, rfl, _⟩ := hs2.open; have hr1 := hs1.R.mono ((Dif.le G1 _).trans hle2); have hr2 := hs2.R.mono (Dif.le G2 G1); have hre := he.mono (hle1.trans hle2))
 refine aP 7 rfl (pBd rfl rfl) rfl rfl ?_
 refine aO (j := 8) (by kernel_rfl) ?_
 refine oT rfl rfl rfl rfl rfl rfl rfl ?_
 refine aD (by kernel_rfl) ?_
 refine nS ?_
 (refine ret_freeze (cs := [v1, v2, v3, v4, v5, v6, v7, v8, v9]) (by repeat (first | exact Pk.here | apply Pk.there)) (fun G5 hle5 hsl5 hno5 => ?_); obtain ⟨hone1, hone2⟩ := tm_one (hre.mono hle5) hsl5)
 refine tT (rF1 (rC rfl (lBa rfl rfl)) ?_)
 (exact TmP.mk (RTm.of9 (ks := [e]) ⟨by omega, by omega⟩ ⟨by omega, by omega⟩ hl (hr2.mono hle5) (hr1.mono hle5) hone1 hone2))
set_option maxHeartbeats 0 in
set_option maxRecDepth 100000 in
theorem l5BoolT_fn (G : IM) : Fn Tryz.prog 234 [.bool true] [] G (TmP (mTru (true = true))) := by
 refine fn_enter Tryz.func234 rfl Tryz.ntmps234 Tryz.results234 rfl ?_
 intro w0
 refine tS (tR ?_)
 (refine seq_step (step_alloc rfl) rfl ?_; rintro _ ⟨b3, rfl⟩)
 refine sD (nS (tS (tS (tR (sP (pM rfl) rfl rfl (sD ?_))))))
 refine nS (cT rfl ?_)
 refine tS (tR (sP (pBd rfl rfl) rfl rfl (sS rfl rfl rfl rfl rfl rfl ?_)))
 refine sD (nS (tT (rS (rF1 (rC rfl (lBa rfl rfl)) ?_))))
 (exact TmP.mk (rtm_leaf _ ⟨by decide, by decide⟩))
set_option maxHeartbeats 0 in
set_option maxRecDepth 100000 in
theorem l5BoolF_fn (G : IM) : Fn Tryz.prog 234 [.bool false] [] G (TmP (mTru (false = true))) := by
 refine fn_enter Tryz.func234 rfl Tryz.ntmps234 Tryz.results234 rfl ?_
 intro w0
 refine tS (tR ?_)
 (refine seq_step (step_alloc rfl) rfl ?_; rintro _ ⟨b3, rfl⟩)
 refine sD (nS (tS (tS (tR (sP (pM rfl) rfl rfl (sD ?_))))))
 refine nS (cF rfl ?_)
 refine tK (nS (tS (tR (sP (pBd rfl rfl) rfl rfl (sS rfl rfl rfl rfl rfl rfl ?_)))))
 refine sD (nS (tT (rF1 (rC rfl (lBa rfl rfl)) ?_)))
 (exact TmP.mk (rtm_leaf _ ⟨by decide, by decide⟩))
theorem l5Bool_fn (b : Bool) (G : IM) : Fn Tryz.prog 234 [.bool b] [] G (TmP (mTru (b = true))) := by
 cases b
 ·exact l5BoolF_fn G
 ·exact l5BoolT_fn G
set_option maxHeartbeats 0 in
set_option maxRecDepth 100000 in
theorem l2Subst_fn (y : ByteArray) (v : Tm) (vc : List Value) (hvs : v.small) : ∀ (t : Tm) (G : IM) (cells : List Value), t.small → RTm G t cells → RTm G v vc → Fn Tryz.prog 232 [.agg ⟨cells⟩, .string y, .agg ⟨vc⟩] [] G (TmP (mSubst y v t)) := by
 refine Tm.ind fun k nm num ty fr lb ks ih G cells hts hr hv => ?_
 have hr0 := hr
 have hts0 := hts
 obtain ⟨_, htsm, hfsm, hsm, hks⟩ := small_mk.1 hts
 have hvl := hv.len
 have hvo := hv.one
 have hRl := hr.len
 have hRo := hr.one
 rw [mSubst]
 have hCv := l2Copy_fn v G vc hvs hv
 have hCt := l2Copy_fn _ G cells hts0 hr0
 obtain ⟨tk, tks⟩ := ty
 obtain ⟨fk, fks⟩ := fr
 obtain ⟨pt, ct, pf, cf, p, c, es, rfl, hk, hnum, hlb, hty, hfr, hsl, hkl⟩ := hr.open9
 have hn := hsl.le
 refine fn_enter Tryz.func232 rfl Tryz.ntmps232 Tryz.results232 rfl ?_
 intro w0
 refine tS (tR ?_)
 (refine seq_step (step_box_a rfl rfl) rfl ?_; rintro _ ⟨b3, rfl⟩)
 (refine seq_step (step_box_a rfl rfl) rfl ?_; rintro _ ⟨b4, rfl⟩)
 (refine seq_step (step_alloc rfl) rfl ?_; rintro _ ⟨b5, rfl⟩)
 refine sD (nS (tS (tS (tR (sP (pF0 rfl) rfl rfl (sL (lBs rfl rfl) rfl rfl ?_))))))
 refine sB (pE rfl rfl) rfl rfl (fun h13 => ?_) (fun h13 => ?_)
 refine sP (pM rfl) rfl rfl (sP (pF0 rfl) rfl rfl (sL (lBs rfl rfl) rfl rfl ?_))
 refine sP (pM rfl) rfl rfl (sB (pure_seql rfl rfl) rfl rfl (fun h18 => ?_) (fun h18 => ?_))
 refine sP (pPt rfl rfl) rfl rfl (sD (nS (cT rfl ?_)))
 refine tS (tR (sL (load_a rfl rfl (at_blk_all (by repeat first | exact mH | apply mT)) hvl) rfl rfl ?_))
 (refine seq_imm rfl hCv rfl rfl (fun v9 G1 hle1 hh => ?_); obtain ⟨uc, F1, rfl, hs1, hn1⟩ := hh; have hru := hs1.R.mono (Dif.le G1 G); have hul := hru.len; have huo := hru.one)
 refine sS rfl rfl rfl hul huo rfl ?_ (hu := by exact upd_all hul.symm)
 refine sD (nS (tT (rS (rF1 (rC rfl (load_a rfl rfl (at_blk_all (by repeat first | exact mH | apply mT)) hul)) ?_))))
 (rw [if_pos (by refine ⟨by omega, by assumption⟩)]; exact TmP.mk hru)
 refine sP (pPt rfl rfl) rfl rfl (sD (nS (cF rfl ?_)))
 refine tK (nS (tS (tS (tR (sP (pF0 rfl) rfl rfl (sL (lBs rfl rfl) rfl rfl ?_))))))
 refine sP (pure_eql_f rfl rfl (by omega)) rfl rfl ?_
 refine sP (pM rfl) rfl rfl (sK rfl rfl (sK rfl rfl (sK rfl rfl (sK rfl rfl (sP (pPf rfl rfl) rfl rfl (sD ?_))))))
 refine nS (cF rfl ?_)
 refine tK (nS (tS (tR (sL (lBa rfl rfl) rfl rfl ?_))))
 (refine seq_step (step_alloc rfl) rfl ?_; rintro _ ⟨b60, rfl⟩)
 refine sS rfl rfl rfl rfl rfl rfl ?_
 refine sD (nS (tS (tR (sP (pF0 rfl) rfl rfl (sL (lBa rfl rfl) rfl rfl ?_)))))
 (refine seq_imm rfl (l1Copy_fn (.mk tk tks) _ _ htsm hty) rfl rfl (fun v9 G1 hle1 hh => ?_); obtain ⟨cs1, F1, rfl, hs1, hn1⟩ := hh; obtain ⟨q1, c1, rfl, _⟩ := hs1.open; have hC2 := l1Copy_fn (.mk fk fks) G1 _ hfsm (hfr.mono hle1))
 refine sP (pF0 rfl) rfl rfl (sS rfl rfl rfl rfl rfl rfl ?_)
 refine sD (nS (tS (tR (sP (pF0 rfl) rfl rfl (sL (lBa rfl rfl) rfl rfl ?_)))))
 (refine seq_imm rfl hC2 rfl rfl (fun v9 G2 hle2 hh => ?_); obtain ⟨cs2, F2, rfl, hs2, hn2⟩ := hh; obtain ⟨q2, c2, rfl, _⟩ := hs2.open; have hty1 := hs1.R.mono ((Dif.le G1 _).trans hle2); have hfr1 := hs2.R.mono (Dif.le G2 G1); have hle12 := hle1.trans hle2; replace hsl := hsl.mono hle12; replace hkl := hkl.mono hle12; replace hv := hv.mono hle12)
 refine sP (pF0 rfl) rfl rfl (sS rfl rfl rfl rfl rfl rfl ?_)
 refine sD (nS (tS (tR (sP (pF0 rfl) rfl rfl (sS rfl rfl rfl rfl rfl rfl ?_)))))
 refine sD (nS (tS (tS (tR (sP (pA rfl) rfl rfl (sD ?_))))))
 refine nS (tri_block ?_)
 (refine tri_nil 36 9 ?_; refine tri_loopN (fun (x : Nat × Option Addr × Nat × List (List Value) × IM) => ⟨[(8, .int .i64 x.1), (1, .string y), (3, .pointer (some ⟨b3, 0, none⟩)), (5, .pointer (some ⟨b4, 0, none⟩)), (6, .pointer (some ⟨b5, 0, none⟩)), (7, .pointer (some ⟨b60, 0, none⟩))], [.blk b60 [.int .i64 k, .string nm, .int .i64 num, .int .i64 tk, .slice q1 tks.length c1, .int .i64 fk, .slice q2 fks.length c2, .int .i64 lb, .slice x.2.1 x.1 x.2.2.1], .slc x.2.1 x.2.2.1 36 9 x.1 x.2.2.2.1.flatten, .blk b5 [.int .i64 0, .string ⟨⟨[]⟩⟩, .int .i64 0, .int .i64 0, .slice none 0 0, .int .i64 0, .slice none 0 0, .int .i64 0, .slice none 0 0], .blk b4 vc, .blk b3 [.int .i64 k, .string nm, .int .i64 num, .int .i64 tk, .slice pt tks.length ct, .int .i64 fk, .slice pf fks.length cf, .int .i64 lb, .slice p ks.length c]], x.2.2.2.2⟩) (fun x => x.1 ≤ ks.length ∧ IMle G2 x.2.2.2.2 ∧ RTmL x.2.2.2.2 ((mSubstL y v ks).take x.1) x.2.2.2.1) (fun x => ks.length - x.1) (0, none, 0, [], G2) ?_ ?_ ?_)
 (simp only [flat_snoc]; exact sub_mk (by repeat (first | exact SubE.nil | refine SubE.cons rfl ?_)) (by repeat (first | exact SubH.refl | exact SubH.nil | refine SubH.cons (by repeat (first | exact Pk.here | apply Pk.there)) ?_ | apply SubH.drop)))
 (exact ⟨Nat.zero_le _, IMle.refl _, by simp [RTmL]⟩)
 (rintro ⟨i, pn, cn, es', Gi⟩ ⟨hi, hle, hst⟩; simp only [] at hi hle hst ⊢; replace hsl := hsl.mono hle; replace hkl := hkl.mono hle; replace hv := hv.mono hle; replace hty1 := hty1.mono hle; replace hfr1 := hfr1.mono hle; have hsl' := hst.len; rw [List.length_take, substL_len] at hsl')
 refine tS (tS (tR (sP (pM rfl) rfl rfl (sP (pF0 rfl) rfl rfl (sL (lBs rfl rfl) rfl rfl ?_)))))
 refine sP (pLn rfl rfl) rfl rfl (sB (pure_lss rfl rfl) rfl rfl (fun h106 => ?_) (fun h106 => ?_))
 refine sD (nS (cT rfl ?_))
 refine tK (nS (tS (tri_block ?_)))
 (have hil : i < ks.length := (by omega); obtain ⟨bx, ox, e, rfl, hl, hat, hre, hgb⟩ := hsl.kidTm hkl (i := i) (by omega) (by omega); have hel := hre.len; have heo := hre.one; refine tri_draw mixed rfl ?_)
 refine any_load (i := 8) (l' := [ff,ff,ff,ff,ff,ff,ff,ff,tt,ff,ff,ff,ff,ff]) rfl npI (load_a rfl rfl (at_blk_all (by repeat first | exact mH | apply mT)) hvl) rfl (by kernel_rfl) rfl rfl ?_
 refine aP 0 rfl (pF0 rfl) rfl rfl ?_
 refine aL 1 rfl (lBs rfl rfl) rfl rfl ?_
 refine aP 2 rfl (pF0 rfl) rfl rfl ?_
 refine aL 3 rfl (lBs rfl rfl) rfl rfl ?_
 refine aP 4 rfl (pM rfl) rfl rfl ?_
 refine aP 5 rfl (pIN (j := i) rfl rfl rfl (by omega)) rfl rfl ?_
 refine aL 6 rfl (load_a rfl rfl (hat _) hl) rfl rfl ?_
 refine aP 7 rfl (pM rfl) rfl rfl ?_
 refine aO (j := 9) (by kernel_rfl) ?_
 (refine one_imm (l' := [tt,tt,tt,tt,tt,tt,tt,tt,tt,tt,ff,ff,ff,ff]) rfl rfl (ih ks[i] (List.getElem_mem (by omega)) Gi _ (Tm.smallL_mem hks _ (List.getElem_mem (by omega))) hre hv) rfl rfl rfl (fun u G3 hle3 hh => ?_); obtain ⟨uc, rfl, hru⟩ := hh; have hul := hru.len; have huo := hru.one; obtain ⟨v1, v2, v3, v4, v5, v6, v7, v8, v9, rfl⟩ := nine hul)
 refine aO (j := 10) (by kernel_rfl) ?_
 (refine one_step0 (l' := [tt,tt,tt,tt,tt,tt,tt,tt,tt,tt,tt,ff,ff,ff]) rfl (step_buildSlice rfl rfl rfl (by omega) (by unfold maxLen; omega) rfl) rfl rfl ?_; rintro _ ⟨b127, rfl⟩)
 refine aO (j := 11) (by kernel_rfl) ?_
 (refine one_append (l' := [tt,tt,tt,tt,tt,tt,tt,tt,tt,tt,tt,tt,ff,ff]) rfl rfl rfl rfl rfl rfl (fun _ _ => by repeat (first | exact Sw.here | apply Sw.there)) (at_slc_all (by repeat first | exact mH | apply mT)) rfl (fun u hu => List.all_eq_true.1 huo u hu) (by unfold maxLen; omega) (by omega) rfl rfl (by repeat (first | exact HmOk.nil | apply HmOk.dep (by decide +kernel) | apply HmOk.im (by decide +kernel) (by assumption) (by repeat first | exact mH | apply mT) | apply HmOk.blk (by decide +kernel) (by repeat (first | exact Pk.here | apply Pk.there)) (by repeat first | exact mH | apply mT) | apply HmOk.slc (by decide +kernel) (by repeat (first | exact Pk.here | apply Pk.there)) (by repeat first | exact mH | apply mT))) (fun p7 c7 => ?_))
 refine aP 12 rfl (pF0 rfl) rfl rfl ?_
 refine aO (j := 13) (by kernel_rfl) ?_
 refine one_store (l' := [tt,tt,tt,tt,tt,tt,tt,tt,tt,tt,tt,tt,tt,tt]) rfl rfl rfl rfl rfl rfl rfl rfl (by decide +kernel) (by repeat first | exact Sw.here | apply Sw.there) (by rfl) ?_
 refine aD (by kernel_rfl) ?_
 refine nrm_block (nS (tR (sP (pM rfl) rfl rfl (sP (pure_add rfl rfl (by omega) (by omega)) rfl rfl ?_))))
 refine sP (pA rfl) rfl rfl (sD (nrm_loopN (i + 1, p7, c7, es' ++ [[v1, v2, v3, v4, v5, v6, v7, v8, v9]], G3) ?_ ?_ ?_))
 (simp only [flat_snoc]; exact sub_mk (by repeat (first | exact SubE.nil | refine SubE.cons rfl ?_)) (by repeat (first | exact SubH.refl | exact SubH.nil | refine SubH.cons (by repeat (first | exact Pk.here | apply Pk.there)) ?_ | apply SubH.drop)))
 (dsimp only; exact ⟨by omega, hle.trans hle3, by rw [substL_take (by omega)]; exact RTmL.snoc (hst.mono hle3) hru⟩)
 (show ks.length - (i + 1) < ks.length - i; omega)
 refine sD (nS (cF rfl ?_))
 refine tri_exit ?_
 refine ext_seq ?_
 refine ext_loopN ?_
 refine ext_block_eq ?_
 refine nS (tS (tR (sL (lBa rfl rfl) rfl rfl ?_)))
 refine sS rfl rfl rfl rfl rfl rfl ?_
 refine sD (nS ?_)
 (refine ret_freeze (cs := es'.flatten) (by repeat (first | exact Pk.here | apply Pk.there)) (fun G4 hle4 hsl4 hno4 => ?_); obtain rfl : i = ks.length := (by omega))
 refine tT (rF1 (rC rfl (lBa rfl rfl)) ?_)
 (rw [if_neg (by rintro ⟨h1, h2⟩; first | omega | contradiction), if_neg (by rintro ⟨h1, h2⟩; first | omega | contradiction)]; rw [List.take_of_length_le (by rw [substL_len]; omega)] at hst; exact TmP.mk (RTm.put hk hnum hlb (hty1.mono hle4) (hfr1.mono hle4) (by rw [substL_len]) (SlE.of hsl4 (by omega) hst.all (fun e he => (hst.each e he).2)) (hst.mono hle4)))
 refine sP (pM rfl) rfl rfl (sK rfl rfl (sK rfl rfl (sK rfl rfl (sK rfl rfl (sP (pPf rfl rfl) rfl rfl (sD ?_))))))
 refine nS (cF rfl ?_)
 refine tK (nS (tS (tS (tR (sP (pF0 rfl) rfl rfl (sL (lBs rfl rfl) rfl rfl ?_))))))
 refine sB (pE rfl rfl) rfl rfl (fun h179 => ?_) (fun h179 => ?_)
 refine sP (pM rfl) rfl rfl (sP (pF0 rfl) rfl rfl (sL (lBs rfl rfl) rfl rfl ?_))
 refine sP (pM rfl) rfl rfl (sB (pure_seql rfl rfl) rfl rfl (fun h184 => ?_) (fun h184 => ?_))
 refine sP (pPt rfl rfl) rfl rfl (sD (nS (cT rfl ?_)))
 refine tS (tR (sL (lBa rfl rfl) rfl rfl ?_))
 (refine seq_imm rfl hCt rfl rfl (fun v9 G1 hle1 hh => ?_); obtain ⟨uc, F1, rfl, hs1, hn1⟩ := hh; have hru := hs1.R.mono (Dif.le G1 G); have hul := hru.len; have huo := hru.one)
 refine sS rfl rfl rfl hul huo rfl ?_ (hu := by exact upd_all hul.symm)
 refine sD (nS (tT (rS (rF1 (rC rfl (load_a rfl rfl (at_blk_all (by repeat first | exact mH | apply mT)) hul)) ?_))))
 (rw [if_neg (by rintro ⟨h1, h2⟩; first | omega | contradiction), if_pos (by refine ⟨by omega, by assumption⟩)]; exact TmP.mk hru)
 refine sP (pPt rfl rfl) rfl rfl (sD (nS (cF rfl ?_)))
 refine tK (nS (tS (tR (sL (lBa rfl rfl) rfl rfl ?_))))
 (refine seq_step (step_alloc rfl) rfl ?_; rintro _ ⟨b209, rfl⟩)
 refine sS rfl rfl rfl rfl rfl rfl ?_
 refine sD (nS (tS (tR (sP (pF0 rfl) rfl rfl (sL (lBa rfl rfl) rfl rfl ?_)))))
 (refine seq_imm rfl (l1Copy_fn (.mk tk tks) _ _ htsm hty) rfl rfl (fun v9 G1 hle1 hh => ?_); obtain ⟨cs1, F1, rfl, hs1, hn1⟩ := hh; obtain ⟨q1, c1, rfl, _⟩ := hs1.open; have hC2 := l1Copy_fn (.mk fk fks) G1 _ hfsm (hfr.mono hle1))
 refine sP (pF0 rfl) rfl rfl (sS rfl rfl rfl rfl rfl rfl ?_)
 refine sD (nS (tS (tR (sP (pF0 rfl) rfl rfl (sL (lBa rfl rfl) rfl rfl ?_)))))
 (refine seq_imm rfl hC2 rfl rfl (fun v9 G2 hle2 hh => ?_); obtain ⟨cs2, F2, rfl, hs2, hn2⟩ := hh; obtain ⟨q2, c2, rfl, _⟩ := hs2.open; have hty1 := hs1.R.mono ((Dif.le G1 _).trans hle2); have hfr1 := hs2.R.mono (Dif.le G2 G1); have hle12 := hle1.trans hle2; replace hsl := hsl.mono hle12; replace hkl := hkl.mono hle12; replace hv := hv.mono hle12)
 refine sP (pF0 rfl) rfl rfl (sS rfl rfl rfl rfl rfl rfl ?_)
 refine sD (nS (tS (tR (sP (pF0 rfl) rfl rfl (sS rfl rfl rfl rfl rfl rfl ?_)))))
 refine sD (nS (tS (tS (tR (sP (pA rfl) rfl rfl (sD ?_))))))
 refine nS (tri_block ?_)
 (refine tri_nil 36 9 ?_; refine tri_loopN (fun (x : Nat × Option Addr × Nat × List (List Value) × IM) => ⟨[(8, .int .i64 x.1), (1, .string y), (3, .pointer (some ⟨b3, 0, none⟩)), (5, .pointer (some ⟨b4, 0, none⟩)), (6, .pointer (some ⟨b5, 0, none⟩)), (7, .pointer (some ⟨b209, 0, none⟩))], [.blk b209 [.int .i64 k, .string nm, .int .i64 num, .int .i64 tk, .slice q1 tks.length c1, .int .i64 fk, .slice q2 fks.length c2, .int .i64 lb, .slice x.2.1 x.1 x.2.2.1], .slc x.2.1 x.2.2.1 36 9 x.1 x.2.2.2.1.flatten, .blk b5 [.int .i64 0, .string ⟨⟨[]⟩⟩, .int .i64 0, .int .i64 0, .slice none 0 0, .int .i64 0, .slice none 0 0, .int .i64 0, .slice none 0 0], .blk b4 vc, .blk b3 [.int .i64 k, .string nm, .int .i64 num, .int .i64 tk, .slice pt tks.length ct, .int .i64 fk, .slice pf fks.length cf, .int .i64 lb, .slice p ks.length c]], x.2.2.2.2⟩) (fun x => x.1 ≤ ks.length ∧ IMle G2 x.2.2.2.2 ∧ RTmL x.2.2.2.2 ((mSubstL y v ks).take x.1) x.2.2.2.1) (fun x => ks.length - x.1) (0, none, 0, [], G2) ?_ ?_ ?_)
 (simp only [flat_snoc]; exact sub_mk (by repeat (first | exact SubE.nil | refine SubE.cons rfl ?_)) (by repeat (first | exact SubH.refl | exact SubH.nil | refine SubH.cons (by repeat (first | exact Pk.here | apply Pk.there)) ?_ | apply SubH.drop)))
 (exact ⟨Nat.zero_le _, IMle.refl _, by simp [RTmL]⟩)
 (rintro ⟨i, pn, cn, es', Gi⟩ ⟨hi, hle, hst⟩; simp only [] at hi hle hst ⊢; replace hsl := hsl.mono hle; replace hkl := hkl.mono hle; replace hv := hv.mono hle; replace hty1 := hty1.mono hle; replace hfr1 := hfr1.mono hle; have hsl' := hst.len; rw [List.length_take, substL_len] at hsl')
 refine tS (tS (tR (sP (pM rfl) rfl rfl (sP (pF0 rfl) rfl rfl (sL (lBs rfl rfl) rfl rfl ?_)))))
 refine sP (pLn rfl rfl) rfl rfl (sB (pure_lss rfl rfl) rfl rfl (fun h255 => ?_) (fun h255 => ?_))
 refine sD (nS (cT rfl ?_))
 refine tK (nS (tS (tri_block ?_)))
 (have hil : i < ks.length := (by omega); obtain ⟨bx, ox, e, rfl, hl, hat, hre, hgb⟩ := hsl.kidTm hkl (i := i) (by omega) (by omega); have hel := hre.len; have heo := hre.one; refine tri_draw mixed rfl ?_)
 refine any_load (i := 8) (l' := [ff,ff,ff,ff,ff,ff,ff,ff,tt,ff,ff,ff,ff,ff]) rfl npI (load_a rfl rfl (at_blk_all (by repeat first | exact mH | apply mT)) hvl) rfl (by kernel_rfl) rfl rfl ?_
 refine aP 0 rfl (pF0 rfl) rfl rfl ?_
 refine aL 1 rfl (lBs rfl rfl) rfl rfl ?_
 refine aP 2 rfl (pF0 rfl) rfl rfl ?_
 refine aL 3 rfl (lBs rfl rfl) rfl rfl ?_
 refine aP 4 rfl (pM rfl) rfl rfl ?_
 refine aP 5 rfl (pIN (j := i) rfl rfl rfl (by omega)) rfl rfl ?_
 refine aL 6 rfl (load_a rfl rfl (hat _) hl) rfl rfl ?_
 refine aP 7 rfl (pM rfl) rfl rfl ?_
 refine aO (j := 9) (by kernel_rfl) ?_
 (refine one_imm (l' := [tt,tt,tt,tt,tt,tt,tt,tt,tt,tt,ff,ff,ff,ff]) rfl rfl (ih ks[i] (List.getElem_mem (by omega)) Gi _ (Tm.smallL_mem hks _ (List.getElem_mem (by omega))) hre hv) rfl rfl rfl (fun u G3 hle3 hh => ?_); obtain ⟨uc, rfl, hru⟩ := hh; have hul := hru.len; have huo := hru.one; obtain ⟨v1, v2, v3, v4, v5, v6, v7, v8, v9, rfl⟩ := nine hul)
 refine aO (j := 10) (by kernel_rfl) ?_
 (refine one_step0 (l' := [tt,tt,tt,tt,tt,tt,tt,tt,tt,tt,tt,ff,ff,ff]) rfl (step_buildSlice rfl rfl rfl (by omega) (by unfold maxLen; omega) rfl) rfl rfl ?_; rintro _ ⟨b276, rfl⟩)
 refine aO (j := 11) (by kernel_rfl) ?_
 (refine one_append (l' := [tt,tt,tt,tt,tt,tt,tt,tt,tt,tt,tt,tt,ff,ff]) rfl rfl rfl rfl rfl rfl (fun _ _ => by repeat (first | exact Sw.here | apply Sw.there)) (at_slc_all (by repeat first | exact mH | apply mT)) rfl (fun u hu => List.all_eq_true.1 huo u hu) (by unfold maxLen; omega) (by omega) rfl rfl (by repeat (first | exact HmOk.nil | apply HmOk.dep (by decide +kernel) | apply HmOk.im (by decide +kernel) (by assumption) (by repeat first | exact mH | apply mT) | apply HmOk.blk (by decide +kernel) (by repeat (first | exact Pk.here | apply Pk.there)) (by repeat first | exact mH | apply mT) | apply HmOk.slc (by decide +kernel) (by repeat (first | exact Pk.here | apply Pk.there)) (by repeat first | exact mH | apply mT))) (fun p7 c7 => ?_))
 refine aP 12 rfl (pF0 rfl) rfl rfl ?_
 refine aO (j := 13) (by kernel_rfl) ?_
 refine one_store (l' := [tt,tt,tt,tt,tt,tt,tt,tt,tt,tt,tt,tt,tt,tt]) rfl rfl rfl rfl rfl rfl rfl rfl (by decide +kernel) (by repeat first | exact Sw.here | apply Sw.there) (by rfl) ?_
 refine aD (by kernel_rfl) ?_
 refine nrm_block (nS (tR (sP (pM rfl) rfl rfl (sP (pure_add rfl rfl (by omega) (by omega)) rfl rfl ?_))))
 refine sP (pA rfl) rfl rfl (sD (nrm_loopN (i + 1, p7, c7, es' ++ [[v1, v2, v3, v4, v5, v6, v7, v8, v9]], G3) ?_ ?_ ?_))
 (simp only [flat_snoc]; exact sub_mk (by repeat (first | exact SubE.nil | refine SubE.cons rfl ?_)) (by repeat (first | exact SubH.refl | exact SubH.nil | refine SubH.cons (by repeat (first | exact Pk.here | apply Pk.there)) ?_ | apply SubH.drop)))
 (dsimp only; exact ⟨by omega, hle.trans hle3, by rw [substL_take (by omega)]; exact RTmL.snoc (hst.mono hle3) hru⟩)
 (show ks.length - (i + 1) < ks.length - i; omega)
 refine sD (nS (cF rfl ?_))
 refine tri_exit ?_
 refine ext_seq ?_
 refine ext_loopN ?_
 refine ext_block_eq ?_
 refine nS (tS (tR (sL (lBa rfl rfl) rfl rfl ?_)))
 refine sS rfl rfl rfl rfl rfl rfl ?_
 refine sD (nS ?_)
 (refine ret_freeze (cs := es'.flatten) (by repeat (first | exact Pk.here | apply Pk.there)) (fun G4 hle4 hsl4 hno4 => ?_); obtain rfl : i = ks.length := (by omega))
 refine tT (rF1 (rC rfl (lBa rfl rfl)) ?_)
 (rw [if_neg (by rintro ⟨h1, h2⟩; first | omega | contradiction), if_neg (by rintro ⟨h1, h2⟩; first | omega | contradiction)]; rw [List.take_of_length_le (by rw [substL_len]; omega)] at hst; exact TmP.mk (RTm.put hk hnum hlb (hty1.mono hle4) (hfr1.mono hle4) (by rw [substL_len]) (SlE.of hsl4 (by omega) hst.all (fun e he => (hst.each e he).2)) (hst.mono hle4)))
 refine sP (pM rfl) rfl rfl (sK rfl rfl (sK rfl rfl (sK rfl rfl (sK rfl rfl (sP (pPf rfl rfl) rfl rfl (sD ?_))))))
 refine nS (cF rfl ?_)
 refine tK (nS (tS (tR (sL (lBa rfl rfl) rfl rfl ?_))))
 (refine seq_step (step_alloc rfl) rfl ?_; rintro _ ⟨b326, rfl⟩)
 refine sS rfl rfl rfl rfl rfl rfl ?_
 refine sD (nS (tS (tR (sP (pF0 rfl) rfl rfl (sL (lBa rfl rfl) rfl rfl ?_)))))
 (refine seq_imm rfl (l1Copy_fn (.mk tk tks) _ _ htsm hty) rfl rfl (fun v9 G1 hle1 hh => ?_); obtain ⟨cs1, F1, rfl, hs1, hn1⟩ := hh; obtain ⟨q1, c1, rfl, _⟩ := hs1.open; have hC2 := l1Copy_fn (.mk fk fks) G1 _ hfsm (hfr.mono hle1))
 refine sP (pF0 rfl) rfl rfl (sS rfl rfl rfl rfl rfl rfl ?_)
 refine sD (nS (tS (tR (sP (pF0 rfl) rfl rfl (sL (lBa rfl rfl) rfl rfl ?_)))))
 (refine seq_imm rfl hC2 rfl rfl (fun v9 G2 hle2 hh => ?_); obtain ⟨cs2, F2, rfl, hs2, hn2⟩ := hh; obtain ⟨q2, c2, rfl, _⟩ := hs2.open; have hty1 := hs1.R.mono ((Dif.le G1 _).trans hle2); have hfr1 := hs2.R.mono (Dif.le G2 G1); have hle12 := hle1.trans hle2; replace hsl := hsl.mono hle12; replace hkl := hkl.mono hle12; replace hv := hv.mono hle12)
 refine sP (pF0 rfl) rfl rfl (sS rfl rfl rfl rfl rfl rfl ?_)
 refine sD (nS (tS (tR (sP (pF0 rfl) rfl rfl (sS rfl rfl rfl rfl rfl rfl ?_)))))
 refine sD (nS (tS (tS (tR (sP (pA rfl) rfl rfl (sD ?_))))))
 refine nS (tri_block ?_)
 (refine tri_nil 36 9 ?_; refine tri_loopN (fun (x : Nat × Option Addr × Nat × List (List Value) × IM) => ⟨[(8, .int .i64 x.1), (1, .string y), (3, .pointer (some ⟨b3, 0, none⟩)), (5, .pointer (some ⟨b4, 0, none⟩)), (6, .pointer (some ⟨b5, 0, none⟩)), (7, .pointer (some ⟨b326, 0, none⟩))], [.blk b326 [.int .i64 k, .string nm, .int .i64 num, .int .i64 tk, .slice q1 tks.length c1, .int .i64 fk, .slice q2 fks.length c2, .int .i64 lb, .slice x.2.1 x.1 x.2.2.1], .slc x.2.1 x.2.2.1 36 9 x.1 x.2.2.2.1.flatten, .blk b5 [.int .i64 0, .string ⟨⟨[]⟩⟩, .int .i64 0, .int .i64 0, .slice none 0 0, .int .i64 0, .slice none 0 0, .int .i64 0, .slice none 0 0], .blk b4 vc, .blk b3 [.int .i64 k, .string nm, .int .i64 num, .int .i64 tk, .slice pt tks.length ct, .int .i64 fk, .slice pf fks.length cf, .int .i64 lb, .slice p ks.length c]], x.2.2.2.2⟩) (fun x => x.1 ≤ ks.length ∧ IMle G2 x.2.2.2.2 ∧ RTmL x.2.2.2.2 ((mSubstL y v ks).take x.1) x.2.2.2.1) (fun x => ks.length - x.1) (0, none, 0, [], G2) ?_ ?_ ?_)
 (simp only [flat_snoc]; exact sub_mk (by repeat (first | exact SubE.nil | refine SubE.cons rfl ?_)) (by repeat (first | exact SubH.refl | exact SubH.nil | refine SubH.cons (by repeat (first | exact Pk.here | apply Pk.there)) ?_ | apply SubH.drop)))
 (exact ⟨Nat.zero_le _, IMle.refl _, by simp [RTmL]⟩)
 (rintro ⟨i, pn, cn, es', Gi⟩ ⟨hi, hle, hst⟩; simp only [] at hi hle hst ⊢; replace hsl := hsl.mono hle; replace hkl := hkl.mono hle; replace hv := hv.mono hle; replace hty1 := hty1.mono hle; replace hfr1 := hfr1.mono hle; have hsl' := hst.len; rw [List.length_take, substL_len] at hsl')
 refine tS (tS (tR (sP (pM rfl) rfl rfl (sP (pF0 rfl) rfl rfl (sL (lBs rfl rfl) rfl rfl ?_)))))
 refine sP (pLn rfl rfl) rfl rfl (sB (pure_lss rfl rfl) rfl rfl (fun h372 => ?_) (fun h372 => ?_))
 refine sD (nS (cT rfl ?_))
 refine tK (nS (tS (tri_block ?_)))
 (have hil : i < ks.length := (by omega); obtain ⟨bx, ox, e, rfl, hl, hat, hre, hgb⟩ := hsl.kidTm hkl (i := i) (by omega) (by omega); have hel := hre.len; have heo := hre.one; refine tri_draw mixed rfl ?_)
 refine any_load (i := 8) (l' := [ff,ff,ff,ff,ff,ff,ff,ff,tt,ff,ff,ff,ff,ff]) rfl npI (load_a rfl rfl (at_blk_all (by repeat first | exact mH | apply mT)) hvl) rfl (by kernel_rfl) rfl rfl ?_
 refine aP 0 rfl (pF0 rfl) rfl rfl ?_
 refine aL 1 rfl (lBs rfl rfl) rfl rfl ?_
 refine aP 2 rfl (pF0 rfl) rfl rfl ?_
 refine aL 3 rfl (lBs rfl rfl) rfl rfl ?_
 refine aP 4 rfl (pM rfl) rfl rfl ?_
 refine aP 5 rfl (pIN (j := i) rfl rfl rfl (by omega)) rfl rfl ?_
 refine aL 6 rfl (load_a rfl rfl (hat _) hl) rfl rfl ?_
 refine aP 7 rfl (pM rfl) rfl rfl ?_
 refine aO (j := 9) (by kernel_rfl) ?_
 (refine one_imm (l' := [tt,tt,tt,tt,tt,tt,tt,tt,tt,tt,ff,ff,ff,ff]) rfl rfl (ih ks[i] (List.getElem_mem (by omega)) Gi _ (Tm.smallL_mem hks _ (List.getElem_mem (by omega))) hre hv) rfl rfl rfl (fun u G3 hle3 hh => ?_); obtain ⟨uc, rfl, hru⟩ := hh; have hul := hru.len; have huo := hru.one; obtain ⟨v1, v2, v3, v4, v5, v6, v7, v8, v9, rfl⟩ := nine hul)
 refine aO (j := 10) (by kernel_rfl) ?_
 (refine one_step0 (l' := [tt,tt,tt,tt,tt,tt,tt,tt,tt,tt,tt,ff,ff,ff]) rfl (step_buildSlice rfl rfl rfl (by omega) (by unfold maxLen; omega) rfl) rfl rfl ?_; rintro _ ⟨b393, rfl⟩)
 refine aO (j := 11) (by kernel_rfl) ?_
 (refine one_append (l' := [tt,tt,tt,tt,tt,tt,tt,tt,tt,tt,tt,tt,ff,ff]) rfl rfl rfl rfl rfl rfl (fun _ _ => by repeat (first | exact Sw.here | apply Sw.there)) (at_slc_all (by repeat first | exact mH | apply mT)) rfl (fun u hu => List.all_eq_true.1 huo u hu) (by unfold maxLen; omega) (by omega) rfl rfl (by repeat (first | exact HmOk.nil | apply HmOk.dep (by decide +kernel) | apply HmOk.im (by decide +kernel) (by assumption) (by repeat first | exact mH | apply mT) | apply HmOk.blk (by decide +kernel) (by repeat (first | exact Pk.here | apply Pk.there)) (by repeat first | exact mH | apply mT) | apply HmOk.slc (by decide +kernel) (by repeat (first | exact Pk.here | apply Pk.there)) (by repeat first | exact mH | apply mT))) (fun p7 c7 => ?_))
 refine aP 12 rfl (pF0 rfl) rfl rfl ?_
 refine aO (j := 13) (by kernel_rfl) ?_
 refine one_store (l' := [tt,tt,tt,tt,tt,tt,tt,tt,tt,tt,tt,tt,tt,tt]) rfl rfl rfl rfl rfl rfl rfl rfl (by decide +kernel) (by repeat first | exact Sw.here | apply Sw.there) (by rfl) ?_
 refine aD (by kernel_rfl) ?_
 refine nrm_block (nS (tR (sP (pM rfl) rfl rfl (sP (pure_add rfl rfl (by omega) (by omega)) rfl rfl ?_))))
 refine sP (pA rfl) rfl rfl (sD (nrm_loopN (i + 1, p7, c7, es' ++ [[v1, v2, v3, v4, v5, v6, v7, v8, v9]], G3) ?_ ?_ ?_))
 (simp only [flat_snoc]; exact sub_mk (by repeat (first | exact SubE.nil | refine SubE.cons rfl ?_)) (by repeat (first | exact SubH.refl | exact SubH.nil | refine SubH.cons (by repeat (first | exact Pk.here | apply Pk.there)) ?_ | apply SubH.drop)))
 (dsimp only; exact ⟨by omega, hle.trans hle3, by rw [substL_take (by omega)]; exact RTmL.snoc (hst.mono hle3) hru⟩)
 (show ks.length - (i + 1) < ks.length - i; omega)
 refine sD (nS (cF rfl ?_))
 refine tri_exit ?_
 refine ext_seq ?_
 refine ext_loopN ?_
 refine ext_block_eq ?_
 refine nS (tS (tR (sL (lBa rfl rfl) rfl rfl ?_)))
 refine sS rfl rfl rfl rfl rfl rfl ?_
 refine sD (nS ?_)
 (refine ret_freeze (cs := es'.flatten) (by repeat (first | exact Pk.here | apply Pk.there)) (fun G4 hle4 hsl4 hno4 => ?_); obtain rfl : i = ks.length := (by omega))
 refine tT (rF1 (rC rfl (lBa rfl rfl)) ?_)
 (rw [if_neg (by rintro ⟨h1, h2⟩; first | omega | contradiction), if_neg (by rintro ⟨h1, h2⟩; first | omega | contradiction)]; rw [List.take_of_length_le (by rw [substL_len]; omega)] at hst; exact TmP.mk (RTm.put hk hnum hlb (hty1.mono hle4) (hfr1.mono hle4) (by rw [substL_len]) (SlE.of hsl4 (by omega) hst.all (fun e he => (hst.each e he).2)) (hst.mono hle4)))
end Gw
end Go.Proofs.YtaiafkcflhcdaaaGreatDoor
namespace Go.Proofs.YtaiafkcflhcdaaaGreatDoor
open Go Go.RowKit
namespace Gw
set_option maxHeartbeats 0 in
set_option maxRecDepth 100000 in
theorem l5Number_fn (k : Int) (a b : Tm) (G : IM) (ca cb : List Value) (hk78 : k = 7 ∨ k = 8) (hca : 0 ≤ a.num ∧ a.num ≤ 999) (hcb : 0 ≤ b.num ∧ b.num ≤ 999) (hra : RTm G a ca) (hrb : RTm G b cb) : Fn Tryz.prog 222 [.int .i64 k, .agg ⟨ca⟩, .agg ⟨cb⟩] [] G (StpX (mRed k ty0 ty0 0 [a, b])) := by
 obtain ⟨ak, anm, anum, ⟨atk, atks⟩, ⟨afk, afks⟩, alb, aks⟩ := a
 obtain ⟨bk, bnm, bnum, ⟨btk, btks⟩, ⟨bfk, bfks⟩, blb, bks⟩ := b
 obtain ⟨apt, act, apf, acf, ap, ac, aes, rfl, hak, hanum, halb, haty, hafr, hasl, hakl⟩ := hra.open9
 obtain ⟨bpt, bct, bpf, bcf, bp, bc, bes, rfl, hbk, hbnum, hblb, hbty, hbfr, hbsl, hbkl⟩ := hrb.open9
 simp only [Tm.num] at hca hcb
 have hR : mRed k ty0 ty0 0 [Tm.mk ak anm anum (.mk atk atks) (.mk afk afks) alb aks, Tm.mk bk bnm bnum (.mk btk btks) (.mk bfk bfks) blb bks] = (if ak = 2 ∧ bk = 2 then (if k = 7 then mNum ((anum + bnum) % 1000) else mTru (anum < bnum), 1, 0) else stuck) := by
  unfold mRed; rw [if_neg (by omega), if_pos hk78]; rfl
 rw [hR]
 have htm : (anum + bnum).tmod 1000 = (anum + bnum) % 1000 := tmod_1000' hca hcb
 have hb : I64 ((anum + bnum) % 1000) := ⟨by omega, by omega⟩
 refine fn_enter Tryz.func222 rfl Tryz.ntmps222 Tryz.results222 rfl ?_
 intro w0
 refine tS (tR ?_)
 (refine seq_step (step_box_a rfl rfl) rfl ?_; rintro _ ⟨b3, rfl⟩)
 (refine seq_step (step_box_a rfl rfl) rfl ?_; rintro _ ⟨b4, rfl⟩)
 (refine seq_step (step_alloc rfl) rfl ?_; rintro _ ⟨b5, rfl⟩)
 refine sP (pA rfl) rfl rfl (sP (pA rfl) rfl rfl (sD (nS (tS (tS (tR ?_))))))
 refine sP (pF0 rfl) rfl rfl (sL (lBs rfl rfl) rfl rfl ?_)
 refine sB (pure_neq rfl rfl) rfl rfl (fun h15 => ?_) (fun h15 => ?_)
 refine sP (pM rfl) rfl rfl (sK rfl rfl (sK rfl rfl (sK rfl rfl (sP (pPt rfl rfl) rfl rfl (sD (nS ?_))))))
 refine cT rfl ?_
 refine tS (tR (sP (pBd rfl rfl) rfl rfl (sS rfl rfl rfl rfl rfl rfl ?_)))
 refine sP (pA rfl) rfl rfl (sP (pA rfl) rfl rfl (sD (nS (tT (rS (rF3 (rC rfl (lBa rfl rfl)) (rT rfl) (rT rfl) ?_))))))
 (exact StpX.mk (by rw [if_neg (by omega)]; rfl) (tm0_r _))
 refine sP (pM rfl) rfl rfl (sP (pF0 rfl) rfl rfl (sL (lBs rfl rfl) rfl rfl ?_))
 refine sB (pure_neq rfl rfl) rfl rfl (fun h39 => ?_) (fun h39 => ?_)
 refine sP (pPf rfl rfl) rfl rfl (sD (nS (cT rfl ?_)))
 refine tS (tR (sP (pBd rfl rfl) rfl rfl (sS rfl rfl rfl rfl rfl rfl ?_)))
 refine sP (pA rfl) rfl rfl (sP (pA rfl) rfl rfl (sD (nS (tT (rS (rF3 (rC rfl (lBa rfl rfl)) (rT rfl) (rT rfl) ?_))))))
 (exact StpX.mk (by rw [if_neg (by omega)]; rfl) (tm0_r _))
 refine sP (pPf rfl rfl) rfl rfl (sD (nS (cF rfl ?_)))
 refine tK (nS (tS (tS (tR (sP (pM rfl) rfl rfl (sB (pE rfl rfl) rfl rfl (fun h66 => ?_) (fun h66 => ?_)))))))
 refine sD (nS (cT rfl ?_))
 refine tS (tR (sP (pF0 rfl) rfl rfl (sL (lBs rfl rfl) rfl rfl ?_)))
 refine sP (pF0 rfl) rfl rfl (sL (lBs rfl rfl) rfl rfl ?_)
 refine sP (pure_add rfl rfl (by omega) (by omega)) rfl rfl ?_
 refine sP (pure_rem rfl rfl (by omega)) rfl rfl ?_
 (rw [htm]; refine seq_val rfl (l2Num_fn _ _) rfl rfl ?_)
 refine sS rfl rfl rfl rfl rfl rfl ?_
 refine sP (pA rfl) rfl rfl (sP (pA rfl) rfl rfl (sD (nS (tT (rS (rF3 (rC rfl (lBa rfl rfl)) (rT rfl) (rT rfl) ?_))))))
 (exact StpX.mk (u := mNum (HMod.hMod (anum + bnum) 1000)) (by rw [if_pos ⟨by omega, by omega⟩, if_pos (by omega)]) (RTm.put (us := []) ⟨by decide, by decide⟩ hb ⟨by decide, by decide⟩ (ty0_r _) (ty0_r _) rfl (SlE.nil _ _) rfl))
 refine sD (nS (cF rfl ?_))
 refine tK (nS (tS (tR (sP (pF0 rfl) rfl rfl (sL (lBs rfl rfl) rfl rfl ?_)))))
 refine sP (pF0 rfl) rfl rfl (sL (lBs rfl rfl) rfl rfl ?_)
 (refine sB (pure_lss rfl rfl) rfl rfl (fun h99 => ?_) (fun h99 => ?_))
 (refine seq_imm rfl (l5Bool_fn _ _) rfl rfl (fun u G1 hle1 hh => ?_); obtain ⟨uc, rfl, hru⟩ := hh; have hul := hru.len; have huo := hru.one)
 refine sS rfl rfl rfl hul huo rfl ?_ (hu := by exact upd_all hul.symm)
 refine sP (pA rfl) rfl rfl (sP (pA rfl) rfl rfl (sD (nS (tT (rF3 (rC rfl (load_a rfl rfl (at_blk_all (by repeat first | exact mH | apply mT)) hul)) (rT rfl) (rT rfl) ?_)))))
 (exact StpX.mk (by rw [if_pos ⟨by omega, by omega⟩, if_neg (by omega)]; unfold mTru; rw [if_pos (by omega), if_pos rfl]) hru)
 (refine seq_imm rfl (l5Bool_fn _ _) rfl rfl (fun u G1 hle1 hh => ?_); obtain ⟨uc, rfl, hru⟩ := hh; have hul := hru.len; have huo := hru.one)
 refine sS rfl rfl rfl hul huo rfl ?_ (hu := by exact upd_all hul.symm)
 refine sP (pA rfl) rfl rfl (sP (pA rfl) rfl rfl (sD (nS (tT (rF3 (rC rfl (load_a rfl rfl (at_blk_all (by repeat first | exact mH | apply mT)) hul)) (rT rfl) (rT rfl) ?_)))))
 (exact StpX.mk (by rw [if_pos ⟨by omega, by omega⟩, if_neg (by omega)]; unfold mTru; rw [if_neg (by omega), if_neg (by decide)]) hru)
set_option maxHeartbeats 0 in
set_option maxRecDepth 100000 in
theorem l5Apply_fn (a b : Tm) (G : IM) (ca cb : List Value) (hca : cv a) (hbs : b.small) (hra : RTm G a ca) (hrb : RTm G b cb) : Fn Tryz.prog 221 [.agg ⟨ca⟩, .agg ⟨cb⟩] [] G (StpX (mRed 6 ty0 ty0 0 [a, b])) := by
 have hsma := cv_small a hca
 have hP := l5Proxy_fn a G _ hra
 obtain ⟨ak, anm, anum, ⟨atk, atks⟩, ⟨afk, afks⟩, alb, aks⟩ := a
 obtain ⟨hN, hkk⟩ := hca.node
 have hops := hN.ops
 have hbl := hN.lbB
 have htyA := hN.tyA
 have hfrA := hN.frA
 rw [tAr] at htyA hfrA
 have htyS := fun t (h : t ∈ atks) => (tArL_mem.1 htyA.2.2 t h).small
 have hfrS := fun t (h : t ∈ afks) => (tArL_mem.1 hfrA.2.2 t h).small
 have h14 : ak = 14 → aks.length = 1 := fun h => by rw [h] at hops; have : tmOps 14 = 1 := rfl; omega
 have h5 : ak = 5 → aks.length = 1 := fun h => by rw [h] at hops; have : tmOps 5 = 1 := rfl; omega
 obtain ⟨_, _, _, _, hksm⟩ := small_mk.1 hsma
 have hbL := hrb.len
 have hbO := hrb.one
 obtain ⟨apt, act, apf, acf, ap, ac, aes, rfl, hak, hanum, halb, haty, hafr, hasl, hakl⟩ := hra.open9
 obtain ⟨tes, htS, htL⟩ := haty.kids
 obtain ⟨fes, hfS, hfL⟩ := hafr.kids
 simp only [Ty.ks] at htS htL hfS hfL
 obtain ⟨y1, y2, y3, y4, y5, y6, y7, y8, y9, rfl⟩ := nine hbL
 have hR : mRed 6 ty0 ty0 0 [Tm.mk ak anm anum (.mk atk atks) (.mk afk afks) alb aks, b] = (if ak = 5 then (mSubst anm b (kd aks 0), 1, 0) else if (ak = 14 ∧ afk = atk ∧ (atk = 4 ∨ atk = 5)) ∧ atk = 4 then (mCst (mNod 6 [kd aks 0, mCst b (kt atks 0) (kt afks 0) (-alb)]) (kt afks 1) (kt atks 1) alb, 1, 0) else stuck) := by
  unfold mRed
  rw [if_pos rfl, show kd [Tm.mk ak anm anum (.mk atk atks) (.mk afk afks) alb aks, b] 0 = Tm.mk ak anm anum (.mk atk atks) (.mk afk afks) alb aks from rfl, prx_mk]
  simp only [decide_eq_true_eq]
  rfl
 rw [hR]
 replace hP : Fn Tryz.prog 89 _ [] G (Val (.bool (decide (ak = 14 ∧ afk = atk ∧ (atk = 4 ∨ atk = 5)))) G) := hP
 refine fn_enter Tryz.func221 rfl Tryz.ntmps221 Tryz.results221 rfl ?_
 intro w0
 refine tS (tR ?_)
 (refine seq_step (step_box_a rfl rfl) rfl ?_; rintro _ ⟨b3, rfl⟩)
 (refine seq_step (step_box_a rfl rfl) rfl ?_; rintro _ ⟨b4, rfl⟩)
 (refine seq_step (step_alloc rfl) rfl ?_; rintro _ ⟨b5, rfl⟩)
 refine sP (pA rfl) rfl rfl (sP (pA rfl) rfl rfl (sD (nS (tS (tS (tR ?_))))))
 refine sP (pF0 rfl) rfl rfl (sL (lBs rfl rfl) rfl rfl ?_)
 refine sB (pE rfl rfl) rfl rfl (fun h15 => ?_) (fun h15 => ?_)
 refine sD (nS (cT rfl ?_))
 refine tS ?_
 (have hq : ak = 5 := (by assumption); have hq1 := h5 hq; obtain ⟨bq, oq, e3, rfl, hl3, hat3, hre3, hgb3⟩ := hasl.kidTm hakl (i := 0) (by omega) (by omega); have hS := l2Subst_fn anm b _ hbs aks[0] G e3 (Tm.smallL_mem hksm _ (List.getElem_mem (by omega))) hre3 hrb; refine tri_draw mixed rfl ?_)
 refine any_load (i := 6) (l' := [ff,ff,ff,ff,ff,ff,tt,ff,ff,ff,ff]) rfl npI (load_a rfl rfl (at_blk_all (by repeat first | exact mH | apply mT)) rfl) rfl (by kernel_rfl) rfl rfl ?_
 refine aP 0 rfl (pF0 rfl) rfl rfl ?_
 refine aL 1 rfl (lBs rfl rfl) rfl rfl ?_
 refine aP 2 rfl (pIN (j := 0) rfl rfl rfl (by omega)) rfl rfl ?_
 refine aL 3 rfl (load_a rfl rfl (hat3 _) hl3) rfl rfl ?_
 refine aP 4 rfl (pF0 rfl) rfl rfl ?_
 refine aL 5 rfl (lBs rfl rfl) rfl rfl ?_
 refine aO (j := 7) (by kernel_rfl) ?_
 (refine one_imm (l' := [tt,tt,tt,tt,tt,tt,tt,tt,ff,ff,ff]) rfl rfl hS rfl rfl rfl (fun u G1 hle1 hh => ?_); obtain ⟨uc, rfl, hru⟩ := hh; have hwl := hru.len; have hwo := hru.one)
 refine aO (j := 8) (by kernel_rfl) ?_
 (refine oS rfl rfl rfl rfl hwl hwo rfl rfl ?_ (hu := by exact upd_all hwl.symm))
 refine aP 9 rfl (pA rfl) rfl rfl ?_
 refine aP 10 rfl (pA rfl) rfl rfl ?_
 refine aD (by kernel_rfl) ?_
 refine nS (tT (rS (rF3 (rC rfl (load_a rfl rfl (at_blk_all (by repeat first | exact mH | apply mT)) hwl)) (rT rfl) (rT rfl) ?_)))
 (exact StpX.mk (by rw [if_pos hq, kd_at (by omega)]) hru)
 refine sD (nS (cF rfl ?_))
 refine tK (nS (tS (tS (tR (sL (lBa rfl rfl) rfl rfl ?_)))))
 focus (by_cases hpx : (ak = 14 ∧ afk = atk ∧ (atk = 4 ∨ atk = 5)); rw [decide_eq_true hpx] at hP; rotate_left; rw [decide_eq_false hpx] at hP; rotate_left; all_goals (refine seq_val rfl hP rfl rfl ?_))
 refine sP (pNt rfl) rfl rfl (sP (pM rfl) rfl rfl (sP (pF0 rfl) rfl rfl (sP (pF rfl) rfl rfl (sL (lBs rfl rfl) rfl rfl ?_))))
 refine sB (pure_neq rfl rfl) rfl rfl (fun h55 => ?_) (fun h55 => ?_)
 refine sP (pPf rfl rfl) rfl rfl (sD (nS (cT rfl ?_)))
 refine tS (tR (sP (pBd rfl rfl) rfl rfl (sS rfl rfl rfl rfl rfl rfl ?_)))
 refine sP (pA rfl) rfl rfl (sP (pA rfl) rfl rfl (sD (nS (tT (rS (rF3 (rC rfl (lBa rfl rfl)) (rT rfl) (rT rfl) ?_))))))
 (exact StpX.mk (by rw [if_neg (by omega), if_neg (by omega)]; rfl) (tm0_r _))
 refine sP (pPf rfl rfl) rfl rfl (sD (nS (cF rfl ?_)))
 refine tK (nS (tS ?_))
 (have hnd : ¬ak = 5 := (by omega); have hq : (ak = 14 ∧ afk = atk ∧ (atk = 4 ∨ atk = 5)) ∧ atk = 4 := ⟨hpx, by omega⟩; have hq1 := h14 hq.1.1; have hq2 := htyA.1 (by omega); have hq3 := hfrA.1 (by omega); obtain ⟨bq, oq, e3, rfl, hl3, hat3, hre3, hgb3⟩ := hasl.kidTm hakl (i := 0) (by omega) (by omega); have ho3 := hre3.one; obtain ⟨b5, o5, q5, d5, rfl, hat5, hre5, hgb5⟩ := htS.kidTy htL (i := 0) (by omega) (by omega); obtain ⟨_, _, q6, d6, hp6, hat6, hre6, hgb6⟩ := htS.kidTy htL (i := 1) (by omega) (by omega); cases hp6; obtain ⟨b7, o7, q7, d7, rfl, hat7, hre7, hgb7⟩ := hfS.kidTy hfL (i := 0) (by omega) (by omega); obtain ⟨_, _, q8, d8, hp8, hat8, hre8, hgb8⟩ := hfS.kidTy hfL (i := 1) (by omega) (by omega); cases hp8; obtain ⟨x1, x2, x3, x4, x5, x6, x7, x8, x9, rfl⟩ := nine hl3; refine tri_draw mixed rfl ?_)
 refine any_load (i := 0) (l' := [tt,ff,ff,ff,ff,ff,ff,ff,ff,ff,ff,ff,ff,ff,ff,ff,ff]) rfl npI (load_a rfl rfl (at_blk_all (by repeat first | exact mH | apply mT)) rfl) rfl (by kernel_rfl) rfl rfl ?_
 refine aP 1 rfl (pF0 rfl) rfl rfl ?_
 refine aP 2 rfl (pF rfl) rfl rfl ?_
 refine aL 3 rfl (lBs rfl rfl) rfl rfl ?_
 refine aP 4 rfl (pIN (j := 0) rfl rfl rfl (by omega)) rfl rfl ?_
 refine aL 5 rfl (load_a rfl rfl (hat5 _) rfl) rfl rfl ?_
 refine aP 6 rfl (pF0 rfl) rfl rfl ?_
 refine aP 7 rfl (pF rfl) rfl rfl ?_
 refine aL 8 rfl (lBs rfl rfl) rfl rfl ?_
 refine aP 9 rfl (pIN (j := 0) rfl rfl rfl (by omega)) rfl rfl ?_
 refine aL 10 rfl (load_a rfl rfl (hat7 _) rfl) rfl rfl ?_
 refine aP 11 rfl (pF0 rfl) rfl rfl ?_
 refine aL 12 rfl (lBs rfl rfl) rfl rfl ?_
 refine aP 13 rfl (pure_neg rfl (by omega) (by omega)) rfl rfl ?_
 refine any_two (j := 14) (j' := 15) (by kernel_rfl) ?_ ?_
 (have hcO := hnd; refine one_imm (l' := [tt,tt,tt,tt,tt,tt,tt,tt,tt,tt,tt,tt,tt,tt,tt,ff,ff]) rfl rfl (l5Cast_fn b atks[0] afks[0] (-alb) G _ _ _ ⟨by omega, by omega⟩ hrb hre5 hre7 (htyS _ (List.getElem_mem (by omega))) (hfrS _ (List.getElem_mem (by omega)))) rfl rfl rfl (fun u G1 hle1 hh => ?_); obtain ⟨uc, rfl, hru⟩ := hh; have hul := hru.len; have huo := hru.one; obtain ⟨z1, z2, z3, z4, z5, z6, z7, z8, z9, rfl⟩ := nine hul; replace hre3 := hre3.mono hle1; replace hre6 := hre6.mono hle1; replace hre8 := hre8.mono hle1)
 refine aO (j := 15) (by kernel_rfl) ?_
 (refine one_step0 (l' := [tt,tt,tt,tt,tt,tt,tt,tt,tt,tt,tt,tt,tt,tt,tt,tt,ff]) rfl (step_alloc rfl) rfl rfl ?_; rintro _ ⟨b97, rfl⟩)
 refine aO (j := 16) (by kernel_rfl) ?_
 (refine oS rfl rfl rfl rfl rfl huo rfl rfl ?_ (hu := by exact upd_all rfl))
 refine aD (by kernel_rfl) ?_
 refine nS (tS (tri_draw mixed rfl ?_))
 refine any_load (i := 4) (l' := [ff,ff,ff,ff,tt,ff,ff,ff,ff]) rfl npI (load_a rfl rfl (at_blk_all (by repeat first | exact mH | apply mT)) rfl) rfl (by kernel_rfl) rfl rfl ?_
 refine aP 0 rfl (pF0 rfl) rfl rfl ?_
 refine aL 1 rfl (lBs rfl rfl) rfl rfl ?_
 refine aP 2 rfl (pIN (j := 0) rfl rfl rfl (by omega)) rfl rfl ?_
 refine aL 3 rfl (load_a rfl rfl (At.mono' hle1 (hat3 _)) rfl) rfl rfl ?_
 refine any_two (j := 5) (j' := 7) (by kernel_rfl) ?_ ?_
 (refine one_step0 (l' := [tt,tt,tt,tt,tt,tt,ff,ff,ff]) rfl (step_buildSlice rfl rfl rfl (by omega) (by unfold maxLen; omega) rfl) rfl rfl ?_; rintro _ ⟨b110, rfl⟩)
 refine any_two (j := 6) (j' := 7) (by kernel_rfl) ?_ ?_
 (refine one_freeze (cs := [x1, x2, x3, x4, x5, x6, x7, x8, x9, z1, z2, z3, z4, z5, z6, z7, z8, z9]) (by repeat (first | exact Pk.here | apply Pk.there)) (fun G2 hle2 hsl2 hno2 => ?_); have hrN := rtm_nod (k := 6) (ks := [aks[0], mCst b atks[0] afks[0] (-alb)]) (es := [[x1, x2, x3, x4, x5, x6, x7, x8, x9], [z1, z2, z3, z4, z5, z6, z7, z8, z9]]) ⟨by decide, by decide⟩ rfl (SlE.of hsl2 rfl (by simp) (by intro x hx; rcases List.mem_cons.1 hx with rfl | hx; exact ho3; obtain rfl := List.mem_singleton.1 hx; exact huo)) (by simp only [RTmL]; exact ⟨_, _, rfl, hre3.mono hle2, _, _, rfl, hru.mono hle2, rfl⟩); replace hre6 := hre6.mono hle2; replace hre8 := hre8.mono hle2; refine one_val (l' := [tt,tt,tt,tt,tt,tt,tt,ff,ff]) rfl rfl (l2Node_fn _ _ _ _ _) rfl rfl rfl ?_)
 refine aO (j := 7) (by kernel_rfl) ?_
 (refine one_step0 (l' := [tt,tt,tt,tt,tt,tt,tt,tt,ff]) rfl (step_alloc rfl) rfl rfl ?_; rintro _ ⟨b114, rfl⟩)
 refine aO (j := 8) (by kernel_rfl) ?_
 refine oT rfl rfl rfl rfl rfl rfl rfl ?_
 refine aD (by kernel_rfl) ?_
 refine nS (tS (tri_draw mixed rfl ?_))
 refine any_load (i := 0) (l' := [tt,ff,ff,ff,ff,ff,ff,ff,ff,ff,ff,ff,ff,ff,ff,ff,ff]) rfl npI (load_a rfl rfl (at_blk_all (by repeat first | exact mH | apply mT)) rfl) rfl (by kernel_rfl) rfl rfl ?_
 refine aP 1 rfl (pF0 rfl) rfl rfl ?_
 refine aP 2 rfl (pF rfl) rfl rfl ?_
 refine aL 3 rfl (lBs rfl rfl) rfl rfl ?_
 refine aP 4 rfl (pIN (j := 1) rfl rfl rfl (by omega)) rfl rfl ?_
 refine aL 5 rfl (load_a rfl rfl (At.mono' (hle1.trans hle2) (hat8 _)) rfl) rfl rfl ?_
 refine aP 6 rfl (pF0 rfl) rfl rfl ?_
 refine aP 7 rfl (pF rfl) rfl rfl ?_
 refine aL 8 rfl (lBs rfl rfl) rfl rfl ?_
 refine aP 9 rfl (pIN (j := 1) rfl rfl rfl (by omega)) rfl rfl ?_
 refine aL 10 rfl (load_a rfl rfl (At.mono' (hle1.trans hle2) (hat6 _)) rfl) rfl rfl ?_
 refine aP 11 rfl (pF0 rfl) rfl rfl ?_
 refine aL 12 rfl (lBs rfl rfl) rfl rfl ?_
 refine aO (j := 13) (by kernel_rfl) ?_
 (refine one_imm (l' := [tt,tt,tt,tt,tt,tt,tt,tt,tt,tt,tt,tt,tt,tt,ff,ff,ff]) rfl rfl (l5Cast_fn _ afks[1] atks[1] alb G2 _ _ _ ⟨by omega, by omega⟩ hrN hre8 hre6 (hfrS _ (List.getElem_mem (by omega))) (htyS _ (List.getElem_mem (by omega)))) rfl rfl rfl (fun u G3 hle3 hh => ?_); obtain ⟨wc, rfl, hrw⟩ := hh; have hwl := hrw.len; have hwo := hrw.one)
 refine aO (j := 14) (by kernel_rfl) ?_
 (refine oS rfl rfl rfl rfl hwl hwo rfl rfl ?_ (hu := by exact upd_all hwl.symm))
 refine aP 15 rfl (pA rfl) rfl rfl ?_
 refine aP 16 rfl (pA rfl) rfl rfl ?_
 refine aD (by kernel_rfl) ?_
 refine nS (tT (rF3 (rC rfl (load_a rfl rfl (at_blk_all (by repeat first | exact mH | apply mT)) hwl)) (rT rfl) (rT rfl) ?_))
 (exact StpX.mk (by rw [if_neg hnd, if_pos hq, kd_at (by omega), kt_at (by omega), kt_at (by omega), kt_at (by omega), kt_at (by omega)]) hrw)
 (refine one_step0 (l' := [tt,tt,tt,tt,tt,tt,ff,tt,ff]) rfl (step_alloc rfl) rfl rfl ?_; rintro _ ⟨b145, rfl⟩)
 refine aO (j := 6) (by kernel_rfl) ?_
 (refine one_freeze (cs := [x1, x2, x3, x4, x5, x6, x7, x8, x9, z1, z2, z3, z4, z5, z6, z7, z8, z9]) (by repeat (first | exact Pk.here | apply Pk.there)) (fun G2 hle2 hsl2 hno2 => ?_); have hrN := rtm_nod (k := 6) (ks := [aks[0], mCst b atks[0] afks[0] (-alb)]) (es := [[x1, x2, x3, x4, x5, x6, x7, x8, x9], [z1, z2, z3, z4, z5, z6, z7, z8, z9]]) ⟨by decide, by decide⟩ rfl (SlE.of hsl2 rfl (by simp) (by intro x hx; rcases List.mem_cons.1 hx with rfl | hx; exact ho3; obtain rfl := List.mem_singleton.1 hx; exact huo)) (by simp only [RTmL]; exact ⟨_, _, rfl, hre3.mono hle2, _, _, rfl, hru.mono hle2, rfl⟩); replace hre6 := hre6.mono hle2; replace hre8 := hre8.mono hle2; refine one_val (l' := [tt,tt,tt,tt,tt,tt,tt,tt,ff]) rfl rfl (l2Node_fn _ _ _ _ _) rfl rfl rfl ?_)
 refine aO (j := 8) (by kernel_rfl) ?_
 refine oT rfl rfl rfl rfl rfl rfl rfl ?_
 refine aD (by kernel_rfl) ?_
 refine nS (tS (tri_draw mixed rfl ?_))
 refine any_load (i := 0) (l' := [tt,ff,ff,ff,ff,ff,ff,ff,ff,ff,ff,ff,ff,ff,ff,ff,ff]) rfl npI (load_a rfl rfl (at_blk_all (by repeat first | exact mH | apply mT)) rfl) rfl (by kernel_rfl) rfl rfl ?_
 refine aP 1 rfl (pF0 rfl) rfl rfl ?_
 refine aP 2 rfl (pF rfl) rfl rfl ?_
 refine aL 3 rfl (lBs rfl rfl) rfl rfl ?_
 refine aP 4 rfl (pIN (j := 1) rfl rfl rfl (by omega)) rfl rfl ?_
 refine aL 5 rfl (load_a rfl rfl (At.mono' (hle1.trans hle2) (hat8 _)) rfl) rfl rfl ?_
 refine aP 6 rfl (pF0 rfl) rfl rfl ?_
 refine aP 7 rfl (pF rfl) rfl rfl ?_
 refine aL 8 rfl (lBs rfl rfl) rfl rfl ?_
 refine aP 9 rfl (pIN (j := 1) rfl rfl rfl (by omega)) rfl rfl ?_
 refine aL 10 rfl (load_a rfl rfl (At.mono' (hle1.trans hle2) (hat6 _)) rfl) rfl rfl ?_
 refine aP 11 rfl (pF0 rfl) rfl rfl ?_
 refine aL 12 rfl (lBs rfl rfl) rfl rfl ?_
 refine aO (j := 13) (by kernel_rfl) ?_
 (refine one_imm (l' := [tt,tt,tt,tt,tt,tt,tt,tt,tt,tt,tt,tt,tt,tt,ff,ff,ff]) rfl rfl (l5Cast_fn _ afks[1] atks[1] alb G2 _ _ _ ⟨by omega, by omega⟩ hrN hre8 hre6 (hfrS _ (List.getElem_mem (by omega))) (htyS _ (List.getElem_mem (by omega)))) rfl rfl rfl (fun u G3 hle3 hh => ?_); obtain ⟨wc, rfl, hrw⟩ := hh; have hwl := hrw.len; have hwo := hrw.one)
 refine aO (j := 14) (by kernel_rfl) ?_
 (refine oS rfl rfl rfl rfl hwl hwo rfl rfl ?_ (hu := by exact upd_all hwl.symm))
 refine aP 15 rfl (pA rfl) rfl rfl ?_
 refine aP 16 rfl (pA rfl) rfl rfl ?_
 refine aD (by kernel_rfl) ?_
 refine nS (tT (rF3 (rC rfl (load_a rfl rfl (at_blk_all (by repeat first | exact mH | apply mT)) hwl)) (rT rfl) (rT rfl) ?_))
 (exact StpX.mk (by rw [if_neg hnd, if_pos hq, kd_at (by omega), kt_at (by omega), kt_at (by omega), kt_at (by omega), kt_at (by omega)]) hrw)
 (refine one_step0 (l' := [tt,tt,tt,tt,tt,ff,ff,tt,ff]) rfl (step_alloc rfl) rfl rfl ?_; rintro _ ⟨b178, rfl⟩)
 refine aO (j := 5) (by kernel_rfl) ?_
 (refine one_step0 (l' := [tt,tt,tt,tt,tt,tt,ff,tt,ff]) rfl (step_buildSlice rfl rfl rfl (by omega) (by unfold maxLen; omega) rfl) rfl rfl ?_; rintro _ ⟨b180, rfl⟩)
 refine aO (j := 6) (by kernel_rfl) ?_
 (refine one_freeze (cs := [x1, x2, x3, x4, x5, x6, x7, x8, x9, z1, z2, z3, z4, z5, z6, z7, z8, z9]) (by repeat (first | exact Pk.here | apply Pk.there)) (fun G2 hle2 hsl2 hno2 => ?_); have hrN := rtm_nod (k := 6) (ks := [aks[0], mCst b atks[0] afks[0] (-alb)]) (es := [[x1, x2, x3, x4, x5, x6, x7, x8, x9], [z1, z2, z3, z4, z5, z6, z7, z8, z9]]) ⟨by decide, by decide⟩ rfl (SlE.of hsl2 rfl (by simp) (by intro x hx; rcases List.mem_cons.1 hx with rfl | hx; exact ho3; obtain rfl := List.mem_singleton.1 hx; exact huo)) (by simp only [RTmL]; exact ⟨_, _, rfl, hre3.mono hle2, _, _, rfl, hru.mono hle2, rfl⟩); replace hre6 := hre6.mono hle2; replace hre8 := hre8.mono hle2; refine one_val (l' := [tt,tt,tt,tt,tt,tt,tt,tt,ff]) rfl rfl (l2Node_fn _ _ _ _ _) rfl rfl rfl ?_)
 refine aO (j := 8) (by kernel_rfl) ?_
 refine oT rfl rfl rfl rfl rfl rfl rfl ?_
 refine aD (by kernel_rfl) ?_
 refine nS (tS (tri_draw mixed rfl ?_))
 refine any_load (i := 0) (l' := [tt,ff,ff,ff,ff,ff,ff,ff,ff,ff,ff,ff,ff,ff,ff,ff,ff]) rfl npI (load_a rfl rfl (at_blk_all (by repeat first | exact mH | apply mT)) rfl) rfl (by kernel_rfl) rfl rfl ?_
 refine aP 1 rfl (pF0 rfl) rfl rfl ?_
 refine aP 2 rfl (pF rfl) rfl rfl ?_
 refine aL 3 rfl (lBs rfl rfl) rfl rfl ?_
 refine aP 4 rfl (pIN (j := 1) rfl rfl rfl (by omega)) rfl rfl ?_
 refine aL 5 rfl (load_a rfl rfl (At.mono' (hle1.trans hle2) (hat8 _)) rfl) rfl rfl ?_
 refine aP 6 rfl (pF0 rfl) rfl rfl ?_
 refine aP 7 rfl (pF rfl) rfl rfl ?_
 refine aL 8 rfl (lBs rfl rfl) rfl rfl ?_
 refine aP 9 rfl (pIN (j := 1) rfl rfl rfl (by omega)) rfl rfl ?_
 refine aL 10 rfl (load_a rfl rfl (At.mono' (hle1.trans hle2) (hat6 _)) rfl) rfl rfl ?_
 refine aP 11 rfl (pF0 rfl) rfl rfl ?_
 refine aL 12 rfl (lBs rfl rfl) rfl rfl ?_
 refine aO (j := 13) (by kernel_rfl) ?_
 (refine one_imm (l' := [tt,tt,tt,tt,tt,tt,tt,tt,tt,tt,tt,tt,tt,tt,ff,ff,ff]) rfl rfl (l5Cast_fn _ afks[1] atks[1] alb G2 _ _ _ ⟨by omega, by omega⟩ hrN hre8 hre6 (hfrS _ (List.getElem_mem (by omega))) (htyS _ (List.getElem_mem (by omega)))) rfl rfl rfl (fun u G3 hle3 hh => ?_); obtain ⟨wc, rfl, hrw⟩ := hh; have hwl := hrw.len; have hwo := hrw.one)
 refine aO (j := 14) (by kernel_rfl) ?_
 (refine oS rfl rfl rfl rfl hwl hwo rfl rfl ?_ (hu := by exact upd_all hwl.symm))
 refine aP 15 rfl (pA rfl) rfl rfl ?_
 refine aP 16 rfl (pA rfl) rfl rfl ?_
 refine aD (by kernel_rfl) ?_
 refine nS (tT (rF3 (rC rfl (load_a rfl rfl (at_blk_all (by repeat first | exact mH | apply mT)) hwl)) (rT rfl) (rT rfl) ?_))
 (exact StpX.mk (by rw [if_neg hnd, if_pos hq, kd_at (by omega), kt_at (by omega), kt_at (by omega), kt_at (by omega), kt_at (by omega)]) hrw)
 (refine one_step0 (l' := [tt,tt,tt,tt,tt,tt,tt,tt,tt,tt,tt,tt,tt,tt,ff,tt,ff]) rfl (step_alloc rfl) rfl rfl ?_; rintro _ ⟨b213, rfl⟩)
 refine aO (j := 14) (by kernel_rfl) ?_
 (have hcO := hnd; refine one_imm (l' := [tt,tt,tt,tt,tt,tt,tt,tt,tt,tt,tt,tt,tt,tt,tt,tt,ff]) rfl rfl (l5Cast_fn b atks[0] afks[0] (-alb) G _ _ _ ⟨by omega, by omega⟩ hrb hre5 hre7 (htyS _ (List.getElem_mem (by omega))) (hfrS _ (List.getElem_mem (by omega)))) rfl rfl rfl (fun u G1 hle1 hh => ?_); obtain ⟨uc, rfl, hru⟩ := hh; have hul := hru.len; have huo := hru.one; obtain ⟨z1, z2, z3, z4, z5, z6, z7, z8, z9, rfl⟩ := nine hul; replace hre3 := hre3.mono hle1; replace hre6 := hre6.mono hle1; replace hre8 := hre8.mono hle1)
 refine aO (j := 16) (by kernel_rfl) ?_
 (refine oS rfl rfl rfl rfl rfl huo rfl rfl ?_ (hu := by exact upd_all rfl))
 refine aD (by kernel_rfl) ?_
 refine nS (tS (tri_draw mixed rfl ?_))
 refine any_load (i := 4) (l' := [ff,ff,ff,ff,tt,ff,ff,ff,ff]) rfl npI (load_a rfl rfl (at_blk_all (by repeat first | exact mH | apply mT)) rfl) rfl (by kernel_rfl) rfl rfl ?_
 refine aP 0 rfl (pF0 rfl) rfl rfl ?_
 refine aL 1 rfl (lBs rfl rfl) rfl rfl ?_
 refine aP 2 rfl (pIN (j := 0) rfl rfl rfl (by omega)) rfl rfl ?_
 refine aL 3 rfl (load_a rfl rfl (At.mono' hle1 (hat3 _)) rfl) rfl rfl ?_
 refine any_two (j := 5) (j' := 7) (by kernel_rfl) ?_ ?_
 (refine one_step0 (l' := [tt,tt,tt,tt,tt,tt,ff,ff,ff]) rfl (step_buildSlice rfl rfl rfl (by omega) (by unfold maxLen; omega) rfl) rfl rfl ?_; rintro _ ⟨b228, rfl⟩)
 refine any_two (j := 6) (j' := 7) (by kernel_rfl) ?_ ?_
 (refine one_freeze (cs := [x1, x2, x3, x4, x5, x6, x7, x8, x9, z1, z2, z3, z4, z5, z6, z7, z8, z9]) (by repeat (first | exact Pk.here | apply Pk.there)) (fun G2 hle2 hsl2 hno2 => ?_); have hrN := rtm_nod (k := 6) (ks := [aks[0], mCst b atks[0] afks[0] (-alb)]) (es := [[x1, x2, x3, x4, x5, x6, x7, x8, x9], [z1, z2, z3, z4, z5, z6, z7, z8, z9]]) ⟨by decide, by decide⟩ rfl (SlE.of hsl2 rfl (by simp) (by intro x hx; rcases List.mem_cons.1 hx with rfl | hx; exact ho3; obtain rfl := List.mem_singleton.1 hx; exact huo)) (by simp only [RTmL]; exact ⟨_, _, rfl, hre3.mono hle2, _, _, rfl, hru.mono hle2, rfl⟩); replace hre6 := hre6.mono hle2; replace hre8 := hre8.mono hle2; refine one_val (l' := [tt,tt,tt,tt,tt,tt,tt,ff,ff]) rfl rfl (l2Node_fn _ _ _ _ _) rfl rfl rfl ?_)
 refine aO (j := 7) (by kernel_rfl) ?_
 (refine one_step0 (l' := [tt,tt,tt,tt,tt,tt,tt,tt,ff]) rfl (step_alloc rfl) rfl rfl ?_; rintro _ ⟨b232, rfl⟩)
 refine aO (j := 8) (by kernel_rfl) ?_
 refine oT rfl rfl rfl rfl rfl rfl rfl ?_
 refine aD (by kernel_rfl) ?_
 refine nS (tS (tri_draw mixed rfl ?_))
 refine any_load (i := 0) (l' := [tt,ff,ff,ff,ff,ff,ff,ff,ff,ff,ff,ff,ff,ff,ff,ff,ff]) rfl npI (load_a rfl rfl (at_blk_all (by repeat first | exact mH | apply mT)) rfl) rfl (by kernel_rfl) rfl rfl ?_
 refine aP 1 rfl (pF0 rfl) rfl rfl ?_
 refine aP 2 rfl (pF rfl) rfl rfl ?_
 refine aL 3 rfl (lBs rfl rfl) rfl rfl ?_
 refine aP 4 rfl (pIN (j := 1) rfl rfl rfl (by omega)) rfl rfl ?_
 refine aL 5 rfl (load_a rfl rfl (At.mono' (hle1.trans hle2) (hat8 _)) rfl) rfl rfl ?_
 refine aP 6 rfl (pF0 rfl) rfl rfl ?_
 refine aP 7 rfl (pF rfl) rfl rfl ?_
 refine aL 8 rfl (lBs rfl rfl) rfl rfl ?_
 refine aP 9 rfl (pIN (j := 1) rfl rfl rfl (by omega)) rfl rfl ?_
 refine aL 10 rfl (load_a rfl rfl (At.mono' (hle1.trans hle2) (hat6 _)) rfl) rfl rfl ?_
 refine aP 11 rfl (pF0 rfl) rfl rfl ?_
 refine aL 12 rfl (lBs rfl rfl) rfl rfl ?_
 refine aO (j := 13) (by kernel_rfl) ?_
 (refine one_imm (l' := [tt,tt,tt,tt,tt,tt,tt,tt,tt,tt,tt,tt,tt,tt,ff,ff,ff]) rfl rfl (l5Cast_fn _ afks[1] atks[1] alb G2 _ _ _ ⟨by omega, by omega⟩ hrN hre8 hre6 (hfrS _ (List.getElem_mem (by omega))) (htyS _ (List.getElem_mem (by omega)))) rfl rfl rfl (fun u G3 hle3 hh => ?_); obtain ⟨wc, rfl, hrw⟩ := hh; have hwl := hrw.len; have hwo := hrw.one)
 refine aO (j := 14) (by kernel_rfl) ?_
 (refine oS rfl rfl rfl rfl hwl hwo rfl rfl ?_ (hu := by exact upd_all hwl.symm))
 refine aP 15 rfl (pA rfl) rfl rfl ?_
 refine aP 16 rfl (pA rfl) rfl rfl ?_
 refine aD (by kernel_rfl) ?_
 refine nS (tT (rF3 (rC rfl (load_a rfl rfl (at_blk_all (by repeat first | exact mH | apply mT)) hwl)) (rT rfl) (rT rfl) ?_))
 (exact StpX.mk (by rw [if_neg hnd, if_pos hq, kd_at (by omega), kt_at (by omega), kt_at (by omega), kt_at (by omega), kt_at (by omega)]) hrw)
 (refine one_step0 (l' := [tt,tt,tt,tt,tt,tt,ff,tt,ff]) rfl (step_alloc rfl) rfl rfl ?_; rintro _ ⟨b263, rfl⟩)
 refine aO (j := 6) (by kernel_rfl) ?_
 (refine one_freeze (cs := [x1, x2, x3, x4, x5, x6, x7, x8, x9, z1, z2, z3, z4, z5, z6, z7, z8, z9]) (by repeat (first | exact Pk.here | apply Pk.there)) (fun G2 hle2 hsl2 hno2 => ?_); have hrN := rtm_nod (k := 6) (ks := [aks[0], mCst b atks[0] afks[0] (-alb)]) (es := [[x1, x2, x3, x4, x5, x6, x7, x8, x9], [z1, z2, z3, z4, z5, z6, z7, z8, z9]]) ⟨by decide, by decide⟩ rfl (SlE.of hsl2 rfl (by simp) (by intro x hx; rcases List.mem_cons.1 hx with rfl | hx; exact ho3; obtain rfl := List.mem_singleton.1 hx; exact huo)) (by simp only [RTmL]; exact ⟨_, _, rfl, hre3.mono hle2, _, _, rfl, hru.mono hle2, rfl⟩); replace hre6 := hre6.mono hle2; replace hre8 := hre8.mono hle2; refine one_val (l' := [tt,tt,tt,tt,tt,tt,tt,tt,ff]) rfl rfl (l2Node_fn _ _ _ _ _) rfl rfl rfl ?_)
 refine aO (j := 8) (by kernel_rfl) ?_
 refine oT rfl rfl rfl rfl rfl rfl rfl ?_
 refine aD (by kernel_rfl) ?_
 refine nS (tS (tri_draw mixed rfl ?_))
 refine any_load (i := 0) (l' := [tt,ff,ff,ff,ff,ff,ff,ff,ff,ff,ff,ff,ff,ff,ff,ff,ff]) rfl npI (load_a rfl rfl (at_blk_all (by repeat first | exact mH | apply mT)) rfl) rfl (by kernel_rfl) rfl rfl ?_
 refine aP 1 rfl (pF0 rfl) rfl rfl ?_
 refine aP 2 rfl (pF rfl) rfl rfl ?_
 refine aL 3 rfl (lBs rfl rfl) rfl rfl ?_
 refine aP 4 rfl (pIN (j := 1) rfl rfl rfl (by omega)) rfl rfl ?_
 refine aL 5 rfl (load_a rfl rfl (At.mono' (hle1.trans hle2) (hat8 _)) rfl) rfl rfl ?_
 refine aP 6 rfl (pF0 rfl) rfl rfl ?_
 refine aP 7 rfl (pF rfl) rfl rfl ?_
 refine aL 8 rfl (lBs rfl rfl) rfl rfl ?_
 refine aP 9 rfl (pIN (j := 1) rfl rfl rfl (by omega)) rfl rfl ?_
 refine aL 10 rfl (load_a rfl rfl (At.mono' (hle1.trans hle2) (hat6 _)) rfl) rfl rfl ?_
 refine aP 11 rfl (pF0 rfl) rfl rfl ?_
 refine aL 12 rfl (lBs rfl rfl) rfl rfl ?_
 refine aO (j := 13) (by kernel_rfl) ?_
 (refine one_imm (l' := [tt,tt,tt,tt,tt,tt,tt,tt,tt,tt,tt,tt,tt,tt,ff,ff,ff]) rfl rfl (l5Cast_fn _ afks[1] atks[1] alb G2 _ _ _ ⟨by omega, by omega⟩ hrN hre8 hre6 (hfrS _ (List.getElem_mem (by omega))) (htyS _ (List.getElem_mem (by omega)))) rfl rfl rfl (fun u G3 hle3 hh => ?_); obtain ⟨wc, rfl, hrw⟩ := hh; have hwl := hrw.len; have hwo := hrw.one)
 refine aO (j := 14) (by kernel_rfl) ?_
 (refine oS rfl rfl rfl rfl hwl hwo rfl rfl ?_ (hu := by exact upd_all hwl.symm))
 refine aP 15 rfl (pA rfl) rfl rfl ?_
 refine aP 16 rfl (pA rfl) rfl rfl ?_
 refine aD (by kernel_rfl) ?_
 refine nS (tT (rF3 (rC rfl (load_a rfl rfl (at_blk_all (by repeat first | exact mH | apply mT)) hwl)) (rT rfl) (rT rfl) ?_))
 (exact StpX.mk (by rw [if_neg hnd, if_pos hq, kd_at (by omega), kt_at (by omega), kt_at (by omega), kt_at (by omega), kt_at (by omega)]) hrw)
 (refine one_step0 (l' := [tt,tt,tt,tt,tt,ff,ff,tt,ff]) rfl (step_alloc rfl) rfl rfl ?_; rintro _ ⟨b296, rfl⟩)
 refine aO (j := 5) (by kernel_rfl) ?_
 (refine one_step0 (l' := [tt,tt,tt,tt,tt,tt,ff,tt,ff]) rfl (step_buildSlice rfl rfl rfl (by omega) (by unfold maxLen; omega) rfl) rfl rfl ?_; rintro _ ⟨b298, rfl⟩)
 refine aO (j := 6) (by kernel_rfl) ?_
 (refine one_freeze (cs := [x1, x2, x3, x4, x5, x6, x7, x8, x9, z1, z2, z3, z4, z5, z6, z7, z8, z9]) (by repeat (first | exact Pk.here | apply Pk.there)) (fun G2 hle2 hsl2 hno2 => ?_); have hrN := rtm_nod (k := 6) (ks := [aks[0], mCst b atks[0] afks[0] (-alb)]) (es := [[x1, x2, x3, x4, x5, x6, x7, x8, x9], [z1, z2, z3, z4, z5, z6, z7, z8, z9]]) ⟨by decide, by decide⟩ rfl (SlE.of hsl2 rfl (by simp) (by intro x hx; rcases List.mem_cons.1 hx with rfl | hx; exact ho3; obtain rfl := List.mem_singleton.1 hx; exact huo)) (by simp only [RTmL]; exact ⟨_, _, rfl, hre3.mono hle2, _, _, rfl, hru.mono hle2, rfl⟩); replace hre6 := hre6.mono hle2; replace hre8 := hre8.mono hle2; refine one_val (l' := [tt,tt,tt,tt,tt,tt,tt,tt,ff]) rfl rfl (l2Node_fn _ _ _ _ _) rfl rfl rfl ?_)
 refine aO (j := 8) (by kernel_rfl) ?_
 refine oT rfl rfl rfl rfl rfl rfl rfl ?_
 refine aD (by kernel_rfl) ?_
 refine nS (tS (tri_draw mixed rfl ?_))
 refine any_load (i := 0) (l' := [tt,ff,ff,ff,ff,ff,ff,ff,ff,ff,ff,ff,ff,ff,ff,ff,ff]) rfl npI (load_a rfl rfl (at_blk_all (by repeat first | exact mH | apply mT)) rfl) rfl (by kernel_rfl) rfl rfl ?_
 refine aP 1 rfl (pF0 rfl) rfl rfl ?_
 refine aP 2 rfl (pF rfl) rfl rfl ?_
 refine aL 3 rfl (lBs rfl rfl) rfl rfl ?_
 refine aP 4 rfl (pIN (j := 1) rfl rfl rfl (by omega)) rfl rfl ?_
 refine aL 5 rfl (load_a rfl rfl (At.mono' (hle1.trans hle2) (hat8 _)) rfl) rfl rfl ?_
 refine aP 6 rfl (pF0 rfl) rfl rfl ?_
 refine aP 7 rfl (pF rfl) rfl rfl ?_
 refine aL 8 rfl (lBs rfl rfl) rfl rfl ?_
 refine aP 9 rfl (pIN (j := 1) rfl rfl rfl (by omega)) rfl rfl ?_
 refine aL 10 rfl (load_a rfl rfl (At.mono' (hle1.trans hle2) (hat6 _)) rfl) rfl rfl ?_
 refine aP 11 rfl (pF0 rfl) rfl rfl ?_
 refine aL 12 rfl (lBs rfl rfl) rfl rfl ?_
 refine aO (j := 13) (by kernel_rfl) ?_
 (refine one_imm (l' := [tt,tt,tt,tt,tt,tt,tt,tt,tt,tt,tt,tt,tt,tt,ff,ff,ff]) rfl rfl (l5Cast_fn _ afks[1] atks[1] alb G2 _ _ _ ⟨by omega, by omega⟩ hrN hre8 hre6 (hfrS _ (List.getElem_mem (by omega))) (htyS _ (List.getElem_mem (by omega)))) rfl rfl rfl (fun u G3 hle3 hh => ?_); obtain ⟨wc, rfl, hrw⟩ := hh; have hwl := hrw.len; have hwo := hrw.one)
 refine aO (j := 14) (by kernel_rfl) ?_
 (refine oS rfl rfl rfl rfl hwl hwo rfl rfl ?_ (hu := by exact upd_all hwl.symm))
 refine aP 15 rfl (pA rfl) rfl rfl ?_
 refine aP 16 rfl (pA rfl) rfl rfl ?_
 refine aD (by kernel_rfl) ?_
 refine nS (tT (rF3 (rC rfl (load_a rfl rfl (at_blk_all (by repeat first | exact mH | apply mT)) hwl)) (rT rfl) (rT rfl) ?_))
 (exact StpX.mk (by rw [if_neg hnd, if_pos hq, kd_at (by omega), kt_at (by omega), kt_at (by omega), kt_at (by omega), kt_at (by omega)]) hrw)
 refine sP (pNf rfl) rfl rfl (sP (pM rfl) rfl rfl (sK rfl rfl (sK rfl rfl (sK rfl rfl (sK rfl rfl (sP (pPt rfl rfl) rfl rfl ?_))))))
 refine sD (nS (cT rfl ?_))
 refine tS (tR (sP (pBd rfl rfl) rfl rfl (sS rfl rfl rfl rfl rfl rfl ?_)))
 refine sP (pA rfl) rfl rfl (sP (pA rfl) rfl rfl (sD (nS (tT (rS (rF3 (rC rfl (lBa rfl rfl)) (rT rfl) (rT rfl) ?_))))))
 (exact StpX.mk (by rw [if_neg (by omega), if_neg (by omega)]; rfl) (tm0_r _))
set_option maxHeartbeats 0 in
set_option maxRecDepth 100000 in
theorem l5Part_fn (k : Int) (a : Tm) (G : IM) (ca : List Value) (hk1 : k = 11 ∨ k = 12) (hca : cv a) (hra : RTm G a ca) : Fn Tryz.prog 223 [.int .i64 k, .agg ⟨ca⟩] [] G (StpX (mRed k ty0 ty0 0 [a])) := by
 have hP := l5Proxy_fn a G _ hra
 obtain ⟨ak, anm, anum, ⟨atk, atks⟩, ⟨afk, afks⟩, alb, aks⟩ := a
 obtain ⟨hN, hkk⟩ := hca.node
 have hops := hN.ops
 have hbl := hN.lbB
 have htyA := hN.tyA
 have hfrA := hN.frA
 rw [tAr] at htyA hfrA
 have htyS := fun t (h : t ∈ atks) => (tArL_mem.1 htyA.2.2 t h).small
 have hfrS := fun t (h : t ∈ afks) => (tArL_mem.1 hfrA.2.2 t h).small
 have h14 : ak = 14 → aks.length = 1 := fun h => by rw [h] at hops; have : tmOps 14 = 1 := rfl; omega
 have h10 : ak = 10 → aks.length = 2 := fun h => by rw [h] at hops; have : tmOps 10 = 2 := rfl; omega
 obtain ⟨apt, act, apf, acf, ap, ac, aes, rfl, hak, hanum, halb, haty, hafr, hasl, hakl⟩ := hra.open9
 obtain ⟨tes, htS, htL⟩ := haty.kids
 obtain ⟨fes, hfS, hfL⟩ := hafr.kids
 simp only [Ty.ks] at htS htL hfS hfL
 obtain ⟨i, hi⟩ : ∃ i : Nat, (k - 11).toNat = i := ⟨_, rfl⟩
 have hR : mRed k ty0 ty0 0 [Tm.mk ak anm anum (.mk atk atks) (.mk afk afks) alb aks] = (if ak = 10 then (kd aks i, 1, 0) else if (ak = 14 ∧ afk = atk ∧ (atk = 4 ∨ atk = 5)) ∧ atk = 5 then (mCst (mNod k [kd aks 0]) (kt afks i) (kt atks i) alb, 1, 0) else stuck) := by
  unfold mRed
  rw [if_neg (by omega), if_neg (by omega), if_neg (by omega), if_pos hk1, hi, show kd [Tm.mk ak anm anum (.mk atk atks) (.mk afk afks) alb aks] 0 = Tm.mk ak anm anum (.mk atk atks) (.mk afk afks) alb aks from rfl, prx_mk]
  simp only [decide_eq_true_eq]
  rfl
 rw [hR]
 replace hP : Fn Tryz.prog 89 _ [] G (Val (.bool (decide (ak = 14 ∧ afk = atk ∧ (atk = 4 ∨ atk = 5)))) G) := hP
 refine fn_enter Tryz.func223 rfl Tryz.ntmps223 Tryz.results223 rfl ?_
 intro w0
 refine tS (tR ?_)
 (refine seq_step (step_box_a rfl rfl) rfl ?_; rintro _ ⟨b3, rfl⟩)
 (refine seq_step (step_alloc rfl) rfl ?_; rintro _ ⟨b4, rfl⟩)
 refine sP (pA rfl) rfl rfl (sP (pA rfl) rfl rfl (sD (nS (tS (tR (sP (pM rfl) rfl rfl ?_))))))
 refine sP (pure_sub rfl rfl (by omega) (by omega)) rfl rfl ?_
 (rw [show (k - 11 : Int) = ((i : Nat) : Int) from (by omega)]; refine sP (pA rfl) rfl rfl ?_)
 refine sD (nS (tS (tS (tR (sP (pF0 rfl) rfl rfl (sL (lBs rfl rfl) rfl rfl ?_))))))
 refine sB (pE rfl rfl) rfl rfl (fun h21 => ?_) (fun h21 => ?_)
 refine sD (nS (cT rfl ?_))
 refine tS (tR (sP (pF0 rfl) rfl rfl (sL (lBs rfl rfl) rfl rfl ?_)))
 refine sP (pM rfl) rfl rfl ?_
 (have hq := h10 (by omega); obtain ⟨bq, oq, e3, rfl, hl3, hat3, hre3, hgb3⟩ := hasl.kidTm hakl (i := i) (by omega) (by omega); have ho3 := hre3.one; refine sP (pIN (j := i) rfl rfl rfl (by omega)) rfl rfl ?_)
 refine sL (load_a rfl rfl (hat3 _) hl3) rfl rfl ?_
 refine sS rfl rfl rfl hl3 ho3 rfl ?_ (hu := by exact upd_all hl3.symm)
 refine sP (pA rfl) rfl rfl (sP (pA rfl) rfl rfl (sD (nS (tT (rS (rF3 (rC rfl (load_a rfl rfl (at_blk_all (by repeat first | exact mH | apply mT)) hl3)) (rT rfl) (rT rfl) ?_))))))
 (exact StpX.mk (by rw [if_pos (by omega), kd_at (by omega)]) hre3)
 refine sD (nS (cF rfl ?_))
 refine tK (nS (tS (tS (tR (sL (lBa rfl rfl) rfl rfl ?_)))))
 focus (by_cases hpx : (ak = 14 ∧ afk = atk ∧ (atk = 4 ∨ atk = 5)); rw [decide_eq_true hpx] at hP; rotate_left; rw [decide_eq_false hpx] at hP; rotate_left; all_goals (refine seq_val rfl hP rfl rfl ?_))
 refine sP (pNt rfl) rfl rfl (sP (pM rfl) rfl rfl (sP (pF0 rfl) rfl rfl (sP (pF rfl) rfl rfl (sL (lBs rfl rfl) rfl rfl ?_))))
 refine sB (pure_neq rfl rfl) rfl rfl (fun h56 => ?_) (fun h56 => ?_)
 refine sP (pPf rfl rfl) rfl rfl (sD (nS (cT rfl ?_)))
 refine tS (tR (sP (pBd rfl rfl) rfl rfl (sS rfl rfl rfl rfl rfl rfl ?_)))
 refine sP (pA rfl) rfl rfl (sP (pA rfl) rfl rfl (sD (nS (tT (rS (rF3 (rC rfl (lBa rfl rfl)) (rT rfl) (rT rfl) ?_))))))
 (exact StpX.mk (by rw [if_neg (by omega), if_neg (by omega)]; rfl) (tm0_r _))
 refine sP (pPf rfl rfl) rfl rfl (sD (nS (cF rfl ?_)))
 refine tK (nS (tS ?_))
 (have hnd : ¬ak = 10 := (by omega); have hq : (ak = 14 ∧ afk = atk ∧ (atk = 4 ∨ atk = 5)) ∧ atk = 5 := ⟨hpx, by omega⟩; have hq1 := h14 hq.1.1; have hq2 := htyA.1 (by omega); have hq3 := hfrA.1 (by omega); obtain ⟨bq, oq, e3, rfl, hl3, hat3, hre3, hgb3⟩ := hasl.kidTm hakl (i := 0) (by omega) (by omega); have ho3 := hre3.one; obtain ⟨b5, o5, q5, d5, rfl, hat5, hre5, hgb5⟩ := htS.kidTy htL (i := i) (by omega) (by omega); obtain ⟨b7, o7, q7, d7, rfl, hat7, hre7, hgb7⟩ := hfS.kidTy hfL (i := i) (by omega) (by omega); obtain ⟨x1, x2, x3, x4, x5, x6, x7, x8, x9, rfl⟩ := nine hl3; refine tri_draw mixed rfl ?_)
 refine any_pure (i := 0) (l' := [tt,ff,ff,ff,ff,ff,ff,ff,ff,ff,ff,ff,ff,ff,ff,ff,ff,ff,ff,ff,ff,ff,ff,ff,ff]) rfl npI (pM rfl) rfl (by kernel_rfl) rfl rfl ?_
 refine aP 1 rfl (pF0 rfl) rfl rfl ?_
 refine aL 2 rfl (lBs rfl rfl) rfl rfl ?_
 refine aP 3 rfl (pIN (j := 0) rfl rfl rfl (by omega)) rfl rfl ?_
 refine aL 4 rfl (load_a rfl rfl (hat3 _) rfl) rfl rfl ?_
 refine aP 7 rfl (pF0 rfl) rfl rfl ?_
 refine aP 8 rfl (pF rfl) rfl rfl ?_
 refine aL 9 rfl (lBs rfl rfl) rfl rfl ?_
 refine aP 10 rfl (pM rfl) rfl rfl ?_
 refine aP 11 rfl (pIN (j := i) rfl rfl rfl (by omega)) rfl rfl ?_
 refine aL 12 rfl (load_a rfl rfl (hat7 _) rfl) rfl rfl ?_
 refine aP 13 rfl (pF0 rfl) rfl rfl ?_
 refine aP 14 rfl (pF rfl) rfl rfl ?_
 refine aL 15 rfl (lBs rfl rfl) rfl rfl ?_
 refine aP 16 rfl (pM rfl) rfl rfl ?_
 refine aP 17 rfl (pIN (j := i) rfl rfl rfl (by omega)) rfl rfl ?_
 refine aL 18 rfl (load_a rfl rfl (hat5 _) rfl) rfl rfl ?_
 refine aP 19 rfl (pF0 rfl) rfl rfl ?_
 refine aL 20 rfl (lBs rfl rfl) rfl rfl ?_
 refine aO (j := 5) (by kernel_rfl) ?_
 (refine one_step0 (l' := [tt,tt,tt,tt,tt,tt,ff,tt,tt,tt,tt,tt,tt,tt,tt,tt,tt,tt,tt,tt,tt,ff,ff,ff,ff]) rfl (step_buildSlice rfl rfl rfl (by omega) (by unfold maxLen; omega) rfl) rfl rfl ?_; rintro _ ⟨b101, rfl⟩)
 refine aO (j := 6) (by kernel_rfl) ?_
 (refine one_freeze (cs := [x1, x2, x3, x4, x5, x6, x7, x8, x9]) (by repeat (first | exact Pk.here | apply Pk.there)) (fun G2 hle2 hsl2 hno2 => ?_); have hrN := rtm_nod (k := k) (ks := [aks[0]]) (es := [[x1, x2, x3, x4, x5, x6, x7, x8, x9]]) ⟨by omega, by omega⟩ rfl (SlE.of hsl2 rfl (by simp) (by intro x hx; obtain rfl := List.mem_singleton.1 hx; exact ho3)) (by simp only [RTmL]; exact ⟨_, _, rfl, hre3.mono hle2, rfl⟩); replace hre5 := hre5.mono hle2; replace hre7 := hre7.mono hle2; refine one_val (l' := [tt,tt,tt,tt,tt,tt,tt,tt,tt,tt,tt,tt,tt,tt,tt,tt,tt,tt,tt,tt,tt,ff,ff,ff,ff]) rfl rfl (l2Node_fn _ _ _ _ _) rfl rfl rfl ?_)
 refine aO (j := 21) (by kernel_rfl) ?_
 (refine one_imm (l' := [tt,tt,tt,tt,tt,tt,tt,tt,tt,tt,tt,tt,tt,tt,tt,tt,tt,tt,tt,tt,tt,tt,ff,ff,ff]) rfl rfl (l5Cast_fn _ afks[i] atks[i] alb G2 _ _ _ ⟨by omega, by omega⟩ hrN hre7 hre5 (hfrS _ (List.getElem_mem (by omega))) (htyS _ (List.getElem_mem (by omega)))) rfl rfl rfl (fun u G3 hle3 hh => ?_); obtain ⟨wc, rfl, hrw⟩ := hh; have hwl := hrw.len; have hwo := hrw.one)
 refine aO (j := 22) (by kernel_rfl) ?_
 (refine oS rfl rfl rfl rfl hwl hwo rfl rfl ?_ (hu := by exact upd_all hwl.symm))
 refine aP 23 rfl (pA rfl) rfl rfl ?_
 refine aP 24 rfl (pA rfl) rfl rfl ?_
 refine aD (by kernel_rfl) ?_
 refine nS (tT (rF3 (rC rfl (load_a rfl rfl (at_blk_all (by repeat first | exact mH | apply mT)) hwl)) (rT rfl) (rT rfl) ?_))
 (exact StpX.mk (by rw [if_neg hnd, if_pos hq, kd_at (by omega), kt_at (by omega), kt_at (by omega)]) hrw)
 refine sP (pNf rfl) rfl rfl (sP (pM rfl) rfl rfl (sK rfl rfl (sK rfl rfl (sK rfl rfl (sK rfl rfl (sP (pPt rfl rfl) rfl rfl ?_))))))
 refine sD (nS (cT rfl ?_))
 refine tS (tR (sP (pBd rfl rfl) rfl rfl (sS rfl rfl rfl rfl rfl rfl ?_)))
 refine sP (pA rfl) rfl rfl (sP (pA rfl) rfl rfl (sD (nS (tT (rS (rF3 (rC rfl (lBa rfl rfl)) (rT rfl) (rT rfl) ?_))))))
 (exact StpX.mk (by rw [if_neg (by omega), if_neg (by omega)]; rfl) (tm0_r _))
set_option maxHeartbeats 0 in
set_option maxRecDepth 100000 in
theorem l5Convert_fn (a : Tm) (nm : ByteArray) (num : Int) (ty fr : Ty) (lb : Int) (G : IM) (cells : List Value) (hc : cv (.mk 14 nm num ty fr lb [a])) (hr : RTm G (.mk 14 nm num ty fr lb [a]) cells) : Fn Tryz.prog 224 [.agg ⟨cells⟩] [] G (StpX (mRed 14 ty fr lb [a])) := by
 obtain ⟨hNe, hkk0⟩ := hc.node
 have hca := hkk0 a (by simp)
 have hlb9 := hNe.lbB
 obtain ⟨hcons, htv, hfv⟩ := hNe.c14 rfl
 have hji := @inj_grd a
 have hjk := @inj_k a
 obtain ⟨ak, anm, anum, ⟨atk, atks⟩, ⟨afk, afks⟩, alb, aks⟩ := a
 obtain ⟨hN, hkk⟩ := hca.node
 have hops := hN.ops
 have h14 : ak = 14 → aks.length = 1 := fun h => by rw [h] at hops; have : tmOps 14 = 1 := rfl; omega
 obtain ⟨tk, tks⟩ := ty
 obtain ⟨fk, fks⟩ := fr
 rw [tCons_mk] at hcons
 simp only [Bool.or_eq_true, Bool.and_eq_true, decide_eq_true_eq] at hcons
 have hcc : fk ≠ tk → tk ≠ 1 → fk = 1 := fun h1 h2 => by rcases hcons with (h | h) | h; exact h; exact absurd h h2; exact absurd h.1 h1
 have hta := tValid_ar htv
 have hfa := tValid_ar hfv
 obtain ⟨pt, ct, pf, cf, p, c, es, rfl, hk, hnum, hlb, hty, hfr, hsl, hkl⟩ := hr.open9
 obtain ⟨bx, ox, e0, rfl, hl0, hat0, hre0, hgb0⟩ := hsl.kidTm hkl (i := 0) (by simp) (by simp)
 replace hre0 : RTm G (Tm.mk ak anm anum (.mk atk atks) (.mk afk afks) alb aks) e0 := hre0
 have hI := l5Inject_fn (Tm.mk ak anm anum (.mk atk atks) (.mk afk afks) alb aks) G _ hN.frA hre0
 have ho0 := hre0.one
 obtain ⟨apt, act, apf, acf, ap, ac, aes, rfl, hak, hanum, halb, haty, hafr, hasl, hakl⟩ := hre0.open9
 obtain ⟨J, hJ⟩ : ∃ J, inj (Tm.mk ak anm anum (.mk atk atks) (.mk afk afks) alb aks) = J := ⟨_, rfl⟩
 obtain ⟨D, hD⟩ : ∃ D, isGrd (.mk tk tks) = D := ⟨_, rfl⟩
 have hGr := l5Ground_fn (.mk tk tks) G _ hta hty
 rw [hD] at hGr
 rw [hJ] at hI hji hjk
 have hR : mRed 14 (.mk tk tks) (.mk fk fks) lb [Tm.mk ak anm anum (.mk atk atks) (.mk afk afks) alb aks] = (if fk = tk then (Tm.mk ak anm anum (.mk atk atks) (.mk afk afks) alb aks, 1, 0)
   else if tk = 1 then (mCst (mCst (Tm.mk ak anm anum (.mk atk atks) (.mk afk afks) alb aks) (.mk fk fks) (mGround (.mk fk fks)) lb) (mGround (.mk fk fks)) (.mk tk tks) lb, 1, 0)
   else if D = false then (mCst (mCst (Tm.mk ak anm anum (.mk atk atks) (.mk afk afks) alb aks) (.mk fk fks) (mGround (.mk tk tks)) lb) (mGround (.mk tk tks)) (.mk tk tks) lb, 1, 0)
   else if J = false then stuck
   else if afk = tk then (kd aks 0, 1, 0)
   else (tm0, 2, lb)) := by
  rw [← hJ, ← hD]; rfl
 rw [hR]
 refine fn_enter Tryz.func224 rfl Tryz.ntmps224 Tryz.results224 rfl ?_
 intro w0
 refine tS (tR ?_)
 (refine seq_step (step_box_a rfl rfl) rfl ?_; rintro _ ⟨b3, rfl⟩)
 (refine seq_step (step_alloc rfl) rfl ?_; rintro _ ⟨b4, rfl⟩)
 refine sP (pA rfl) rfl rfl (sP (pA rfl) rfl rfl (sD (nS (tS (tR (sP (pF0 rfl) rfl rfl ?_))))))
 refine sL (lBs rfl rfl) rfl rfl ?_
 refine sP (pIN (j := 0) rfl rfl rfl (by simp)) rfl rfl ?_
 refine sL (load_a rfl rfl (hat0 _) rfl) rfl rfl ?_
 (refine seq_step (step_alloc rfl) rfl ?_; rintro _ ⟨b15, rfl⟩)
 refine sS rfl rfl rfl rfl rfl rfl ?_
 refine sD (nS (tS (tri_block (tS (tR (sP (pF0 rfl) rfl rfl ?_))))))
 refine sP (pF rfl) rfl rfl (sL (lBs rfl rfl) rfl rfl ?_)
 refine sP (pF0 rfl) rfl rfl (sP (pF rfl) rfl rfl (sL (lBs rfl rfl) rfl rfl ?_))
 refine sB (pE rfl rfl) rfl rfl (fun h29 => ?_) (fun h29 => ?_)
 refine sP (pA rfl) rfl rfl (sD (nS (cT rfl ?_)))
 refine tS (tR (sL (lBa rfl rfl) rfl rfl ?_))
 refine sS rfl rfl rfl rfl rfl rfl ?_
 refine sP (pA rfl) rfl rfl (sP (pA rfl) rfl rfl (sD (nS (tT (rB (rS ?_))))))
 refine rF3 (rC rfl (lBa rfl rfl)) (rT rfl) (rT rfl) ?_
 (exact StpX.mk (by rw [if_pos (by omega)]) hre0)
 refine sP (pA rfl) rfl rfl (sD (nS (cF rfl ?_)))
 refine tS (tR (sP (pF0 rfl) rfl rfl (sP (pF rfl) rfl rfl (sL (lBs rfl rfl) rfl rfl ?_))))
 refine sB (pE rfl rfl) rfl rfl (fun h56 => ?_) (fun h56 => ?_)
 refine sP (pA rfl) rfl rfl (sD (nS (cT rfl ?_)))
 refine tS (tR (sP (pF0 rfl) rfl rfl (sL (lBa rfl rfl) rfl rfl ?_)))
 (have hgk : tk = 1 := (by omega); refine seq_imm rfl (l1Ground_fn (.mk fk fks) G _ hfa hfr) rfl rfl (fun u G1 hle1 hh => ?_); obtain ⟨gc, rfl, hrg⟩ := hh; have hgs := mGround_small (.mk fk fks); generalize mGround (.mk fk fks) = g at hrg hgs ⊢; obtain ⟨pg, cg, eg, rfl, _⟩ := hrg.open; replace hre0 := hre0.mono hle1; replace hfr := hfr.mono hle1; replace hty := hty.mono hle1)
 (refine seq_step (step_alloc rfl) rfl ?_; rintro _ ⟨b66, rfl⟩)
 refine sS rfl rfl rfl rfl rfl rfl ?_
 refine sD (nS (tS (tri_draw mixed rfl ?_)))
 refine any_load (i := 0) (l' := [tt,ff,ff,ff,ff,ff,ff,ff,ff,ff,ff,ff,ff,ff,ff,ff]) rfl npI (load_a rfl rfl (at_blk_all (by repeat first | exact mH | apply mT)) rfl) rfl (by kernel_rfl) rfl rfl ?_
 refine aL 3 rfl (load_a rfl rfl (at_blk_all (by repeat first | exact mH | apply mT)) rfl) rfl rfl ?_
 refine aL 7 rfl (load_a rfl rfl (at_blk_all (by repeat first | exact mH | apply mT)) rfl) rfl rfl ?_
 refine aP 1 rfl (pF0 rfl) rfl rfl ?_
 refine aL 2 rfl (lBa rfl rfl) rfl rfl ?_
 refine aP 4 rfl (pF0 rfl) rfl rfl ?_
 refine aL 5 rfl (lBs rfl rfl) rfl rfl ?_
 refine aP 8 rfl (pF0 rfl) rfl rfl ?_
 refine aL 9 rfl (lBa rfl rfl) rfl rfl ?_
 refine aP 10 rfl (pF0 rfl) rfl rfl ?_
 refine aL 11 rfl (lBs rfl rfl) rfl rfl ?_
 refine aO (j := 6) (by kernel_rfl) ?_
 (refine one_imm (l' := [tt,tt,tt,tt,tt,tt,tt,tt,tt,tt,tt,tt,ff,ff,ff,ff]) rfl rfl (l5Cast_fn _ (.mk fk fks) _ lb G1 _ _ _ ⟨by omega, by omega⟩ hre0 hfr hrg hfa.small hgs) rfl rfl rfl (fun u G3 hle3 hh => ?_); obtain ⟨wc, rfl, hrw⟩ := hh; have hwl := hrw.len; have hwo := hrw.one; replace hrg := hrg.mono hle3; replace hty := hty.mono hle3)
 refine aO (j := 12) (by kernel_rfl) ?_
 (refine one_imm (l' := [tt,tt,tt,tt,tt,tt,tt,tt,tt,tt,tt,tt,tt,ff,ff,ff]) rfl rfl (l5Cast_fn _ _ (.mk tk tks) lb G3 _ _ _ ⟨by omega, by omega⟩ hrw hrg hty hgs hta.small) rfl rfl rfl (fun u G4 hle4 hh => ?_); obtain ⟨xc, rfl, hrx⟩ := hh; have hxl := hrx.len; have hxo := hrx.one)
 refine aO (j := 13) (by kernel_rfl) ?_
 (refine oS rfl rfl rfl rfl hxl hxo rfl rfl ?_ (hu := by exact upd_all hxl.symm))
 refine aP 14 rfl (pA rfl) rfl rfl ?_
 refine aP 15 rfl (pA rfl) rfl rfl ?_
 refine aD (by kernel_rfl) ?_
 refine nS (tT (rB (rS (rF3 (rC rfl (load_a rfl rfl (at_blk_all (by repeat first | exact mH | apply mT)) hxl)) (rT rfl) (rT rfl) ?_))))
 (exact StpX.mk (by rw [if_neg (by omega), if_pos (by omega)]) hrx)
 refine sP (pA rfl) rfl rfl (sD (nS (cF rfl ?_)))
 refine tS (tR (sP (pF0 rfl) rfl rfl (sP (pF rfl) rfl rfl (sL (lBs rfl rfl) rfl rfl ?_))))
 refine sP (pure_neq_f rfl rfl (by omega)) rfl rfl ?_
 refine sP (pA rfl) rfl rfl (sD (nS (cF rfl ?_)))
 refine tS (tR (sP (pF0 rfl) rfl rfl (sL (lBa rfl rfl) rfl rfl ?_)))
 focus (cases hDD : D; all_goals (rw [hDD] at hGr; refine seq_val rfl hGr rfl rfl ?_))
 refine sP (pNf rfl) rfl rfl (sP (pA rfl) rfl rfl (sD (nS (cT rfl ?_))))
 refine tS (tR (sP (pF0 rfl) rfl rfl (sL (lBa rfl rfl) rfl rfl ?_)))
 (refine seq_imm rfl (l1Ground_fn (.mk tk tks) G _ hta hty) rfl rfl (fun u G1 hle1 hh => ?_); obtain ⟨gc, rfl, hrg⟩ := hh; have hgs := mGround_small (.mk tk tks); generalize mGround (.mk tk tks) = g at hrg hgs ⊢; obtain ⟨pg, cg, eg, rfl, _⟩ := hrg.open; replace hre0 := hre0.mono hle1; replace hfr := hfr.mono hle1; replace hty := hty.mono hle1)
 (refine seq_step (step_alloc rfl) rfl ?_; rintro _ ⟨b127, rfl⟩)
 refine sS rfl rfl rfl rfl rfl rfl ?_
 refine sD (nS (tS (tri_draw mixed rfl ?_)))
 refine any_load (i := 0) (l' := [tt,ff,ff,ff,ff,ff,ff,ff,ff,ff,ff,ff,ff,ff,ff,ff]) rfl npI (load_a rfl rfl (at_blk_all (by repeat first | exact mH | apply mT)) rfl) rfl (by kernel_rfl) rfl rfl ?_
 refine aL 3 rfl (load_a rfl rfl (at_blk_all (by repeat first | exact mH | apply mT)) rfl) rfl rfl ?_
 refine aL 7 rfl (load_a rfl rfl (at_blk_all (by repeat first | exact mH | apply mT)) rfl) rfl rfl ?_
 refine aP 1 rfl (pF0 rfl) rfl rfl ?_
 refine aL 2 rfl (lBa rfl rfl) rfl rfl ?_
 refine aP 4 rfl (pF0 rfl) rfl rfl ?_
 refine aL 5 rfl (lBs rfl rfl) rfl rfl ?_
 refine aP 8 rfl (pF0 rfl) rfl rfl ?_
 refine aL 9 rfl (lBa rfl rfl) rfl rfl ?_
 refine aP 10 rfl (pF0 rfl) rfl rfl ?_
 refine aL 11 rfl (lBs rfl rfl) rfl rfl ?_
 refine aO (j := 6) (by kernel_rfl) ?_
 (refine one_imm (l' := [tt,tt,tt,tt,tt,tt,tt,tt,tt,tt,tt,tt,ff,ff,ff,ff]) rfl rfl (l5Cast_fn _ (.mk fk fks) _ lb G1 _ _ _ ⟨by omega, by omega⟩ hre0 hfr hrg hfa.small hgs) rfl rfl rfl (fun u G3 hle3 hh => ?_); obtain ⟨wc, rfl, hrw⟩ := hh; have hwl := hrw.len; have hwo := hrw.one; replace hrg := hrg.mono hle3; replace hty := hty.mono hle3)
 refine aO (j := 12) (by kernel_rfl) ?_
 (refine one_imm (l' := [tt,tt,tt,tt,tt,tt,tt,tt,tt,tt,tt,tt,tt,ff,ff,ff]) rfl rfl (l5Cast_fn _ _ (.mk tk tks) lb G3 _ _ _ ⟨by omega, by omega⟩ hrw hrg hty hgs hta.small) rfl rfl rfl (fun u G4 hle4 hh => ?_); obtain ⟨xc, rfl, hrx⟩ := hh; have hxl := hrx.len; have hxo := hrx.one)
 refine aO (j := 13) (by kernel_rfl) ?_
 (refine oS rfl rfl rfl rfl hxl hxo rfl rfl ?_ (hu := by exact upd_all hxl.symm))
 refine aP 14 rfl (pA rfl) rfl rfl ?_
 refine aP 15 rfl (pA rfl) rfl rfl ?_
 refine aD (by kernel_rfl) ?_
 refine nS (tT (rB (rS (rF3 (rC rfl (load_a rfl rfl (at_blk_all (by repeat first | exact mH | apply mT)) hxl)) (rT rfl) (rT rfl) ?_))))
 (exact StpX.mk (by rw [if_neg (by omega), if_neg (by omega), if_pos rfl]) hrx)
 refine sP (pNt rfl) rfl rfl (sP (pA rfl) rfl rfl (sD (nS (cF rfl ?_))))
 refine tS (tR (sL (lBa rfl rfl) rfl rfl ?_))
 focus (cases hJJ : J; all_goals (rw [hJJ] at hI; refine seq_val rfl hI rfl rfl ?_))
 refine sP (pNf rfl) rfl rfl (sP (pA rfl) rfl rfl (sD (nS (cT rfl ?_))))
 refine tS (tR (sP (pBd rfl rfl) rfl rfl (sS rfl rfl rfl rfl rfl rfl ?_)))
 refine sP (pA rfl) rfl rfl (sP (pA rfl) rfl rfl (sD (nS (tT (rB (rS ?_))))))
 refine rF3 (rC rfl (lBa rfl rfl)) (rT rfl) (rT rfl) ?_
 (exact StpX.mk (by rw [if_neg (by omega), if_neg (by omega), if_neg (by decide), if_pos rfl]; rfl) (tm0_r _))
 refine sP (pNt rfl) rfl rfl (sP (pA rfl) rfl rfl (sD (nS (cF rfl ?_))))
 refine tS (tR (sP (pF0 rfl) rfl rfl (sP (pF rfl) rfl rfl (sL (lBs rfl rfl) rfl rfl ?_))))
 refine sP (pF0 rfl) rfl rfl (sP (pF rfl) rfl rfl (sL (lBs rfl rfl) rfl rfl ?_))
 refine sB (pE rfl rfl) rfl rfl (fun h199 => ?_) (fun h199 => ?_)
 refine sP (pA rfl) rfl rfl (sD (nS (cT rfl ?_)))
 refine tS (tR (sP (pF0 rfl) rfl rfl (sL (lBs rfl rfl) rfl rfl ?_)))
 (have hq1 := h14 (hjk (by assumption)); obtain ⟨bq, oq, e3, rfl, hl3, hat3, hre3, hgb3⟩ := hasl.kidTm hakl (i := 0) (by omega) (by omega); have ho3 := hre3.one; refine sP (pIN (j := 0) rfl rfl rfl (by omega)) rfl rfl ?_)
 refine sL (load_a rfl rfl (hat3 _) hl3) rfl rfl ?_
 refine sS rfl rfl rfl hl3 ho3 rfl ?_ (hu := by exact upd_all hl3.symm)
 refine sP (pA rfl) rfl rfl (sP (pA rfl) rfl rfl (sD (nS (tT (rB (rS ?_))))))
 refine rF3 (rC rfl (load_a rfl rfl (at_blk_all (by repeat first | exact mH | apply mT)) hl3)) (rT rfl) (rT rfl) ?_
 (exact StpX.mk (by rw [if_neg (by omega), if_neg (by omega), if_neg (by decide), if_neg (by decide), if_pos (by assumption), kd_at (by omega)]) hre3)
 refine sP (pA rfl) rfl rfl (sD (nS (cF rfl ?_)))
 refine tK (nrm_block (nS (tS (tri_draw mixed rfl ?_))))
 refine any_pure (i := 0) (l' := [tt,ff,ff,ff,ff,ff]) rfl npI (pBd rfl rfl) rfl (by kernel_rfl) rfl rfl ?_
 refine aP 1 rfl (pF0 rfl) rfl rfl ?_
 refine aL 2 rfl (lBs rfl rfl) rfl rfl ?_
 refine aO (j := 3) (by kernel_rfl) ?_
 refine oT rfl rfl rfl rfl rfl rfl rfl ?_
 refine aP 4 rfl (pA rfl) rfl rfl ?_
 refine aP 5 rfl (pA rfl) rfl rfl ?_
 refine aD (by kernel_rfl) ?_
 refine nS (tT (rF3 (rC rfl (lBa rfl rfl)) (rT rfl) (rT rfl) ?_))
 (exact StpX.mk (by rw [if_neg (by omega), if_neg (by omega), if_neg (by decide), if_neg (by decide), if_neg (by assumption)]) (tm0_r _))
end Gw
end Go.Proofs.YtaiafkcflhcdaaaGreatDoor
namespace Go.Proofs.YtaiafkcflhcdaaaGreatDoor
open Go Go.RowKit
namespace Gw
theorem typeOf_tyS {e : Tm} (h : termValid e = true) : mTypeOf e = mTyS [] e := by
 have hs := ((termValid_iff e).1 h).1
 obtain ⟨h1, h2⟩ := el_tyS e 1 [] 0 hs cxV_nil
 unfold mTypeOf
 cases hE : mEl [] e 0 with
 | none => rw [insert_none h hE, h2 hE]
 | some r =>
  obtain ⟨u, a, l⟩ := r
  rw [insert_some h hE, (h1 u a l hE).1]
theorem insert_inv {e u : Tm} {t : Ty} (h : mInsert e = some (u, t)) : termValid e = true ∧ ∃ l, mEl [] e 0 = some (u, t, l) := by
 unfold mInsert at h
 split at h
 ·rename_i hv
  refine ⟨hv, ?_⟩
  split at h
  ·rename_i u' t' l' he; cases h; exact ⟨l', he⟩
  ·cases h
 ·cases h
/-- A type where there is one, the zero value elsewhere. -/
def SureX (t : Ty) (x : Bool) (G : IM) : IM → Value → List Ent → Prop := Imm fun G' v => ∃ cells, v = .tuple ⟨[.agg ⟨cells⟩, .bool x]⟩ ∧ RTy G' (if x = true then t else ty0) cells
set_option maxRecDepth 100000 in
theorem l3SureXT_fn (t : Ty) (G : IM) (cells : List Value) (hr : RTy G t cells) : Fn Tryz.prog 165 [.agg ⟨cells⟩, .bool true] [] G (SureX t true G) := by
 obtain ⟨p, c, e, rfl, _⟩ := hr.open
 refine fn_enter Tryz.func165 rfl Tryz.ntmps165 Tryz.results165 rfl ?_
 intro w0
 refine tS (tR ?_)
 (refine seq_step (step_box_a rfl rfl) rfl ?_; rintro _ ⟨b3, rfl⟩)
 (refine seq_step (step_alloc rfl) rfl ?_; rintro _ ⟨b4, rfl⟩)
 refine sP (pA rfl) rfl rfl (sD (nS (tS (tS (tR (sP (pM rfl) rfl rfl ?_))))))
 refine sP (pNt rfl) rfl rfl (sD (nS (cF rfl ?_)))
 refine tK (nS (tS (tR (sL (lBa rfl rfl) rfl rfl ?_))))
 refine sS rfl rfl rfl rfl rfl rfl ?_
 refine sP (pA rfl) rfl rfl (sD (nS (tT (rF2 (rC rfl (lBa rfl rfl)) (rT rfl) ?_))))
 (exact ⟨rfl, _, rfl, hr⟩)
set_option maxRecDepth 100000 in
theorem l3SureXF_fn (t : Ty) (G : IM) (cells : List Value) (hr : RTy G t cells) : Fn Tryz.prog 165 [.agg ⟨cells⟩, .bool false] [] G (SureX t false G) := by
 obtain ⟨p, c, e, rfl, _⟩ := hr.open
 refine fn_enter Tryz.func165 rfl Tryz.ntmps165 Tryz.results165 rfl ?_
 intro w0
 refine tS (tR ?_)
 (refine seq_step (step_box_a rfl rfl) rfl ?_; rintro _ ⟨b3, rfl⟩)
 (refine seq_step (step_alloc rfl) rfl ?_; rintro _ ⟨b4, rfl⟩)
 refine sP (pA rfl) rfl rfl (sD (nS (tS (tS (tR (sP (pM rfl) rfl rfl ?_))))))
 refine sP (pNf rfl) rfl rfl (sD (nS (cT rfl ?_)))
 refine tS (tR (sP (pBd rfl rfl) rfl rfl (sS rfl rfl rfl rfl rfl rfl ?_)))
 refine sP (pA rfl) rfl rfl (sD (nS (tT (rS (rF2 (rC rfl (lBa rfl rfl)) (rT rfl) ?_)))))
 (exact ⟨rfl, _, rfl, tyLeaf_r _ ⟨by omega, by omega⟩⟩)
theorem l3SureX_fn (t : Ty) (x : Bool) (G : IM) (cells : List Value) (hr : RTy G t cells) : Fn Tryz.prog 165 [.agg ⟨cells⟩, .bool x] [] G (SureX t x G) := by
 cases x
 ·exact l3SureXF_fn t G cells hr
 ·exact l3SureXT_fn t G cells hr
theorem TyOk.sure {o : Option Ty} {t : Ty} {G G' : IM} {cells : List Value} (h : ∀ u, o = some u → u = t) (hr : RTy G' (if o.isSome = true then t else ty0) cells) : TyOk o G G' (.tuple ⟨[.agg ⟨cells⟩, .bool o.isSome]⟩) [] := by
 cases o with
 | none => exact ⟨rfl, cells, ty0, rfl, hr, by simp⟩
 | some u => exact ⟨rfl, cells, t, rfl, hr, fun x hx => by cases hx; exact (h _ rfl).symm⟩
set_option maxHeartbeats 0 in
set_option maxRecDepth 100000 in
theorem typeInX_fn (e : Tm) (G : IM) (cells : List Value) (hcnt : tmCount e ≤ 4294967296) (hr : RTm G e cells) :
  Fn Tryz.prog 118 [.slice none 0 0, .agg ⟨cells⟩] [] G (TyOk (mTypeOf e) G) := by
 have hl := hr.len
 have hone := hr.one
 have hw := sTermValid_fn e G cells hcnt hr
 have hT := fun h : termValid e = true => l3TypeX_fn e 1 [] G none 0 0 cells ((termValid_iff e).1 h).1 (by omega) cxV_nil (RCx.nil G) hr
 have hts := fun h => @typeOf_tyS e h
 have hno := @typeOf_no e
 refine fn_enter Tryz.func118 rfl Tryz.ntmps118 Tryz.results118 rfl ?_
 intro w0
 refine tS (tR ?_)
 (refine seq_step (step_box_a rfl rfl) rfl ?_; rintro _ ⟨b3, rfl⟩)
 (refine seq_step (step_alloc rfl) rfl ?_; rintro _ ⟨b4, rfl⟩)
 refine sP (pA rfl) rfl rfl (sD (nS (tS (tS (tR (sP (pM rfl) rfl rfl ?_))))))
 refine seq_val rfl ((ctxValid_fn _)) rfl rfl ?_
 refine sP (pNt rfl) rfl rfl (sP (pM rfl) rfl rfl (sL (load_a rfl rfl (at_blk_all (by repeat first | exact mH | apply mT)) (by assumption)) rfl rfl ?_))
 refine seq_valb rfl (hw) rfl rfl (fun h16 => ?_) (fun h16 => ?_)
 refine sP (pNt rfl) rfl rfl (sP (pPf rfl rfl) rfl rfl (sD (nS (cF rfl ?_))))
 refine tK (nS (tS (tR (sP (pM rfl) rfl rfl (sL (load_a rfl rfl (at_blk_all (by repeat first | exact mH | apply mT)) (by assumption)) rfl rfl ?_)))))
 (refine seq_imm rfl (hT (by assumption)) rfl rfl (fun v G1 hle1 hh => ?_); obtain ⟨mt, mc, rfl, hmr, hma, hmu⟩ := hh; obtain ⟨p1, c1, e1, rfl, _⟩ := hmr.open; have hmo := hts (by assumption))
 refine sP (pX rfl rfl) rfl rfl (sP (pX rfl rfl) rfl rfl ?_)
 (refine seq_imm rfl (l3SureX_fn mt _ _ _ hmr) rfl rfl (fun v G2 hle2 hh => ?_); obtain ⟨mc2, rfl, hmr2⟩ := hh; obtain ⟨p2, c2, e2, rfl, _⟩ := hmr2.open)
 refine sP (pX rfl rfl) rfl rfl (sP (pX rfl rfl) rfl rfl (sS rfl rfl rfl rfl rfl rfl ?_))
 refine sP (pA rfl) rfl rfl (sD (nS (tT (rF2 (rC rfl (lBa rfl rfl)) (rT rfl) ?_))))
 (rw [hmo]; exact TyOk.sure hmu hmr2)
 refine sP (pNf rfl) rfl rfl (sP (pPf rfl rfl) rfl rfl (sD (nS (cT rfl ?_))))
 refine tS (tR (sP (pBd rfl rfl) rfl rfl (sS rfl rfl rfl rfl rfl rfl ?_)))
 refine sP (pA rfl) rfl rfl (sD (nS (tT (rS (rF2 (rC rfl (lBa rfl rfl)) (rT rfl) ?_)))))
 (exact TyOk.no (u := ty0) (tyLeaf_r _ ⟨by omega, by omega⟩) rfl (hno (by assumption)))
set_option maxHeartbeats 0 in
set_option maxRecDepth 100000 in
theorem typeOfX_fn (e : Tm) (G : IM) (cells : List Value) (hcnt : tmCount e ≤ 4294967296) (hr : RTm G e cells) :
  Fn Tryz.prog 62 [.agg ⟨cells⟩] [] G (TyOk (mTypeOf e) G) := by
 have hl := hr.len
 have hone := hr.one
 refine fn_enter Tryz.func62 rfl Tryz.ntmps62 Tryz.results62 rfl ?_
 intro w0
 refine tS (tR ?_)
 (refine seq_step (step_box_a rfl rfl) rfl ?_; rintro _ ⟨b3, rfl⟩)
 (refine seq_step (step_alloc rfl) rfl ?_; rintro _ ⟨b4, rfl⟩)
 refine sP (pA rfl) rfl rfl (sD (nS (tS (tR (sL (load_a rfl rfl (at_blk_all (by repeat first | exact mH | apply mT)) (by assumption)) rfl rfl ?_)))))
 (refine seq_imm rfl (typeInX_fn e G cells hcnt hr) rfl rfl (fun v G1 hle1 hh => ?_); obtain ⟨cu, u, rfl, hru, hu⟩ := hh; obtain ⟨p1, c1, e1, rfl, _⟩ := hru.open)
 refine sP (pX rfl rfl) rfl rfl (sP (pX rfl rfl) rfl rfl (sS rfl rfl rfl rfl rfl rfl ?_))
 refine sP (pA rfl) rfl rfl (sD (nS (tT (rF2 (rC rfl (lBa rfl rfl)) (rT rfl) ?_))))
 (exact ⟨rfl, _, u, rfl, hru, hu⟩)
/-- A term, perhaps cast, and the next label. -/
def CastX (e : Tm) (a b : Ty) (l : Int) : IM → Value → List Ent → Prop := Imm fun G' v => ∃ cells, v = .tuple ⟨[.agg ⟨cells⟩, .int .i64 (if tSame a b = true then l else l + 1)]⟩ ∧ RTm G' (if tSame a b = true then e else mCst e a b l) cells
theorem CastX.yes {G : IM} {e : Tm} {a b : Ty} {l : Int} {cells : List Value} (h : tSame a b = true) (hr : RTm G e cells) : CastX e a b l G (.tuple ⟨[.agg ⟨cells⟩, .int .i64 l]⟩) [] := ⟨rfl, cells, by rw [if_pos h], by rw [if_pos h]; exact hr⟩
theorem CastX.no {G : IM} {e : Tm} {a b : Ty} {l : Int} {cells : List Value} (h : tSame a b = false) (hr : RTm G (mCst e a b l) cells) : CastX e a b l G (.tuple ⟨[.agg ⟨cells⟩, .int .i64 (l + 1)]⟩) [] := ⟨rfl, cells, by rw [if_neg (by rw [h]; decide)], by rw [if_neg (by rw [h]; decide)]; exact hr⟩
set_option maxHeartbeats 0 in
set_option maxRecDepth 100000 in
theorem l4CastX_fn (e : Tm) (a b : Ty) (label : Int) (G : IM) (ce ca cb : List Value) (hlab : -1099511627776 ≤ label ∧ label ≤ 1099511627776) (hr : RTm G e ce) (hra : RTy G a ca) (hrb : RTy G b cb) (hsa : a.small) (hsb : b.small) :
  Fn Tryz.prog 106 [.agg ⟨ce⟩, .agg ⟨ca⟩, .agg ⟨cb⟩, .int .i64 label] [] G (CastX e a b label) := by
 have hl := hr.len
 have hone := hr.one
 obtain ⟨hlab1, hlab2⟩ := hlab
 have hSame := sTypeSameX_fn a b G ca cb hra hrb
 obtain ⟨ak, aks⟩ := a
 obtain ⟨bk, bks⟩ := b
 obtain ⟨pa, cca, ea, rfl, _⟩ := hra.open
 obtain ⟨pb, ccb, eb, rfl, _⟩ := hrb.open
 simp only [Ty.k, Ty.ks] at hra hrb hSame ⊢
 obtain ⟨v1, v2, v3, v4, v5, v6, v7, v8, v9, rfl⟩ := nine hl
 refine fn_enter Tryz.func106 rfl Tryz.ntmps106 Tryz.results106 rfl ?_
 intro w0
 refine tS (tR ?_)
 (refine seq_step (step_box_a rfl rfl) rfl ?_; rintro _ ⟨b3, rfl⟩)
 (refine seq_step (step_box_a rfl rfl) rfl ?_; rintro _ ⟨b4, rfl⟩)
 (refine seq_step (step_box_a rfl rfl) rfl ?_; rintro _ ⟨b5, rfl⟩)
 (refine seq_step (step_alloc rfl) rfl ?_; rintro _ ⟨b6, rfl⟩)
 refine sP (pA rfl) rfl rfl (sD (nS (tS (tS (tR (sL (lBa rfl rfl) rfl rfl ?_))))))
 refine sL (lBa rfl rfl) rfl rfl ?_
 refine seq_valb rfl (hSame) rfl rfl (fun h15 => ?_) (fun h15 => ?_)
 refine sD (nS (cT rfl ?_))
 refine tS (tR (sL (load_a rfl rfl (at_blk_all (by repeat first | exact mH | apply mT)) hl) rfl rfl ?_))
 refine sP (pM rfl) rfl rfl (sS rfl rfl rfl hl hone rfl ?_ (hu := by exact upd_all hl.symm))
 refine sP (pA rfl) rfl rfl (sD (nS (tT (rS (rF2 (rC rfl (load_a rfl rfl (at_blk_all (by repeat first | exact mH | apply mT)) hl)) (rT rfl) ?_)))))
 (exact CastX.yes (by assumption) hr)
 refine sD (nS (cF rfl ?_))
 refine tK (nS (tS (tri_draw mixed rfl ?_)))
 refine any_load (i := 5) (l' := [ff,ff,ff,ff,ff,tt,ff,ff,ff,ff,ff,ff]) rfl npI (load_a rfl rfl (at_blk_all (by repeat first | exact mH | apply mT)) hl) rfl (by kernel_rfl) rfl rfl ?_
 refine aL 0 rfl (lBa rfl rfl) rfl rfl ?_
 refine aL 2 rfl (lBa rfl rfl) rfl rfl ?_
 refine aP 4 rfl (pM rfl) rfl rfl ?_
 refine aP 8 rfl (pM rfl) rfl rfl ?_
 refine aP 9 rfl (pure_add rfl rfl (by omega) (by omega)) rfl rfl ?_
 refine any_two (j := 1) (j' := 6) (by kernel_rfl) ?_ ?_
 (refine one_imm (l' := [tt,tt,tt,ff,tt,tt,ff,ff,tt,tt,ff,ff]) rfl rfl (l1Copy_fn _ _ _ hsa hra) rfl rfl rfl (fun v G1 hle1 hh => ?_); obtain ⟨cs1, F1, rfl, hs1, hn1⟩ := hh; obtain ⟨p1, c1, rfl, _⟩ := hs1.open; have hC2 := l1Copy_fn _ G1 _ hsb (hrb.mono hle1))
 refine any_two (j := 3) (j' := 6) (by kernel_rfl) ?_ ?_
 (refine one_imm (l' := [tt,tt,tt,tt,tt,tt,ff,ff,tt,tt,ff,ff]) rfl rfl hC2 rfl rfl rfl (fun v G2 hle2 hh => ?_); obtain ⟨cs2, F2, rfl, hs2, hn2⟩ := hh; obtain ⟨p2, c2, rfl, _⟩ := hs2.open; have hr1 := hs1.R.mono ((Dif.le G1 _).trans hle2); have hr2 := hs2.R.mono (Dif.le G2 G1); have hre := hr.mono (hle1.trans hle2))
 refine aO (j := 6) (by kernel_rfl) ?_
 (refine one_step0 (l' := [tt,tt,tt,tt,tt,tt,tt,ff,tt,tt,ff,ff]) rfl (step_buildSlice rfl rfl rfl (by omega) (by unfold maxLen; omega) rfl) rfl rfl ?_; rintro _ ⟨b49, rfl⟩)
 refine aP 7 rfl (pBd rfl rfl) rfl rfl ?_
 refine aO (j := 10) (by kernel_rfl) ?_
 refine oT rfl rfl rfl rfl rfl rfl rfl ?_
 refine aP 11 rfl (pA rfl) rfl rfl ?_
 refine aD (by kernel_rfl) ?_
 refine nS ?_
 (refine ret_freeze (cs := [v1, v2, v3, v4, v5, v6, v7, v8, v9]) (by repeat (first | exact Pk.here | apply Pk.there)) (fun G5 hle5 hsl5 hno5 => ?_); obtain ⟨hone1, hone2⟩ := tm_one (hre.mono hle5) hsl5)
 refine tT (rF2 (rC rfl (lBa rfl rfl)) (rT rfl) ?_)
 (exact CastX.no (by assumption) (RTm.of9 (ks := [e]) ⟨by omega, by omega⟩ ⟨by omega, by omega⟩ ⟨by omega, by omega⟩ (hr2.mono hle5) (hr1.mono hle5) hone1 hone2))
 (refine one_step0 (l' := [tt,tt,tt,ff,tt,tt,tt,ff,tt,tt,ff,ff]) rfl (step_buildSlice rfl rfl rfl (by omega) (by unfold maxLen; omega) rfl) rfl rfl ?_; rintro _ ⟨b60, rfl⟩)
 refine aO (j := 3) (by kernel_rfl) ?_
 (refine one_imm (l' := [tt,tt,tt,tt,tt,tt,tt,ff,tt,tt,ff,ff]) rfl rfl hC2 rfl rfl rfl (fun v G2 hle2 hh => ?_); obtain ⟨cs2, F2, rfl, hs2, hn2⟩ := hh; obtain ⟨p2, c2, rfl, _⟩ := hs2.open; have hr1 := hs1.R.mono ((Dif.le G1 _).trans hle2); have hr2 := hs2.R.mono (Dif.le G2 G1); have hre := hr.mono (hle1.trans hle2))
 refine aP 7 rfl (pBd rfl rfl) rfl rfl ?_
 refine aO (j := 10) (by kernel_rfl) ?_
 refine oT rfl rfl rfl rfl rfl rfl rfl ?_
 refine aP 11 rfl (pA rfl) rfl rfl ?_
 refine aD (by kernel_rfl) ?_
 refine nS ?_
 (refine ret_freeze (cs := [v1, v2, v3, v4, v5, v6, v7, v8, v9]) (by repeat (first | exact Pk.here | apply Pk.there)) (fun G5 hle5 hsl5 hno5 => ?_); obtain ⟨hone1, hone2⟩ := tm_one (hre.mono hle5) hsl5)
 refine tT (rF2 (rC rfl (lBa rfl rfl)) (rT rfl) ?_)
 (exact CastX.no (by assumption) (RTm.of9 (ks := [e]) ⟨by omega, by omega⟩ ⟨by omega, by omega⟩ ⟨by omega, by omega⟩ (hr2.mono hle5) (hr1.mono hle5) hone1 hone2))
 (refine one_step0 (l' := [tt,ff,tt,ff,tt,tt,tt,ff,tt,tt,ff,ff]) rfl (step_buildSlice rfl rfl rfl (by omega) (by unfold maxLen; omega) rfl) rfl rfl ?_; rintro _ ⟨b73, rfl⟩)
 refine aO (j := 1) (by kernel_rfl) ?_
 (refine one_imm (l' := [tt,tt,tt,ff,tt,tt,tt,ff,tt,tt,ff,ff]) rfl rfl (l1Copy_fn _ _ _ hsa hra) rfl rfl rfl (fun v G1 hle1 hh => ?_); obtain ⟨cs1, F1, rfl, hs1, hn1⟩ := hh; obtain ⟨p1, c1, rfl, _⟩ := hs1.open; have hC2 := l1Copy_fn _ G1 _ hsb (hrb.mono hle1))
 refine aO (j := 3) (by kernel_rfl) ?_
 (refine one_imm (l' := [tt,tt,tt,tt,tt,tt,tt,ff,tt,tt,ff,ff]) rfl rfl hC2 rfl rfl rfl (fun v G2 hle2 hh => ?_); obtain ⟨cs2, F2, rfl, hs2, hn2⟩ := hh; obtain ⟨p2, c2, rfl, _⟩ := hs2.open; have hr1 := hs1.R.mono ((Dif.le G1 _).trans hle2); have hr2 := hs2.R.mono (Dif.le G2 G1); have hre := hr.mono (hle1.trans hle2))
 refine aP 7 rfl (pBd rfl rfl) rfl rfl ?_
 refine aO (j := 10) (by kernel_rfl) ?_
 refine oT rfl rfl rfl rfl rfl rfl rfl ?_
 refine aP 11 rfl (pA rfl) rfl rfl ?_
 refine aD (by kernel_rfl) ?_
 refine nS ?_
 (refine ret_freeze (cs := [v1, v2, v3, v4, v5, v6, v7, v8, v9]) (by repeat (first | exact Pk.here | apply Pk.there)) (fun G5 hle5 hsl5 hno5 => ?_); obtain ⟨hone1, hone2⟩ := tm_one (hre.mono hle5) hsl5)
 refine tT (rF2 (rC rfl (lBa rfl rfl)) (rT rfl) ?_)
 (exact CastX.no (by assumption) (RTm.of9 (ks := [e]) ⟨by omega, by omega⟩ ⟨by omega, by omega⟩ ⟨by omega, by omega⟩ (hr2.mono hle5) (hr1.mono hle5) hone1 hone2))
/-- What the reference casts the operands to. -/
def wantOf (w ts : List Ty) : List Ty := if w = [] then ts else w
theorem wantOf_cons {a : Ty} {w ts : List Ty} : wantOf (a :: w) ts = a :: w := by unfold wantOf; rw [if_neg (by simp)]
def WantX (ws : List Ty) (n : Nat) (G : IM) : IM → Value → List Ent → Prop := Imm fun G' v => ∃ p c es, v = .slice p n c ∧ ws.length = n ∧ SlE G' p n c 2 es ∧ RTyL G' ws es
theorem WantX.mk {G G' : IM} {p : Option Addr} {n c : Nat} {ws ws' : List Ty} {es : List (List Value)} (he : ws = ws') (hl : ws'.length = n) (hs : Sl G' p n c 2 es.flatten) (hst : RTyL G' ws' es) : WantX ws n G G' (.slice p n c) [] := by
 subst he
 exact ⟨rfl, p, c, es, rfl, hl, SlE.of hs (by rw [hst.len, hl]) hst.all (fun e he => (hst.each e he).2), hst⟩
theorem WantX.mk1 {G G' : IM} {p : Option Addr} {n c : Nat} {ws : List Ty} {a : Ty} {ca : List Value} (he : ws = [a]) (hn : n = 1) (hs : Sl G' p 1 c 2 ca) (ha : RTy G' a ca) : WantX ws n G G' (.slice p 1 c) [] := by
 subst hn
 exact WantX.mk (ws' := [a]) (es := [ca]) he rfl (by simpa using hs) ⟨_, _, rfl, ha, rfl⟩
theorem WantX.mk2 {G G' : IM} {p : Option Addr} {n c : Nat} {ws : List Ty} {a b : Ty} {ca cb : List Value} (he : ws = [a, b]) (hn : n = 2) (hs : Sl G' p 2 c 2 (ca ++ cb)) (ha : RTy G' a ca) (hb : RTy G' b cb) : WantX ws n G G' (.slice p 2 c) [] := by
 subst hn
 exact WantX.mk (ws' := [a, b]) (es := [ca, cb]) he rfl (by simpa using hs) ⟨_, _, rfl, ha, _, _, rfl, hb, rfl⟩
theorem WantX.mk3 {G G' : IM} {p : Option Addr} {n c : Nat} {ws : List Ty} {a b d : Ty} {ca cb cd : List Value} (he : ws = [a, b, d]) (hn : n = 3) (hs : Sl G' p 3 c 2 (ca ++ (cb ++ cd))) (ha : RTy G' a ca) (hb : RTy G' b cb) (hd : RTy G' d cd) : WantX ws n G G' (.slice p 3 c) [] := by
 subst hn
 exact WantX.mk (ws' := [a, b, d]) (es := [ca, cb, cd]) he rfl (by simpa using hs) ⟨_, _, rfl, ha, _, _, rfl, hb, _, _, rfl, hd, rfl⟩
section
variable {cx : Cx} {k : Int} {nm : ByteArray} {ty : Ty} {ts w : List Ty} {t : Ty}
theorem wo6 (hk : k = 6) (h : mWanted cx k nm ty ts = some (w, t)) (hl : 0 < ts.length) : ∃ a b, mMatch 4 ts[0] = some (a, b) ∧ wantOf w ts = [.mk 4 [a, b], a] := by
 subst hk
 rw [mW6, gD hl] at h
 split at h
 ·rename_i a b hm
  split at h
  ·cases h; exact ⟨a, _, hm, wantOf_cons⟩
  ·cases h
 ·cases h
theorem wo78 (hk : k = 7 ∨ k = 8) (h : mWanted cx k nm ty ts = some (w, t)) : wantOf w ts = [tyInt, tyInt] := by
 rw [mW78 hk] at h
 split at h
 ·cases h; exact wantOf_cons
 ·cases h
theorem wo9 (hk : k = 9) (h : mWanted cx k nm ty ts = some (w, t)) : wantOf w ts = [tyBool, t, t] := by
 subst hk
 rw [mW9] at h
 split at h
 ·cases h; exact wantOf_cons
 ·cases h
theorem wo11 (hk : k = 11 ∨ k = 12) (h : mWanted cx k nm ty ts = some (w, t)) (hl : 0 < ts.length) : ∃ a b, mMatch 5 ts[0] = some (a, b) ∧ wantOf w ts = [.mk 5 [a, b]] := by
 rw [mW11 hk, gD hl] at h
 split at h
 ·rename_i a b hm; cases h; exact ⟨a, b, hm, wantOf_cons⟩
 ·cases h
theorem wo13 (hk : k = 13) (h : mWanted cx k nm ty ts = some (w, t)) : wantOf w ts = [t] := by
 subst hk
 rw [mW13] at h
 split at h
 ·cases h; exact wantOf_cons
 ·cases h
theorem wo0 (hk : 1 ≤ k ∧ k ≤ 5 ∨ k = 10) (h : mWanted cx k nm ty ts = some (w, t)) : wantOf w ts = ts := by
 have : w = [] := by
  have hk' : k = 1 ∨ k = 2 ∨ (k = 3 ∨ k = 4) ∨ k = 5 ∨ k = 10 := by omega
  rcases hk' with rfl | rfl | hk | rfl | rfl
  ·rw [mW1] at h; split at h <;> cases h; rfl
  ·rw [mW2] at h; cases h; rfl
  ·rw [mW34 hk] at h; cases h; rfl
  ·rw [mW5] at h; cases h; rfl
  ·rw [mW10] at h; cases h; rfl
 subst this; rfl
end
set_option maxHeartbeats 0 in
set_option maxRecDepth 100000 in
theorem l4WantX_fn (cx : Cx) (k : Int) (nm : ByteArray) (num : Int) (ty fr : Ty) (lb : Int) (ks : List Tm) (ts w : List Ty) (t : Ty) (G : IM) (cells tcells : List Value) (p : Option Addr) (c : Nat) (es : List (List Value))
  (hw : mWanted cx k nm ty ts = some (w, t)) (hk14 : k ≠ 14) (hops : tmOps k = ts.length) (hr : RTm G (.mk k nm num ty fr lb ks) cells) (hsl : SlE G p ts.length c 2 es) (hkl : RTyL G ts es) (har : ∀ t ∈ ts, tAr t) (hrt : RTy G t tcells) :
  Fn Tryz.prog 138 [.agg ⟨cells⟩, .slice p ts.length c, .agg ⟨tcells⟩] [] G (WantX (wantOf w ts) ts.length G) := by
 have hone := hr.one
 have hop := tm_ops hops
 have hkr : 1 ≤ k ∧ k ≤ 14 := tmOps_rng (by rw [hops]; omega)
 have ha0 := fun h : 0 < ts.length => har _ (List.getElem_mem h)
 obtain ⟨tyk, tyks⟩ := ty
 obtain ⟨fk, fks⟩ := fr
 obtain ⟨tk, tks⟩ := t
 obtain ⟨q9, d9, e9, rfl, _⟩ := hrt.open
 obtain ⟨pt, ct, pf, cf, pk, ck, ek, rfl, hk, hnum, hlb, hrty, hrfr, _, _⟩ := hr.open9
 have o6 := fun h hl => wo6 h hw hl
 have o78 := fun h => wo78 h hw
 have o9 := fun h => wo9 h hw
 have o11 := fun h hl => wo11 h hw hl
 have o13 := fun h => wo13 h hw
 have o0 := fun h => wo0 h hw
 refine fn_enter Tryz.func138 rfl Tryz.ntmps138 Tryz.results138 rfl ?_
 intro w0
 refine tS (tR ?_)
 (refine seq_step (step_box_a rfl rfl) rfl ?_; rintro _ ⟨b3, rfl⟩)
 (refine seq_step (step_box_a rfl rfl) rfl ?_; rintro _ ⟨b4, rfl⟩)
 refine sP (pA rfl) rfl rfl (sD (nS (tS (tS (tR (sP (pF0 rfl) rfl rfl ?_))))))
 refine sL (lBs rfl rfl) rfl rfl ?_
 refine sD (nS (tri_block (tS (tR (sB (pE rfl rfl) rfl rfl (fun h18 => ?_) (fun h18 => ?_))))))
 refine sP (pA rfl) rfl rfl (sD (nS (cT rfl ?_)))
 refine tS (tR (sP (pM rfl) rfl rfl ?_))
 (have hl2 : ts.length = 2 := hop.1 (by omega); obtain ⟨b0, o0', q0, d0, hp0, hat0, hre0, hg0⟩ := hsl.kidTy hkl (i := 0) (by omega) (by omega); cases hp0; refine sP (pIN (j := 0) rfl rfl rfl (by omega)) rfl rfl ?_)
 refine sL (load_a rfl rfl (hat0 _) rfl) rfl rfl ?_
 (obtain ⟨ma', mb', hm, hwo⟩ := o6 (by omega) (by omega); refine seq_imm rfl (l3MatchX_fn 4 ts[0] G _ (.inl rfl) (ha0 (by omega)) hre0) rfl rfl (fun v G1 hle1 hh => ?_); obtain ⟨ma, mca, mb, mcb, rfl, hma, hmb, hma2, hmb2, hpp⟩ := hh; have hpe := hpp _ hm; simp only [Prod.mk.injEq] at hpe; obtain ⟨rfl, rfl⟩ := hpe; obtain ⟨p1, c1, e1, rfl, _⟩ := hma.open; obtain ⟨p2, c2, e2, rfl, _⟩ := hmb.open; have hTwo := l3TwoX_fn 4 _ _ G1 _ _ (.inl rfl) hma2 hmb2 hma hmb)
 refine sP (pM rfl) rfl rfl (sP (pX rfl rfl) rfl rfl (sP (pX rfl rfl) rfl rfl (sP (pX rfl rfl) rfl rfl ?_)))
 (refine seq_step (step_alloc rfl) rfl ?_; rintro _ ⟨b33, rfl⟩)
 (refine seq_step (step_alloc rfl) rfl ?_; rintro _ ⟨b34, rfl⟩)
 refine sS rfl rfl rfl rfl rfl rfl ?_
 refine sS rfl rfl rfl rfl rfl rfl ?_
 refine sP (pA rfl) rfl rfl (sD (nS (tS (tR (sL (lBa rfl rfl) rfl rfl ?_)))))
 refine sL (lBa rfl rfl) rfl rfl ?_
 (refine seq_imm rfl hTwo rfl rfl (fun v G2 hle2 hh => ?_); obtain ⟨mc, rfl, hmr⟩ := hh; obtain ⟨p3, c3, e3, rfl, _⟩ := hmr.open; have hma4 := hma.mono hle2)
 refine sP (pM rfl) rfl rfl (sP (pX rfl rfl) rfl rfl (sP (pX rfl rfl) rfl rfl ?_))
 (refine seq_step (step_alloc rfl) rfl ?_; rintro _ ⟨b48, rfl⟩)
 refine sS rfl rfl rfl rfl rfl rfl ?_
 refine sP (pA rfl) rfl rfl (sD (nS (tS (tR (sL (lBa rfl rfl) rfl rfl ?_)))))
 refine sL (lBa rfl rfl) rfl rfl ?_
 (refine seq_step (step_buildSlice rfl rfl rfl (by omega) (by unfold maxLen; omega) rfl) rfl ?_; rintro _ ⟨b57, rfl⟩)
 refine sP (pA rfl) rfl rfl (sD (nS ?_))
 (refine ret_freeze (by repeat (first | exact Pk.here | apply Pk.there)) (fun G5 hle5 hsl5 hno5 => ?_))
 refine tT (rB (rS (rF1 (rT rfl) ?_)))
 (exact WantX.mk2 hwo (hop.1 (by omega)) hsl5 (hmr.mono hle5) (hma4.mono hle5))
 refine sP (pA rfl) rfl rfl (sD (nS (cF rfl ?_)))
 refine tS (tS (tR (sB (pE rfl rfl) rfl rfl (fun h74 => ?_) (fun h74 => ?_))))
 refine sP (pA rfl) rfl rfl (sD (nS (cT rfl ?_)))
 refine tK (nS (cT rfl ?_))
 refine tS (tR (seq_val rfl ((l3Int_fn _)) rfl rfl ?_))
 refine seq_val rfl ((l3Int_fn _)) rfl rfl ?_
 (refine seq_step (step_buildSlice rfl rfl rfl (by omega) (by unfold maxLen; omega) rfl) rfl ?_; rintro _ ⟨b86, rfl⟩)
 refine sP (pA rfl) rfl rfl (sD (nS ?_))
 (refine ret_freeze (by repeat (first | exact Pk.here | apply Pk.there)) (fun G5 hle5 hsl5 hno5 => ?_))
 refine tT (rB (rS (rF1 (rT rfl) ?_)))
 (exact WantX.mk2 (o78 (by omega)) (hop.1 (by omega)) hsl5 (tyInt_r _) (tyInt_r _))
 refine sP (pA rfl) rfl rfl (sD (nS (cF rfl ?_)))
 refine tR (sB (pE rfl rfl) rfl rfl (fun h101 => ?_) (fun h101 => ?_))
 refine sP (pA rfl) rfl rfl (sD (nS (cT rfl ?_)))
 refine tS (tR (seq_val rfl ((l3Int_fn _)) rfl rfl ?_))
 refine seq_val rfl ((l3Int_fn _)) rfl rfl ?_
 (refine seq_step (step_buildSlice rfl rfl rfl (by omega) (by unfold maxLen; omega) rfl) rfl ?_; rintro _ ⟨b110, rfl⟩)
 refine sP (pA rfl) rfl rfl (sD (nS ?_))
 (refine ret_freeze (by repeat (first | exact Pk.here | apply Pk.there)) (fun G5 hle5 hsl5 hno5 => ?_))
 refine tT (rB (rS (rF1 (rT rfl) ?_)))
 (exact WantX.mk2 (o78 (by omega)) (hop.1 (by omega)) hsl5 (tyInt_r _) (tyInt_r _))
 refine sP (pA rfl) rfl rfl (sD (nS (cF rfl ?_)))
 refine tS (tR (sB (pE rfl rfl) rfl rfl (fun h126 => ?_) (fun h126 => ?_)))
 refine sP (pA rfl) rfl rfl (sD (nS (cT rfl ?_)))
 refine tS (tri_draw mixed rfl ?_)
 refine any_load (i := 1) (l' := [ff,tt,ff,ff,ff]) rfl npI (lBa rfl rfl) rfl (by kernel_rfl) rfl rfl ?_
 refine aL 2 rfl (lBa rfl rfl) rfl rfl ?_
 refine aO (j := 0) (by kernel_rfl) ?_
 refine one_val (l' := [tt,tt,tt,ff,ff]) rfl rfl ((l3Bool_fn _)) rfl rfl rfl ?_
 refine aO (j := 3) (by kernel_rfl) ?_
 (refine one_step0 (l' := [tt,tt,tt,tt,ff]) rfl (step_buildSlice rfl rfl rfl (by omega) (by unfold maxLen; omega) rfl) rfl rfl ?_; rintro _ ⟨b138, rfl⟩)
 refine aP 4 rfl (pA rfl) rfl rfl ?_
 refine aD (by kernel_rfl) ?_
 refine nS ?_
 (refine ret_freeze (by repeat (first | exact Pk.here | apply Pk.there)) (fun G5 hle5 hsl5 hno5 => ?_))
 refine tT (rB (rS (rF1 (rT rfl) ?_)))
 (exact WantX.mk3 (o9 (by omega)) (hop.2.1 (by omega)) hsl5 (tyBool_r _) (hrt.mono hle5) (hrt.mono hle5))
 refine sP (pA rfl) rfl rfl (sD (nS (cF rfl ?_)))
 refine tS (tS (tR (sB (pE rfl rfl) rfl rfl (fun h155 => ?_) (fun h155 => ?_))))
 refine sP (pA rfl) rfl rfl (sD (nS (cT rfl ?_)))
 refine tK (nS (cT rfl ?_))
 refine tS (tR (sP (pM rfl) rfl rfl ?_))
 (have hl1 : ts.length = 1 := hop.2.2 (by omega); obtain ⟨b0, o0', q0, d0, hp0, hat0, hre0, hg0⟩ := hsl.kidTy hkl (i := 0) (by omega) (by omega); cases hp0; refine sP (pIN (j := 0) rfl rfl rfl (by omega)) rfl rfl ?_)
 refine sL (load_a rfl rfl (hat0 _) rfl) rfl rfl ?_
 (obtain ⟨ma', mb', hm, hwo⟩ := o11 (by omega) (by omega); refine seq_imm rfl (l3MatchX_fn 5 ts[0] G _ (.inr rfl) (ha0 (by omega)) hre0) rfl rfl (fun v G1 hle1 hh => ?_); obtain ⟨ma, mca, mb, mcb, rfl, hma, hmb, hma2, hmb2, hpp⟩ := hh; have hpe := hpp _ hm; simp only [Prod.mk.injEq] at hpe; obtain ⟨rfl, rfl⟩ := hpe; obtain ⟨p1, c1, e1, rfl, _⟩ := hma.open; obtain ⟨p2, c2, e2, rfl, _⟩ := hmb.open; have hTwo := l3TwoX_fn 5 _ _ G1 _ _ (.inr rfl) hma2 hmb2 hma hmb)
 refine sP (pM rfl) rfl rfl (sP (pX rfl rfl) rfl rfl (sP (pX rfl rfl) rfl rfl (sP (pX rfl rfl) rfl rfl ?_)))
 (refine seq_step (step_alloc rfl) rfl ?_; rintro _ ⟨b173, rfl⟩)
 (refine seq_step (step_alloc rfl) rfl ?_; rintro _ ⟨b174, rfl⟩)
 refine sS rfl rfl rfl rfl rfl rfl ?_
 refine sS rfl rfl rfl rfl rfl rfl ?_
 refine sP (pA rfl) rfl rfl (sD (nS (tS (tR (sL (lBa rfl rfl) rfl rfl ?_)))))
 refine sL (lBa rfl rfl) rfl rfl ?_
 (refine seq_imm rfl hTwo rfl rfl (fun v G2 hle2 hh => ?_); obtain ⟨mc, rfl, hmr⟩ := hh; obtain ⟨p3, c3, e3, rfl, _⟩ := hmr.open; have hma4 := hma.mono hle2)
 refine sP (pM rfl) rfl rfl (sP (pX rfl rfl) rfl rfl (sP (pX rfl rfl) rfl rfl ?_))
 (refine seq_step (step_alloc rfl) rfl ?_; rintro _ ⟨b188, rfl⟩)
 refine sS rfl rfl rfl rfl rfl rfl ?_
 refine sP (pA rfl) rfl rfl (sD (nS (tS (tR (sL (lBa rfl rfl) rfl rfl ?_)))))
 (refine seq_step (step_buildSlice rfl rfl rfl (by omega) (by unfold maxLen; omega) rfl) rfl ?_; rintro _ ⟨b196, rfl⟩)
 refine sP (pA rfl) rfl rfl (sD (nS ?_))
 (refine ret_freeze (by repeat (first | exact Pk.here | apply Pk.there)) (fun G5 hle5 hsl5 hno5 => ?_))
 refine tT (rB (rS (rF1 (rT rfl) ?_)))
 (exact WantX.mk1 hwo (hop.2.2 (by omega)) hsl5 (hmr.mono hle5))
 refine sP (pA rfl) rfl rfl (sD (nS (cF rfl ?_)))
 refine tR (sB (pE rfl rfl) rfl rfl (fun h211 => ?_) (fun h211 => ?_))
 refine sP (pA rfl) rfl rfl (sD (nS (cT rfl ?_)))
 refine tS (tR (sP (pM rfl) rfl rfl ?_))
 (have hl1 : ts.length = 1 := hop.2.2 (by omega); obtain ⟨b0, o0', q0, d0, hp0, hat0, hre0, hg0⟩ := hsl.kidTy hkl (i := 0) (by omega) (by omega); cases hp0; refine sP (pIN (j := 0) rfl rfl rfl (by omega)) rfl rfl ?_)
 refine sL (load_a rfl rfl (hat0 _) rfl) rfl rfl ?_
 (obtain ⟨ma', mb', hm, hwo⟩ := o11 (by omega) (by omega); refine seq_imm rfl (l3MatchX_fn 5 ts[0] G _ (.inr rfl) (ha0 (by omega)) hre0) rfl rfl (fun v G1 hle1 hh => ?_); obtain ⟨ma, mca, mb, mcb, rfl, hma, hmb, hma2, hmb2, hpp⟩ := hh; have hpe := hpp _ hm; simp only [Prod.mk.injEq] at hpe; obtain ⟨rfl, rfl⟩ := hpe; obtain ⟨p1, c1, e1, rfl, _⟩ := hma.open; obtain ⟨p2, c2, e2, rfl, _⟩ := hmb.open; have hTwo := l3TwoX_fn 5 _ _ G1 _ _ (.inr rfl) hma2 hmb2 hma hmb)
 refine sP (pM rfl) rfl rfl (sP (pX rfl rfl) rfl rfl (sP (pX rfl rfl) rfl rfl (sP (pX rfl rfl) rfl rfl ?_)))
 (refine seq_step (step_alloc rfl) rfl ?_; rintro _ ⟨b226, rfl⟩)
 (refine seq_step (step_alloc rfl) rfl ?_; rintro _ ⟨b227, rfl⟩)
 refine sS rfl rfl rfl rfl rfl rfl ?_
 refine sS rfl rfl rfl rfl rfl rfl ?_
 refine sP (pA rfl) rfl rfl (sD (nS (tS (tR (sL (lBa rfl rfl) rfl rfl ?_)))))
 refine sL (lBa rfl rfl) rfl rfl ?_
 (refine seq_imm rfl hTwo rfl rfl (fun v G2 hle2 hh => ?_); obtain ⟨mc, rfl, hmr⟩ := hh; obtain ⟨p3, c3, e3, rfl, _⟩ := hmr.open; have hma4 := hma.mono hle2)
 refine sP (pM rfl) rfl rfl (sP (pX rfl rfl) rfl rfl (sP (pX rfl rfl) rfl rfl ?_))
 (refine seq_step (step_alloc rfl) rfl ?_; rintro _ ⟨b241, rfl⟩)
 refine sS rfl rfl rfl rfl rfl rfl ?_
 refine sP (pA rfl) rfl rfl (sD (nS (tS (tR (sL (lBa rfl rfl) rfl rfl ?_)))))
 (refine seq_step (step_buildSlice rfl rfl rfl (by omega) (by unfold maxLen; omega) rfl) rfl ?_; rintro _ ⟨b249, rfl⟩)
 refine sP (pA rfl) rfl rfl (sD (nS ?_))
 (refine ret_freeze (by repeat (first | exact Pk.here | apply Pk.there)) (fun G5 hle5 hsl5 hno5 => ?_))
 refine tT (rB (rS (rF1 (rT rfl) ?_)))
 (exact WantX.mk1 hwo (hop.2.2 (by omega)) hsl5 (hmr.mono hle5))
 refine sP (pA rfl) rfl rfl (sD (nS (cF rfl ?_)))
 refine tS (tR (sB (pE rfl rfl) rfl rfl (fun h265 => ?_) (fun h265 => ?_)))
 refine sP (pA rfl) rfl rfl (sD (nS (cT rfl ?_)))
 refine tS (tR (sL (lBa rfl rfl) rfl rfl ?_))
 (refine seq_step (step_buildSlice rfl rfl rfl (by omega) (by unfold maxLen; omega) rfl) rfl ?_; rintro _ ⟨b273, rfl⟩)
 refine sP (pA rfl) rfl rfl (sD (nS ?_))
 (refine ret_freeze (by repeat (first | exact Pk.here | apply Pk.there)) (fun G5 hle5 hsl5 hno5 => ?_))
 refine tT (rB (rS (rF1 (rT rfl) ?_)))
 (exact WantX.mk1 (o13 (by omega)) (hop.2.2 (by omega)) hsl5 (hrt.mono hle5))
 refine sP (pA rfl) rfl rfl (sD (nS (cF rfl ?_)))
 refine tK (nrm_block (nS (tS (tR (sP (pM rfl) rfl rfl (sP (pA rfl) rfl rfl ?_))))))
 refine sD (nS (tT (rF1 (rT rfl) ?_)))
 (exact WantX.mk (o0 (by omega)) rfl hsl.sl hkl)
theorem mCasts_self : ∀ (us : List Tm) (h : List Ty) (l : Int), mCasts us h h l = (us, l)
 | [], h, l => by simp [mCasts]
 | u :: us, [], l => by simp [mCasts]
 | u :: us, a :: h, l => by simp only [mCasts, tSame_self, if_true, mCasts_self us h l]
theorem mCasts_want {us : List Tm} {h w : List Ty} {l : Int} : mCasts us h (wantOf w h) l = mCasts us h w l := by
 unfold wantOf
 split
 ·rename_i hw; subst hw; rw [mCasts_self, mCasts_nil]
 ·rfl
theorem wantOf_valid {cx : Cx} {k : Int} {nm : ByteArray} {ty : Ty} {h w : List Ty} {t : Ty} (hh : ∀ a ∈ h, tValid a = true) (hw : Wt cx k nm ty h w t) : ∀ a ∈ wantOf w h, tValid a = true := by
 intro a ha
 unfold wantOf at ha
 split at ha
 ·exact hh a ha
 ·rename_i hne
  obtain ⟨i, hi, rfl⟩ := List.mem_iff_getElem.1 ha
  exact (hw.ok i hi (by rcases hw.len with h1 | h1; exact absurd h1 hne; omega)).2
/-- A term with casts, its type, the next label. -/
def InsXR (u : Tm) (t : Ty) (l : Int) (G : IM) : IM → Value → List Ent → Prop := Imm fun G' v => ∃ cu ct, v = .tuple ⟨[.agg ⟨cu⟩, .agg ⟨ct⟩, .int .i64 (l + 1)]⟩ ∧ RTm G' u cu ∧ RTy G' t ct
theorem elL_len {cx : Cx} : ∀ {ks : List Tm} {l : Int} {us : List Tm} {h : List Ty} {l' : Int}, mElL cx ks l = some (us, h, l') → us.length = ks.length ∧ h.length = ks.length
 | [], l, us, h, l', he => by simp only [mElL, Option.some.injEq, Prod.mk.injEq] at he; obtain ⟨rfl, rfl, _⟩ := he; exact ⟨rfl, rfl⟩
 | t :: ts, l, us, h, l', he => by
  rw [mElL] at he
  split at he
  ·cases he
  ·split at he
   ·cases he
   ·rename_i hz
    simp only [Option.some.injEq, Prod.mk.injEq] at he
    obtain ⟨rfl, rfl, _⟩ := he
    have := elL_len hz
    simp [this.1, this.2]
set_option maxHeartbeats 0 in
set_option maxRecDepth 100000 in
theorem l4InsertX_fn : ∀ (e : Tm) (d : Int) (cx : Cx) (l0 : Int) (u0 : Tm) (t0 : Ty) (l1 : Int) (G : IM) (p : Option Addr) (n c : Nat) (cells : List Value), mEl cx e l0 = some (u0, t0, l1) → sShape 12 14 e d = true → (n : Int) ≤ d → cxV cx → RCx G cx p n c → RTm G e cells → 0 ≤ l0 → l0 + (tmCount e : Int) ≤ 1000000000 →
  Fn Tryz.prog 87 [.slice p n c, .agg ⟨cells⟩, .int .i64 (l0 + 1)] [] G (InsXR u0 t0 l1 G) := by
 refine Tm.ind fun k nm num ty fr lb ks ih d cx l0 u0 t0 l1 G p n c cells hel hv hnd hcv hx hr hl0 hlc => ?_
 have hr0 := hr
 have hone := hr.one
 have hT := l3TypeX_fn _ d cx G p n c cells hv hnd hcv hx hr
 obtain ⟨hts1, hts2⟩ := (el_tyS _ d cx l0 hv hcv).1 u0 t0 l1 hel
 rw [hts1] at hT
 have hsm := shape_small _ d hv
 obtain ⟨hv1, hv2, hv3, hv4⟩ := sShape_go2 hv
 have hvk := (sShapeL_iff 12 14 ks _).1 hv4
 have har := (tmNode_iff.1 hv3).1
 have hop := tm_ops har
 obtain ⟨hta, hts⟩ := node_ann hv3
 have hcvX : cxV (inCx cx k nm ty) := cxV_in hcv fun hk => (tmNode_iff.1 hv3).2.2.2.2.2.1 (.inl hk)
 have hck : tmCount (.mk k nm num ty fr lb ks) = tmCountL ks + 1 := tmCount_mk ..
 rw [hck] at hlc
 rw [mEl] at hel
 rcases hEL : mElL (inCx cx k nm ty) ks l0 with _ | ⟨usA, tsA, lA⟩
 ·rw [hEL] at hel; cases hel
 rw [hEL] at hel
 unfold mElN at hel
 rcases hNT : mNodeT cx k nm ty tsA with _ | ⟨w, t9⟩
 ·simp only [hNT] at hel; cases hel
 simp only [hNT, Option.some.injEq, Prod.mk.injEq] at hel
 obtain ⟨hu0, rfl, rfl⟩ := hel
 obtain ⟨hlA1, hlA2⟩ := elL_len hEL
 have hmw := (mNodeT_valid hNT).2
 obtain ⟨_, htv, _⟩ := (el_tySL ks (fun t ht d' cx' l' h1 h2 => el_tyS t d' cx' l' h1 h2) (d + 1) _ l0 hv4 hcvX).1 usA tsA lA hEL
 have hcAll := mCasts_lab usA tsA w lA
 have hWV : ∀ a ∈ wantOf w tsA, tValid a = true := wantOf_valid htv (wanted_wt htv (fun hk => (tmNode_iff.1 hv3).2.2.2.2.2.1 (.inr (.inl hk))) (by rw [hlA2]; exact har) hv2 hmw)
 obtain ⟨tk, tks⟩ := ty
 obtain ⟨fk, fks⟩ := fr
 obtain ⟨pt, ct, pf, cf, q, cq, es, rfl, hk, hnum, hlb, hty, hfr, hsl, hkl⟩ := hr.open9
 have hlen : ks.length ≤ 3 := by have := tmOps_le k; omega
 have hk13 : k = 13 → ks.length = 1 := fun h => hop.2.2 (by omega)
 refine fn_enter Tryz.func87 rfl Tryz.ntmps87 Tryz.results87 rfl ?_
 intro w0
 refine tS ?_
 refine tR ?_
 (refine seq_step (step_box_a rfl rfl) rfl ?_; rintro _ ⟨b3, rfl⟩)
 (refine seq_step (step_alloc rfl) rfl ?_; rintro _ ⟨b4, rfl⟩)
 (refine seq_step (step_alloc rfl) rfl ?_; rintro _ ⟨b5, rfl⟩)
 refine sP (pA rfl) rfl rfl ?_
 refine sD ?_
 refine nS ?_
 refine tS ?_
 refine tR ?_
 refine sP (pM rfl) rfl rfl ?_
 refine sL (lBa rfl rfl) rfl rfl ?_
 (refine seq_imm rfl hT rfl rfl (fun v G1 hle1 hh => ?_); obtain ⟨mt, mc, rfl, hmr, hma, hmu⟩ := hh; obtain rfl := hmu _ rfl; obtain ⟨p1, d1, e1, rfl, _⟩ := hmr.open; have hC := l2Copy_fn _ G1 _ hsm (hr0.mono hle1))
 refine sP (pM rfl) rfl rfl ?_
 refine sP (pX rfl rfl) rfl rfl ?_
 refine sP (pX rfl rfl) rfl rfl ?_
 (refine seq_step (step_alloc rfl) rfl ?_; rintro _ ⟨b17, rfl⟩)
 refine sS rfl rfl rfl rfl rfl rfl ?_
 refine sP (pA rfl) rfl rfl ?_
 refine sD ?_
 refine nS ?_
 refine tS ?_
 refine tR ?_
 refine sL (lBa rfl rfl) rfl rfl ?_
 (refine seq_imm rfl hC rfl rfl (fun v G2 hle2 hh => ?_); obtain ⟨cs1, F1, rfl, hs1, hn1⟩ := hh; have hr1 := hs1.R.mono (Dif.le G2 G1); obtain ⟨q1, c1, q2, c2, q3, c3, es1, rfl, _, _, _, hty1, hfr1, _, _⟩ := hr1.open9; have hle02 := hle1.trans hle2; replace hx := hx.mono hle02; replace hty := hty.mono hle02; replace hsl := hsl.mono hle02; replace hkl := hkl.mono hle02; replace hmr := hmr.mono hle2; replace hr0 := hr0.mono hle02)
 (refine seq_step (step_alloc rfl) rfl ?_; rintro _ ⟨b26, rfl⟩)
 refine sS rfl rfl rfl rfl rfl rfl ?_
 refine sD ?_
 refine nS ?_
 refine tS ?_
 refine tR ?_
 refine sP (pF0 rfl) rfl rfl ?_
 refine sS rfl rfl rfl rfl rfl rfl ?_
 refine sD ?_
 refine nS ?_
 refine tS ?_
 refine tS ?_
 (show Tri _ _ (.region 4 ..) _ _; refine tri_cut (fun (x : Bool) => ⟨[(30, .bool x), (0, .slice p n c), (2, .int .i64 (l0 + 1)), (4, .pointer (some ⟨b3, 0, none⟩)), (6, .pointer (some ⟨b4, 0, none⟩)), (7, .pointer (some ⟨b5, 0, none⟩)), (9, .pointer (some ⟨b17, 0, none⟩)), (11, .pointer (some ⟨b26, 0, none⟩))], [.blk b26 [.int .i64 k, .string nm, .int .i64 num, .int .i64 tk, .slice q1 tks.length c1, .int .i64 fk, .slice q2 fks.length c2, .int .i64 lb, .slice none 0 0], .blk b17 [.int .i64 t9.k, .slice p1 t9.ks.length d1], .blk b5 [.int .i64 0, .slice none 0 0], .blk b4 [.int .i64 0, .string ⟨⟨[]⟩⟩, .int .i64 0, .int .i64 0, .slice none 0 0, .int .i64 0, .slice none 0 0, .int .i64 0, .slice none 0 0], .blk b3 [.int .i64 k, .string nm, .int .i64 num, .int .i64 tk, .slice pt tks.length ct, .int .i64 fk, .slice pf fks.length cf, .int .i64 lb, .slice q ks.length cq]], G2⟩) (fun x => x = true ↔ k = 5) ?_ ?_)
 ·refine tR ?_
  refine sP (pF0 rfl) rfl rfl ?_
  refine sL (lBs rfl rfl) rfl rfl ?_
  refine sB (pE rfl rfl) rfl rfl (fun h42 => ?_) (fun h42 => ?_)
  ·refine sD ?_
   refine nrm_cut true (sub_mk (by repeat (first | exact SubE.nil | refine SubE.cons rfl ?_)) (by repeat (first | exact SubH.refl | exact SubH.nil | refine SubH.cons (by repeat (first | exact Pk.here | apply Pk.there)) ?_ | apply SubH.drop))) ⟨fun _ => (by omega), fun _ => rfl⟩
  ·refine sD ?_
   refine nrm_cut false (sub_mk (by repeat (first | exact SubE.nil | refine SubE.cons rfl ?_)) (by repeat (first | exact SubH.refl | exact SubH.nil | refine SubH.cons (by repeat (first | exact Pk.here | apply Pk.there)) ?_ | apply SubH.drop))) ⟨fun h => (by cases h), fun _ => (by omega)⟩
 ·(rintro (x : Bool) hx5)
  (show Tri _ _ (.cond (.tmp 30) _ _) _ _; refine tri_cut (fun (x : Option Addr × Nat × Nat × IM) => ⟨[(0, .slice x.1 x.2.1 x.2.2.1), (2, .int .i64 (l0 + 1)), (4, .pointer (some ⟨b3, 0, none⟩)), (6, .pointer (some ⟨b4, 0, none⟩)), (7, .pointer (some ⟨b5, 0, none⟩)), (9, .pointer (some ⟨b17, 0, none⟩)), (11, .pointer (some ⟨b26, 0, none⟩))], [.blk b26 [.int .i64 k, .string nm, .int .i64 num, .int .i64 tk, .slice q1 tks.length c1, .int .i64 fk, .slice q2 fks.length c2, .int .i64 lb, .slice none 0 0], .blk b17 [.int .i64 t9.k, .slice p1 t9.ks.length d1], .blk b5 [.int .i64 0, .slice none 0 0], .blk b4 [.int .i64 0, .string ⟨⟨[]⟩⟩, .int .i64 0, .int .i64 0, .slice none 0 0, .int .i64 0, .slice none 0 0, .int .i64 0, .slice none 0 0], .blk b3 [.int .i64 k, .string nm, .int .i64 num, .int .i64 tk, .slice pt tks.length ct, .int .i64 fk, .slice pf fks.length cf, .int .i64 lb, .slice q ks.length cq]], x.2.2.2⟩) (fun x => IMle G2 x.2.2.2 ∧ RCx x.2.2.2 (inCx cx k nm (.mk tk tks)) x.1 x.2.1 x.2.2.1 ∧ (x.2.1 : Int) ≤ d + 1) (tri_cond rfl (fun hxt => ?_) (fun hxf => ?_)) ?_)
  ·refine tR ?_
   refine sP (pM rfl) rfl rfl ?_
   refine sP (pF0 rfl) rfl rfl ?_
   refine sL (lBs rfl rfl) rfl rfl ?_
   refine sP (pF0 rfl) rfl rfl ?_
   refine sL (lBa rfl rfl) rfl rfl ?_
   (refine seq_imm rfl (l3MoreX_fn G2 cx p n c nm (.mk tk tks) _ hx (by omega) hty) rfl rfl (fun v G3 hle3 hh => ?_); obtain ⟨pm0, cm0, rfl, hxm⟩ := hh)
   refine sP (pA rfl) rfl rfl ?_
   refine sD ?_
   refine nrm_cut (pm0, n + 1, cm0, G3) (sub_mk (by repeat (first | exact SubE.nil | refine SubE.cons rfl ?_)) (by repeat (first | exact SubH.refl | exact SubH.nil | refine SubH.cons (by repeat (first | exact Pk.here | apply Pk.there)) ?_ | apply SubH.drop))) ?_
   (dsimp only; exact ⟨hle3, by rw [inCx, if_pos (hx5.1 (by assumption))]; exact hxm, by omega⟩)
  ·refine tK ?_
   refine nrm_cut (p, n, c, G2) (sub_mk (by repeat (first | exact SubE.nil | refine SubE.cons rfl ?_)) (by repeat (first | exact SubH.refl | exact SubH.nil | refine SubH.cons (by repeat (first | exact Pk.here | apply Pk.there)) ?_ | apply SubH.drop))) ?_
   (dsimp only; exact ⟨IMle.refl _, by rw [inCx, if_neg (fun h => by have := hx5.2 h; rw [this] at hxf; cases hxf)]; exact hx, by omega⟩)
  ·(rintro ⟨(px : Option Addr), nx, cxx, Gx⟩ ⟨hleX, hxX, hnX⟩; simp only [] at hleX hxX hnX ⊢; replace hty1 := hty1.mono hleX; replace hfr1 := hfr1.mono hleX; replace hsl := hsl.mono hleX; replace hkl := hkl.mono hleX; replace hmr := hmr.mono hleX; replace hr0 := hr0.mono hleX)
   refine tS ?_
   refine tR ?_
   (refine seq_step (step_buildSlice rfl rfl rfl (by omega) (by unfold maxLen; omega) rfl) rfl ?_; rintro _ ⟨b66, rfl⟩)
   refine sP (pA rfl) rfl rfl ?_
   refine sD ?_
   refine nS ?_
   refine tS ?_
   refine tS ?_
   refine tR ?_
   refine sP (pA rfl) rfl rfl ?_
   refine sD ?_
   refine nS ?_
   refine tri_block ?_
   (refine tri_nil 36 9 ?_; refine tri_loopN (fun (x : Nat × (Option Addr × Nat × List Tm × List (List Value)) × (Option Addr × Nat × List Ty × List (List Value)) × Int × IM) => ⟨[(13, .int .i64 x.1), (12, .slice x.2.2.1.1 x.1 x.2.2.1.2.1), (0, .slice px nx cxx), (2, .int .i64 (x.2.2.2.1 + 1)), (4, .pointer (some ⟨b3, 0, none⟩)), (6, .pointer (some ⟨b4, 0, none⟩)), (7, .pointer (some ⟨b5, 0, none⟩)), (9, .pointer (some ⟨b17, 0, none⟩)), (11, .pointer (some ⟨b26, 0, none⟩))], [.blk b26 [.int .i64 k, .string nm, .int .i64 num, .int .i64 tk, .slice q1 tks.length c1, .int .i64 fk, .slice q2 fks.length c2, .int .i64 lb, .slice x.2.1.1 x.1 x.2.1.2.1], .slc x.2.1.1 x.2.1.2.1 36 9 x.1 x.2.1.2.2.2.flatten, .slc x.2.2.1.1 x.2.2.1.2.1 33 2 x.1 x.2.2.1.2.2.2.flatten, .blk b17 [.int .i64 t9.k, .slice p1 t9.ks.length d1], .blk b5 [.int .i64 0, .slice none 0 0], .blk b4 [.int .i64 0, .string ⟨⟨[]⟩⟩, .int .i64 0, .int .i64 0, .slice none 0 0, .int .i64 0, .slice none 0 0, .int .i64 0, .slice none 0 0], .blk b3 [.int .i64 k, .string nm, .int .i64 num, .int .i64 tk, .slice pt tks.length ct, .int .i64 fk, .slice pf fks.length cf, .int .i64 lb, .slice q ks.length cq]], x.2.2.2.2⟩) (fun x => x.1 ≤ ks.length ∧ IMle Gx x.2.2.2.2 ∧ x.2.1.2.2.1.length = x.1 ∧ RTmL x.2.2.2.2 x.2.1.2.2.1 x.2.1.2.2.2 ∧ x.2.2.1.2.2.1.length = x.1 ∧ RTyL x.2.2.2.2 x.2.2.1.2.2.1 x.2.2.1.2.2.2 ∧ mElL (inCx cx k nm (.mk tk tks)) (ks.take x.1) l0 = some (x.2.1.2.2.1, x.2.2.1.2.2.1, x.2.2.2.1) ∧ l0 ≤ x.2.2.2.1 ∧ x.2.2.2.1 + x.1 ≤ l0 + (tmCountL (ks.take x.1) : Int)) (fun x => ks.length - x.1) (0, (none, 0, [], []), (some ⟨b66, 0, none⟩, 0, [], []), l0, Gx) ?_ ?_ ?_)
   ·(simp only [List.take_zero, mCasts_nil]; exact (sub_mk (by repeat (first | exact SubE.nil | refine SubE.cons rfl ?_)) (by repeat (first | exact SubH.refl | exact SubH.nil | refine SubH.cons (by repeat (first | exact Pk.here | apply Pk.there)) ?_ | apply SubH.drop))))
   ·(exact ⟨by simp, IMle.refl _, rfl, by simp [RTmL], rfl, by simp [RTyL], by simp [mElL], Int.le_refl _, by simp [tmCountL]⟩)
   ·(rintro ⟨i, ⟨pn, cn, us, es'⟩, ⟨pm, cm, ts, ess⟩, l, Gi⟩ ⟨hi, hle, hlu, hst, hlt, hstt, hml, hl1, hl2⟩; simp only [] at hi hle hlu hst hlt hstt hml hl1 hl2 ⊢; replace hty1 := hty1.mono hle; replace hfr1 := hfr1.mono hle; replace hsl := hsl.mono hle; replace hkl := hkl.mono hle; replace hmr := hmr.mono hle; replace hr0 := hr0.mono hle; replace hxX := hxX.mono hle)
    refine tS ?_
    refine tS ?_
    refine tR ?_
    refine sP (pM rfl) rfl rfl ?_
    refine sP (pF0 rfl) rfl rfl ?_
    refine sL (lBs rfl rfl) rfl rfl ?_
    refine sP (pLn rfl rfl) rfl rfl ?_
    refine sB (pure_lss rfl rfl) rfl rfl (fun h88 => ?_) (fun h88 => ?_)
    ·refine sD ?_
     refine nS ?_
     refine cT rfl ?_
     refine tK ?_
     refine nS ?_
     refine tS ?_
     refine tri_block ?_
     refine tS ?_
     refine tR ?_
     refine sP (pM rfl) rfl rfl ?_
     refine sP (pF0 rfl) rfl rfl ?_
     refine sL (lBs rfl rfl) rfl rfl ?_
     refine sP (pM rfl) rfl rfl ?_
     (obtain ⟨b, o, e, rfl, hl, hate, hre, hgb⟩ := hsl.kidTm hkl (i := i) (by omega) (by omega); have hsc := tmCountL_succ (ks := ks) (i := i) (by omega); have hsk := tmCountL_take (ks := ks) (i := i) (by omega); rcases hE : mEl (inCx cx k nm (Ty.mk tk tks)) ks[i] l with _ | ⟨u, t, l3⟩; (have hno := mElL_no (by omega) hml hE; rw [hEL] at hno; cases hno); have hlm := el_goodL.el_mono _ _ _ _ _ _ hE; have hlx := el_labK ks[i] (d + 1) _ l u t l3 (hvk i (by omega)) hE; refine sP (pIN rfl rfl rfl (by omega)) rfl rfl ?_)
     refine sL (load_a rfl rfl (hate _) hl) rfl rfl ?_
     refine sP (pM rfl) rfl rfl ?_
     (refine seq_imm rfl (ih ks[i] (List.getElem_mem (by omega)) (d + 1) _ l u t l3 Gi px nx cxx _ hE (hvk i (by omega)) (by omega) hcvX hxX hre (by omega) (by omega)) rfl rfl (fun v G3 hle3 hh => ?_); obtain ⟨uc, tc, rfl, hru, hrt⟩ := hh; obtain ⟨v1, v2, v3, v4, v5, v6, v7, v8, v9, rfl⟩ := nine hru.len; obtain ⟨p3, c3, e3, rfl, _⟩ := hrt.open; have hlu9 := hru.len; have hou9 := hru.one)
     refine sP (pM rfl) rfl rfl ?_
     refine sP (pX rfl rfl) rfl rfl ?_
     refine sP (pX rfl rfl) rfl rfl ?_
     refine sP (pX rfl rfl) rfl rfl ?_
     (refine seq_step (step_alloc rfl) rfl ?_; rintro _ ⟨b110, rfl⟩)
     (refine seq_step (step_alloc rfl) rfl ?_; rintro _ ⟨b111, rfl⟩)
     refine sS rfl rfl rfl hlu9 hou9 rfl ?_ (hu := by exact upd_all hlu9.symm)
     refine sS rfl rfl rfl rfl rfl rfl ?_
     refine sP (pA rfl) rfl rfl ?_
     refine sD ?_
     refine nS ?_
     refine tS ?_
     refine tR ?_
     refine sP (pF0 rfl) rfl rfl ?_
     refine sL (lBs rfl rfl) rfl rfl ?_
     refine sL (lBa rfl rfl) rfl rfl ?_
     (refine seq_step (step_buildSlice rfl rfl rfl (by omega) (by unfold maxLen; omega) rfl) rfl ?_; rintro _ ⟨b122, rfl⟩)
     refine seq_append rfl rfl rfl rfl rfl (fun _ _ => by repeat (first | exact Sw.here | apply Sw.there)) (at_slc_all (by repeat first | exact mH | apply mT)) rfl (fun u hu => List.all_eq_true.1 hou9 u hu) (by unfold maxLen; omega) (by omega) rfl (fun pn' cn' => ?_)
     refine sP (pF0 rfl) rfl rfl ?_
     refine sS rfl rfl rfl rfl rfl rfl ?_
     refine sD ?_
     refine nS ?_
     refine tS ?_
     refine tR ?_
     refine sP (pM rfl) rfl rfl ?_
     refine sL (lBa rfl rfl) rfl rfl ?_
     (refine seq_step (step_buildSlice rfl rfl rfl (by omega) (by unfold maxLen; omega) rfl) rfl ?_; rintro _ ⟨b132, rfl⟩)
     refine seq_append rfl rfl rfl rfl rfl (fun _ _ => by repeat (first | exact Sw.here | apply Sw.there)) (at_slc_all (by repeat first | exact mH | apply mT)) rfl (by simp [Value.oneCell']) (by unfold maxLen; omega) (by omega) rfl (fun pm' cm' => ?_)
     refine sP (pA rfl) rfl rfl ?_
     refine sD ?_
     refine nS ?_
     refine tR ?_
     refine sP (pM rfl) rfl rfl ?_
     refine sP (pA rfl) rfl rfl ?_
     refine sD ?_
     refine nrm_block ?_
     refine nS ?_
     refine tR ?_
     refine sP (pM rfl) rfl rfl ?_
     refine sP (pure_add rfl rfl (by omega) (by omega)) rfl rfl ?_
     refine sP (pA rfl) rfl rfl ?_
     refine sD ?_
     refine nrm_loopN (i + 1, (pn', cn', us ++ [u], es' ++ [[v1, v2, v3, v4, v5, v6, v7, v8, v9]]), (pm', cm', ts ++ [t], ess ++ [[.int .i64 t.k, .slice p3 t.ks.length c3]]), l3, G3) ?_ ?_ ?_
     ·(simp only [flat_snoc]; exact sub_mk (by repeat (first | exact SubE.nil | refine SubE.cons rfl ?_)) (by repeat (first | exact SubH.refl | exact SubH.nil | refine SubH.cons (by repeat (first | exact Pk.here | apply Pk.there)) ?_ | apply SubH.drop)))
     ·(dsimp only; exact ⟨by omega, hle.trans hle3, by simp [hlu], RTmL.snoc (hst.mono hle3) hru, by simp [hlt], RTyL.snoc (hstt.mono hle3) hrt, mElL_succ (by omega) hml hE, by omega, by omega⟩)
     ·(show ks.length - (i + 1) < ks.length - i; omega)
    ·refine sD ?_
     refine nS ?_
     refine cF rfl ?_
     refine tri_exit ?_
     refine ext_seq ?_
     refine ext_loopN ?_
     refine ext_block_eq ?_
     refine nS ?_
     refine tS ?_
     refine tR ?_
     refine sL (lBa rfl rfl) rfl rfl ?_
     refine sP (pM rfl) rfl rfl ?_
     refine sL (lBa rfl rfl) rfl rfl ?_
     (obtain rfl : i = ks.length := (by omega); rw [List.take_length] at hml hl2; rw [hEL] at hml; simp only [Option.some.injEq, Prod.mk.injEq] at hml; obtain ⟨rfl, rfl, rfl⟩ := hml; refine triL_freeze (cs := ess.flatten) (by repeat (first | exact Pk.here | apply Pk.there)) (fun G4 hle4 hsl4 hno4 => ?_); have hstt4 := hstt.mono hle4; have hslT : SlE G4 pm ks.length cm 2 ess := SlE.of hsl4 (by rw [hstt4.len, hlt]) hstt4.all (fun e he => (hstt4.each e he).2); have hW := l4WantX_fn cx k nm num (.mk tk tks) (.mk fk fks) lb ks _ w _ G4 _ _ pm cm ess hmw hv2 (by rw [hlt]; exact har) (hr0.mono hle4) (by rw [hlt]; exact hslT) hstt4 (fun t ht => tValid_ar' (htv t ht)) (hmr.mono hle4); rw [hlt] at hW; refine seq_imm rfl hW rfl rfl (fun v G5 hle5 hh => ?_); obtain ⟨pw, cw, esw, rfl, hlw, hsw, hstw⟩ := hh; have hle45 := hle4.trans hle5; replace hty1 := hty1.mono hle45; replace hfr1 := hfr1.mono hle45; replace hmr := hmr.mono hle45; replace hst := hst.mono hle45; replace hslT := hslT.mono hle5; replace hstt := hstt.mono hle45; rcases Nat.eq_zero_or_pos ks.length with h0 | h0)
     ·refine sP (pA rfl) rfl rfl ?_
      refine sD ?_
      refine nS ?_
      refine tS ?_
      refine tS ?_
      refine tR ?_
      refine sP (pA rfl) rfl rfl ?_
      refine sD ?_
      refine nS ?_
      refine tri_block ?_
      (have h0' : ks.length = 0 := h0; refine tri_loopN (fun (_ : Nat) => ⟨[(18, .int .i64 0), (17, .slice pw ks.length cw), (12, .slice pm ks.length cm), (2, .int .i64 (lA + 1)), (4, .pointer (some ⟨b3, 0, none⟩)), (6, .pointer (some ⟨b4, 0, none⟩)), (7, .pointer (some ⟨b5, 0, none⟩)), (9, .pointer (some ⟨b17, 0, none⟩)), (11, .pointer (some ⟨b26, 0, none⟩))], [.blk b26 [.int .i64 k, .string nm, .int .i64 num, .int .i64 tk, .slice q1 tks.length c1, .int .i64 fk, .slice q2 fks.length c2, .int .i64 lb, .slice pn ks.length cn], .slc pn cn 36 9 ks.length es'.flatten, .blk b17 [.int .i64 t9.k, .slice p1 t9.ks.length d1], .blk b5 [.int .i64 0, .slice none 0 0], .blk b4 [.int .i64 0, .string ⟨⟨[]⟩⟩, .int .i64 0, .int .i64 0, .slice none 0 0, .int .i64 0, .slice none 0 0, .int .i64 0, .slice none 0 0], .blk b3 [.int .i64 k, .string nm, .int .i64 num, .int .i64 tk, .slice pt tks.length ct, .int .i64 fk, .slice pf fks.length cf, .int .i64 lb, .slice q ks.length cq]], G5⟩) (fun _ => True) (fun i => i) 0 ?_ ?_ ?_)
      ·exact sub_mk (by repeat (first | exact SubE.nil | refine SubE.cons rfl ?_)) (by repeat (first | exact SubH.refl | exact SubH.nil | refine SubH.cons (by repeat (first | exact Pk.here | apply Pk.there)) ?_ | apply SubH.drop))
      ·trivial
      ·(rintro (i0 : Nat) _)
       refine tS ?_
       refine tS ?_
       refine tR ?_
       refine sP (pM rfl) rfl rfl ?_
       refine sP (pM rfl) rfl rfl ?_
       refine sP (pLn rfl rfl) rfl rfl ?_
       refine sP (pure_lss_f rfl rfl (by omega)) rfl rfl ?_
       refine sD ?_
       refine nS ?_
       refine cF rfl ?_
       refine tri_exit ?_
       refine ext_seq ?_
       refine ext_loopN ?_
       refine ext_block_eq ?_
       refine nS ?_
       refine tS ?_
       refine tS ?_
       refine tR ?_
       refine sP (pF0 rfl) rfl rfl ?_
       refine sL (lBs rfl rfl) rfl rfl ?_
       refine sP (pure_eql_f rfl rfl (by omega)) rfl rfl ?_
       refine sD ?_
       refine nS ?_
       refine cF rfl ?_
       refine tK ?_
       refine nS ?_
       refine tS ?_
       refine tri_draw mixed rfl ?_
       refine any_load (i := 0) (l' := [tt,ff,ff,ff,ff,ff]) rfl npI (lBa rfl rfl) rfl (by kernel_rfl) rfl rfl ?_
       refine aL 1 rfl (lBa rfl rfl) rfl rfl ?_
       refine aP 2 rfl (pM rfl) rfl rfl ?_
       refine aO (j := 3) (by kernel_rfl) ?_
       refine oS rfl rfl rfl rfl rfl rfl rfl rfl ?_
       refine aO (j := 4) (by kernel_rfl) ?_
       refine oS rfl rfl rfl rfl rfl rfl rfl rfl ?_
       refine aP 5 rfl (pA rfl) rfl rfl ?_
       refine aD (by kernel_rfl) ?_
       refine nS ?_
       (refine ret_freeze (cs := es'.flatten) (by repeat (first | exact Pk.here | apply Pk.there)) (fun G8 hle8 hsl8 hno8 => ?_); have hst8 := hst.mono hle8)
       refine tT ?_
       refine rF3 (rC rfl (lBa rfl rfl)) (rC rfl (lBa rfl rfl)) (rT rfl) ?_
       (have hu9 : usA = [] := List.length_eq_zero_iff.1 (by omega); have hne : k ≠ 13 := (fun h => by have := hk13 h; omega); have hz : mCasts usA tsA w lA = (usA, lA) := (by rw [hu9]; simp [mCasts]); rw [if_neg hne, hz] at hu0; subst hu0; rw [hz]; exact ⟨rfl, _, _, rfl, RTm.put hk hnum hlb (hty1.mono hle8) (hfr1.mono hle8) hlA1.symm (SlE.of hsl8 (by rw [hst8.len, hlA1]) hst8.all (fun e he => (hst8.each e he).2)) hst8, hmr.mono hle8⟩)
     ·(refine triL_open (cs := es'.flatten) (by repeat (first | exact Pk.here | apply Pk.there)) h0 (fun bc C hpe hnc hcm => ?_); subst hpe; refine sP (pA rfl) rfl rfl ?_)
      refine sD ?_
      refine nS ?_
      refine tS ?_
      refine tS ?_
      refine tR ?_
      refine sP (pA rfl) rfl rfl ?_
      refine sD ?_
      refine nS ?_
      refine tri_block ?_
      (have hLoop2 := hlw; refine tri_loopN (fun (x : Nat × List (List Value) × IM) => ⟨[(18, .int .i64 x.1), (17, .slice pw ks.length cw), (12, .slice pm ks.length cm), (2, .int .i64 ((mCasts usA tsA ((wantOf w tsA).take x.1) lA).2 + 1)), (4, .pointer (some ⟨b3, 0, none⟩)), (6, .pointer (some ⟨b4, 0, none⟩)), (7, .pointer (some ⟨b5, 0, none⟩)), (9, .pointer (some ⟨b17, 0, none⟩)), (11, .pointer (some ⟨b26, 0, none⟩))], [.blk b26 [.int .i64 k, .string nm, .int .i64 num, .int .i64 tk, .slice q1 tks.length c1, .int .i64 fk, .slice q2 fks.length c2, .int .i64 lb, .slice (some ⟨bc, 0, none⟩) ks.length cn], .blk bc (x.2.1.flatten ++ C), .blk b17 [.int .i64 t9.k, .slice p1 t9.ks.length d1], .blk b5 [.int .i64 0, .slice none 0 0], .blk b4 [.int .i64 0, .string ⟨⟨[]⟩⟩, .int .i64 0, .int .i64 0, .slice none 0 0, .int .i64 0, .slice none 0 0, .int .i64 0, .slice none 0 0], .blk b3 [.int .i64 k, .string nm, .int .i64 num, .int .i64 tk, .slice pt tks.length ct, .int .i64 fk, .slice pf fks.length cf, .int .i64 lb, .slice q ks.length cq]], x.2.2⟩) (fun x => x.1 ≤ ks.length ∧ IMle G5 x.2.2 ∧ RTmL x.2.2 (mCasts usA tsA ((wantOf w tsA).take x.1) lA).1 x.2.1) (fun x => ks.length - x.1) (0, es', G5) ?_ ?_ ?_)
      ·(simp only [List.take_zero, mCasts_nil]; exact (sub_mk (by repeat (first | exact SubE.nil | refine SubE.cons rfl ?_)) (by repeat (first | exact SubH.refl | exact SubH.nil | refine SubH.cons (by repeat (first | exact Pk.here | apply Pk.there)) ?_ | apply SubH.drop))))
      ·(exact ⟨Nat.zero_le _, IMle.refl _, by simp only [List.take_zero, mCasts_nil]; exact hst⟩)
      ·(rintro ⟨j, es2, G6⟩ ⟨hj, hle6, hst2⟩; simp only [] at hj hle6 hst2 ⊢; replace hty1 := hty1.mono hle6; replace hfr1 := hfr1.mono hle6; replace hmr := hmr.mono hle6; replace hslT := hslT.mono hle6; replace hstt := hstt.mono hle6; replace hsw := hsw.mono hle6; replace hstw := hstw.mono hle6; have hle2s := hst2.len; rw [mCasts_len] at hle2s; have hall2 := hst2.all)
       refine tS ?_
       refine tS ?_
       refine tR ?_
       refine sP (pM rfl) rfl rfl ?_
       refine sP (pM rfl) rfl rfl ?_
       refine sP (pLn rfl rfl) rfl rfl ?_
       refine sB (pure_lss rfl rfl) rfl rfl (fun h242 => ?_) (fun h242 => ?_)
       ·refine sD ?_
        refine nS ?_
        refine cT rfl ?_
        refine tK ?_
        refine nS ?_
        refine tS ?_
        refine tri_block ?_
        (have hjw : j < (wantOf w tsA).length := (by omega); obtain ⟨bt, ot, qt, dt, hpt, hatt, hrtt, hgt⟩ := hslT.kidTy hstt (i := j) (by omega) (by omega); obtain ⟨bw, ow, qw, dw, hpw, hatw, hrtw, hgw⟩ := (show SlE G6 pw (wantOf w tsA).length cw 2 esw from by rw [hlw]; exact hsw).kidTy hstw (i := j) (by omega) (by omega); cases hpt; cases hpw; obtain ⟨m1, m2, _⟩ := mCasts_succ usA tsA (wantOf w tsA) lA j hjw (by omega) (by omega); obtain ⟨m3, m4⟩ := mCasts_next (us := usA) (h := tsA) (w := wantOf w tsA) (l := lA) hjw (by omega) (by omega); obtain ⟨hE1, hE2⟩ := hst2.at2 (i := j) (by omega) (by omega); rw [m2] at hE2; have hE3 := hE2.len; have hcj := mCasts_lab usA tsA ((wantOf w tsA).take j) lA; refine tri_draw mixed rfl ?_)
        refine any_pure (i := 0) (l' := [tt,ff,ff,ff,ff,ff,ff,ff,ff,ff,ff,ff,ff,ff,ff,ff,ff,ff,ff,ff,ff,ff,ff,ff]) rfl npI (pF0 rfl) rfl (by kernel_rfl) rfl rfl ?_
        refine aL 1 rfl (lBs rfl rfl) rfl rfl ?_
        refine aP 2 rfl (pM rfl) rfl rfl ?_
        refine aP 3 rfl (pF0 rfl) rfl rfl ?_
        refine aL 4 rfl (lBs rfl rfl) rfl rfl ?_
        refine aP 5 rfl (pM rfl) rfl rfl ?_
        refine aP 6 rfl (pIN (j := j) rfl rfl rfl (by omega)) rfl rfl ?_
        refine aL 7 rfl (load_a rfl rfl (at_elem (es := es2) (by repeat first | exact mH | apply mT) (by omega) hall2) hE3) rfl rfl ?_
        refine aP 8 rfl (pM rfl) rfl rfl ?_
        refine aP 9 rfl (pM rfl) rfl rfl ?_
        refine aP 10 rfl (pIN (j := j) rfl rfl rfl (by omega)) rfl rfl ?_
        refine aL 11 rfl (load_a rfl rfl (hatt _) rfl) rfl rfl ?_
        refine aP 12 rfl (pM rfl) rfl rfl ?_
        refine aP 13 rfl (pM rfl) rfl rfl ?_
        refine aP 14 rfl (pIN (j := j) rfl rfl rfl (by omega)) rfl rfl ?_
        refine aL 15 rfl (load_a rfl rfl (hatw _) rfl) rfl rfl ?_
        refine aP 16 rfl (pM rfl) rfl rfl ?_
        refine aO (j := 17) (by kernel_rfl) ?_
        (have hwsm := (tValid_ar' (hWV _ (List.getElem_mem (show j < (wantOf w tsA).length by omega)))).small; refine one_imm (l' := [tt,tt,tt,tt,tt,tt,tt,tt,tt,tt,tt,tt,tt,tt,tt,tt,tt,tt,ff,ff,ff,ff,ff,ff]) rfl rfl (l4CastX_fn usA[j] tsA[j] (wantOf w tsA)[j] _ _ _ _ _ (by omega) hE2 hrtt hrtw (tValid_ar' (htv _ (List.getElem_mem (by omega)))).small hwsm) rfl rfl rfl (fun v G7 hle7 hh => ?_); obtain ⟨uc, rfl, hru⟩ := hh; rw [show (if tSame tsA[j] (wantOf w tsA)[j] = true then (mCasts usA tsA ((wantOf w tsA).take j) lA).2 + 1 else (mCasts usA tsA ((wantOf w tsA).take j) lA).2 + 1 + 1) = (mCasts usA tsA ((wantOf w tsA).take (j + 1)) lA).2 + 1 from by rw [m4]; split <;> rfl]; have hlu9 := hru.len; have hou9 := hru.one)
        refine aP 18 rfl (pM rfl) rfl rfl ?_
        refine aP 19 rfl (pX rfl rfl) rfl rfl ?_
        refine aP 21 rfl (pIN (j := j) rfl rfl rfl (by omega)) rfl rfl ?_
        refine aP 20 rfl (pX rfl rfl) rfl rfl ?_
        refine aO (j := 22) (by kernel_rfl) ?_
        refine one_store rfl rfl rfl rfl hlu9 hou9 rfl rfl (by kernel_rfl) (by repeat first | exact Sw.here | apply Sw.there) (by exact upd_set (by omega) hall2 hlu9) ?_
        refine aP 23 rfl (pA rfl) rfl rfl ?_
        refine aD (by kernel_rfl) ?_
        refine nrm_block ?_
        refine nS ?_
        refine tR ?_
        refine sP (pM rfl) rfl rfl ?_
        refine sP (pure_add rfl rfl (by omega) (by omega)) rfl rfl ?_
        refine sP (pA rfl) rfl rfl ?_
        refine sD ?_
        refine nrm_loopN (j + 1, es2.set j uc, G7) ?_ ?_ ?_
        ·(simp only [List.take_zero, mCasts_nil]; exact (sub_mk (by repeat (first | exact SubE.nil | refine SubE.cons rfl ?_)) (by repeat (first | exact SubH.refl | exact SubH.nil | refine SubH.cons (by repeat (first | exact Pk.here | apply Pk.there)) ?_ | apply SubH.drop))))
        ·(dsimp only; exact ⟨by omega, hle6.trans hle7, by rw [m3]; exact RTmL.set (hst2.mono hle7) hru⟩)
        ·(show ks.length - (j + 1) < ks.length - j; omega)
       ·refine sD ?_
        refine nS ?_
        refine cF rfl ?_
        refine tri_exit ?_
        refine ext_seq ?_
        refine ext_loopN ?_
        refine ext_block_eq ?_
        refine nS ?_
        refine tS ?_
        refine tS ?_
        refine tR ?_
        refine sP (pF0 rfl) rfl rfl ?_
        refine sL (lBs rfl rfl) rfl rfl ?_
        refine sB (pE rfl rfl) rfl rfl (fun h302 => ?_) (fun h302 => ?_)
        ·refine sD ?_
         refine nS ?_
         refine cT rfl ?_
         refine tS ?_
         (have hq13 : k = 13 := (by omega); have hl13 := hk13 hq13; have hjw : j = (wantOf w tsA).length := (by omega); rw [hjw, List.take_length, mCasts_want] at hst2; have hm0 := mCasts_len usA tsA w lA; obtain ⟨hE1, hE2⟩ := hst2.at2 (i := 0) (by omega) (by omega); have hE3 := hE2.len; have hE4 := hE2.one; refine tri_draw mixed rfl ?_)
         refine any_pure (i := 0) (l' := [tt,ff,ff,ff,ff,ff,ff,ff,ff]) rfl npI (pF0 rfl) rfl (by kernel_rfl) rfl rfl ?_
         refine aL 1 rfl (lBs rfl rfl) rfl rfl ?_
         refine aP 2 rfl (pIN (j := 0) rfl rfl rfl (by omega)) rfl rfl ?_
         refine aL 3 rfl (load_a rfl rfl (at_elem (es := es2) (by repeat first | exact mH | apply mT) (by omega) hall2) hE3) rfl rfl ?_
         refine aL 4 rfl (lBa rfl rfl) rfl rfl ?_
         refine aP 5 rfl (pM rfl) rfl rfl ?_
         refine aO (j := 6) (by kernel_rfl) ?_
         refine oS rfl rfl rfl rfl hE3 hE4 rfl rfl ?_ (hu := by exact upd_all hE3.symm)
         refine aO (j := 7) (by kernel_rfl) ?_
         refine oS rfl rfl rfl rfl rfl rfl rfl rfl ?_
         refine aP 8 rfl (pA rfl) rfl rfl ?_
         refine aD (by kernel_rfl) ?_
         refine nS ?_
         (refine tri_freezes (bs := [(bc, es2.flatten ++ C)]) (Pk.perm (by repeat (first | exact Pk.here | apply Pk.there))) (fun hn9 hd9 hle9 => ?_))
         refine tT ?_
         refine rS ?_
         refine rF3 (rC rfl (load_a rfl rfl (at_blk_all (by repeat first | exact mH | apply mT)) hE3)) (rC rfl (lBa rfl rfl)) (rT rfl) ?_
         (rw [if_pos hq13, getD0 (by omega)] at hu0; subst hu0; rw [hjw, List.take_length, mCasts_want]; exact ⟨rfl, _, _, rfl, hE2.mono hle9, hmr.mono hle9⟩)
        ·refine sD ?_
         refine nS ?_
         refine cF rfl ?_
         refine tK ?_
         refine nS ?_
         refine tS ?_
         refine tri_draw mixed rfl ?_
         refine any_load (i := 0) (l' := [tt,ff,ff,ff,ff,ff]) rfl npI (lBa rfl rfl) rfl (by kernel_rfl) rfl rfl ?_
         refine aL 1 rfl (lBa rfl rfl) rfl rfl ?_
         refine aP 2 rfl (pM rfl) rfl rfl ?_
         refine aO (j := 3) (by kernel_rfl) ?_
         refine oS rfl rfl rfl rfl rfl rfl rfl rfl ?_
         refine aO (j := 4) (by kernel_rfl) ?_
         refine oS rfl rfl rfl rfl rfl rfl rfl rfl ?_
         refine aP 5 rfl (pA rfl) rfl rfl ?_
         refine aD (by kernel_rfl) ?_
         refine nS ?_
         (refine tri_freezes (bs := [(bc, es2.flatten ++ C)]) (Pk.perm (by repeat (first | exact Pk.here | apply Pk.there))) (fun hn9 hd9 hle9 => ?_))
         refine tT ?_
         refine rF3 (rC rfl (lBa rfl rfl)) (rC rfl (lBa rfl rfl)) (rT rfl) ?_
         (have hjw : j = (wantOf w tsA).length := (by omega); rw [hjw, List.take_length, mCasts_want] at hst2; have hst9 := hst2.mono hle9; have hm0 := mCasts_len usA tsA w lA; rw [if_neg (by omega)] at hu0; subst hu0; rw [hjw, List.take_length, mCasts_want]; exact ⟨rfl, _, _, rfl, RTm.put hk hnum hlb (hty1.mono hle9) (hfr1.mono hle9) (by rw [hm0, hlA1]) (SlE.of (Sl.of_blk (A := []) (by rw [flat_len hst9.all, hst9.len, hm0, hlA1]) (by omega) hcm (Wi.in hn9 List.mem_cons_self)) (by rw [hst9.len, hm0, hlA1]) hst9.all (fun e he => (hst9.each e he).2)) hst9, hmr.mono hle9⟩)
set_option maxHeartbeats 0 in
set_option maxRecDepth 100000 in
theorem sInsertCastsX_fn (e : Tm) (G : IM) (cells : List Value) (hcnt : tmCount e ≤ 4294967296) (hr : RTm G e cells) : Fn Tryz.prog 40 [.agg ⟨cells⟩] [] G (InsX (mInsert e)) := by
 have hl := hr.len
 have hone := hr.one
 refine fn_enter Tryz.func40 rfl Tryz.ntmps40 Tryz.results40 rfl ?_
 intro w0
 refine tS (tR ?_)
 (refine seq_step (step_box_a rfl rfl) rfl ?_; rintro _ ⟨b3, rfl⟩)
 (refine seq_step (step_alloc rfl) rfl ?_; rintro _ ⟨b4, rfl⟩)
 (refine seq_step (step_alloc rfl) rfl ?_; rintro _ ⟨b5, rfl⟩)
 refine sP (pA rfl) rfl rfl (sD (nS (tS (tR (sL (load_a rfl rfl (at_blk_all (by repeat first | exact mH | apply mT)) (by assumption)) rfl rfl ?_)))))
 focus (refine seq_imm rfl (typeOfX_fn e _ _ (by omega) hr) rfl rfl (fun v G1 hle1 hh => ?_); obtain ⟨mc, mt, rfl, hmr, hmu⟩ := hh; obtain ⟨pt, ct, et, rfl, _⟩ := hmr.open; obtain ⟨r, hI⟩ : ∃ r, mInsert e = r := ⟨_, rfl⟩; rcases r with _ | ⟨u, t⟩; (have hto : mTypeOf e = none := by unfold mTypeOf; rw [hI]); rotate_left; (have hto : mTypeOf e = some t := by unfold mTypeOf; rw [hI]); obtain ⟨hv, l3, hE⟩ := insert_inv hI; obtain ⟨hv1, hv2⟩ := (termValid_iff e).1 hv; rotate_left; all_goals rw [hto]; all_goals simp only [Option.isSome])
 refine sP (pM rfl) rfl rfl (sP (pX rfl rfl) rfl rfl (sP (pX rfl rfl) rfl rfl ?_))
 (refine seq_step (step_alloc rfl) rfl ?_; rintro _ ⟨b16, rfl⟩)
 refine sS rfl rfl rfl rfl rfl rfl ?_
 refine sP (pA rfl) rfl rfl (sD (nS (tS (tS (tR (sP (pM rfl) rfl rfl ?_))))))
 refine sP (pNf rfl) rfl rfl (sD (nS (cT rfl ?_)))
 refine tS (tR (sP (pBd rfl rfl) rfl rfl (sP (pBd rfl rfl) rfl rfl (sS rfl rfl rfl rfl rfl rfl ?_))))
 refine sS rfl rfl rfl rfl rfl rfl ?_
 refine sP (pA rfl) rfl rfl (sD (nS (tT (rS (rF3 (rC rfl (lBa rfl rfl)) (rC rfl (lBa rfl rfl)) (rT rfl) ?_)))))
 (exact InsX.no (by first | exact hI | rfl) (tm0_r _) (tyLeaf_r _ ⟨by omega, by omega⟩))
 refine sP (pM rfl) rfl rfl (sP (pX rfl rfl) rfl rfl (sP (pX rfl rfl) rfl rfl ?_))
 (refine seq_step (step_alloc rfl) rfl ?_; rintro _ ⟨b45, rfl⟩)
 refine sS rfl rfl rfl rfl rfl rfl ?_
 refine sP (pA rfl) rfl rfl (sD (nS (tS (tS (tR (sP (pM rfl) rfl rfl ?_))))))
 refine sP (pNt rfl) rfl rfl (sD (nS (cF rfl ?_)))
 refine tK (nS (tS (tR (sL (load_a rfl rfl (at_blk_all (by repeat first | exact mH | apply mT)) (by assumption)) rfl rfl ?_))))
 (have hIn := l4InsertX_fn e 1 [] 0 u t l3 G1 none 0 0 cells hE hv1 (by omega) cxV_nil (RCx.nil _) (hr.mono hle1) (by omega) (by omega); refine seq_imm rfl hIn rfl rfl (fun v G2 hle2 hh => ?_); obtain ⟨cu, tc, rfl, hru, hrt⟩ := hh; obtain ⟨qt, dt, et2, rfl, _⟩ := hrt.open; have hlu := hru.len; have hou := hru.one)
 refine sP (pM rfl) rfl rfl (sP (pX rfl rfl) rfl rfl (sP (pX rfl rfl) rfl rfl (sP (pX rfl rfl) rfl rfl ?_)))
 (refine seq_step (step_alloc rfl) rfl ?_; rintro _ ⟨b68, rfl⟩)
 (refine seq_step (step_alloc rfl) rfl ?_; rintro _ ⟨b69, rfl⟩)
 refine seq_store rfl rfl rfl hlu hou rfl (by repeat first | exact Sw.here | apply Sw.there) (by exact upd_all (by first | exact hlu.symm | omega)) ?_
 refine sS rfl rfl rfl rfl rfl rfl ?_
 refine sP (pA rfl) rfl rfl (sD (nS (tS (tri_draw mixed rfl ?_))))
 refine any_load (i := 0) (l' := [tt,ff,ff,ff,ff]) rfl npI (load_a rfl rfl (at_blk_all (by repeat first | exact mH | apply mT)) hlu) rfl (by kernel_rfl) rfl rfl ?_
 refine aL 1 rfl (lBa rfl rfl) rfl rfl ?_
 refine aO (j := 2) (by kernel_rfl) ?_
 refine oS rfl rfl rfl rfl hlu hou rfl rfl ?_ (hu := by exact upd_all hlu.symm)
 refine aO (j := 3) (by kernel_rfl) ?_
 refine oS rfl rfl rfl rfl rfl rfl rfl rfl ?_
 refine aP 4 rfl (pA rfl) rfl rfl ?_
 refine aD (by kernel_rfl) ?_
 refine nS (tT (rF3 (rC rfl (load_a rfl rfl (at_blk_all (by repeat first | exact mH | apply mT)) hlu)) (rC rfl (lBa rfl rfl)) (rT rfl) ?_))
 (exact InsX.yes (by first | exact hI | rfl) hru hrt)
end Gw
end Go.Proofs.YtaiafkcflhcdaaaGreatDoor
namespace Go.Proofs.YtaiafkcflhcdaaaGreatDoor
open Go Go.RowKit
namespace Gw
inductive MV where
 | mk (k num : Int) (env parts : List MV)
def MV.k : MV → Int | .mk k _ _ _ => k
def MV.num : MV → Int | .mk _ n _ _ => n
def MV.env : MV → List MV | .mk _ _ e _ => e
def MV.parts : MV → List MV | .mk _ _ _ p => p
def mv0 : MV := .mk 0 0 [] []
/- How it lies in memory; kc says how a kind is written. -/
mutual
def RMv (kc : Int → Int) (G : IM) : MV → List Value → Prop
 | .mk k num env parts, cells => ∃ p c es q d fs, cells = [.int .i64 (kc k), .int .i64 num, .slice p env.length c, .slice q parts.length d] ∧ I64 num ∧ I64 (kc k) ∧ SlE G p env.length c 4 es ∧ RMvL kc G env es ∧ SlE G q parts.length d 4 fs ∧ RMvL kc G parts fs
def RMvL (kc : Int → Int) (G : IM) : List MV → List (List Value) → Prop
 | [], es => es = []
 | t :: ts, es => ∃ a r, es = a :: r ∧ RMv kc G t a ∧ RMvL kc G ts r
end
section
variable {kc : Int → Int} {G : IM}
end

/- Where to go back to, and with what environment. -/
def RFr (kc : Int → Int) (G : IM) (f : Int × List MV) (cells : List Value) : Prop := ∃ p c es, cells = [.int .i64 f.1, .slice p f.2.length c] ∧ I64 f.1 ∧ SlE G p f.2.length c 4 es ∧ RMvL kc G f.2 es
def RFrL (kc : Int → Int) (G : IM) : List (Int × List MV) → List (List Value) → Prop
 | [], es => es = []
 | t :: ts, es => ∃ a r, es = a :: r ∧ RFr kc G t a ∧ RFrL kc G ts r
section
variable {kc : Int → Int} {G : IM}
end

/-- A state: what runs next, the stack, the environment, where to go back to. -/
structure MSt where
 at' : Int
 st : List MV
 env : List MV
 fr : List (Int × List MV)
/-- A state in memory that no longer changes. -/
def RSs (kc : Int → Int) (G : IM) (s : MSt) (cells : List Value) : Prop := ∃ pe ce ps cs pf cf ee es ef, cells = [.int .i64 s.at', .slice pe s.env.length ce, .slice ps s.st.length cs, .slice pf s.fr.length cf] ∧ I64 s.at' ∧
 SlE G pe s.env.length ce 4 ee ∧ RMvL kc G s.env ee ∧ SlE G ps s.st.length cs 4 es ∧ RMvL kc G s.st es ∧ SlE G pf s.fr.length cf 2 ef ∧ RFrL kc G s.fr ef
def mPops (k : Int) : Nat := if k = 6 ∨ k = 7 ∨ k = 8 ∨ k = 11 then 2 else if k = 9 ∨ k = 12 ∨ k = 13 then 1 else 0
/-- The kind that is wanted, of how many, and the error of another one. -/
def mWant (k : Int) : Int × Nat × Int := if k = 6 then (2, 1, 1) else if k = 7 ∨ k = 8 then (0, 2, 2) else if k = 9 then (1, 1, 3) else if k = 12 ∨ k = 13 then (3, 1, 4) else (0, 0, 0)
def mPush (s : MSt) (v : MV) : MSt := { s with st := s.st ++ [v] }
/-- What an instruction does, once its operands v are popped and at' is past it. -/
def mGo (k a : Int) (s : MSt) (v : List MV) : MSt ⊕ (Int × Int) :=
 if k = 1 then .inl (mPush s (.mk 0 a [] []))
 else if k = 2 then .inl (mPush s (.mk 1 a [] []))
 else if k = 3 then (if (s.env.length : Int) - 1 - a < 0 then .inr (3, 0) else .inl (mPush s (s.env.getD ((s.env.length : Int) - 1 - a).toNat mv0)))
 else if k = 4 then .inl { mPush s (.mk 2 s.at' s.env []) with at' := s.at' + a }
 else if k = 5 then (if s.fr.length = 0 then .inr (3, 0) else .inl { s with at' := (s.fr.getD (s.fr.length - 1) (0, [])).1, env := (s.fr.getD (s.fr.length - 1) (0, [])).2, fr := s.fr.take (s.fr.length - 1) })
 else if k = 6 then .inl { s with at' := (v.getD 0 mv0).num, env := (v.getD 0 mv0).env ++ [v.getD 1 mv0], fr := s.fr ++ [(s.at', s.env)] }
 else if k = 7 then .inl (mPush s (.mk 0 (((v.getD 0 mv0).num + (v.getD 1 mv0).num) % 1000) [] []))
 else if k = 8 then .inl (mPush s (.mk 1 (if (v.getD 0 mv0).num < (v.getD 1 mv0).num then 1 else 0) [] []))
 else if k = 9 then .inl (if (v.getD 0 mv0).num = 0 then { s with at' := s.at' + a } else s)
 else if k = 10 then .inl { s with at' := s.at' + a }
 else if k = 11 then .inl (mPush s (.mk 3 0 [] v))
 else .inl (mPush s ((v.getD 0 mv0).parts.getD (k - 12).toNat mv0))
def mKinds (k : Int) (v : List MV) : Bool := (v.take (mWant k).2.1).all fun u => decide (u.k = (mWant k).1)
/-- An instruction of kind k with the number a: the next state, or a code and an error. -/
def mStep (k a : Int) (s : MSt) : MSt ⊕ (Int × Int) :=
 if s.st.length < mPops k then .inr (3, 0)
 else if mKinds k (s.st.drop (s.st.length - mPops k)) = true then mGo k a { s with at' := s.at' + 1, st := s.st.take (s.st.length - mPops k) } (s.st.drop (s.st.length - mPops k))
 else .inr (2, (mWant k).2.2)
/-- A number as it is written. -/
def mvText (v : MV) : ByteArray := if v.k = 0 then ⟨(Lib.decDigits v.num.toNat).toArray⟩ else if v.k = 1 then (if v.num = 0 then ⟨#[70]⟩ else ⟨#[84]⟩) else if v.k = 2 then ⟨⟨[102, 117, 110, 99, 116, 105, 111, 110]⟩⟩ else ⟨⟨[112, 97, 105, 114]⟩⟩
def mEnd (s : MSt) : ByteArray × Int × Int := if s.st.length ≠ 1 ∨ 0 < s.fr.length then (⟨#[]⟩, 3, 0) else (mvText (s.st.getD 0 mv0), 0, 0)
/-- The run of a code from a state, so many instructions long at most. -/
def mRun (ops : List (Int × Int)) : Nat → MSt → ByteArray × Int × Int
 | t, s => if (ops.length : Int) ≤ s.at' then mEnd s else match t with
  | 0 => (⟨#[]⟩, 5, 0)
  | t + 1 => match mStep (ops.getD s.at'.toNat (0, 0)).1 (ops.getD s.at'.toNat (0, 0)).2 s with
   | .inl s' => mRun ops t s'
   | .inr (c, e) => (⟨#[]⟩, c, e)
def mMost (k behind : Int) : Int := if k = 1 then 999 else if k = 2 then 1 else if k = 3 then 11 else if k = 4 ∨ k = 9 ∨ k = 10 then behind else 0
def mOpOk (n : Nat) (i : Nat) (x : Int × Int) : Bool := decide (1 ≤ x.1 ∧ x.1 ≤ 13 ∧ 0 ≤ x.2 ∧ x.2 ≤ mMost x.1 ((n : Int) - 1 - i))
def mOpsOk (ops : List (Int × Int)) : Bool := decide (1 ≤ ops.length ∧ ops.length ≤ 120) && (List.range ops.length).all fun i => mOpOk ops.length i (ops.getD i (0, 0))
def mRunOps (ops : List (Int × Int)) (ticks : Int) : ByteArray × Int × Int :=
 if mOpsOk ops = true ∧ 0 ≤ ticks ∧ ticks ≤ 2000 then mRun ops ticks.toNat ⟨0, [], [], []⟩ else (⟨#[]⟩, 3, 0)
end Gw
end Go.Proofs.YtaiafkcflhcdaaaGreatDoor
namespace Go.Proofs.YtaiafkcflhcdaaaGreatDoor
open Go Go.RowKit
namespace Gw
theorem str_one (k : Nat) : strOfNums [dgi k] = (⟨[UInt8.ofNat (48 + k % 10)].toArray⟩ : ByteArray) := by
 have : (dgi k).toNat = 48 + k % 10 := by unfold dgi; omega
 simp [strOfNums, this]
theorem bytes_app (a b : List UInt8) : (⟨a.toArray⟩ : ByteArray) ++ ⟨b.toArray⟩ = ⟨(a ++ b).toArray⟩ := by
 apply ByteArray.ext; simp
theorem dec_go {k : Nat} {out : ByteArray} (h : 9 < k) : (⟨(Lib.decDigits (k / 10)).toArray⟩ : ByteArray) ++ (strOfNums [dgi k] ++ out) = ⟨(Lib.decDigits k).toArray⟩ ++ out := by
 have e : (⟨(Lib.decDigits k).toArray⟩ : ByteArray) = ⟨(Lib.decDigits (k / 10)).toArray⟩ ++ ⟨[UInt8.ofNat (48 + k % 10)].toArray⟩ := by
  rw [bytes_app (Lib.decDigits (k / 10))]
  congr 2
  rw [Lib.decDigits, dif_neg (by omega)]
 rw [e, str_one, ByteArray.append_assoc]
theorem dec_end {k : Nat} {out : ByteArray} (h : ¬9 < k) : strOfNums [dgi k] ++ out = ⟨(Lib.decDigits k).toArray⟩ ++ out := by
 rw [str_one, Lib.decDigits, dif_pos (by omega), Nat.mod_eq_of_lt (by omega)]
theorem dgi_small {k : Nat} (h : ¬9 < k) : dgi k = 48 + (k : Int) := by unfold dgi; omega
set_option maxRecDepth 100000 in
theorem dec_fn (k : Nat) (hk : k < 10000) (G : IM) : Fn Tryz.prog 88 [.int .i64 (k : Int)] [] G (Val (.string ⟨(Lib.decDigits k).toArray⟩) G) := by
 refine fn_enter Tryz.func88 rfl Tryz.ntmps88 Tryz.results88 rfl ?_
 intro w0
 refine tS (tR (sP (pA rfl) rfl rfl (sD (nS (tS (tS ?_))))))
 refine tR (sP (pM rfl) rfl rfl (sP (pure_lss_f rfl rfl (by omega)) rfl rfl ?_))
 refine sD (nS (cF rfl ?_))
 refine tK (nS (tS (tS (tR (sP (pM rfl) rfl rfl (sP (pure_lss_f rfl rfl (by omega)) rfl rfl ?_))))))
 refine sD (nS (cF rfl ?_))
 refine tK (nS (tS (tR (sP (pA rfl) rfl rfl (sD (nS ?_))))))
 refine tS (tri_block (tri_loopN (fun (x : Nat × ByteArray) => ⟨[(0, .int .i64 (x.1 : Int)), (2, .string ⟨#[]⟩), (3, .string x.2)], [], G⟩) (fun x => x.1 < 10000 ∧ x.1 + x.2.size < 10020 ∧ (⟨(Lib.decDigits x.1).toArray⟩ : ByteArray) ++ x.2 = ⟨(Lib.decDigits k).toArray⟩) (fun x => x.1) (k, ⟨#[]⟩) ?_ ?_ ?_))
 (simp only [flat_snoc]; exact sub_mk (by repeat (first | exact SubE.nil | refine SubE.cons rfl ?_)) (by repeat (first | exact SubH.refl | exact SubH.nil | refine SubH.cons (by repeat (first | exact Pk.here | apply Pk.there)) ?_ | apply SubH.drop)))
 (dsimp only; exact ⟨hk, by have : (⟨#[]⟩ : ByteArray).size = 0 := rfl; omega, ByteArray.append_empty⟩)
 (rintro ⟨j, out⟩ ⟨hj, hsz, hd⟩; simp only [] at hj hsz hd ⊢)
 refine tS (tS (tR (sP (pM rfl) rfl rfl (sB (pure_gtr rfl rfl) rfl rfl (fun h41 => ?_) (fun h41 => ?_)))))
 refine sD (nS (cT rfl ?_))
 refine tK (nS (tri_block (tS (tR (sP (pM rfl) rfl rfl (sP (pure_rem_nat (n := 10) rfl rfl (by omega)) rfl rfl ?_))))))
 refine sP (pure_add rfl rfl (by omega) (by omega)) rfl rfl ?_
 refine sP (pure_conv_u8 rfl rfl rfl (by omega) (by omega)) rfl rfl ?_
 (refine seq_step (step_buildSlice rfl rfl rfl (by omega) (by unfold maxLen; omega) rfl) rfl ?_; rintro _ ⟨b54, rfl⟩)
 refine sL (load_conv_str (xs := [dgi j]) rfl rfl rfl rfl rfl (at_slc_all (by repeat first | exact mH | apply mT))) rfl rfl ?_
 refine sP (pM rfl) rfl rfl ?_
 (have hs1 := strOfNums_size [dgi j]; have hs2 : [dgi j].length = 1 := rfl; refine sP (pure_cat rfl rfl (by omega)) rfl rfl ?_)
 refine sP (pA rfl) rfl rfl (sD (nS (tR (sP (pM rfl) rfl rfl (sP (pure_quo_nat (n := 10) rfl rfl (by omega) (by omega)) rfl rfl ?_)))))
 refine sP (pA rfl) rfl rfl (sD (nrm_block (nrm_loopN (j / 10, strOfNums [dgi j] ++ out) ?_ ?_ ?_)))
 (simp only [flat_snoc]; exact sub_mk (by repeat (first | exact SubE.nil | refine SubE.cons rfl ?_)) (by repeat (first | exact SubH.refl | exact SubH.nil | refine SubH.cons (by repeat (first | exact Pk.here | apply Pk.there)) ?_ | apply SubH.drop)))
 (dsimp only; exact ⟨by omega, by (rw [ByteArray.size_append]; omega), by rw [← hd]; exact dec_go (by omega)⟩)
 (show j / 10 < j; omega)
 refine sD (nS (cF rfl ?_))
 refine tri_exit ?_
 refine ext_seq ?_
 refine ext_loopN ?_
 refine ext_block_eq ?_
 refine nS (tS (tR (sP (pM rfl) rfl rfl (sP (pure_add rfl rfl (by omega) (by omega)) rfl rfl ?_))))
 refine sP (pure_conv_u8 rfl rfl rfl (by omega) (by omega)) rfl rfl ?_
 (refine seq_step (step_buildSlice rfl rfl rfl (by omega) (by unfold maxLen; omega) rfl) rfl ?_; rintro _ ⟨b84, rfl⟩)
 (have hs9 := dgi_small (k := j) (by omega); refine sL (load_conv_str (xs := [48 + (j : Int)]) rfl rfl rfl rfl rfl (at_slc_all (by repeat first | exact mH | apply mT))) rfl rfl ?_; rw [← hs9])
 refine sP (pM rfl) rfl rfl ?_
 (have hs1 := strOfNums_size [dgi j]; have hs2 : [dgi j].length = 1 := rfl; refine sP (pure_cat rfl rfl (by omega)) rfl rfl ?_)
 refine sP (pA rfl) rfl rfl (sD (nS (tT (rF1 (rT rfl) ?_))))
 exact ⟨rfl, by rw [dec_end (by omega), hd], rfl⟩
end Gw
end Go.Proofs.YtaiafkcflhcdaaaGreatDoor
namespace Go.Proofs.YtaiafkcflhcdaaaGreatDoor
open Go Go.RowKit
namespace Gw
def txPair : ByteArray := ⟨⟨[112, 97, 105, 114]⟩⟩
def txFun : ByteArray := ⟨⟨[102, 117, 110, 99, 116, 105, 111, 110]⟩⟩
def txT : ByteArray := ⟨⟨[84]⟩⟩
def txF : ByteArray := ⟨⟨[70]⟩⟩
def txNum (n : Int) : ByteArray := ⟨(Lib.decDigits n.toNat).toArray⟩
/-- The text of a number or a truth value. -/
def mLeaf (k num : Int) : ByteArray := if k = 2 then txNum num else if k = 3 then txT else txF
mutual
/-- What can be observed of a value. -/
def mVText : Tm → ByteArray
 | .mk k nm num ty fr lb ks => if k = 10 ∨ (prx (.mk k nm num ty fr lb []) = true ∧ ty.k = 5) then txPair else if k = 5 ∨ prx (.mk k nm num ty fr lb []) = true then txFun else if k = 14 then mVTextL ks else mLeaf k num
def mVTextL : List Tm → ByteArray
 | [] => ⟨⟨[]⟩⟩
 | t :: _ => mVText t
end
set_option maxHeartbeats 0 in
set_option maxRecDepth 100000 in
theorem textLeaf_fn (k : Int) (nm : ByteArray) (num : Int) (ty fr : Ty) (lb : Int) (ks : List Tm) (G : IM) (cells : List Value) (hT : TabG G) (hk3 : k = 2 ∨ k = 3 ∨ k = 4) (hn : 0 ≤ num ∧ num ≤ 999) (hr : RTm G (.mk k nm num ty fr lb ks) cells) : Fn Tryz.prog 95 [.agg ⟨cells⟩] [] G (Val (.string (mLeaf k num)) G) := by
 obtain ⟨tk, tks⟩ := ty
 obtain ⟨fk, fks⟩ := fr
 obtain ⟨pt, ct, pf, cf, p, c, es, rfl, hk, hnum, hlb, hty, hfr, hsl, hkl⟩ := hr.open9
 have hI := itoa_fn num G hT hn.1 hn.2
 refine fn_enter Tryz.func95 rfl Tryz.ntmps95 Tryz.results95 rfl ?_
 intro w0
 refine tS (tR ?_)
 (refine seq_step (step_box_a rfl rfl) rfl ?_; rintro _ ⟨b3, rfl⟩)
 refine sP (pA rfl) rfl rfl (sD (nS (tS (tR (sP (pure_makeFunc rfl rfl) rfl rfl (sP (pA rfl) rfl rfl ?_))))))
 refine sD (nS (tS (tS (tR (sP (pF0 rfl) rfl rfl (sL (lBs rfl rfl) rfl rfl ?_))))))
 refine sD (nS (tri_block (tS (tR (sP (pure_eql_f rfl rfl (by omega)) rfl rfl ?_)))))
 refine sP (pA rfl) rfl rfl (sD (nS (cF rfl ?_)))
 refine tS (tR (sB (pE rfl rfl) rfl rfl (fun h30 => ?_) (fun h30 => ?_)))
 refine sP (pA rfl) rfl rfl (sD (nS (cT rfl ?_)))
 refine tS (tR (sP (pF0 rfl) rfl rfl (sL (lBs rfl rfl) rfl rfl ?_)))
 refine seq_val rfl (hI) rfl rfl ?_
 refine sP (pA rfl) rfl rfl (sD (nS (tT (rB (rS (rF1 (rT rfl) ?_))))))
 (exact ⟨rfl, by unfold mLeaf; rw [if_pos (by omega)]; rfl, rfl⟩)
 refine sP (pA rfl) rfl rfl (sD (nS (cF rfl ?_)))
 refine tS (tR (sB (pE rfl rfl) rfl rfl (fun h54 => ?_) (fun h54 => ?_)))
 refine sP (pA rfl) rfl rfl (sD (nS (cT rfl ?_)))
 refine tS (tR (sP (pA rfl) rfl rfl (sD (nS (tT (rB ?_))))))
 refine rS (rF1 (rT rfl) ?_)
 (exact ⟨rfl, by unfold mLeaf; rw [if_neg (by omega), if_pos (by omega)]; rfl, rfl⟩)
 refine sP (pA rfl) rfl rfl (sD (nS (cF rfl ?_)))
 refine tS (tR (sP (pure_eql_t rfl rfl (by omega)) rfl rfl ?_))
 refine sP (pA rfl) rfl rfl (sD (nS (cT rfl ?_)))
 refine tS (tR (sP (pA rfl) rfl rfl (sD (nS (tT (rB ?_))))))
 refine rS (rF1 (rT rfl) ?_)
 (exact ⟨rfl, by unfold mLeaf; rw [if_neg (by omega), if_neg (by omega)]; rfl, rfl⟩)
section
variable {k : Int} {nm : ByteArray} {num : Int} {ty fr : Ty} {lb : Int} {ks : List Tm}
theorem vt_pair (h : k = 10 ∨ (prx (.mk k nm num ty fr lb ks) = true ∧ ty.k = 5)) : mVText (.mk k nm num ty fr lb ks) = txPair := by
 rw [mVText]
 exact if_pos h
theorem vt_fun (h : ¬(k = 10 ∨ (prx (.mk k nm num ty fr lb ks) = true ∧ ty.k = 5))) (h2 : k = 5 ∨ prx (.mk k nm num ty fr lb ks) = true) : mVText (.mk k nm num ty fr lb ks) = txFun := by
 rw [mVText]
 exact (if_neg h).trans (if_pos h2)
theorem vt_cast (h : prx (.mk k nm num ty fr lb ks) = false) (hk : k = 14) (h0 : 0 < ks.length) : mVText (.mk k nm num ty fr lb ks) = mVText ks[0] := by
 rw [mVText, if_neg (by rintro (h1 | h1); omega; exact Bool.noConfusion (h1.1.symm.trans h)), if_neg (by rintro (h1 | h1); omega; exact Bool.noConfusion (h1.symm.trans h)), if_pos hk]
 cases ks with
 | nil => simp at h0
 | cons t ts => rfl
theorem vt_leaf (h : prx (.mk k nm num ty fr lb ks) = false) (hk : k ≠ 14) (h10 : k ≠ 10) (h5 : k ≠ 5) : mVText (.mk k nm num ty fr lb ks) = mLeaf k num := by
 rw [mVText, if_neg (by rintro (h1 | h1); omega; exact Bool.noConfusion (h1.1.symm.trans h)), if_neg (by rintro (h1 | h1); omega; exact Bool.noConfusion (h1.symm.trans h)), if_neg hk]
end
set_option maxHeartbeats 0 in
set_option maxRecDepth 100000 in
theorem valueText_fn : ∀ (t : Tm) (G : IM) (cells : List Value), TabG G → cv t → mVal t = true → RTm G t cells → Fn Tryz.prog 45 [.agg ⟨cells⟩] [] G (Val (.string (mVText t)) G) := by
 refine Tm.ind fun k nm num ty fr lb ks ih G cells hT hc hv hr => ?_
 have hr0 := hr
 have hP := isProxy_fn _ G _ hr
 obtain ⟨hN, hkk⟩ := hc.node
 have hop := hN.ops
 have h14 : k = 14 → ks.length = 1 := fun h => by rw [h] at hop; have : tmOps 14 = 1 := rfl; omega
 have hL := fun h => textLeaf_fn k nm num ty fr lb ks G cells hT h hN.num0 hr
 have hvp := @vt_pair k nm num ty fr lb ks
 have hvf := @vt_fun k nm num ty fr lb ks
 have hvc := @vt_cast k nm num ty fr lb ks
 have hvl := @vt_leaf k nm num ty fr lb ks
 have hvn := @val_no k nm num ty fr lb ks
 have hvy := @val_yes k nm num ty fr lb ks
 have hprx := prx_mk k nm num ty fr lb ks
 have hinj := inj_mk k nm num ty fr lb ks
 have hleaf : prx (.mk k nm num ty fr lb ks) = false → k ≠ 14 → k ≠ 10 → k ≠ 5 → k = 2 ∨ k = 3 ∨ k = 4 := by
  intro h1 h2 h3 h4
  have := hvn h3 h1 (by rw [hinj, decide_eq_false (by omega)]; rfl)
  rw [this] at hv
  have := of_decide_eq_true hv
  omega
 have hkv : prx (.mk k nm num ty fr lb ks) = false → k = 14 → ∀ t ∈ ks, mVal t = true := by
  intro h1 h2 t ht
  cases hi : inj (.mk k nm num ty fr lb ks) with
  | true => have := hvy (.inr (.inr hi)); rw [hv] at this; exact List.all_eq_true.1 this.symm t ht
  | false =>
   have := hvn (by omega) h1 hi
   rw [hv] at this
   have := of_decide_eq_true this.symm
   omega
 generalize hpx : prx (.mk k nm num ty fr lb ks) = bp at *
 obtain ⟨tk, tks⟩ := ty
 obtain ⟨fk, fks⟩ := fr
 obtain ⟨pt, ct, pf, cf, p, c, es, rfl, hk, hnum, hlb, hty, hfr, hsl, hkl⟩ := hr.open9
 refine fn_enter Tryz.func45 rfl Tryz.ntmps45 Tryz.results45 rfl ?_
 intro w0
 refine tS (tR ?_)
 (refine seq_step (step_box_a rfl rfl) rfl ?_; rintro _ ⟨b3, rfl⟩)
 refine sP (pA rfl) rfl rfl (sD (nS (tS (tri_block (tS (tR ?_))))))
 refine sP (pF0 rfl) rfl rfl (sL (lBs rfl rfl) rfl rfl ?_)
 refine sB (pE rfl rfl) rfl rfl (fun h13 => ?_) (fun h13 => ?_)
 refine sP (pM rfl) rfl rfl (sK rfl rfl (sK rfl rfl (sK rfl rfl (sK rfl rfl (sK rfl rfl (sK rfl rfl ?_))))))
 refine sK rfl rfl (sK rfl rfl (sP (pPt rfl rfl) rfl rfl (sP (pA rfl) rfl rfl (sD (nS (cT rfl ?_))))))
 refine tS (tR (sP (pA rfl) rfl rfl (sD (nS (tT (rB ?_))))))
 refine rS (rF1 (rT rfl) ?_)
 (exact ⟨rfl, congrArg Value.string (hvp (by first | exact .inl (by omega) | exact .inr ⟨by assumption, by assumption⟩)).symm, rfl⟩)
 refine sP (pM rfl) rfl rfl (sL (lBa rfl rfl) rfl rfl ?_)
 refine seq_valb rfl (hP) rfl rfl (fun h40 => ?_) (fun h40 => ?_)
 refine sP (pM rfl) rfl rfl (sP (pF0 rfl) rfl rfl (sP (pF rfl) rfl rfl (sL (lBs rfl rfl) rfl rfl ?_)))
 refine sB (pE rfl rfl) rfl rfl (fun h45 => ?_) (fun h45 => ?_)
 refine sP (pPt rfl rfl) rfl rfl (sP (pPf rfl rfl) rfl rfl (sP (pA rfl) rfl rfl (sD (nS (cT rfl ?_)))))
 refine tS (tR (sP (pA rfl) rfl rfl (sD (nS (tT (rB ?_))))))
 refine rS (rF1 (rT rfl) ?_)
 (exact ⟨rfl, congrArg Value.string (hvp (by first | exact .inl (by omega) | exact .inr ⟨by assumption, by assumption⟩)).symm, rfl⟩)
 refine sP (pPt rfl rfl) rfl rfl (sP (pPf rfl rfl) rfl rfl (sP (pA rfl) rfl rfl (sD (nS (cF rfl ?_)))))
 refine tS (tR (sP (pF0 rfl) rfl rfl (sL (lBs rfl rfl) rfl rfl ?_)))
 refine sB (pE rfl rfl) rfl rfl (fun h72 => ?_) (fun h72 => ?_)
 refine sP (pM rfl) rfl rfl (sK rfl rfl (sK rfl rfl (sP (pPt rfl rfl) rfl rfl (sP (pA rfl) rfl rfl (sD (nS ?_))))))
 refine cT rfl ?_
 refine tS (tR (sP (pA rfl) rfl rfl (sD (nS (tT (rB ?_))))))
 refine rS (rF1 (rT rfl) ?_)
 (exact ⟨rfl, congrArg Value.string (hvf (by rintro (h | ⟨h1, h2⟩) <;> first | omega | exact Bool.noConfusion (h1.symm.trans (show bp = false by assumption)) | (simp only [Ty.k] at h2; omega)) (by first | exact .inl (by omega) | exact .inr (by assumption))).symm, rfl⟩)
 refine sP (pM rfl) rfl rfl (sL (lBa rfl rfl) rfl rfl ?_)
 refine seq_valb rfl (hP) rfl rfl (fun h93 => ?_) (fun h93 => ?_)
 refine sP (pPf rfl rfl) rfl rfl (sP (pA rfl) rfl rfl (sD (nS (cT rfl ?_))))
 refine tS (tR (sP (pA rfl) rfl rfl (sD (nS (tT (rB ?_))))))
 refine rS (rF1 (rT rfl) ?_)
 (exact ⟨rfl, congrArg Value.string (hvf (by rintro (h | ⟨h1, h2⟩) <;> first | omega | exact Bool.noConfusion (h1.symm.trans (show bp = false by assumption)) | (simp only [Ty.k] at h2; omega)) (by first | exact .inl (by omega) | exact .inr (by assumption))).symm, rfl⟩)
 refine sP (pPf rfl rfl) rfl rfl (sP (pA rfl) rfl rfl (sD (nS (cF rfl ?_))))
 refine tS (tR (sP (pF0 rfl) rfl rfl (sL (lBs rfl rfl) rfl rfl ?_)))
 refine sB (pE rfl rfl) rfl rfl (fun h118 => ?_) (fun h118 => ?_)
 refine sP (pA rfl) rfl rfl (sD (nS (cT rfl ?_)))
 refine tS (tR (sP (pF0 rfl) rfl rfl (sL (lBs rfl rfl) rfl rfl ?_)))
 (have hl1 := h14 (by omega); obtain ⟨bx, ox, e, rfl, hl, hat, hre, hgb⟩ := hsl.kidTm hkl (i := 0) (by omega) (by omega); have hih := ih ks[0] (List.getElem_mem (by omega)) G e hT (hkk _ (List.getElem_mem (by omega))) (hkv (by assumption) (by omega) _ (List.getElem_mem (by omega))) hre; refine sP (pIN (j := 0) rfl rfl rfl (by omega)) rfl rfl ?_)
 refine sL (load_a rfl rfl (hat _) hl) rfl rfl ?_
 refine seq_val rfl (hih) rfl rfl ?_
 refine sP (pA rfl) rfl rfl (sD (nS (tT (rB (rS (rF1 (rT rfl) ?_))))))
 (exfalso; have h1 : bp = true := (by assumption); have h2 : bp = false := (by assumption); rw [h1] at h2; cases h2)
 refine sP (pA rfl) rfl rfl (sD (nS (cF rfl ?_)))
 refine tK (nrm_block (nS (tS (tR (sL (lBa rfl rfl) rfl rfl ?_)))))
 refine seq_val rfl ((hL (hleaf (by assumption) (by omega) (by omega) (by omega)))) rfl rfl ?_
 refine sP (pA rfl) rfl rfl (sD (nS (tT (rF1 (rT rfl) ?_))))
 (exfalso; have h1 : bp = true := (by assumption); have h2 : bp = false := (by assumption); rw [h1] at h2; cases h2)
 refine sP (pM rfl) rfl rfl (sK rfl rfl (sK rfl rfl (sK rfl rfl (sK rfl rfl (sP (pPf rfl rfl) rfl rfl (sP (pPf rfl rfl) rfl rfl ?_))))))
 refine sP (pA rfl) rfl rfl (sD (nS (cF rfl ?_)))
 refine tS (tR (sP (pF0 rfl) rfl rfl (sL (lBs rfl rfl) rfl rfl ?_)))
 refine sB (pE rfl rfl) rfl rfl (fun h170 => ?_) (fun h170 => ?_)
 refine sP (pM rfl) rfl rfl (sK rfl rfl (sK rfl rfl (sP (pPt rfl rfl) rfl rfl (sP (pA rfl) rfl rfl (sD (nS ?_))))))
 refine cT rfl ?_
 refine tS (tR (sP (pA rfl) rfl rfl (sD (nS (tT (rB ?_))))))
 refine rS (rF1 (rT rfl) ?_)
 (exact ⟨rfl, congrArg Value.string (hvf (by rintro (h | ⟨h1, h2⟩) <;> first | omega | exact Bool.noConfusion (h1.symm.trans (show bp = false by assumption)) | (simp only [Ty.k] at h2; omega)) (by first | exact .inl (by omega) | exact .inr (by assumption))).symm, rfl⟩)
 refine sP (pM rfl) rfl rfl (sL (lBa rfl rfl) rfl rfl ?_)
 refine seq_valb rfl (hP) rfl rfl (fun h191 => ?_) (fun h191 => ?_)
 refine sP (pPf rfl rfl) rfl rfl (sP (pA rfl) rfl rfl (sD (nS (cT rfl ?_))))
 refine tS (tR (sP (pA rfl) rfl rfl (sD (nS (tT (rB ?_))))))
 refine rS (rF1 (rT rfl) ?_)
 (exfalso; have h1 : bp = true := (by assumption); have h2 : bp = false := (by assumption); rw [h1] at h2; cases h2)
 refine sP (pPf rfl rfl) rfl rfl (sP (pA rfl) rfl rfl (sD (nS (cF rfl ?_))))
 refine tS (tR (sP (pF0 rfl) rfl rfl (sL (lBs rfl rfl) rfl rfl ?_)))
 refine sB (pE rfl rfl) rfl rfl (fun h216 => ?_) (fun h216 => ?_)
 refine sP (pA rfl) rfl rfl (sD (nS (cT rfl ?_)))
 refine tS (tR (sP (pF0 rfl) rfl rfl (sL (lBs rfl rfl) rfl rfl ?_)))
 (have hl1 := h14 (by omega); obtain ⟨bx, ox, e, rfl, hl, hat, hre, hgb⟩ := hsl.kidTm hkl (i := 0) (by omega) (by omega); have hih := ih ks[0] (List.getElem_mem (by omega)) G e hT (hkk _ (List.getElem_mem (by omega))) (hkv (by assumption) (by omega) _ (List.getElem_mem (by omega))) hre; refine sP (pIN (j := 0) rfl rfl rfl (by omega)) rfl rfl ?_)
 refine sL (load_a rfl rfl (hat _) hl) rfl rfl ?_
 refine seq_val rfl (hih) rfl rfl ?_
 refine sP (pA rfl) rfl rfl (sD (nS (tT (rB (rS (rF1 (rT rfl) ?_))))))
 (exact ⟨rfl, congrArg Value.string (hvc (by assumption) (by omega) (by omega)).symm, rfl⟩)
 refine sP (pA rfl) rfl rfl (sD (nS (cF rfl ?_)))
 refine tK (nrm_block (nS (tS (tR (sL (lBa rfl rfl) rfl rfl ?_)))))
 refine seq_val rfl ((hL (hleaf (by assumption) (by omega) (by omega) (by omega)))) rfl rfl ?_
 refine sP (pA rfl) rfl rfl (sD (nS (tT (rF1 (rT rfl) ?_))))
 (exact ⟨rfl, congrArg Value.string (hvl (by assumption) (by omega) (by omega) (by omega)).symm, rfl⟩)
end Gw
end Go.Proofs.YtaiafkcflhcdaaaGreatDoor
