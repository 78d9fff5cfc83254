/-
  The law that AllPaths gives what the reference model gives: its walk.
-/
import Derived.Test.YtlefgfdhlblahaaBlk
import Derived.Test.YtlefgfdhlblahaaTo
import Derived.Test.YtlefgfdhlblahaaAll
import Derived.Test.YtlefgfdhlblahaaSpec8
namespace Go.Proofs.Ytlefgfdhlblahaa
open Go Go.RowKit
namespace Gw
theorem none_le {G G' : IM} (h : IMle G G') {b : Nat} (hb : G' b = none) : G b = none := by
  cases hg : G b with
  | none => rfl
  | some l => rw [h b l hg] at hb; cases hb
theorem dif_none {G G' : IM} {b : Nat} (h : G b ≠ none) : Dif G' G b = none := by
  cases hd : Dif G' G b with
  | none => rfl
  | some l => exact absurd (Dif.out (by rw [hd]; simp)) h
/-- What is wanted for taking fresh blocks back. -/
theorem thaw_hyp {G0 Ga Gb Gc : IM} {bs : Blks} {F : List Nat} (hi : InG (Dif Gb Ga) bs F) (hn : F.Nodup) (h0 : IMle G0 Ga) (hc : IMle (Dif Gb Ga) Gc) :
    (bs.map Prod.fst).Nodup ∧ (∀ q ∈ bs, Gc q.1 = some q.2 ∧ G0 q.1 = none) ∧ (∀ b ∈ bs.map Prod.fst, Ga b = none ∧ Gb b ≠ none) := by
  have key : ∀ q ∈ bs, Ga q.1 = none ∧ Gb q.1 = some q.2 := fun q hq => ⟨Dif.out (by rw [hi.2 q hq]; simp), Dif.le _ _ _ _ (hi.2 q hq)⟩
  refine ⟨hn.sublist hi.1, fun q hq => ⟨hc _ _ (hi.2 q hq), none_le h0 (key q hq).1⟩, fun b hb => ?_⟩
  obtain ⟨q, hq, rfl⟩ := List.mem_map.1 hb
  exact ⟨(key q hq).1, by rw [(key q hq).2]; simp⟩
theorem Sl.wo {G : IM} {F : List Nat} {p : Option Addr} {n c sz : Nat} {cs : List Value} (h : Sl G p n c sz cs) (hF : ∀ b ∈ vfp p, b ∉ F) : Sl (Wo G F) p n c sz cs := by
  obtain ⟨h1, h2, h3, h4⟩ := h
  refine ⟨h1, h2, h3, h4.imp id ?_⟩
  rintro ⟨b, o, full, rfl, e2, e3⟩
  exact ⟨b, o, full, rfl, by rw [Wo.at (hF b (by simp [vfp]))]; exact e2, e3⟩
section forget
variable {P : Program} {Γ : Ctx} {env : Env} {hp : List Ent} {G : IM} {K : Po} {ops : Array Oper} {rest : List Oper} {ty : TypeId} {pos : String} {af : Array Edge} {gd : Option (Nat × Bool)}
theorem triL_forget {A B : List Ent} (k : TriL P Γ ops rest K ⟨env, B, G⟩) : TriL P Γ ops rest K ⟨env, A ++ B, G⟩ :=
  ⟨fun a w hs => k.run a w ⟨hs.size, hs.nod, hs.env, (hs.res.perm List.perm_append_comm).left⟩⟩
/-- A call that is lent taken-back blocks; they are forgotten behind it. -/
theorem seq_lend_x {d : Nat} {f : FuncId} [hF : FunI P f] {xs : List Operand} {ats : Array TypeId} {vs : List Value} {v0 : Value} {Φ : Blks → Prop} {bs : Blks} (hn : (bs.map Prod.fst).Nodup) (hg : ∀ q ∈ bs, G q.1 = some q.2 ∧ Γ.G0 q.1 = none)
    (hx : evl env xs = some vs) (h : Fn P f vs (blks bs) (Wo G (bs.map Prod.fst)) (Lent v0 (Wo G (bs.map Prod.fst)) Φ)) (hw : wantG ops env gd = some true) (hd : Nat.blt d Γ.n = true)
    (k : TriL P Γ ops rest K ⟨(d, v0) :: env, hp, Wo G (bs.map Prod.fst)⟩) : TriL P Γ ops (⟨some d, .call ⟨.value (.func f), ⟨xs⟩, ats⟩, ty, pos, af, gd⟩ :: rest) K ⟨env, hp, G⟩ := by
  refine triL_thaw bs hn hg ?_
  refine seq_step (step_call_own hx h (List.Perm.refl _) hd) hw ?_
  rintro _ ⟨v, G', outs, rfl, _, rfl, rfl, bs', rfl, hΦ⟩
  exact triL_forget k
/-- A call that is lent taken-back blocks; they are given up again behind it. -/
theorem seq_lend_f {d : Nat} {f : FuncId} [hF : FunI P f] {xs : List Operand} {ats : Array TypeId} {vs : List Value} {v0 : Value} {Φ : Blks → Prop} {bs : Blks} (hn : (bs.map Prod.fst).Nodup) (hg : ∀ q ∈ bs, G q.1 = some q.2 ∧ Γ.G0 q.1 = none)
    (hx : evl env xs = some vs) (h : Fn P f vs (blks bs) (Wo G (bs.map Prod.fst)) (Lent v0 (Wo G (bs.map Prod.fst)) Φ)) (hw : wantG ops env gd = some true) (hd : Nat.blt d Γ.n = true)
    (k : ∀ bs' G', Φ bs' → IMle (Wo G (bs.map Prod.fst)) G' → (∀ q ∈ bs', G' q.1 = some q.2) → TriL P Γ ops rest K ⟨(d, v0) :: env, hp, G'⟩) : TriL P Γ ops (⟨some d, .call ⟨.value (.func f), ⟨xs⟩, ats⟩, ty, pos, af, gd⟩ :: rest) K ⟨env, hp, G⟩ := by
  refine triL_thaw bs hn hg ?_
  refine seq_step (step_call_own hx h (List.Perm.refl _) hd) hw ?_
  rintro _ ⟨v, G', outs, rfl, _, rfl, rfl, bs', rfl, hΦ⟩
  exact triL_freezes (List.Perm.refl _) fun h1 h2 h3 => k bs' _ hΦ h3 fun q hq => Wi.in h1 hq
end forget
set_option maxHeartbeats 0 in
set_option maxRecDepth 100000 in
theorem exactAllPaths_fn (t : Tm) (G : IM) (cells : List Value) (hno : t.nok) (hr : RTm G t cells) :
    Fn Try.prog 4 [.agg ⟨cells⟩] [] G (Imm fun _ v => v = .bool true) := by
  have hl := hr.len
  have hone := hr.one
  have hz := szTerm_fn t 1048576 G cells (by omega) (by omega) hno hr
  have hzn := szTm_nn t
  have hcs := count_sz t
  have hms := marks_sz t
  have hmc := mAll_cnt t
  have hmn := cntIs_nn (mAll t)
  have hm1 := cntTyL_nn t.ty.ks
  have hm2 := cntTyL_nn t.fr.ks
  have hm3 := cntTmL_nn t.ks
  refine fn_enter Try.func4 rfl Try.ntmps4 Try.results4 rfl ?_
  intro w0
  refine tri_seq ?_
  refine tri_region ?_
  (refine seq_step (step_box_a rfl rfl) rfl ?_; rintro _ ⟨b3, rfl⟩)
  refine seq_pure (pure_assign rfl) rfl rfl ?_
  refine seq_done ?_
  refine nrm_seq ?_
  refine tri_seq ?_
  refine tri_region ?_
  refine seq_pure (pure_assign rfl) rfl rfl ?_
  refine seq_done ?_
  refine nrm_seq ?_
  refine tri_seq ?_
  refine tri_region ?_
  refine seq_load (load_a rfl rfl (at_blk_all (by repeat (first | exact List.Mem.head _ | apply List.Mem.tail))) (by assumption)) rfl rfl ?_
  refine seq_pure (pure_move rfl) rfl rfl ?_
  (rcases res_cases 1048576 (szTm t) with ⟨hc, hrs⟩ | ⟨hc, hrs⟩ <;> (rw [hrs] at hz; refine seq_val rfl hz rfl rfl ?_))
  · refine seq_pure (pure_assign rfl) rfl rfl ?_
    refine seq_done ?_
    refine nrm_seq ?_
    refine tri_seq ?_
    refine tri_seq ?_
    refine tri_region ?_
    refine seq_pure (pure_move rfl) rfl rfl ?_
    refine seq_pure (pure_lss_f rfl rfl (by omega)) rfl rfl ?_
    refine seq_done ?_
    refine nrm_seq ?_
    refine tri_cond_f rfl ?_
    refine tri_skip ?_
    refine nrm_seq ?_
    refine tri_seq ?_
    refine tri_region ?_
    refine seq_load (load_a rfl rfl (at_blk_all (by repeat (first | exact List.Mem.head _ | apply List.Mem.tail))) (by assumption)) rfl rfl ?_
    (refine seq_imm rfl (toTerm_fn t G cells (small_tm t (by omega)) hr) rfl rfl (fun v1 G1 hle1 hh => ?_); obtain ⟨cells1, F1, rfl, hs1, hn1⟩ := hh; have hA := sAllPaths_fn t G1 cells1 (by omega) (hs1.R.mono (Dif.le _ _)))
    (refine seq_imm rfl hA rfl rfl (fun v2 G2 hle2 hh => ?_); obtain ⟨p2, c2, rfl, es2, F2, hp2, hb2, hq2, hd2⟩ := hh; have hle02 := hle1.trans hle2; have hr2 := hr.mono hle02)
    refine seq_pure (pure_assign rfl) rfl rfl ?_
    refine seq_done ?_
    refine nrm_seq ?_
    refine tri_seq ?_
    refine tri_region ?_
    refine seq_load (load_a rfl rfl (at_blk_all (by repeat (first | exact List.Mem.head _ | apply List.Mem.tail))) (by assumption)) rfl rfl ?_
    (refine seq_imm rfl (toTerm_fn t G2 cells (small_tm t (by omega)) hr2) rfl rfl (fun v3 G3 hle3 hh => ?_); obtain ⟨cells3, F3, rfl, hs3, hn3⟩ := hh; have hl3 := hs3.R.len; have ho3 := hs3.R.one; have hI := allPaths_fn t G3 cells3 (hs3.R.mono (Dif.le _ _)))
    (refine seq_step (step_alloc rfl) rfl ?_; rintro _ ⟨b42, rfl⟩)
    refine seq_store rfl rfl rfl (by assumption) (by assumption) rfl (by repeat (first | exact Sw.here | apply Sw.there)) (by exact upd_all (by symm; assumption)) ?_
    refine seq_done ?_
    refine nrm_seq ?_
    refine tri_seq ?_
    refine tri_region ?_
    refine seq_load (load_a rfl rfl (at_blk_all (by repeat (first | exact List.Mem.head _ | apply List.Mem.tail))) (by assumption)) rfl rfl ?_
    (refine seq_imm rfl hI rfl rfl (fun v4 G4 hle4 hh => ?_); obtain ⟨p4, c4, rfl, es4, F4, hp4, hb4, hq4, hd4⟩ := hh; have hle24 := hle3.trans hle4; have m2 : IMle (Dif G2 G1) G4 := (Dif.le G2 G1).trans hle24; have hr4 := hr2.mono hle24)
    refine seq_pure (pure_assign rfl) rfl rfl ?_
    refine seq_done ?_
    refine nrm_seq ?_
    refine tri_seq ?_
    refine tri_seq ?_
    refine tri_region ?_
    refine seq_pure (pure_move rfl) rfl rfl ?_
    refine seq_pure (pure_move rfl) rfl rfl ?_
    refine seq_val rfl (eqIntSS_fn (mAll t) G4 p4 p2 c4 c2 es4 es2 F4 F2 (hp4.mono (Dif.le _ _)) (hq4.mono (Dif.le _ _)) (hp2.mono m2) (hq2.mono m2)) rfl rfl ?_
    refine seq_pure (pure_not_t rfl) rfl rfl ?_
    refine seq_done ?_
    refine nrm_seq ?_
    refine tri_cond_f rfl ?_
    refine tri_skip ?_
    refine nrm_seq ?_
    refine tri_seq ?_
    refine tri_seq ?_
    refine tri_draw mixed rfl ?_
    refine any_load (i := 0) (listed' := [true, false, false, false, false]) rfl (by repeat (first | exact np_ret | apply np_seq | apply np_block | apply np_loopN')) (load_a rfl rfl (at_blk_all (by repeat (first | exact List.Mem.head _ | apply List.Mem.tail))) (by assumption)) rfl (by kernel_rfl) rfl rfl ?_
    refine any_load (i := 1) (listed' := [true, true, false, false, false]) rfl (by repeat (first | exact np_ret | apply np_seq | apply np_block | apply np_loopN')) (load_a rfl rfl (at_blk_all (by repeat (first | exact List.Mem.head _ | apply List.Mem.tail))) (by assumption)) rfl (by kernel_rfl) rfl rfl ?_
    refine any_one (j := 2) (by kernel_rfl) ?_
    (refine one_imm (listed' := [true, true, true, false, false]) rfl rfl (toTerm_fn t G4 cells (small_tm t (by omega)) hr4) rfl rfl rfl (fun v5 G5 hle5 hh => ?_); obtain ⟨cells5, F5, rfl, hs5, hn5⟩ := hh)
    refine any_one (j := 3) (by kernel_rfl) ?_
    refine one_val (listed' := [true, true, true, true, false]) rfl rfl (eqTerm_fn t G5 cells3 cells5 (hs3.R.mono ((Dif.le _ _).trans (hle4.trans hle5))) (hs5.R.mono (Dif.le _ _))) rfl rfl rfl ?_
    refine any_pure (i := 4) (listed' := [true, true, true, true, true]) rfl (by repeat (first | exact np_ret | apply np_seq | apply np_block | apply np_loopN')) (pure_not_t rfl) rfl (by kernel_rfl) rfl rfl ?_
    refine any_done (by kernel_rfl) ?_
    refine nrm_seq ?_
    refine tri_cond_f rfl ?_
    refine tri_skip ?_
    refine nrm_seq ?_
    refine tri_seq ?_
    refine tri_region ?_
    refine seq_pure (pure_assign rfl) rfl rfl ?_
    refine seq_done ?_
    refine nrm_seq ?_
    refine tri_seq ?_
    refine tri_region ?_
    refine seq_load (load_a rfl rfl (at_blk_all (by repeat (first | exact List.Mem.head _ | apply List.Mem.tail))) (by assumption)) rfl rfl ?_
    refine seq_pure (pure_move rfl) rfl rfl ?_
    (obtain ⟨bs3, ob3, ib3⟩ := hs3.blks; obtain ⟨nb3, gb3, kb3⟩ := thaw_hyp (Gc := G5) ib3 hn3 hle02 ((Dif.le G3 G2).trans (hle4.trans hle5)); refine seq_lend_x nb3 gb3 rfl (markTerm_fn t 1 _ cells3 bs3 ob3 (by omega) (by omega)) rfl rfl ?_; have h46 : IMle (Dif G4 G3) (Wo G5 (bs3.map Prod.fst)) := Wo.keep ((Dif.le G4 G3).trans hle5) (fun b hb => dif_none (kb3 b hb).2); have h26 : IMle (Dif G2 G1) (Wo G5 (bs3.map Prod.fst)) := Wo.keep (m2.trans hle5) (fun b hb => none_le (Dif.le G2 G1) (kb3 b hb).1); have h06 : IMle G (Wo G5 (bs3.map Prod.fst)) := Wo.keep (hle02.trans (hle24.trans hle5)) (fun b hb => none_le hle02 (kb3 b hb).1); generalize Wo G5 (bs3.map Prod.fst) = G6 at *)
    refine seq_pure (pure_assign rfl) rfl rfl ?_
    refine seq_done ?_
    refine nrm_seq ?_
    refine tri_seq ?_
    refine tri_seq ?_
    refine tri_region ?_
    refine seq_pure (pure_move rfl) rfl rfl ?_
    refine seq_pure (pure_lss_f rfl rfl (by omega)) rfl rfl ?_
    refine seq_pure (pure_move rfl) rfl rfl ?_
    refine seq_pure (pure_move rfl) rfl rfl ?_
    refine seq_pure (pure_move rfl) rfl rfl ?_
    refine seq_val rfl (eqIntSS_fn (mAll t) G6 p4 p2 c4 c2 es4 es2 F4 F2 (hp4.mono h46) (hq4.mono h46) (hp2.mono h26) (hq2.mono h26)) rfl rfl ?_
    refine seq_pure (pure_not_t rfl) rfl rfl ?_
    refine seq_pure (pure_pick_f rfl rfl) rfl rfl ?_
    refine seq_done ?_
    refine nrm_seq ?_
    refine tri_cond_f rfl ?_
    refine tri_skip ?_
    refine nrm_seq ?_
    refine tri_seq ?_
    refine tri_region ?_
    refine seq_pure (pure_assign rfl) rfl rfl ?_
    refine seq_done ?_
    refine nrm_seq ?_
    refine tri_seq ?_
    refine tri_region ?_
    refine seq_pure (pure_move rfl) rfl rfl ?_
    refine seq_pure (pure_move rfl) rfl rfl ?_
    (obtain ⟨bs4, ob4, ib4⟩ := hq4.blks; have hd4' := List.nodup_append.1 hd4; obtain ⟨nb4, gb4, kb4⟩ := thaw_hyp (Gc := G6) ib4 hd4'.2.1 (hle02.trans hle3) h46; have hs7 := (hp4.mono h46).wo (F := bs4.map Prod.fst) (fun b hb hb' => hd4'.2.2 b hb b (ib4.1.subset hb') rfl); refine seq_lend_f nb4 gb4 rfl (markIntSS_fn (mAll t) 1 _ p4 c4 es4 bs4 hs7 ob4 (by omega) (by omega)) rfl rfl (fun bs5 G8 hb5 hle8 hg5 => ?_); have h28 : IMle (Dif G2 G1) G8 := (Wo.keep h26 (fun b hb => none_le (Dif.le G2 G1) (none_le hle3 (kb4 b hb).1))).trans hle8; have h08 : IMle G G8 := (Wo.keep h06 (fun b hb => none_le hle02 (none_le hle3 (kb4 b hb).1))).trans hle8; have hs8 := hs7.mono hle8; have hq8 := hb5.q hg5; have hr8 := hr.mono h08)
    refine seq_pure (pure_assign rfl) rfl rfl ?_
    refine seq_done ?_
    refine nrm_seq ?_
    refine tri_seq ?_
    refine tri_region ?_
    refine seq_pure (pure_assign rfl) rfl rfl ?_
    refine seq_done ?_
    refine nrm_seq ?_
    refine tri_seq ?_
    refine tri_region ?_
    refine seq_pure (pure_move rfl) rfl rfl ?_
    refine seq_pure (pure_move rfl) rfl rfl ?_
    refine seq_val rfl (heldIntSS_fn (mAll t) 1 G8 p4 c4 es4 hs8 hq8 (by omega) (by omega)) rfl rfl ?_
    refine seq_pure (pure_assign rfl) rfl rfl ?_
    refine seq_done ?_
    refine nrm_seq ?_
    refine tri_seq ?_
    refine tri_seq ?_
    refine tri_region ?_
    refine seq_pure (pure_move rfl) rfl rfl ?_
    refine seq_pure (pure_lss_f rfl rfl (by omega)) rfl rfl ?_
    refine seq_done ?_
    refine nrm_seq ?_
    refine tri_cond_f rfl ?_
    refine tri_skip ?_
    refine nrm_seq ?_
    refine tri_seq ?_
    refine tri_seq ?_
    refine tri_region ?_
    refine seq_pure (pure_move rfl) rfl rfl ?_
    refine seq_pure (pure_move rfl) rfl rfl ?_
    refine seq_pure (pure_neq_f rfl rfl (by omega)) rfl rfl ?_
    refine seq_done ?_
    refine nrm_seq ?_
    refine tri_cond_f rfl ?_
    refine tri_skip ?_
    refine nrm_seq ?_
    refine tri_seq ?_
    refine tri_region ?_
    refine seq_load (load_a rfl rfl (at_blk_all (by repeat (first | exact List.Mem.head _ | apply List.Mem.tail))) (by assumption)) rfl rfl ?_
    (refine seq_imm rfl (toTerm_fn t G8 cells (small_tm t (by omega)) hr8) rfl rfl (fun v9 G9 hle9 hh => ?_); obtain ⟨cells9, F9, rfl, hs9, hn9⟩ := hh; have hI9 := allPaths_fn t G9 cells9 (hs9.R.mono (Dif.le _ _)))
    (refine seq_imm rfl hI9 rfl rfl (fun v10 G10 hle10 hh => ?_); obtain ⟨p10, c10, rfl, es10, F10, hp10, hb10, hq10, hd10⟩ := hh; have h210 := h28.trans (hle9.trans hle10))
    refine seq_pure (pure_assign rfl) rfl rfl ?_
    refine seq_done ?_
    refine nrm_seq ?_
    refine tri_seq ?_
    refine tri_seq ?_
    refine tri_region ?_
    refine seq_pure (pure_move rfl) rfl rfl ?_
    refine seq_pure (pure_move rfl) rfl rfl ?_
    refine seq_val rfl (eqIntSS_fn (mAll t) G10 p10 p2 c10 c2 es10 es2 F10 F2 (hp10.mono (Dif.le _ _)) (hq10.mono (Dif.le _ _)) (hp2.mono h210) (hq2.mono h210)) rfl rfl ?_
    refine seq_pure (pure_not_t rfl) rfl rfl ?_
    refine seq_done ?_
    refine nrm_seq ?_
    refine tri_cond_f rfl ?_
    refine tri_skip ?_
    refine nrm_seq ?_
    refine tri_seq ?_
    refine tri_region ?_
    refine seq_pure (pure_assign rfl) rfl rfl ?_
    refine seq_done ?_
    refine nrm_seq ?_
    refine tri_seq ?_
    refine tri_region ?_
    refine seq_pure (pure_move rfl) rfl rfl ?_
    refine seq_pure (pure_move rfl) rfl rfl ?_
    refine seq_val rfl (heldIntSS_fn (mAll t) 1 G10 p4 c4 es4 (hs8.mono (hle9.trans hle10)) (hq8.mono (hle9.trans hle10)) (by omega) (by omega)) rfl rfl ?_
    refine seq_pure (pure_assign rfl) rfl rfl ?_
    refine seq_done ?_
    refine nrm_seq ?_
    refine tri_seq ?_
    refine tri_seq ?_
    refine tri_region ?_
    refine seq_pure (pure_move rfl) rfl rfl ?_
    refine seq_pure (pure_lss_f rfl rfl (by omega)) rfl rfl ?_
    refine seq_done ?_
    refine nrm_seq ?_
    refine tri_cond_f rfl ?_
    refine tri_skip ?_
    refine nrm_seq ?_
    refine tri_seq ?_
    refine tri_seq ?_
    refine tri_region ?_
    refine seq_pure (pure_move rfl) rfl rfl ?_
    refine seq_pure (pure_move rfl) rfl rfl ?_
    refine seq_pure (pure_neq_f rfl rfl (by omega)) rfl rfl ?_
    refine seq_done ?_
    refine nrm_seq ?_
    refine tri_cond_f rfl ?_
    refine tri_skip ?_
    refine nrm_seq ?_
    refine tri_seq ?_
    refine tri_region ?_
    refine seq_pure (pure_assign rfl) rfl rfl ?_
    refine seq_done ?_
    refine nrm_seq ?_
    refine tri_ret ?_
    refine ret_fin1 (res_tmp rfl) ?_
    exact ⟨rfl, rfl⟩
  · refine seq_pure (pure_assign rfl) rfl rfl ?_
    refine seq_done ?_
    refine nrm_seq ?_
    refine tri_seq ?_
    refine tri_seq ?_
    refine tri_region ?_
    refine seq_pure (pure_move rfl) rfl rfl ?_
    refine seq_pure (pure_lss_t rfl rfl (by omega)) rfl rfl ?_
    refine seq_done ?_
    refine nrm_seq ?_
    refine tri_cond_t rfl ?_
    refine tri_seq ?_
    refine tri_region ?_
    refine seq_pure (pure_assign rfl) rfl rfl ?_
    refine seq_done ?_
    refine nrm_seq ?_
    refine tri_ret ?_
    refine ret_seq ?_
    refine ret_fin1 (res_tmp rfl) ?_
    exact ⟨rfl, rfl⟩
end Gw
end Go.Proofs.Ytlefgfdhlblahaa
