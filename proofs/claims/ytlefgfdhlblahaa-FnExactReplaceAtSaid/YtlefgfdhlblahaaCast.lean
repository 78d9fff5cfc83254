/-
  The first cast with a label.
-/
import Derived.Test.YtlefgfdhlblahaaAt
namespace Go.Proofs.Ytlefgfdhlblahaa
open Go Go.RowKit
namespace Gw
def pAt (t : Tm) (label : Int) (l : List Int) : Bool := match tAt t l with
  | some x => decide (x.k = 14 ∧ x.lb = label)
  | none => false
def mCast (t : Tm) (label : Int) : List Int × Bool := match (mAll t).find? (pAt t label) with
  | some l => (l, true)
  | none => ([], false)
theorem mCast_some {t : Tm} {label : Int} {i : Nat} (hi : i < (mAll t).length) (hno : ∀ j, j < i → ∀ h : j < (mAll t).length, pAt t label (mAll t)[j] = false) (hy : pAt t label (mAll t)[i] = true) : mCast t label = ((mAll t)[i], true) := by
  have : (mAll t).find? (pAt t label) = some (mAll t)[i] := by
    rw [List.find?_eq_some_iff_getElem]
    exact ⟨hy, i, hi, rfl, fun j hj => by rw [hno j hj (by omega)]; rfl⟩
  unfold mCast; rw [this]
theorem mCast_none {t : Tm} {label : Int} (hno : ∀ j, j < (mAll t).length → ∀ h : j < (mAll t).length, pAt t label (mAll t)[j] = false) : mCast t label = ([], false) := by
  have : (mAll t).find? (pAt t label) = none := by
    rw [List.find?_eq_none]
    intro x hx
    obtain ⟨j, hj, rfl⟩ := List.getElem_of_mem hx
    rw [hno j hj hj]; simp
  unfold mCast; rw [this]
theorem pAt_step {t : Tm} {label : Int} {i : Nat} (hno : ∀ j, j < i → ∀ h : j < (mAll t).length, pAt t label (mAll t)[j] = false) (hi : i < (mAll t).length) (hn : pAt t label (mAll t)[i] = false) : ∀ j, j < i + 1 → ∀ h : j < (mAll t).length, pAt t label (mAll t)[j] = false := by
  intro j hj h
  rcases Nat.lt_or_ge j i with hlt | hge
  · exact hno j hlt h
  · obtain rfl : j = i := by omega
    exact hn
theorem pAt_t {t : Tm} {label : Int} {l : List Int} {x : Tm} (h : tAt t l = some x) (h1 : x.k = 14) (h2 : x.lb = label) : pAt t label l = true := by
  unfold pAt; rw [h]; exact decide_eq_true ⟨h1, h2⟩
theorem pAt_f {t : Tm} {label : Int} {l : List Int} {x : Tm} (h : tAt t l = some x) (h1 : ¬ (x.k = 14 ∧ x.lb = label)) : pAt t label l = false := by
  unfold pAt; rw [h]; exact decide_eq_false h1
theorem pAt_n {t : Tm} {label : Int} {l : List Int} (h : tAt t l = none) : pAt t label l = false := by
  unfold pAt; rw [h]
/-- A path in memory of its own. -/
def SP1 (G : IM) (l : List Int) (p : Option Addr) (c : Nat) : Prop := Sl G p l.length c 1 (ints l) ∧ ∀ b ∈ vfp p, G b ≠ none
theorem SPs.get1 {G : IM} : ∀ {ls : List (List Int)} {es : List Value} {F : List Nat}, SPs G ls es F → ∀ {i : Nat} (hi : i < ls.length), ∃ p c, es[i]? = some (.slice p ls[i].length c) ∧ SP1 G ls[i] p c
  | [], es, F, h, i, hi => by simp at hi
  | l :: ls, es, F, ⟨p, c, r, Fr, h1, h2, h3, h4, h5, h6⟩, i, hi => by
    subst h1
    cases i with
    | zero => exact ⟨p, c, rfl, h3, h4⟩
    | succ i => simpa using h6.get1 (i := i) (by simpa using hi)
def CpP (t : Tm) (label : Int) (G : IM) : IM → Value → List Ent → Prop := Imm fun G' v => ∃ p c, v = .tuple ⟨[.slice p (mCast t label).1.length c, .bool (mCast t label).2]⟩ ∧ SP1 (Dif G' G) (mCast t label).1 p c
theorem CpP.mk {t : Tm} {label : Int} {G G' : IM} {l : List Int} {b : Bool} {p : Option Addr} {c : Nat} (h : mCast t label = (l, b)) (hs : SP1 (Dif G' G) l p c) : CpP t label G G' (.tuple ⟨[.slice p l.length c, .bool b]⟩) [] := by
  refine ⟨rfl, p, c, ?_, ?_⟩
  · rw [h]
  · rw [h]; exact hs
theorem SP1.nil (G : IM) : SP1 G [] none 0 := ⟨Sl.nil G 1, by simp [vfp]⟩
set_option maxHeartbeats 0 in
set_option maxRecDepth 100000 in
theorem castPath_fn (t : Tm) (label : Int) (G : IM) (cells : List Value) (hr : RTm G t cells) :
    Fn Try.prog 25 [.agg ⟨cells⟩, .int .i64 label] [] G (CpP t label G) := by
  have hl := hr.len
  have hI := allPaths_fn t G cells hr
  refine fn_enter Try.func25 rfl Try.ntmps25 Try.results25 rfl ?_
  intro w0
  refine tri_seq ?_
  refine tri_region ?_
  (refine seq_step (step_box_a rfl rfl) rfl ?_; rintro _ ⟨b3, rfl⟩)
  refine seq_pure (pure_assign rfl) rfl rfl ?_
  refine seq_pure (pure_assign rfl) rfl rfl ?_
  refine seq_done ?_
  refine nrm_seq ?_
  refine tri_seq ?_
  refine tri_seq ?_
  refine tri_region ?_
  refine seq_load (load_a rfl rfl (at_blk_all (by repeat (first | exact List.Mem.head _ | apply List.Mem.tail))) (by assumption)) rfl rfl ?_
  (refine seq_imm rfl hI rfl rfl (fun v1 G1 hle1 hh => ?_); obtain ⟨p1, c1, rfl, es1, F1, hp1, hb1, hq1, hd1⟩ := hh; have hn1 := hp1.le; have hr1 := hr.mono hle1; have hp1' := hp1.mono (Dif.le G1 G))
  refine seq_pure (pure_len rfl rfl) rfl rfl ?_
  refine seq_pure (pure_move rfl) rfl rfl ?_
  refine seq_done ?_
  refine nrm_seq ?_
  refine tri_block ?_
  refine tri_loopN (fun (i : Nat) => ⟨[(13, .int .i64 i), (12, .int .i64 (mAll t).length), (11, .slice p1 (mAll t).length c1), (2, .pointer (some ⟨b3, 0, none⟩)), (1, .int .i64 label)], [.blk b3 cells], G1⟩) (fun i => i ≤ (mAll t).length ∧ ∀ j, j < i → ∀ h : j < (mAll t).length, pAt t label (mAll t)[j] = false) (fun i => (mAll t).length - i) 0 ?_ ?_ ?_
  · exact sub_mk (by repeat (first | exact SubE.nil | refine SubE.cons rfl ?_)) (by repeat (first | exact SubH.refl | exact SubH.nil | refine SubH.cons (by repeat (first | exact Pk.here | apply Pk.there)) ?_ | apply SubH.drop))
  · exact ⟨Nat.zero_le _, fun j hj => absurd hj (by omega)⟩
  · (rintro i ⟨hi, hno⟩)
    refine tri_seq ?_
    refine tri_region ?_
    refine seq_bool (pure_lss rfl rfl) rfl rfl (fun h24 => ?_) (fun h24 => ?_)
    · refine seq_done ?_
      refine nrm_seq ?_
      refine tri_seq ?_
      refine tri_cond_t rfl ?_
      refine tri_skip ?_
      refine nrm_seq ?_
      refine tri_seq ?_
      refine tri_block ?_
      refine tri_seq ?_
      refine tri_region ?_
      (obtain ⟨b, o, v, rfl, hv, hatc, hgb⟩ := hp1'.kid (i := i) (by omega); obtain ⟨p3, c3, hv3, hs3⟩ := hq1.get1 (i := i) (by omega); rw [hv3] at hv; obtain rfl := Option.some.inj hv; refine seq_pure (pure_indexAddrN rfl rfl rfl (by omega)) rfl rfl ?_)
      refine seq_load (load_s rfl rfl (hatc _)) rfl rfl ?_
      refine seq_pure (pure_assign rfl) rfl rfl ?_
      refine seq_done ?_
      refine nrm_seq ?_
      refine tri_seq ?_
      refine tri_region ?_
      refine seq_load (load_a rfl rfl (at_blk_all (by repeat (first | exact List.Mem.head _ | apply List.Mem.tail))) (by assumption)) rfl rfl ?_
      refine seq_pure (pure_move rfl) rfl rfl ?_
      (refine seq_own rfl (at_fn t (mAll t)[i] G1 cells p3 c3 hr1 (hs3.1.mono (Dif.le _ _))) rfl rfl (fun v44 G44 outs44 hle44 h44 => ?_); obtain ⟨hG, rfl, hh⟩ := h44; replace hG := hG.symm; subst hG; rcases hh with ⟨x, cx, hx, hrx, rfl⟩ | ⟨hx, rfl⟩ <;> (first | obtain ⟨pt, ct, et, pf, cf, ef, pk, ck, ek, rfl, hxk, hxn, hxl, _⟩ := hrx.open | skip))
      · refine seq_pure (pure_move rfl) rfl rfl ?_
        refine seq_pure (pure_extract rfl rfl) rfl rfl ?_
        refine seq_pure (pure_extract rfl rfl) rfl rfl ?_
        (refine seq_step (step_alloc rfl) rfl ?_; rintro _ ⟨b48, rfl⟩)
        refine seq_store rfl rfl rfl rfl rfl rfl (by repeat (first | exact Sw.here | apply Sw.there)) (by rfl) ?_
        refine seq_pure (pure_assign rfl) rfl rfl ?_
        refine seq_done ?_
        refine nrm_seq ?_
        refine tri_seq ?_
        refine tri_region ?_
        refine seq_pure (pure_fieldAddr0 rfl) rfl rfl ?_
        refine seq_load (load_bs rfl rfl (by repeat (first | exact List.Mem.head _ | apply List.Mem.tail)) (by rfl)) rfl rfl ?_
        refine seq_bool (pure_eql rfl rfl) rfl rfl (fun h57 => ?_) (fun h57 => ?_)
        · refine seq_pure (pure_move rfl) rfl rfl ?_
          refine seq_pure (pure_fieldAddr0 rfl) rfl rfl ?_
          refine seq_load (load_bs rfl rfl (by repeat (first | exact List.Mem.head _ | apply List.Mem.tail)) (by rfl)) rfl rfl ?_
          refine seq_pure (pure_move rfl) rfl rfl ?_
          refine seq_bool (pure_eql rfl rfl) rfl rfl (fun h62 => ?_) (fun h62 => ?_)
          · refine seq_pure (pure_pick_t rfl rfl) rfl rfl ?_
            refine seq_done ?_
            refine nrm_seq ?_
            refine tri_cond_t rfl ?_
            refine tri_seq ?_
            refine tri_region ?_
            refine seq_pure (pure_move rfl) rfl rfl ?_
            refine seq_pure (pure_assign rfl) rfl rfl ?_
            refine seq_pure (pure_assign rfl) rfl rfl ?_
            refine seq_done ?_
            refine nrm_seq ?_
            refine tri_ret ?_
            refine ret_block ?_
            refine ret_seq ?_
            refine ret_loopN ?_
            refine ret_block ?_
            refine ret_seq ?_
            refine ret_fin2 (res_tmp rfl) (res_tmp rfl) ?_
            exact CpP.mk (mCast_some (by omega) hno (pAt_t hx (by assumption) (by assumption))) hs3
          · refine seq_pure (pure_pick_t rfl rfl) rfl rfl ?_
            refine seq_done ?_
            refine nrm_seq ?_
            refine tri_cond_f rfl ?_
            refine tri_skip ?_
            refine nrm_block ?_
            refine nrm_seq ?_
            refine tri_region ?_
            refine seq_pure (pure_add rfl rfl (by omega) (by omega)) rfl rfl ?_
            refine seq_pure (pure_move rfl) rfl rfl ?_
            refine seq_done ?_
            (refine nrm_loopN (i + 1) ?_ ?_ ?_)
            · exact sub_mk (by repeat (first | exact SubE.nil | refine SubE.cons rfl ?_)) (by repeat (first | exact SubH.refl | exact SubH.nil | refine SubH.cons (by repeat (first | exact Pk.here | apply Pk.there)) ?_ | apply SubH.drop))
            · exact ⟨by omega, pAt_step hno (by omega) (pAt_f hx (by omega))⟩
            · omega
        · refine seq_pure (pure_move rfl) rfl rfl ?_
          refine seq_skip rfl rfl ?_
          refine seq_skip rfl rfl ?_
          refine seq_skip rfl rfl ?_
          refine seq_skip rfl rfl ?_
          refine seq_pure (pure_pick_f rfl rfl) rfl rfl ?_
          refine seq_done ?_
          refine nrm_seq ?_
          refine tri_cond_f rfl ?_
          refine tri_skip ?_
          refine nrm_block ?_
          refine nrm_seq ?_
          refine tri_region ?_
          refine seq_pure (pure_add rfl rfl (by omega) (by omega)) rfl rfl ?_
          refine seq_pure (pure_move rfl) rfl rfl ?_
          refine seq_done ?_
          (refine nrm_loopN (i + 1) ?_ ?_ ?_)
          · exact sub_mk (by repeat (first | exact SubE.nil | refine SubE.cons rfl ?_)) (by repeat (first | exact SubH.refl | exact SubH.nil | refine SubH.cons (by repeat (first | exact Pk.here | apply Pk.there)) ?_ | apply SubH.drop))
          · exact ⟨by omega, pAt_step hno (by omega) (pAt_f hx (by omega))⟩
          · omega
      · refine seq_pure (pure_move rfl) rfl rfl ?_
        refine seq_pure (pure_extract rfl rfl) rfl rfl ?_
        refine seq_pure (pure_extract rfl rfl) rfl rfl ?_
        (refine seq_step (step_alloc rfl) rfl ?_; rintro _ ⟨b120, rfl⟩)
        refine seq_store rfl rfl rfl rfl rfl rfl (by repeat (first | exact Sw.here | apply Sw.there)) (by rfl) ?_
        refine seq_pure (pure_assign rfl) rfl rfl ?_
        refine seq_done ?_
        refine nrm_seq ?_
        refine tri_seq ?_
        refine tri_region ?_
        refine seq_pure (pure_fieldAddr0 rfl) rfl rfl ?_
        refine seq_load (load_bs rfl rfl (by repeat (first | exact List.Mem.head _ | apply List.Mem.tail)) (by rfl)) rfl rfl ?_
        refine seq_pure (pure_eql_f rfl rfl (by omega)) rfl rfl ?_
        refine seq_pure (pure_move rfl) rfl rfl ?_
        refine seq_skip rfl rfl ?_
        refine seq_skip rfl rfl ?_
        refine seq_skip rfl rfl ?_
        refine seq_skip rfl rfl ?_
        refine seq_pure (pure_pick_f rfl rfl) rfl rfl ?_
        refine seq_done ?_
        refine nrm_seq ?_
        refine tri_cond_f rfl ?_
        refine tri_skip ?_
        refine nrm_block ?_
        refine nrm_seq ?_
        refine tri_region ?_
        refine seq_pure (pure_add rfl rfl (by omega) (by omega)) rfl rfl ?_
        refine seq_pure (pure_move rfl) rfl rfl ?_
        refine seq_done ?_
        (refine nrm_loopN (i + 1) ?_ ?_ ?_)
        · exact sub_mk (by repeat (first | exact SubE.nil | refine SubE.cons rfl ?_)) (by repeat (first | exact SubH.refl | exact SubH.nil | refine SubH.cons (by repeat (first | exact Pk.here | apply Pk.there)) ?_ | apply SubH.drop))
        · exact ⟨by omega, pAt_step hno (by omega) (pAt_n hx)⟩
        · omega
    · refine seq_done ?_
      refine nrm_seq ?_
      refine tri_seq ?_
      refine tri_cond_f rfl ?_
      refine tri_exit ?_
      refine ext_seq ?_
      refine ext_loopN ?_
      refine ext_block_eq ?_
      refine nrm_seq ?_
      refine tri_seq ?_
      refine tri_region ?_
      refine seq_pure (pure_assign rfl) rfl rfl ?_
      refine seq_pure (pure_assign rfl) rfl rfl ?_
      refine seq_done ?_
      refine nrm_seq ?_
      refine tri_ret ?_
      refine ret_fin2 (res_tmp rfl) (res_tmp rfl) ?_
      (obtain rfl : i = (mAll t).length := (by omega); exact CpP.mk (l := []) (mCast_none hno) (SP1.nil _))
set_option maxHeartbeats 0 in
set_option maxRecDepth 100000 in
theorem sCastPath_fn (t : Tm) (label : Int) (G : IM) (cells : List Value) (hcnt : tmCount t ≤ 4294967296) (hr : RTm G t cells) :
    Fn Try.prog 24 [.agg ⟨cells⟩, .int .i64 label] [] G (CpP t label G) := by
  have hl := hr.len
  have hI := sAllPaths_fn t G cells hcnt hr
  refine fn_enter Try.func24 rfl Try.ntmps24 Try.results24 rfl ?_
  intro w0
  refine tri_seq ?_
  refine tri_region ?_
  (refine seq_step (step_box_a rfl rfl) rfl ?_; rintro _ ⟨b3, rfl⟩)
  refine seq_pure (pure_assign rfl) rfl rfl ?_
  refine seq_pure (pure_assign rfl) rfl rfl ?_
  refine seq_done ?_
  refine nrm_seq ?_
  refine tri_seq ?_
  refine tri_region ?_
  refine seq_load (load_a rfl rfl (at_blk_all (by repeat (first | exact List.Mem.head _ | apply List.Mem.tail))) (by assumption)) rfl rfl ?_
  (refine seq_imm rfl hI rfl rfl (fun v1 G1 hle1 hh => ?_); obtain ⟨p1, c1, rfl, es1, F1, hp1, hb1, hq1, hd1⟩ := hh; have hn1 := hp1.le; have hr1 := hr.mono hle1; have hp1' := hp1.mono (Dif.le G1 G))
  refine seq_pure (pure_assign rfl) rfl rfl ?_
  refine seq_done ?_
  refine nrm_seq ?_
  refine tri_seq ?_
  refine tri_seq ?_
  refine tri_region ?_
  refine seq_pure (pure_assign rfl) rfl rfl ?_
  refine seq_done ?_
  refine nrm_seq ?_
  refine tri_block ?_
  refine tri_loopN (fun (i : Nat) => ⟨[(7, .int .i64 i), (6, .slice p1 (mAll t).length c1), (2, .pointer (some ⟨b3, 0, none⟩)), (1, .int .i64 label)], [.blk b3 cells], G1⟩) (fun i => i ≤ (mAll t).length ∧ ∀ j, j < i → ∀ h : j < (mAll t).length, pAt t label (mAll t)[j] = false) (fun i => (mAll t).length - i) 0 ?_ ?_ ?_
  · exact sub_mk (by repeat (first | exact SubE.nil | refine SubE.cons rfl ?_)) (by repeat (first | exact SubH.refl | exact SubH.nil | refine SubH.cons (by repeat (first | exact Pk.here | apply Pk.there)) ?_ | apply SubH.drop))
  · exact ⟨Nat.zero_le _, fun j hj => absurd hj (by omega)⟩
  · (rintro i ⟨hi, hno⟩)
    refine tri_seq ?_
    refine tri_seq ?_
    refine tri_region ?_
    refine seq_pure (pure_move rfl) rfl rfl ?_
    refine seq_pure (pure_move rfl) rfl rfl ?_
    refine seq_pure (pure_len rfl rfl) rfl rfl ?_
    refine seq_bool (pure_lss rfl rfl) rfl rfl (fun h32 => ?_) (fun h32 => ?_)
    · refine seq_done ?_
      refine nrm_seq ?_
      refine tri_cond_t rfl ?_
      refine tri_skip ?_
      refine nrm_seq ?_
      refine tri_seq ?_
      refine tri_block ?_
      refine tri_seq ?_
      (obtain ⟨b, o, v, rfl, hv, hatc, hgb⟩ := hp1'.kid (i := i) (by omega); obtain ⟨p3, c3, hv3, hs3⟩ := hq1.get1 (i := i) (by omega); rw [hv3] at hv; obtain rfl := Option.some.inj hv; refine tri_draw mixed rfl ?_)
      refine any_load (i := 0) (listed' := [true, false, false, false, false, false, false, false, false, false, false, false]) rfl (by repeat (first | exact np_ret | apply np_seq | apply np_block | apply np_loopN')) (load_a rfl rfl (at_blk_all (by repeat (first | exact List.Mem.head _ | apply List.Mem.tail))) (by assumption)) rfl (by kernel_rfl) rfl rfl ?_
      refine any_pure (i := 1) (listed' := [true, true, false, false, false, false, false, false, false, false, false, false]) rfl (by repeat (first | exact np_ret | apply np_seq | apply np_block | apply np_loopN')) (pure_move rfl) rfl (by kernel_rfl) rfl rfl ?_
      refine any_pure (i := 2) (listed' := [true, true, true, false, false, false, false, false, false, false, false, false]) rfl (by repeat (first | exact np_ret | apply np_seq | apply np_block | apply np_loopN')) (pure_move rfl) rfl (by kernel_rfl) rfl rfl ?_
      refine any_pure (i := 3) (listed' := [true, true, true, true, false, false, false, false, false, false, false, false]) rfl (by repeat (first | exact np_ret | apply np_seq | apply np_block | apply np_loopN')) (pure_indexAddrN rfl rfl rfl (by omega)) rfl (by kernel_rfl) rfl rfl ?_
      refine any_load (i := 4) (listed' := [true, true, true, true, true, false, false, false, false, false, false, false]) rfl (by repeat (first | exact np_ret | apply np_seq | apply np_block | apply np_loopN')) (load_s rfl rfl (hatc _)) rfl (by kernel_rfl) rfl rfl ?_
      refine any_two (j := 5) (j' := 9) (by kernel_rfl) ?_ ?_
      · (refine one_own (listed' := [true, true, true, true, true, true, false, false, false, false, false, false]) rfl rfl (l16At_fn t (mAll t)[i] G1 cells p3 c3 hr1 (hs3.1.mono (Dif.le _ _))) rfl rfl rfl (fun v48 G48 outs48 hle48 h48 => ?_); obtain ⟨hG, rfl, hh⟩ := h48; replace hG := hG.symm; subst hG; rcases hh with ⟨x, cx, hx, hrx, rfl⟩ | ⟨hx, rfl⟩ <;> (first | obtain ⟨pt, ct, et, pf, cf, ef, pk, ck, ek, rfl, hxk, hxn, hxl, _⟩ := hrx.open | skip))
        · refine any_pure (i := 6) (listed' := [true, true, true, true, true, true, true, false, false, false, false, false]) rfl (by repeat (first | exact np_ret | apply np_seq | apply np_block | apply np_loopN')) (pure_move rfl) rfl (by kernel_rfl) rfl rfl ?_
          refine any_pure (i := 7) (listed' := [true, true, true, true, true, true, true, true, false, false, false, false]) rfl (by repeat (first | exact np_ret | apply np_seq | apply np_block | apply np_loopN')) (pure_extract rfl rfl) rfl (by kernel_rfl) rfl rfl ?_
          refine any_pure (i := 8) (listed' := [true, true, true, true, true, true, true, true, true, false, false, false]) rfl (by repeat (first | exact np_ret | apply np_seq | apply np_block | apply np_loopN')) (pure_extract rfl rfl) rfl (by kernel_rfl) rfl rfl ?_
          refine any_one (j := 9) (by kernel_rfl) ?_
          (refine one_step0 (listed' := [true, true, true, true, true, true, true, true, true, true, false, false]) rfl (step_alloc rfl) rfl rfl ?_; rintro _ ⟨b53, rfl⟩)
          refine any_one (j := 10) (by kernel_rfl) ?_
          refine one_store (listed' := [true, true, true, true, true, true, true, true, true, true, true, false]) rfl rfl rfl rfl rfl rfl rfl rfl (by kernel_rfl) (by repeat (first | exact Sw.here | apply Sw.there)) (by rfl) ?_
          refine any_pure (i := 11) (listed' := [true, true, true, true, true, true, true, true, true, true, true, true]) rfl (by repeat (first | exact np_ret | apply np_seq | apply np_block | apply np_loopN')) (pure_assign rfl) rfl (by kernel_rfl) rfl rfl ?_
          refine any_done (by kernel_rfl) ?_
          refine nrm_seq ?_
          refine tri_seq ?_
          refine tri_region ?_
          refine seq_pure (pure_fieldAddr0 rfl) rfl rfl ?_
          refine seq_load (load_bs rfl rfl (by repeat (first | exact List.Mem.head _ | apply List.Mem.tail)) (by rfl)) rfl rfl ?_
          refine seq_bool (pure_eql rfl rfl) rfl rfl (fun h63 => ?_) (fun h63 => ?_)
          · refine seq_pure (pure_move rfl) rfl rfl ?_
            refine seq_pure (pure_fieldAddr0 rfl) rfl rfl ?_
            refine seq_load (load_bs rfl rfl (by repeat (first | exact List.Mem.head _ | apply List.Mem.tail)) (by rfl)) rfl rfl ?_
            refine seq_pure (pure_move rfl) rfl rfl ?_
            refine seq_bool (pure_eql rfl rfl) rfl rfl (fun h68 => ?_) (fun h68 => ?_)
            · refine seq_pure (pure_pick_t rfl rfl) rfl rfl ?_
              refine seq_done ?_
              refine nrm_seq ?_
              refine tri_cond_t rfl ?_
              refine tri_seq ?_
              refine tri_region ?_
              refine seq_pure (pure_move rfl) rfl rfl ?_
              refine seq_pure (pure_move rfl) rfl rfl ?_
              refine seq_pure (pure_indexAddrN rfl rfl rfl (by omega)) rfl rfl ?_
              refine seq_load (load_s rfl rfl (hatc _)) rfl rfl ?_
              refine seq_pure (pure_assign rfl) rfl rfl ?_
              refine seq_pure (pure_assign rfl) rfl rfl ?_
              refine seq_done ?_
              refine nrm_seq ?_
              refine tri_ret ?_
              refine ret_block ?_
              refine ret_seq ?_
              refine ret_loopN ?_
              refine ret_block ?_
              refine ret_seq ?_
              refine ret_fin2 (res_tmp rfl) (res_tmp rfl) ?_
              exact CpP.mk (mCast_some (by omega) hno (pAt_t hx (by assumption) (by assumption))) hs3
            · refine seq_pure (pure_pick_t rfl rfl) rfl rfl ?_
              refine seq_done ?_
              refine nrm_seq ?_
              refine tri_cond_f rfl ?_
              refine tri_skip ?_
              refine nrm_block ?_
              refine nrm_seq ?_
              refine tri_region ?_
              refine seq_pure (pure_move rfl) rfl rfl ?_
              refine seq_pure (pure_add rfl rfl (by omega) (by omega)) rfl rfl ?_
              refine seq_pure (pure_assign rfl) rfl rfl ?_
              refine seq_done ?_
              (refine nrm_loopN (i + 1) ?_ ?_ ?_)
              · exact sub_mk (by repeat (first | exact SubE.nil | refine SubE.cons rfl ?_)) (by repeat (first | exact SubH.refl | exact SubH.nil | refine SubH.cons (by repeat (first | exact Pk.here | apply Pk.there)) ?_ | apply SubH.drop))
              · exact ⟨by omega, pAt_step hno (by omega) (pAt_f hx (by omega))⟩
              · omega
          · refine seq_pure (pure_move rfl) rfl rfl ?_
            refine seq_skip rfl rfl ?_
            refine seq_skip rfl rfl ?_
            refine seq_skip rfl rfl ?_
            refine seq_skip rfl rfl ?_
            refine seq_pure (pure_pick_f rfl rfl) rfl rfl ?_
            refine seq_done ?_
            refine nrm_seq ?_
            refine tri_cond_f rfl ?_
            refine tri_skip ?_
            refine nrm_block ?_
            refine nrm_seq ?_
            refine tri_region ?_
            refine seq_pure (pure_move rfl) rfl rfl ?_
            refine seq_pure (pure_add rfl rfl (by omega) (by omega)) rfl rfl ?_
            refine seq_pure (pure_assign rfl) rfl rfl ?_
            refine seq_done ?_
            (refine nrm_loopN (i + 1) ?_ ?_ ?_)
            · exact sub_mk (by repeat (first | exact SubE.nil | refine SubE.cons rfl ?_)) (by repeat (first | exact SubH.refl | exact SubH.nil | refine SubH.cons (by repeat (first | exact Pk.here | apply Pk.there)) ?_ | apply SubH.drop))
            · exact ⟨by omega, pAt_step hno (by omega) (pAt_f hx (by omega))⟩
            · omega
        · refine any_pure (i := 6) (listed' := [true, true, true, true, true, true, true, false, false, false, false, false]) rfl (by repeat (first | exact np_ret | apply np_seq | apply np_block | apply np_loopN')) (pure_move rfl) rfl (by kernel_rfl) rfl rfl ?_
          refine any_pure (i := 7) (listed' := [true, true, true, true, true, true, true, true, false, false, false, false]) rfl (by repeat (first | exact np_ret | apply np_seq | apply np_block | apply np_loopN')) (pure_extract rfl rfl) rfl (by kernel_rfl) rfl rfl ?_
          refine any_pure (i := 8) (listed' := [true, true, true, true, true, true, true, true, true, false, false, false]) rfl (by repeat (first | exact np_ret | apply np_seq | apply np_block | apply np_loopN')) (pure_extract rfl rfl) rfl (by kernel_rfl) rfl rfl ?_
          refine any_one (j := 9) (by kernel_rfl) ?_
          (refine one_step0 (listed' := [true, true, true, true, true, true, true, true, true, true, false, false]) rfl (step_alloc rfl) rfl rfl ?_; rintro _ ⟨b132, rfl⟩)
          refine any_one (j := 10) (by kernel_rfl) ?_
          refine one_store (listed' := [true, true, true, true, true, true, true, true, true, true, true, false]) rfl rfl rfl rfl rfl rfl rfl rfl (by kernel_rfl) (by repeat (first | exact Sw.here | apply Sw.there)) (by rfl) ?_
          refine any_pure (i := 11) (listed' := [true, true, true, true, true, true, true, true, true, true, true, true]) rfl (by repeat (first | exact np_ret | apply np_seq | apply np_block | apply np_loopN')) (pure_assign rfl) rfl (by kernel_rfl) rfl rfl ?_
          refine any_done (by kernel_rfl) ?_
          refine nrm_seq ?_
          refine tri_seq ?_
          refine tri_region ?_
          refine seq_pure (pure_fieldAddr0 rfl) rfl rfl ?_
          refine seq_load (load_bs rfl rfl (by repeat (first | exact List.Mem.head _ | apply List.Mem.tail)) (by rfl)) rfl rfl ?_
          refine seq_pure (pure_eql_f rfl rfl (by omega)) rfl rfl ?_
          refine seq_pure (pure_move rfl) rfl rfl ?_
          refine seq_skip rfl rfl ?_
          refine seq_skip rfl rfl ?_
          refine seq_skip rfl rfl ?_
          refine seq_skip rfl rfl ?_
          refine seq_pure (pure_pick_f rfl rfl) rfl rfl ?_
          refine seq_done ?_
          refine nrm_seq ?_
          refine tri_cond_f rfl ?_
          refine tri_skip ?_
          refine nrm_block ?_
          refine nrm_seq ?_
          refine tri_region ?_
          refine seq_pure (pure_move rfl) rfl rfl ?_
          refine seq_pure (pure_add rfl rfl (by omega) (by omega)) rfl rfl ?_
          refine seq_pure (pure_assign rfl) rfl rfl ?_
          refine seq_done ?_
          (refine nrm_loopN (i + 1) ?_ ?_ ?_)
          · exact sub_mk (by repeat (first | exact SubE.nil | refine SubE.cons rfl ?_)) (by repeat (first | exact SubH.refl | exact SubH.nil | refine SubH.cons (by repeat (first | exact Pk.here | apply Pk.there)) ?_ | apply SubH.drop))
          · exact ⟨by omega, pAt_step hno (by omega) (pAt_n hx)⟩
          · omega
      · (refine one_step0 (listed' := [true, true, true, true, true, false, false, false, false, true, false, false]) rfl (step_alloc rfl) rfl rfl ?_; rintro _ ⟨b164, rfl⟩)
        refine any_one (j := 5) (by kernel_rfl) ?_
        (refine one_own (listed' := [true, true, true, true, true, true, false, false, false, true, false, false]) rfl rfl (l16At_fn t (mAll t)[i] G1 cells p3 c3 hr1 (hs3.1.mono (Dif.le _ _))) rfl rfl rfl (fun v166 G166 outs166 hle166 h166 => ?_); obtain ⟨hG, rfl, hh⟩ := h166; replace hG := hG.symm; subst hG; rcases hh with ⟨x, cx, hx, hrx, rfl⟩ | ⟨hx, rfl⟩ <;> (first | obtain ⟨pt, ct, et, pf, cf, ef, pk, ck, ek, rfl, hxk, hxn, hxl, _⟩ := hrx.open | skip))
        · refine any_pure (i := 6) (listed' := [true, true, true, true, true, true, true, false, false, true, false, false]) rfl (by repeat (first | exact np_ret | apply np_seq | apply np_block | apply np_loopN')) (pure_move rfl) rfl (by kernel_rfl) rfl rfl ?_
          refine any_pure (i := 7) (listed' := [true, true, true, true, true, true, true, true, false, true, false, false]) rfl (by repeat (first | exact np_ret | apply np_seq | apply np_block | apply np_loopN')) (pure_extract rfl rfl) rfl (by kernel_rfl) rfl rfl ?_
          refine any_pure (i := 8) (listed' := [true, true, true, true, true, true, true, true, true, true, false, false]) rfl (by repeat (first | exact np_ret | apply np_seq | apply np_block | apply np_loopN')) (pure_extract rfl rfl) rfl (by kernel_rfl) rfl rfl ?_
          refine any_one (j := 10) (by kernel_rfl) ?_
          refine one_store (listed' := [true, true, true, true, true, true, true, true, true, true, true, false]) rfl rfl rfl rfl rfl rfl rfl rfl (by kernel_rfl) (by repeat (first | exact Sw.here | apply Sw.there)) (by rfl) ?_
          refine any_pure (i := 11) (listed' := [true, true, true, true, true, true, true, true, true, true, true, true]) rfl (by repeat (first | exact np_ret | apply np_seq | apply np_block | apply np_loopN')) (pure_assign rfl) rfl (by kernel_rfl) rfl rfl ?_
          refine any_done (by kernel_rfl) ?_
          refine nrm_seq ?_
          refine tri_seq ?_
          refine tri_region ?_
          refine seq_pure (pure_fieldAddr0 rfl) rfl rfl ?_
          refine seq_load (load_bs rfl rfl (by repeat (first | exact List.Mem.head _ | apply List.Mem.tail)) (by rfl)) rfl rfl ?_
          refine seq_bool (pure_eql rfl rfl) rfl rfl (fun h179 => ?_) (fun h179 => ?_)
          · refine seq_pure (pure_move rfl) rfl rfl ?_
            refine seq_pure (pure_fieldAddr0 rfl) rfl rfl ?_
            refine seq_load (load_bs rfl rfl (by repeat (first | exact List.Mem.head _ | apply List.Mem.tail)) (by rfl)) rfl rfl ?_
            refine seq_pure (pure_move rfl) rfl rfl ?_
            refine seq_bool (pure_eql rfl rfl) rfl rfl (fun h184 => ?_) (fun h184 => ?_)
            · refine seq_pure (pure_pick_t rfl rfl) rfl rfl ?_
              refine seq_done ?_
              refine nrm_seq ?_
              refine tri_cond_t rfl ?_
              refine tri_seq ?_
              refine tri_region ?_
              refine seq_pure (pure_move rfl) rfl rfl ?_
              refine seq_pure (pure_move rfl) rfl rfl ?_
              refine seq_pure (pure_indexAddrN rfl rfl rfl (by omega)) rfl rfl ?_
              refine seq_load (load_s rfl rfl (hatc _)) rfl rfl ?_
              refine seq_pure (pure_assign rfl) rfl rfl ?_
              refine seq_pure (pure_assign rfl) rfl rfl ?_
              refine seq_done ?_
              refine nrm_seq ?_
              refine tri_ret ?_
              refine ret_block ?_
              refine ret_seq ?_
              refine ret_loopN ?_
              refine ret_block ?_
              refine ret_seq ?_
              refine ret_fin2 (res_tmp rfl) (res_tmp rfl) ?_
              exact CpP.mk (mCast_some (by omega) hno (pAt_t hx (by assumption) (by assumption))) hs3
            · refine seq_pure (pure_pick_t rfl rfl) rfl rfl ?_
              refine seq_done ?_
              refine nrm_seq ?_
              refine tri_cond_f rfl ?_
              refine tri_skip ?_
              refine nrm_block ?_
              refine nrm_seq ?_
              refine tri_region ?_
              refine seq_pure (pure_move rfl) rfl rfl ?_
              refine seq_pure (pure_add rfl rfl (by omega) (by omega)) rfl rfl ?_
              refine seq_pure (pure_assign rfl) rfl rfl ?_
              refine seq_done ?_
              (refine nrm_loopN (i + 1) ?_ ?_ ?_)
              · exact sub_mk (by repeat (first | exact SubE.nil | refine SubE.cons rfl ?_)) (by repeat (first | exact SubH.refl | exact SubH.nil | refine SubH.cons (by repeat (first | exact Pk.here | apply Pk.there)) ?_ | apply SubH.drop))
              · exact ⟨by omega, pAt_step hno (by omega) (pAt_f hx (by omega))⟩
              · omega
          · refine seq_pure (pure_move rfl) rfl rfl ?_
            refine seq_skip rfl rfl ?_
            refine seq_skip rfl rfl ?_
            refine seq_skip rfl rfl ?_
            refine seq_skip rfl rfl ?_
            refine seq_pure (pure_pick_f rfl rfl) rfl rfl ?_
            refine seq_done ?_
            refine nrm_seq ?_
            refine tri_cond_f rfl ?_
            refine tri_skip ?_
            refine nrm_block ?_
            refine nrm_seq ?_
            refine tri_region ?_
            refine seq_pure (pure_move rfl) rfl rfl ?_
            refine seq_pure (pure_add rfl rfl (by omega) (by omega)) rfl rfl ?_
            refine seq_pure (pure_assign rfl) rfl rfl ?_
            refine seq_done ?_
            (refine nrm_loopN (i + 1) ?_ ?_ ?_)
            · exact sub_mk (by repeat (first | exact SubE.nil | refine SubE.cons rfl ?_)) (by repeat (first | exact SubH.refl | exact SubH.nil | refine SubH.cons (by repeat (first | exact Pk.here | apply Pk.there)) ?_ | apply SubH.drop))
            · exact ⟨by omega, pAt_step hno (by omega) (pAt_f hx (by omega))⟩
            · omega
        · refine any_pure (i := 6) (listed' := [true, true, true, true, true, true, true, false, false, true, false, false]) rfl (by repeat (first | exact np_ret | apply np_seq | apply np_block | apply np_loopN')) (pure_move rfl) rfl (by kernel_rfl) rfl rfl ?_
          refine any_pure (i := 7) (listed' := [true, true, true, true, true, true, true, true, false, true, false, false]) rfl (by repeat (first | exact np_ret | apply np_seq | apply np_block | apply np_loopN')) (pure_extract rfl rfl) rfl (by kernel_rfl) rfl rfl ?_
          refine any_pure (i := 8) (listed' := [true, true, true, true, true, true, true, true, true, true, false, false]) rfl (by repeat (first | exact np_ret | apply np_seq | apply np_block | apply np_loopN')) (pure_extract rfl rfl) rfl (by kernel_rfl) rfl rfl ?_
          refine any_one (j := 10) (by kernel_rfl) ?_
          refine one_store (listed' := [true, true, true, true, true, true, true, true, true, true, true, false]) rfl rfl rfl rfl rfl rfl rfl rfl (by kernel_rfl) (by repeat (first | exact Sw.here | apply Sw.there)) (by rfl) ?_
          refine any_pure (i := 11) (listed' := [true, true, true, true, true, true, true, true, true, true, true, true]) rfl (by repeat (first | exact np_ret | apply np_seq | apply np_block | apply np_loopN')) (pure_assign rfl) rfl (by kernel_rfl) rfl rfl ?_
          refine any_done (by kernel_rfl) ?_
          refine nrm_seq ?_
          refine tri_seq ?_
          refine tri_region ?_
          refine seq_pure (pure_fieldAddr0 rfl) rfl rfl ?_
          refine seq_load (load_bs rfl rfl (by repeat (first | exact List.Mem.head _ | apply List.Mem.tail)) (by rfl)) rfl rfl ?_
          refine seq_pure (pure_eql_f rfl rfl (by omega)) rfl rfl ?_
          refine seq_pure (pure_move rfl) rfl rfl ?_
          refine seq_skip rfl rfl ?_
          refine seq_skip rfl rfl ?_
          refine seq_skip rfl rfl ?_
          refine seq_skip rfl rfl ?_
          refine seq_pure (pure_pick_f rfl rfl) rfl rfl ?_
          refine seq_done ?_
          refine nrm_seq ?_
          refine tri_cond_f rfl ?_
          refine tri_skip ?_
          refine nrm_block ?_
          refine nrm_seq ?_
          refine tri_region ?_
          refine seq_pure (pure_move rfl) rfl rfl ?_
          refine seq_pure (pure_add rfl rfl (by omega) (by omega)) rfl rfl ?_
          refine seq_pure (pure_assign rfl) rfl rfl ?_
          refine seq_done ?_
          (refine nrm_loopN (i + 1) ?_ ?_ ?_)
          · exact sub_mk (by repeat (first | exact SubE.nil | refine SubE.cons rfl ?_)) (by repeat (first | exact SubH.refl | exact SubH.nil | refine SubH.cons (by repeat (first | exact Pk.here | apply Pk.there)) ?_ | apply SubH.drop))
          · exact ⟨by omega, pAt_step hno (by omega) (pAt_n hx)⟩
          · omega
    · refine seq_done ?_
      refine nrm_seq ?_
      refine tri_cond_f rfl ?_
      refine tri_exit ?_
      refine ext_seq ?_
      refine ext_loopN ?_
      refine ext_block_eq ?_
      refine nrm_seq ?_
      refine tri_seq ?_
      refine tri_region ?_
      (refine seq_step (step_buildSlice rfl rfl rfl (by omega) (by unfold maxLen; omega) rfl) rfl ?_; rintro _ ⟨b288, rfl⟩)
      refine seq_pure (pure_assign rfl) rfl rfl ?_
      refine seq_pure (pure_assign rfl) rfl rfl ?_
      refine seq_done ?_
      refine nrm_seq ?_
      (refine ret_freeze (by repeat (first | exact Pk.here | apply Pk.there)) (fun G3 hle3 hsl3 hno3 => ?_))
      refine tri_ret ?_
      refine ret_fin2 (res_tmp rfl) (res_tmp rfl) ?_
      (obtain rfl : i = (mAll t).length := (by omega); exact CpP.mk (l := []) (mCast_none hno) ⟨hsl3.dif (fun b hb => (hno3 b hb).1) hle1, fun b hb => dif_in hle1 (hno3 b hb)⟩)
end Gw
end Go.Proofs.Ytlefgfdhlblahaa
