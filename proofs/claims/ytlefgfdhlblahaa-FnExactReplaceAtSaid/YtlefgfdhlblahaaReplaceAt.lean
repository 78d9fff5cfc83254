/-
  ReplaceAt: the program's and the reference model's.
-/
import Derived.Test.YtlefgfdhlblahaaPut2
namespace Go.Proofs.Ytlefgfdhlblahaa
open Go Go.RowKit
namespace Gw
theorem small_setL : ∀ {ks : List Tm} {j : Nat} {y : Tm}, Tm.smallL ks → y.small → Tm.smallL (ks.set j y)
  | [], j, y, h, _ => by simpa using h
  | t :: ts, 0, y, h, h2 => by simp only [List.set_cons_zero, Tm.smallL] at h ⊢; exact ⟨h2, h.2⟩
  | t :: ts, j + 1, y, h, h2 => by simp only [List.set_cons_succ, Tm.smallL] at h ⊢; exact ⟨h.1, small_setL h.2 h2⟩
theorem small_put : ∀ {path : List Int} {t x : Tm}, t.small → x.small → (mPut t path x).small
  | [], t, x, _, h => by rw [mPut_nil]; exact h
  | i :: is, .mk k nm num ty fr lb ks, x, h, h2 => by
    rw [mPut]
    split
    · rename_i hi
      simp only [Tm.small] at h ⊢
      exact ⟨h.1, h.2.1, h.2.2.1, by rw [List.length_set]; exact h.2.2.2.1, small_setL h.2.2.2.2 (small_put (Tm.smallL_mem h.2.2.2.2 _ (List.getElem_mem _)) h2)⟩
    · exact h
theorem sum_set : ∀ {ks : List Tm} {j : Nat} {y : Tm} (h : j < ks.length), sumTm (ks.set j y) + szTm ks[j] = sumTm ks + szTm y
  | [], j, y, h => by simp at h
  | t :: ts, 0, y, h => by simp only [List.set_cons_zero, sumTm, List.getElem_cons_zero]; omega
  | t :: ts, j + 1, y, h => by
    have := sum_set (ks := ts) (j := j) (y := y) (by simpa using h)
    simp only [List.set_cons_succ, sumTm, List.getElem_cons_succ]; omega
theorem szTm_put : ∀ {path : List Int} {t x : Tm}, szTm (mPut t path x) ≤ szTm t + szTm x
  | [], t, x => by rw [mPut_nil]; have := szTm_nn t; omega
  | i :: is, .mk k nm num ty fr lb ks, x => by
    have hx := szTm_nn x
    rw [mPut]
    split
    · rename_i hi
      have h1 := szTm_put (path := is) (t := ks[i.toNat]'(by omega)) (x := x)
      have h2 := sum_set (ks := ks) (j := i.toNat) (y := mPut (ks[i.toNat]'(by omega)) is x) (by omega)
      rw [szTm, szTm, List.length_set]; omega
    · omega
/-- A term that is valid, or none. -/
def mChk (r : Tm) : Tm × Bool := if castValid r = true then (r, true) else (tm0, false)
theorem mChk_t {r : Tm} (h : castValid r = true) : mChk r = (r, true) := if_pos h
theorem mChk_f {r : Tm} (h : castValid r = false) : mChk r = (tm0, false) := if_neg (by rw [h]; simp)
def mReplaceAt (t : Tm) (path : List Int) (x : Tm) : Tm × Bool := if castValid t = true ∧ castValid x = true ∧ tAt t path ≠ none then mChk (mPut t path x) else (tm0, false)
theorem mRep_t {t x y : Tm} {path : List Int} (h1 : castValid t = true) (h2 : castValid x = true) (h3 : tAt t path = some y) : mReplaceAt t path x = mChk (mPut t path x) := if_pos ⟨h1, h2, by rw [h3]; simp⟩
theorem mRep_f1 {t x : Tm} {path : List Int} (h : castValid t = false) : mReplaceAt t path x = (tm0, false) := if_neg (by rw [h]; simp)
theorem mRep_f2 {t x : Tm} {path : List Int} (h : castValid x = false) : mReplaceAt t path x = (tm0, false) := if_neg (by rw [h]; simp)
theorem mRep_f3 {t x : Tm} {path : List Int} (h : tAt t path = none) : mReplaceAt t path x = (tm0, false) := if_neg (by rw [h]; simp)
theorem sz0 : szTm tm0 = 0 := by decide
theorem mChk_sz (r : Tm) : szTm (mChk r).1 ≤ szTm r := by
  have := szTm_nn r
  unfold mChk; split
  · exact Int.le_refl _
  · rw [sz0]; omega
theorem mRep_sz (t x : Tm) (path : List Int) : szTm (mReplaceAt t path x).1 ≤ szTm t + szTm x := by
  unfold mReplaceAt
  split
  · have := mChk_sz (mPut t path x)
    have := szTm_put (path := path) (t := t) (x := x)
    omega
  · have := szTm_nn t
    have := szTm_nn x
    rw [sz0]; omega
set_option maxRecDepth 100000 in
theorem checkedCast_fn (r : Tm) (G : IM) (cells : List Value) (hs : r.small) (hr : RTm G r cells) : Fn Try.prog 63 [.agg ⟨cells⟩] [] G (TbP (mChk r) G) := by
  have hl := hr.len
  have hone := hr.one
  have hv := castValid_fn r G cells hr
  refine fn_enter Try.func63 rfl Try.ntmps63 Try.results63 rfl ?_
  intro w0
  refine tri_seq ?_
  refine tri_region ?_
  (refine seq_step (step_box_a rfl rfl) rfl ?_; rintro _ ⟨b3, rfl⟩)
  (refine seq_step (step_alloc rfl) rfl ?_; rintro _ ⟨b4, rfl⟩)
  refine seq_pure (pure_assign rfl) rfl rfl ?_
  refine seq_done ?_
  refine nrm_seq ?_
  refine tri_seq ?_
  refine tri_seq ?_
  refine tri_region ?_
  refine seq_load (load_a rfl rfl (at_blk_all (by repeat (first | exact List.Mem.head _ | apply List.Mem.tail))) (by assumption)) rfl rfl ?_
  refine seq_valb rfl (hv) rfl rfl (fun h12 => ?_) (fun h12 => ?_)
  · refine seq_pure (pure_not_t rfl) rfl rfl ?_
    refine seq_done ?_
    refine nrm_seq ?_
    refine tri_cond_f rfl ?_
    refine tri_skip ?_
    refine nrm_seq ?_
    refine tri_seq ?_
    refine tri_region ?_
    refine seq_load (load_a rfl rfl (at_blk_all (by repeat (first | exact List.Mem.head _ | apply List.Mem.tail))) (by assumption)) rfl rfl ?_
    (refine seq_imm rfl (own_fn r G cells hs hr) rfl rfl (fun v G3 hle3 hh => ?_); obtain ⟨cells', F', rfl, hs', hnd'⟩ := hh; have hl' := hs'.R.len; have ho' := hs'.R.one)
    refine seq_store rfl rfl rfl hl' ho' rfl (by repeat (first | exact Sw.here | apply Sw.there)) (by exact upd_all hl'.symm) ?_
    refine seq_pure (pure_assign rfl) rfl rfl ?_
    refine seq_done ?_
    refine nrm_seq ?_
    refine tri_ret ?_
    refine ret_fin2 (res_cell rfl (load_a rfl rfl (at_blk_all (by repeat (first | exact List.Mem.head _ | apply List.Mem.tail))) hl')) (res_tmp rfl) ?_
    exact TbP.mk (mChk_t (by assumption)) hs' hnd'
  · refine seq_pure (pure_not_f rfl) rfl rfl ?_
    refine seq_done ?_
    refine nrm_seq ?_
    refine tri_cond_t rfl ?_
    refine tri_seq ?_
    refine tri_region ?_
    refine seq_pure (pure_build rfl rfl) rfl rfl ?_
    refine seq_store rfl rfl rfl rfl rfl rfl (by repeat (first | exact Sw.here | apply Sw.there)) (by rfl) ?_
    refine seq_pure (pure_assign rfl) rfl rfl ?_
    refine seq_done ?_
    refine nrm_seq ?_
    refine tri_ret ?_
    refine ret_seq ?_
    refine ret_fin2 (res_cell rfl (load_ba rfl rfl (by repeat (first | exact List.Mem.head _ | apply List.Mem.tail)) (by rfl))) (res_tmp rfl) ?_
    exact TbP.mk (mChk_f (by assumption)) (STm.zero _) (by simp)
theorem TbP.of {r r' : Tm × Bool} {G G' : IM} {cells : List Value} {F : List Nat} (h : r = r') (hs : STm (Dif G' G) r'.1 cells F) (hn : F.Nodup) : TbP r G G' (.tuple ⟨[.agg ⟨cells⟩, .bool r'.2]⟩) [] := by
  subst h; exact ⟨rfl, cells, F, rfl, hs, hn⟩
set_option maxHeartbeats 0 in
set_option maxRecDepth 100000 in
theorem replaceAt_fn (t : Tm) (path : List Int) (x : Tm) (G : IM) (cells xcells : List Value) (p : Option Addr) (c : Nat) (hts : t.small) (hxs : x.small) (hr : RTm G t cells) (hx : RTm G x xcells) (hp : Sl G p path.length c 1 (ints path)) :
    Fn Try.prog 34 [.agg ⟨cells⟩, .slice p path.length c, .agg ⟨xcells⟩] [] G (TbP (mReplaceAt t path x) G) := by
  have hl := hr.len
  have hone := hr.one
  have hlx := hx.len
  have hox := hx.one
  have hv := castValid_fn t G cells hr
  have hvx := castValid_fn x G xcells hx
  have hA := at_fn t path G cells p c hr hp
  refine fn_enter Try.func34 rfl Try.ntmps34 Try.results34 rfl ?_
  intro w0
  refine tri_seq ?_
  refine tri_region ?_
  (refine seq_step (step_box_a rfl rfl) rfl ?_; rintro _ ⟨b3, rfl⟩)
  (refine seq_step (step_box_a rfl rfl) rfl ?_; rintro _ ⟨b4, rfl⟩)
  (refine seq_step (step_alloc rfl) rfl ?_; rintro _ ⟨b5, rfl⟩)
  refine seq_pure (pure_assign rfl) rfl rfl ?_
  refine seq_done ?_
  refine nrm_seq ?_
  refine tri_seq ?_
  refine tri_seq ?_
  refine tri_region ?_
  refine seq_load (load_a rfl rfl (at_blk_all (by repeat (first | exact List.Mem.head _ | apply List.Mem.tail))) (by assumption)) rfl rfl ?_
  refine seq_valb rfl (hv) rfl rfl (fun h13 => ?_) (fun h13 => ?_)
  · refine seq_pure (pure_not_t rfl) rfl rfl ?_
    refine seq_pure (pure_move rfl) rfl rfl ?_
    refine seq_load (load_a rfl rfl (at_blk_all (by repeat (first | exact List.Mem.head _ | apply List.Mem.tail))) (by assumption)) rfl rfl ?_
    refine seq_valb rfl (hvx) rfl rfl (fun h17 => ?_) (fun h17 => ?_)
    · refine seq_pure (pure_not_t rfl) rfl rfl ?_
      refine seq_pure (pure_pick_f rfl rfl) rfl rfl ?_
      refine seq_done ?_
      refine nrm_seq ?_
      refine tri_cond_f rfl ?_
      refine tri_skip ?_
      refine nrm_seq ?_
      refine tri_seq ?_
      refine tri_seq ?_
      refine tri_region ?_
      refine seq_load (load_a rfl rfl (at_blk_all (by repeat (first | exact List.Mem.head _ | apply List.Mem.tail))) (by assumption)) rfl rfl ?_
      refine seq_pure (pure_move rfl) rfl rfl ?_
      (refine seq_own rfl hA rfl rfl (fun v30 G30 outs30 hle30 h30 => ?_); obtain ⟨hG, rfl, hh⟩ := h30; replace hG := hG.symm; subst hG; rcases hh with ⟨y, cx, hy, hry, rfl⟩ | ⟨hy, rfl⟩)
      · refine seq_pure (pure_move rfl) rfl rfl ?_
        refine seq_pure (pure_extract rfl rfl) rfl rfl ?_
        refine seq_pure (pure_extract rfl rfl) rfl rfl ?_
        (refine seq_step (step_alloc rfl) rfl ?_; rintro _ ⟨b34, rfl⟩)
        refine seq_store rfl rfl rfl hry.len hry.one rfl (by repeat (first | exact Sw.here | apply Sw.there)) (by exact upd_all hry.len.symm) ?_
        refine seq_pure (pure_assign rfl) rfl rfl ?_
        refine seq_done ?_
        refine nrm_seq ?_
        refine tri_seq ?_
        refine tri_region ?_
        refine seq_pure (pure_move rfl) rfl rfl ?_
        refine seq_pure (pure_not_t rfl) rfl rfl ?_
        refine seq_done ?_
        refine nrm_seq ?_
        refine tri_cond_f rfl ?_
        refine tri_skip ?_
        refine nrm_seq ?_
        refine tri_seq ?_
        refine tri_region ?_
        refine seq_load (load_a rfl rfl (at_blk_all (by repeat (first | exact List.Mem.head _ | apply List.Mem.tail))) (by assumption)) rfl rfl ?_
        refine seq_pure (pure_move rfl) rfl rfl ?_
        refine seq_load (load_a rfl rfl (at_blk_all (by repeat (first | exact List.Mem.head _ | apply List.Mem.tail))) (by assumption)) rfl rfl ?_
        (refine seq_imm rfl (put_fn path t x y G cells xcells p c hy hts hr hx hp) rfl rfl (fun v2 G2 hle2 hh => ?_); obtain ⟨cells2, rfl, hr2⟩ := hh)
        (refine seq_imm rfl (checkedCast_fn _ G2 cells2 (small_put hts hxs) hr2) rfl rfl (fun v3 G3 hle3 hh => ?_); obtain ⟨cells3, F3, rfl, hs', hnd'⟩ := hh)
        refine seq_pure (pure_extract rfl rfl) rfl rfl ?_
        refine seq_pure (pure_extract rfl rfl) rfl rfl ?_
        refine seq_store rfl rfl rfl hs'.R.len hs'.R.one rfl (by repeat (first | exact Sw.here | apply Sw.there)) (by exact upd_all hs'.R.len.symm) ?_
        refine seq_pure (pure_assign rfl) rfl rfl ?_
        refine seq_done ?_
        refine nrm_seq ?_
        refine tri_ret ?_
        refine ret_fin2 (res_cell rfl (load_a rfl rfl (at_blk_all (by repeat (first | exact List.Mem.head _ | apply List.Mem.tail))) hs'.R.len)) (res_tmp rfl) ?_
        exact TbP.of (mRep_t (by assumption) (by assumption) hy) (hs'.mono (Dif.anti hle2)) hnd'
      · refine seq_pure (pure_move rfl) rfl rfl ?_
        refine seq_pure (pure_extract rfl rfl) rfl rfl ?_
        refine seq_pure (pure_extract rfl rfl) rfl rfl ?_
        (refine seq_step (step_alloc rfl) rfl ?_; rintro _ ⟨b67, rfl⟩)
        refine seq_store rfl rfl rfl rfl rfl rfl (by repeat (first | exact Sw.here | apply Sw.there)) (by rfl) ?_
        refine seq_pure (pure_assign rfl) rfl rfl ?_
        refine seq_done ?_
        refine nrm_seq ?_
        refine tri_seq ?_
        refine tri_region ?_
        refine seq_pure (pure_move rfl) rfl rfl ?_
        refine seq_pure (pure_not_f rfl) rfl rfl ?_
        refine seq_done ?_
        refine nrm_seq ?_
        refine tri_cond_t rfl ?_
        refine tri_seq ?_
        refine tri_region ?_
        refine seq_pure (pure_build rfl rfl) rfl rfl ?_
        refine seq_store rfl rfl rfl rfl rfl rfl (by repeat (first | exact Sw.here | apply Sw.there)) (by rfl) ?_
        refine seq_pure (pure_assign rfl) rfl rfl ?_
        refine seq_done ?_
        refine nrm_seq ?_
        refine tri_ret ?_
        refine ret_seq ?_
        refine ret_fin2 (res_cell rfl (load_ba rfl rfl (by repeat (first | exact List.Mem.head _ | apply List.Mem.tail)) (by rfl))) (res_tmp rfl) ?_
        exact TbP.mk (mRep_f3 hy) (STm.zero _) (by simp)
    · refine seq_pure (pure_not_f rfl) rfl rfl ?_
      refine seq_pure (pure_pick_f rfl rfl) rfl rfl ?_
      refine seq_done ?_
      refine nrm_seq ?_
      refine tri_cond_t rfl ?_
      refine tri_seq ?_
      refine tri_region ?_
      refine seq_pure (pure_build rfl rfl) rfl rfl ?_
      refine seq_store rfl rfl rfl rfl rfl rfl (by repeat (first | exact Sw.here | apply Sw.there)) (by rfl) ?_
      refine seq_pure (pure_assign rfl) rfl rfl ?_
      refine seq_done ?_
      refine nrm_seq ?_
      refine tri_ret ?_
      refine ret_seq ?_
      refine ret_fin2 (res_cell rfl (load_ba rfl rfl (by repeat (first | exact List.Mem.head _ | apply List.Mem.tail)) (by rfl))) (res_tmp rfl) ?_
      exact TbP.mk (mRep_f2 (by assumption)) (STm.zero _) (by simp)
  · refine seq_pure (pure_not_f rfl) rfl rfl ?_
    refine seq_pure (pure_move rfl) rfl rfl ?_
    refine seq_skip rfl rfl ?_
    refine seq_skip rfl rfl ?_
    refine seq_skip rfl rfl ?_
    refine seq_pure (pure_pick_t rfl rfl) rfl rfl ?_
    refine seq_done ?_
    refine nrm_seq ?_
    refine tri_cond_t rfl ?_
    refine tri_seq ?_
    refine tri_region ?_
    refine seq_pure (pure_build rfl rfl) rfl rfl ?_
    refine seq_store rfl rfl rfl rfl rfl rfl (by repeat (first | exact Sw.here | apply Sw.there)) (by rfl) ?_
    refine seq_pure (pure_assign rfl) rfl rfl ?_
    refine seq_done ?_
    refine nrm_seq ?_
    refine tri_ret ?_
    refine ret_seq ?_
    refine ret_fin2 (res_cell rfl (load_ba rfl rfl (by repeat (first | exact List.Mem.head _ | apply List.Mem.tail)) (by rfl))) (res_tmp rfl) ?_
    exact TbP.mk (mRep_f1 (by assumption)) (STm.zero _) (by simp)
set_option maxHeartbeats 0 in
set_option maxRecDepth 100000 in
theorem sReplaceAt_fn (t : Tm) (path : List Int) (x : Tm) (G : IM) (cells xcells : List Value) (p : Option Addr) (c : Nat) (hts : szTm t ≤ 1048576) (hxs : szTm x ≤ 1048576) (hr : RTm G t cells) (hx : RTm G x xcells) (hp : Sl G p path.length c 1 (ints path)) :
    Fn Try.prog 33 [.agg ⟨cells⟩, .slice p path.length c, .agg ⟨xcells⟩] [] G (TbP (mReplaceAt t path x) G) := by
  have hl := hr.len
  have hone := hr.one
  have hlx := hx.len
  have hox := hx.one
  have hv := sCastValid_fn t G cells (by have := count_sz t; omega) hr
  have hvx := sCastValid_fn x G xcells (by have := count_sz x; omega) hx
  have hA := l16At_fn t path G cells p c hr hp
  refine fn_enter Try.func33 rfl Try.ntmps33 Try.results33 rfl ?_
  intro w0
  refine tri_seq ?_
  refine tri_region ?_
  (refine seq_step (step_box_a rfl rfl) rfl ?_; rintro _ ⟨b3, rfl⟩)
  (refine seq_step (step_box_a rfl rfl) rfl ?_; rintro _ ⟨b4, rfl⟩)
  (refine seq_step (step_alloc rfl) rfl ?_; rintro _ ⟨b5, rfl⟩)
  refine seq_pure (pure_assign rfl) rfl rfl ?_
  refine seq_done ?_
  refine nrm_seq ?_
  refine tri_seq ?_
  refine tri_region ?_
  refine seq_load (load_a rfl rfl (at_blk_all (by repeat (first | exact List.Mem.head _ | apply List.Mem.tail))) (by assumption)) rfl rfl ?_
  refine seq_pure (pure_move rfl) rfl rfl ?_
  (refine seq_own rfl hA rfl rfl (fun v13 G13 outs13 hle13 h13 => ?_); obtain ⟨hG, rfl, hh⟩ := h13; replace hG := hG.symm; subst hG; rcases hh with ⟨y, cx, hy, hry, rfl⟩ | ⟨hy, rfl⟩)
  · refine seq_pure (pure_move rfl) rfl rfl ?_
    refine seq_pure (pure_extract rfl rfl) rfl rfl ?_
    refine seq_pure (pure_extract rfl rfl) rfl rfl ?_
    (refine seq_step (step_alloc rfl) rfl ?_; rintro _ ⟨b17, rfl⟩)
    refine seq_store rfl rfl rfl hry.len hry.one rfl (by repeat (first | exact Sw.here | apply Sw.there)) (by exact upd_all hry.len.symm) ?_
    refine seq_pure (pure_assign rfl) rfl rfl ?_
    refine seq_done ?_
    refine nrm_seq ?_
    refine tri_seq ?_
    refine tri_seq ?_
    refine tri_region ?_
    refine seq_load (load_a rfl rfl (at_blk_all (by repeat (first | exact List.Mem.head _ | apply List.Mem.tail))) (by assumption)) rfl rfl ?_
    refine seq_valb rfl (hv) rfl rfl (fun h26 => ?_) (fun h26 => ?_)
    · refine seq_pure (pure_not_t rfl) rfl rfl ?_
      refine seq_pure (pure_move rfl) rfl rfl ?_
      refine seq_load (load_a rfl rfl (at_blk_all (by repeat (first | exact List.Mem.head _ | apply List.Mem.tail))) (by assumption)) rfl rfl ?_
      refine seq_valb rfl (hvx) rfl rfl (fun h30 => ?_) (fun h30 => ?_)
      · refine seq_pure (pure_not_t rfl) rfl rfl ?_
        refine seq_pure (pure_pick_f rfl rfl) rfl rfl ?_
        refine seq_pure (pure_move rfl) rfl rfl ?_
        refine seq_pure (pure_move rfl) rfl rfl ?_
        refine seq_pure (pure_not_t rfl) rfl rfl ?_
        refine seq_pure (pure_pick_f rfl rfl) rfl rfl ?_
        refine seq_done ?_
        refine nrm_seq ?_
        refine tri_cond_f rfl ?_
        refine tri_skip ?_
        refine nrm_seq ?_
        refine tri_seq ?_
        refine tri_region ?_
        refine seq_load (load_a rfl rfl (at_blk_all (by repeat (first | exact List.Mem.head _ | apply List.Mem.tail))) (by assumption)) rfl rfl ?_
        refine seq_pure (pure_move rfl) rfl rfl ?_
        refine seq_load (load_a rfl rfl (at_blk_all (by repeat (first | exact List.Mem.head _ | apply List.Mem.tail))) (by assumption)) rfl rfl ?_
        (refine seq_imm rfl (l16Replace_fn path t x y G cells xcells p c hy (small_tm t (by omega)) (small_tm x (by omega)) hr hx hp) rfl rfl (fun v2 G2 hle2 hh => ?_); obtain ⟨cells2, F2, rfl, hs', hnd'⟩ := hh; have hvp := sCastValid_fn _ G2 cells2 (by have := count_sz (mPut t path x); have := szTm_put (path := path) (t := t) (x := x); omega) (hs'.R.mono (Dif.le _ _)))
        (refine seq_step (step_alloc rfl) rfl ?_; rintro _ ⟨b48, rfl⟩)
        refine seq_store rfl rfl rfl hs'.R.len hs'.R.one rfl (by repeat (first | exact Sw.here | apply Sw.there)) (by exact upd_all hs'.R.len.symm) ?_
        refine seq_done ?_
        refine nrm_seq ?_
        refine tri_seq ?_
        refine tri_seq ?_
        refine tri_region ?_
        refine seq_load (load_a rfl rfl (at_blk_all (by repeat (first | exact List.Mem.head _ | apply List.Mem.tail))) hs'.R.len) rfl rfl ?_
        refine seq_valb rfl (hvp) rfl rfl (fun h56 => ?_) (fun h56 => ?_)
        · refine seq_pure (pure_not_t rfl) rfl rfl ?_
          refine seq_done ?_
          refine nrm_seq ?_
          refine tri_cond_f rfl ?_
          refine tri_skip ?_
          refine nrm_seq ?_
          refine tri_seq ?_
          refine tri_region ?_
          refine seq_load (load_a rfl rfl (at_blk_all (by repeat (first | exact List.Mem.head _ | apply List.Mem.tail))) hs'.R.len) rfl rfl ?_
          refine seq_store rfl rfl rfl hs'.R.len hs'.R.one rfl (by repeat (first | exact Sw.here | apply Sw.there)) (by exact upd_all hs'.R.len.symm) ?_
          refine seq_pure (pure_assign rfl) rfl rfl ?_
          refine seq_done ?_
          refine nrm_seq ?_
          refine tri_ret ?_
          refine ret_fin2 (res_cell rfl (load_a rfl rfl (at_blk_all (by repeat (first | exact List.Mem.head _ | apply List.Mem.tail))) hs'.R.len)) (res_tmp rfl) ?_
          exact TbP.mk ((mRep_t (by assumption) (by assumption) hy).trans (mChk_t (by assumption))) hs' hnd'
        · refine seq_pure (pure_not_f rfl) rfl rfl ?_
          refine seq_done ?_
          refine nrm_seq ?_
          refine tri_cond_t rfl ?_
          refine tri_seq ?_
          refine tri_region ?_
          refine seq_pure (pure_build rfl rfl) rfl rfl ?_
          refine seq_store rfl rfl rfl rfl rfl rfl (by repeat (first | exact Sw.here | apply Sw.there)) (by rfl) ?_
          refine seq_pure (pure_assign rfl) rfl rfl ?_
          refine seq_done ?_
          refine nrm_seq ?_
          refine tri_ret ?_
          refine ret_seq ?_
          refine ret_fin2 (res_cell rfl (load_ba rfl rfl (by repeat (first | exact List.Mem.head _ | apply List.Mem.tail)) (by rfl))) (res_tmp rfl) ?_
          exact TbP.mk ((mRep_t (by assumption) (by assumption) hy).trans (mChk_f (by assumption))) (STm.zero _) (by simp)
      · refine seq_pure (pure_not_f rfl) rfl rfl ?_
        refine seq_pure (pure_pick_f rfl rfl) rfl rfl ?_
        refine seq_pure (pure_move rfl) rfl rfl ?_
        refine seq_skip rfl rfl ?_
        refine seq_skip rfl rfl ?_
        refine seq_pure (pure_pick_t rfl rfl) rfl rfl ?_
        refine seq_done ?_
        refine nrm_seq ?_
        refine tri_cond_t rfl ?_
        refine tri_seq ?_
        refine tri_region ?_
        refine seq_pure (pure_build rfl rfl) rfl rfl ?_
        refine seq_store rfl rfl rfl rfl rfl rfl (by repeat (first | exact Sw.here | apply Sw.there)) (by rfl) ?_
        refine seq_pure (pure_assign rfl) rfl rfl ?_
        refine seq_done ?_
        refine nrm_seq ?_
        refine tri_ret ?_
        refine ret_seq ?_
        refine ret_fin2 (res_cell rfl (load_ba rfl rfl (by repeat (first | exact List.Mem.head _ | apply List.Mem.tail)) (by rfl))) (res_tmp rfl) ?_
        exact TbP.mk (mRep_f2 (by assumption)) (STm.zero _) (by simp)
    · refine seq_pure (pure_not_f rfl) rfl rfl ?_
      refine seq_pure (pure_move rfl) rfl rfl ?_
      refine seq_skip rfl rfl ?_
      refine seq_skip rfl rfl ?_
      refine seq_skip rfl rfl ?_
      refine seq_pure (pure_pick_t rfl rfl) rfl rfl ?_
      refine seq_pure (pure_move rfl) rfl rfl ?_
      refine seq_skip rfl rfl ?_
      refine seq_skip rfl rfl ?_
      refine seq_pure (pure_pick_t rfl rfl) rfl rfl ?_
      refine seq_done ?_
      refine nrm_seq ?_
      refine tri_cond_t rfl ?_
      refine tri_seq ?_
      refine tri_region ?_
      refine seq_pure (pure_build rfl rfl) rfl rfl ?_
      refine seq_store rfl rfl rfl rfl rfl rfl (by repeat (first | exact Sw.here | apply Sw.there)) (by rfl) ?_
      refine seq_pure (pure_assign rfl) rfl rfl ?_
      refine seq_done ?_
      refine nrm_seq ?_
      refine tri_ret ?_
      refine ret_seq ?_
      refine ret_fin2 (res_cell rfl (load_ba rfl rfl (by repeat (first | exact List.Mem.head _ | apply List.Mem.tail)) (by rfl))) (res_tmp rfl) ?_
      exact TbP.mk (mRep_f1 (by assumption)) (STm.zero _) (by simp)
  · refine seq_pure (pure_move rfl) rfl rfl ?_
    refine seq_pure (pure_extract rfl rfl) rfl rfl ?_
    refine seq_pure (pure_extract rfl rfl) rfl rfl ?_
    (refine seq_step (step_alloc rfl) rfl ?_; rintro _ ⟨b135, rfl⟩)
    refine seq_store rfl rfl rfl rfl rfl rfl (by repeat (first | exact Sw.here | apply Sw.there)) (by rfl) ?_
    refine seq_pure (pure_assign rfl) rfl rfl ?_
    refine seq_done ?_
    refine nrm_seq ?_
    refine tri_seq ?_
    refine tri_seq ?_
    refine tri_region ?_
    refine seq_load (load_a rfl rfl (at_blk_all (by repeat (first | exact List.Mem.head _ | apply List.Mem.tail))) (by assumption)) rfl rfl ?_
    refine seq_valb rfl (hv) rfl rfl (fun h144 => ?_) (fun h144 => ?_)
    · refine seq_pure (pure_not_t rfl) rfl rfl ?_
      refine seq_pure (pure_move rfl) rfl rfl ?_
      refine seq_load (load_a rfl rfl (at_blk_all (by repeat (first | exact List.Mem.head _ | apply List.Mem.tail))) (by assumption)) rfl rfl ?_
      refine seq_valb rfl (hvx) rfl rfl (fun h148 => ?_) (fun h148 => ?_)
      · refine seq_pure (pure_not_t rfl) rfl rfl ?_
        refine seq_pure (pure_pick_f rfl rfl) rfl rfl ?_
        refine seq_pure (pure_move rfl) rfl rfl ?_
        refine seq_pure (pure_move rfl) rfl rfl ?_
        refine seq_pure (pure_not_f rfl) rfl rfl ?_
        refine seq_pure (pure_pick_f rfl rfl) rfl rfl ?_
        refine seq_done ?_
        refine nrm_seq ?_
        refine tri_cond_t rfl ?_
        refine tri_seq ?_
        refine tri_region ?_
        refine seq_pure (pure_build rfl rfl) rfl rfl ?_
        refine seq_store rfl rfl rfl rfl rfl rfl (by repeat (first | exact Sw.here | apply Sw.there)) (by rfl) ?_
        refine seq_pure (pure_assign rfl) rfl rfl ?_
        refine seq_done ?_
        refine nrm_seq ?_
        refine tri_ret ?_
        refine ret_seq ?_
        refine ret_fin2 (res_cell rfl (load_ba rfl rfl (by repeat (first | exact List.Mem.head _ | apply List.Mem.tail)) (by rfl))) (res_tmp rfl) ?_
        exact TbP.mk (mRep_f3 hy) (STm.zero _) (by simp)
      · refine seq_pure (pure_not_f rfl) rfl rfl ?_
        refine seq_pure (pure_pick_f rfl rfl) rfl rfl ?_
        refine seq_pure (pure_move rfl) rfl rfl ?_
        refine seq_skip rfl rfl ?_
        refine seq_skip rfl rfl ?_
        refine seq_pure (pure_pick_t rfl rfl) rfl rfl ?_
        refine seq_done ?_
        refine nrm_seq ?_
        refine tri_cond_t rfl ?_
        refine tri_seq ?_
        refine tri_region ?_
        refine seq_pure (pure_build rfl rfl) rfl rfl ?_
        refine seq_store rfl rfl rfl rfl rfl rfl (by repeat (first | exact Sw.here | apply Sw.there)) (by rfl) ?_
        refine seq_pure (pure_assign rfl) rfl rfl ?_
        refine seq_done ?_
        refine nrm_seq ?_
        refine tri_ret ?_
        refine ret_seq ?_
        refine ret_fin2 (res_cell rfl (load_ba rfl rfl (by repeat (first | exact List.Mem.head _ | apply List.Mem.tail)) (by rfl))) (res_tmp rfl) ?_
        exact TbP.mk (mRep_f3 hy) (STm.zero _) (by simp)
    · refine seq_pure (pure_not_f rfl) rfl rfl ?_
      refine seq_pure (pure_move rfl) rfl rfl ?_
      refine seq_skip rfl rfl ?_
      refine seq_skip rfl rfl ?_
      refine seq_skip rfl rfl ?_
      refine seq_pure (pure_pick_t rfl rfl) rfl rfl ?_
      refine seq_pure (pure_move rfl) rfl rfl ?_
      refine seq_skip rfl rfl ?_
      refine seq_skip rfl rfl ?_
      refine seq_pure (pure_pick_t rfl rfl) rfl rfl ?_
      refine seq_done ?_
      refine nrm_seq ?_
      refine tri_cond_t rfl ?_
      refine tri_seq ?_
      refine tri_region ?_
      refine seq_pure (pure_build rfl rfl) rfl rfl ?_
      refine seq_store rfl rfl rfl rfl rfl rfl (by repeat (first | exact Sw.here | apply Sw.there)) (by rfl) ?_
      refine seq_pure (pure_assign rfl) rfl rfl ?_
      refine seq_done ?_
      refine nrm_seq ?_
      refine tri_ret ?_
      refine ret_seq ?_
      refine ret_fin2 (res_cell rfl (load_ba rfl rfl (by repeat (first | exact List.Mem.head _ | apply List.Mem.tail)) (by rfl))) (res_tmp rfl) ?_
      exact TbP.mk (mRep_f3 hy) (STm.zero _) (by simp)
end Gw
end Go.Proofs.Ytlefgfdhlblahaa
