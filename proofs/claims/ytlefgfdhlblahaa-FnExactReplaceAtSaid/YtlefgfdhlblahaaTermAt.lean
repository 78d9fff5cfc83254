/-
  The node of a term at a path.
-/
import Derived.Test.YtlefgfdhlblahaaAt
import Derived.Test.YtlefgfdhlblahaaMapped
namespace Go.Proofs.Ytlefgfdhlblahaa
open Go Go.RowKit
namespace Gw
def tm0 : Tm := .mk 0 ⟨⟨[]⟩⟩ 0 (.mk 0 []) (.mk 0 []) 0 []
theorem STm.zero (G : IM) : STm G tm0 z9 [] := by
  simp only [tm0, STm, STy, STyL, STmL, z9]
  refine ⟨[.int .i64 0, .slice none 0 0], [.int .i64 0, .slice none 0 0], none, 0, [], [], [], [], rfl, ⟨by omega, by omega⟩, ⟨by omega, by omega⟩, ⟨by omega, by omega⟩, ?_, ?_, SlE.nil _ _, ⟨rfl, rfl⟩, rfl, by simp [vfp]⟩
  · exact ⟨none, 0, [], [], rfl, ⟨by omega, by omega⟩, SlE.nil _ _, ⟨rfl, rfl⟩, rfl, by simp [vfp]⟩
  · exact ⟨none, 0, [], [], rfl, ⟨by omega, by omega⟩, SlE.nil _ _, ⟨rfl, rfl⟩, rfl, by simp [vfp]⟩
theorem sumTm_mem : ∀ {ks : List Tm} {t : Tm}, t ∈ ks → szTm t ≤ sumTm ks
  | [], t, h => by simp at h
  | t' :: ts, t, h => by
    rw [sumTm]
    have := szTm_nn t'
    have := sumTm_nn ts
    rcases List.mem_cons.1 h with rfl | h
    · omega
    · have := sumTm_mem h; omega
theorem szTm_kid {t x : Tm} (h : x ∈ t.ks) : szTm x ≤ szTm t := by
  cases t
  rename_i k nm num ty fr lb ks
  have := sumTm_mem (ks := ks) h
  have := szTy_nn ty
  have := szTy_nn fr
  rw [szTm]; omega
theorem tAt_sz : ∀ {path : List Int} {t x : Tm}, tAt t path = some x → szTm x ≤ szTm t
  | [], t, x, h => by rw [tAt_nil] at h; cases h; exact Int.le_refl _
  | i :: is, t, x, h => by
    by_cases hi : 0 ≤ i ∧ i < t.ks.length
    · rw [tAt_go hi.1 hi.2] at h
      have := tAt_sz h
      have := szTm_kid (t := t) (x := t.ks[i.toNat]'(by omega)) (List.getElem_mem _)
      omega
    · rw [tAt_no hi] at h; cases h
/-- TermAt in plain words. -/
def mTermAt (t : Tm) (path : List Int) : Tm × Bool := if castValid t = true then (match tAt t path with | some x => (x, true) | none => (tm0, false)) else (tm0, false)
theorem mTermAt_sz (t : Tm) (path : List Int) : szTm (mTermAt t path).1 ≤ szTm t := by
  have h0 : szTm tm0 ≤ szTm t := by
    have : szTm tm0 = 0 := by decide
    have := szTm_nn t; omega
  unfold mTermAt
  split
  · split
    · rename_i x hx; exact tAt_sz hx
    · exact h0
  · exact h0
theorem mTermAt_yes {t x : Tm} {path : List Int} (h : castValid t = true) (hx : tAt t path = some x) : mTermAt t path = (x, true) := by unfold mTermAt; rw [if_pos h, hx]
theorem mTermAt_no {t : Tm} {path : List Int} (hx : tAt t path = none) : mTermAt t path = (tm0, false) := by unfold mTermAt; rw [hx]; split <;> rfl
theorem mTermAt_bad {t : Tm} {path : List Int} (h : ¬ castValid t = true) : mTermAt t path = (tm0, false) := by unfold mTermAt; rw [if_neg h]
/-- A term and a truth value, the term in memory of its own. -/
def TbP (r : Tm × Bool) (G : IM) : IM → Value → List Ent → Prop := Imm fun G' v => ∃ cells F, v = .tuple ⟨[.agg ⟨cells⟩, .bool r.2]⟩ ∧ STm (Dif G' G) r.1 cells F ∧ F.Nodup
theorem TbP.mk {r : Tm × Bool} {x : Tm} {b : Bool} {G G' : IM} {cells : List Value} {F : List Nat} (h : r = (x, b)) (hs : STm (Dif G' G) x cells F) (hn : F.Nodup) : TbP r G G' (.tuple ⟨[.agg ⟨cells⟩, .bool b]⟩) [] := by
  subst h; exact ⟨rfl, cells, F, rfl, hs, hn⟩
theorem not_t {b : Bool} (h : b = false) : ¬ b = true := by rw [h]; simp
set_option maxHeartbeats 0 in
set_option maxRecDepth 100000 in
theorem termAt_fn (t : Tm) (path : List Int) (G : IM) (cells : List Value) (p : Option Addr) (c : Nat) (hts : szTm t ≤ 4294967296) (hr : RTm G t cells) (hp : Sl G p path.length c 1 (ints path)) :
    Fn Try.prog 31 [.agg ⟨cells⟩, .slice p path.length c] [] G (TbP (mTermAt t path) G) := by
  have hl := hr.len
  have hone := hr.one
  have hv := castValid_fn t G cells hr
  have hA := at_fn t path G cells p c hr hp
  refine fn_enter Try.func31 rfl Try.ntmps31 Try.results31 rfl ?_
  intro w0
  refine tri_seq ?_
  refine tri_region ?_
  (refine seq_step (step_box_a rfl rfl) rfl ?_; rintro _ ⟨b3, rfl⟩)
  (refine seq_step (step_alloc rfl) rfl ?_; rintro _ ⟨b4, rfl⟩)
  refine seq_pure (pure_assign rfl) rfl rfl ?_
  refine seq_done ?_
  refine nrm_seq ?_
  refine tri_seq ?_
  refine tri_seq ?_
  refine tri_region ?_
  refine seq_load (load_a rfl rfl (at_blk_all (by repeat (first | exact List.Mem.head _ | apply List.Mem.tail))) (by assumption)) rfl rfl ?_
  refine seq_valb rfl (hv) rfl rfl (fun h12 => ?_) (fun h12 => ?_)
  · refine seq_pure (pure_not_t rfl) rfl rfl ?_
    refine seq_done ?_
    refine nrm_seq ?_
    refine tri_cond_f rfl ?_
    refine tri_skip ?_
    refine nrm_seq ?_
    refine tri_seq ?_
    refine tri_region ?_
    refine seq_load (load_a rfl rfl (at_blk_all (by repeat (first | exact List.Mem.head _ | apply List.Mem.tail))) (by assumption)) rfl rfl ?_
    refine seq_pure (pure_move rfl) rfl rfl ?_
    (refine seq_own rfl hA rfl rfl (fun v23 G23 outs23 hle23 h23 => ?_); obtain ⟨hG, rfl, hh⟩ := h23; replace hG := hG.symm; subst hG; rcases hh with ⟨x, cx, hx, hrx, rfl⟩ | ⟨hx, rfl⟩)
    · refine seq_pure (pure_move rfl) rfl rfl ?_
      refine seq_pure (pure_extract rfl rfl) rfl rfl ?_
      refine seq_pure (pure_extract rfl rfl) rfl rfl ?_
      (refine seq_step (step_alloc rfl) rfl ?_; rintro _ ⟨b27, rfl⟩)
      refine seq_store rfl rfl rfl hrx.len hrx.one rfl (by repeat (first | exact Sw.here | apply Sw.there)) (by exact upd_all hrx.len.symm) ?_
      refine seq_pure (pure_assign rfl) rfl rfl ?_
      refine seq_done ?_
      refine nrm_seq ?_
      refine tri_seq ?_
      refine tri_seq ?_
      refine tri_region ?_
      refine seq_pure (pure_move rfl) rfl rfl ?_
      refine seq_pure (pure_not_t rfl) rfl rfl ?_
      refine seq_done ?_
      refine nrm_seq ?_
      refine tri_cond_f rfl ?_
      refine tri_skip ?_
      refine nrm_seq ?_
      refine tri_seq ?_
      refine tri_region ?_
      refine seq_load (load_a rfl rfl (at_blk_all (by repeat (first | exact List.Mem.head _ | apply List.Mem.tail))) hrx.len) rfl rfl ?_
      (refine seq_imm rfl (own_fn x G cx (small_tm x (by have := tAt_sz hx; omega)) hrx) rfl rfl (fun v G3 hle3 hh => ?_); obtain ⟨cells', F', rfl, hs', hnd'⟩ := hh; have hl' := hs'.R.len; have ho' := hs'.R.one)
      refine seq_store rfl rfl rfl hl' ho' rfl (by repeat (first | exact Sw.here | apply Sw.there)) (by exact upd_all hl'.symm) ?_
      refine seq_pure (pure_assign rfl) rfl rfl ?_
      refine seq_done ?_
      refine nrm_seq ?_
      refine tri_ret ?_
      refine ret_fin2 (res_cell rfl (load_a rfl rfl (at_blk_all (by repeat (first | exact List.Mem.head _ | apply List.Mem.tail))) hl')) (res_tmp rfl) ?_
      exact TbP.mk (mTermAt_yes (by assumption) hx) hs' hnd'
    · refine seq_pure (pure_move rfl) rfl rfl ?_
      refine seq_pure (pure_extract rfl rfl) rfl rfl ?_
      refine seq_pure (pure_extract rfl rfl) rfl rfl ?_
      (refine seq_step (step_alloc rfl) rfl ?_; rintro _ ⟨b56, rfl⟩)
      refine seq_store rfl rfl rfl rfl rfl rfl (by repeat (first | exact Sw.here | apply Sw.there)) (by rfl) ?_
      refine seq_pure (pure_assign rfl) rfl rfl ?_
      refine seq_done ?_
      refine nrm_seq ?_
      refine tri_seq ?_
      refine tri_seq ?_
      refine tri_region ?_
      refine seq_pure (pure_move rfl) rfl rfl ?_
      refine seq_pure (pure_not_f rfl) rfl rfl ?_
      refine seq_done ?_
      refine nrm_seq ?_
      refine tri_cond_t rfl ?_
      refine tri_seq ?_
      refine tri_region ?_
      refine seq_pure (pure_build rfl rfl) rfl rfl ?_
      refine seq_store rfl rfl rfl rfl rfl rfl (by repeat (first | exact Sw.here | apply Sw.there)) (by rfl) ?_
      refine seq_pure (pure_assign rfl) rfl rfl ?_
      refine seq_done ?_
      refine nrm_seq ?_
      refine tri_ret ?_
      refine ret_seq ?_
      refine ret_fin2 (res_cell rfl (load_ba rfl rfl (by repeat (first | exact List.Mem.head _ | apply List.Mem.tail)) (by rfl))) (res_tmp rfl) ?_
      exact TbP.mk (mTermAt_no hx) (STm.zero _) (by simp)
  · refine seq_pure (pure_not_f rfl) rfl rfl ?_
    refine seq_done ?_
    refine nrm_seq ?_
    refine tri_cond_t rfl ?_
    refine tri_seq ?_
    refine tri_region ?_
    refine seq_pure (pure_build rfl rfl) rfl rfl ?_
    refine seq_store rfl rfl rfl rfl rfl rfl (by repeat (first | exact Sw.here | apply Sw.there)) (by rfl) ?_
    refine seq_pure (pure_assign rfl) rfl rfl ?_
    refine seq_done ?_
    refine nrm_seq ?_
    refine tri_ret ?_
    refine ret_seq ?_
    refine ret_fin2 (res_cell rfl (load_ba rfl rfl (by repeat (first | exact List.Mem.head _ | apply List.Mem.tail)) (by rfl))) (res_tmp rfl) ?_
    exact TbP.mk (mTermAt_bad (not_t (by assumption))) (STm.zero _) (by simp)
set_option maxHeartbeats 0 in
set_option maxRecDepth 100000 in
theorem sTermAt_fn (t : Tm) (path : List Int) (G : IM) (cells : List Value) (p : Option Addr) (c : Nat) (hts : szTm t ≤ 4294967295) (hr : RTm G t cells) (hp : Sl G p path.length c 1 (ints path)) :
    Fn Try.prog 29 [.agg ⟨cells⟩, .slice p path.length c] [] G (TbP (mTermAt t path) G) := by
  have hl := hr.len
  have hone := hr.one
  have hv := sCastValid_fn t G cells (by have := count_sz t; omega) hr
  have hA := l16At_fn t path G cells p c hr hp
  refine fn_enter Try.func29 rfl Try.ntmps29 Try.results29 rfl ?_
  intro w0
  refine tri_seq ?_
  refine tri_region ?_
  (refine seq_step (step_box_a rfl rfl) rfl ?_; rintro _ ⟨b3, rfl⟩)
  (refine seq_step (step_alloc rfl) rfl ?_; rintro _ ⟨b4, rfl⟩)
  refine seq_pure (pure_assign rfl) rfl rfl ?_
  refine seq_done ?_
  refine nrm_seq ?_
  refine tri_seq ?_
  refine tri_region ?_
  refine seq_load (load_a rfl rfl (at_blk_all (by repeat (first | exact List.Mem.head _ | apply List.Mem.tail))) (by assumption)) rfl rfl ?_
  refine seq_pure (pure_move rfl) rfl rfl ?_
  (refine seq_own rfl hA rfl rfl (fun v12 G12 outs12 hle12 h12 => ?_); obtain ⟨hG, rfl, hh⟩ := h12; replace hG := hG.symm; subst hG; rcases hh with ⟨x, cx, hx, hrx, rfl⟩ | ⟨hx, rfl⟩)
  · refine seq_pure (pure_move rfl) rfl rfl ?_
    refine seq_pure (pure_extract rfl rfl) rfl rfl ?_
    refine seq_pure (pure_extract rfl rfl) rfl rfl ?_
    (refine seq_step (step_alloc rfl) rfl ?_; rintro _ ⟨b16, rfl⟩)
    refine seq_store rfl rfl rfl hrx.len hrx.one rfl (by repeat (first | exact Sw.here | apply Sw.there)) (by exact upd_all hrx.len.symm) ?_
    refine seq_pure (pure_assign rfl) rfl rfl ?_
    refine seq_done ?_
    refine nrm_seq ?_
    refine tri_seq ?_
    refine tri_seq ?_
    refine tri_region ?_
    refine seq_load (load_a rfl rfl (at_blk_all (by repeat (first | exact List.Mem.head _ | apply List.Mem.tail))) (by assumption)) rfl rfl ?_
    refine seq_valb rfl (hv) rfl rfl (fun h25 => ?_) (fun h25 => ?_)
    · refine seq_pure (pure_not_t rfl) rfl rfl ?_
      refine seq_pure (pure_move rfl) rfl rfl ?_
      refine seq_pure (pure_move rfl) rfl rfl ?_
      refine seq_pure (pure_not_t rfl) rfl rfl ?_
      refine seq_pure (pure_pick_f rfl rfl) rfl rfl ?_
      refine seq_done ?_
      refine nrm_seq ?_
      refine tri_cond_f rfl ?_
      refine tri_skip ?_
      refine nrm_seq ?_
      refine tri_seq ?_
      refine tri_region ?_
      refine seq_load (load_a rfl rfl (at_blk_all (by repeat (first | exact List.Mem.head _ | apply List.Mem.tail))) hrx.len) rfl rfl ?_
      (refine seq_imm rfl (l2Copy_fn x G cx (small_tm x (by have := tAt_sz hx; omega)) hrx) rfl rfl (fun v G3 hle3 hh => ?_); obtain ⟨cells', F', rfl, hs', hnd'⟩ := hh; have hl' := hs'.R.len; have ho' := hs'.R.one)
      refine seq_store rfl rfl rfl hl' ho' rfl (by repeat (first | exact Sw.here | apply Sw.there)) (by exact upd_all hl'.symm) ?_
      refine seq_pure (pure_assign rfl) rfl rfl ?_
      refine seq_done ?_
      refine nrm_seq ?_
      refine tri_ret ?_
      refine ret_fin2 (res_cell rfl (load_a rfl rfl (at_blk_all (by repeat (first | exact List.Mem.head _ | apply List.Mem.tail))) hl')) (res_tmp rfl) ?_
      exact TbP.mk (mTermAt_yes (by assumption) hx) hs' hnd'
    · refine seq_pure (pure_not_f rfl) rfl rfl ?_
      refine seq_pure (pure_move rfl) rfl rfl ?_
      refine seq_skip rfl rfl ?_
      refine seq_skip rfl rfl ?_
      refine seq_pure (pure_pick_t rfl rfl) rfl rfl ?_
      refine seq_done ?_
      refine nrm_seq ?_
      refine tri_cond_t rfl ?_
      refine tri_seq ?_
      refine tri_region ?_
      refine seq_pure (pure_build rfl rfl) rfl rfl ?_
      refine seq_store rfl rfl rfl rfl rfl rfl (by repeat (first | exact Sw.here | apply Sw.there)) (by rfl) ?_
      refine seq_pure (pure_assign rfl) rfl rfl ?_
      refine seq_done ?_
      refine nrm_seq ?_
      refine tri_ret ?_
      refine ret_seq ?_
      refine ret_fin2 (res_cell rfl (load_ba rfl rfl (by repeat (first | exact List.Mem.head _ | apply List.Mem.tail)) (by rfl))) (res_tmp rfl) ?_
      exact TbP.mk (mTermAt_bad (not_t (by assumption))) (STm.zero _) (by simp)
  · refine seq_pure (pure_move rfl) rfl rfl ?_
    refine seq_pure (pure_extract rfl rfl) rfl rfl ?_
    refine seq_pure (pure_extract rfl rfl) rfl rfl ?_
    (refine seq_step (step_alloc rfl) rfl ?_; rintro _ ⟨b69, rfl⟩)
    refine seq_store rfl rfl rfl rfl rfl rfl (by repeat (first | exact Sw.here | apply Sw.there)) (by rfl) ?_
    refine seq_pure (pure_assign rfl) rfl rfl ?_
    refine seq_done ?_
    refine nrm_seq ?_
    refine tri_seq ?_
    refine tri_seq ?_
    refine tri_region ?_
    refine seq_load (load_a rfl rfl (at_blk_all (by repeat (first | exact List.Mem.head _ | apply List.Mem.tail))) (by assumption)) rfl rfl ?_
    refine seq_valb rfl (hv) rfl rfl (fun h78 => ?_) (fun h78 => ?_)
    · refine seq_pure (pure_not_t rfl) rfl rfl ?_
      refine seq_pure (pure_move rfl) rfl rfl ?_
      refine seq_pure (pure_move rfl) rfl rfl ?_
      refine seq_pure (pure_not_f rfl) rfl rfl ?_
      refine seq_pure (pure_pick_f rfl rfl) rfl rfl ?_
      refine seq_done ?_
      refine nrm_seq ?_
      refine tri_cond_t rfl ?_
      refine tri_seq ?_
      refine tri_region ?_
      refine seq_pure (pure_build rfl rfl) rfl rfl ?_
      refine seq_store rfl rfl rfl rfl rfl rfl (by repeat (first | exact Sw.here | apply Sw.there)) (by rfl) ?_
      refine seq_pure (pure_assign rfl) rfl rfl ?_
      refine seq_done ?_
      refine nrm_seq ?_
      refine tri_ret ?_
      refine ret_seq ?_
      refine ret_fin2 (res_cell rfl (load_ba rfl rfl (by repeat (first | exact List.Mem.head _ | apply List.Mem.tail)) (by rfl))) (res_tmp rfl) ?_
      exact TbP.mk (mTermAt_no hx) (STm.zero _) (by simp)
    · refine seq_pure (pure_not_f rfl) rfl rfl ?_
      refine seq_pure (pure_move rfl) rfl rfl ?_
      refine seq_skip rfl rfl ?_
      refine seq_skip rfl rfl ?_
      refine seq_pure (pure_pick_t rfl rfl) rfl rfl ?_
      refine seq_done ?_
      refine nrm_seq ?_
      refine tri_cond_t rfl ?_
      refine tri_seq ?_
      refine tri_region ?_
      refine seq_pure (pure_build rfl rfl) rfl rfl ?_
      refine seq_store rfl rfl rfl rfl rfl rfl (by repeat (first | exact Sw.here | apply Sw.there)) (by rfl) ?_
      refine seq_pure (pure_assign rfl) rfl rfl ?_
      refine seq_done ?_
      refine nrm_seq ?_
      refine tri_ret ?_
      refine ret_seq ?_
      refine ret_fin2 (res_cell rfl (load_ba rfl rfl (by repeat (first | exact List.Mem.head _ | apply List.Mem.tail)) (by rfl))) (res_tmp rfl) ?_
      exact TbP.mk (mTermAt_no hx) (STm.zero _) (by simp)
end Gw
end Go.Proofs.Ytlefgfdhlblahaa
