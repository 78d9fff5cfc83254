/-
  The functions on types and the small tests of terms: each computes what the plain words say.
-/
import Derived.Test.YtlefgfdhlblahaaModel
namespace Go.Proofs.Ytlefgfdhlblahaa
open Go Go.RowKit
namespace Gw
set_option maxRecDepth 100000 in
theorem indexFunc_Type (G : IM) (p : Option Addr) (n c : Nat) (es : List (List Value)) (hsl : SlE G p n c 2 es) (fid : FuncId) [FunI Try.prog fid] (us cs : List Value) (ins : List Ent) (q : Nat → Bool)
    (hq : ∀ i e, es[i]? = some e → Fn Try.prog fid (us ++ [.agg ⟨e⟩] ++ cs) ins G (ValO (.bool (q i)) ins G)) :
    Fn Try.prog 145 [.slice p n c, .func (.func fid) ⟨us⟩ ⟨cs⟩] ins G (ValO (.int .i64 (firstIx q n)) ins G) := by
  have hn := hsl.le
  refine fn_enter Try.func145 rfl Try.ntmps145 Try.results145 rfl ?_
  intro w0
  refine tri_seq ?_
  refine tri_region ?_
  refine seq_pure (pure_assign rfl) rfl rfl ?_
  refine seq_done ?_
  refine nrm_seq ?_
  refine tri_seq ?_
  refine tri_seq ?_
  refine tri_region ?_
  refine seq_pure (pure_move rfl) rfl rfl ?_
  refine seq_pure (pure_len rfl rfl) rfl rfl ?_
  refine seq_pure (pure_move rfl) rfl rfl ?_
  refine seq_done ?_
  refine nrm_seq ?_
  refine tri_block ?_
  refine tri_loopN (fun i : Nat => ⟨[(8, .int .i64 i), (7, .int .i64 n), (1, .func (.func fid) ⟨us⟩ ⟨cs⟩), (0, .slice p n c)], ins, G⟩) (fun i => i ≤ n ∧ ∀ j, j < i → q j = false) (fun i => n - i) 0 ?_ ?_ ?_
  · exact sub_mk (by repeat (first | exact SubE.nil | refine SubE.cons rfl ?_)) (by repeat (first | exact SubH.refl | exact SubH.nil | refine SubH.cons (by repeat (first | exact Pk.here | apply Pk.there)) ?_ | apply SubH.drop))
  · exact ⟨by omega, by omega⟩
  · rintro i ⟨hi, hf⟩
    refine tri_seq ?_
    refine tri_region ?_
    refine seq_bool (pure_lss rfl rfl) rfl rfl (fun h21 => ?_) (fun h21 => ?_)
    · refine seq_done ?_
      refine nrm_seq ?_
      refine tri_seq ?_
      refine tri_cond_t rfl ?_
      refine tri_skip ?_
      refine nrm_seq ?_
      refine tri_seq ?_
      refine tri_block ?_
      refine tri_seq ?_
      refine tri_region ?_
      refine seq_pure (pure_move rfl) rfl rfl ?_
      refine seq_pure (pure_assign rfl) rfl rfl ?_
      refine seq_done ?_
      refine nrm_seq ?_
      refine tri_seq ?_
      refine tri_region ?_
      refine seq_pure (pure_move rfl) rfl rfl ?_
      refine seq_pure (pure_move rfl) rfl rfl ?_
      refine seq_pure (pure_move rfl) rfl rfl ?_
      (obtain ⟨e, b, o, he, rfl, hl, _, hat, _⟩ := hsl.get (i := i) (by omega); refine seq_pure (pure_indexAddrN rfl rfl rfl (by omega)) rfl rfl ?_)
      refine seq_load (load_a rfl rfl (hat _) hl) rfl rfl ?_
      refine seq_vvalbo rfl rfl (hq i e he) perm_all rfl rfl (fun h43 => ?_) (fun h43 => ?_)
      · refine seq_done ?_
        refine nrm_seq ?_
        refine tri_cond_t rfl ?_
        refine tri_seq ?_
        refine tri_region ?_
        refine seq_pure (pure_move rfl) rfl rfl ?_
        refine seq_pure (pure_assign rfl) rfl rfl ?_
        refine seq_done ?_
        refine nrm_seq ?_
        refine tri_ret ?_
        refine ret_block ?_
        refine ret_seq ?_
        refine ret_loopN ?_
        refine ret_block ?_
        refine ret_seq ?_
        refine ret_own1 (res_tmp rfl) SubH.refl ?_
        exact ⟨rfl, by rw [firstIx_some (by omega) hf (by assumption)], rfl⟩
      · refine seq_done ?_
        refine nrm_seq ?_
        refine tri_cond_f rfl ?_
        refine tri_skip ?_
        refine nrm_block ?_
        refine nrm_seq ?_
        refine tri_region ?_
        refine seq_pure (pure_add rfl rfl (by omega) (by omega)) rfl rfl ?_
        refine seq_pure (pure_move rfl) rfl rfl ?_
        refine seq_done ?_
        refine nrm_loopN (i + 1) ?_ ?_ ?_
        · exact sub_mk (by repeat (first | exact SubE.nil | refine SubE.cons rfl ?_)) (by repeat (first | exact SubH.refl | exact SubH.nil | refine SubH.cons (by repeat (first | exact Pk.here | apply Pk.there)) ?_ | apply SubH.drop))
        · exact ⟨by omega, fun j hj => by by_cases hji : j = i; (subst hji; assumption); exact hf j (by omega)⟩
        · omega
    · refine seq_done ?_
      refine nrm_seq ?_
      refine tri_seq ?_
      refine tri_cond_f rfl ?_
      refine tri_exit ?_
      refine ext_seq ?_
      refine ext_loopN ?_
      refine ext_block_eq ?_
      refine nrm_seq ?_
      refine tri_seq ?_
      refine tri_region ?_
      refine seq_pure (pure_assign rfl) rfl rfl ?_
      refine seq_done ?_
      refine nrm_seq ?_
      refine tri_ret ?_
      refine ret_own1 (res_tmp rfl) SubH.refl ?_
      exact ⟨rfl, by rw [firstIx_none (fun j hj => hf j (by omega))], rfl⟩
set_option maxRecDepth 100000 in
theorem containsFunc_Type (G : IM) (p : Option Addr) (n c : Nat) (es : List (List Value)) (hsl : SlE G p n c 2 es) (fid : FuncId) [FunI Try.prog fid] (us cs : List Value) (ins : List Ent) (q : Nat → Bool)
    (hq : ∀ i e, es[i]? = some e → Fn Try.prog fid (us ++ [.agg ⟨e⟩] ++ cs) ins G (ValO (.bool (q i)) ins G)) :
    Fn Try.prog 138 [.slice p n c, .func (.func fid) ⟨us⟩ ⟨cs⟩] ins G (ValO (.bool (decide (0 ≤ firstIx q n))) ins G) := by
  refine fn_enter Try.func138 rfl Try.ntmps138 Try.results138 rfl ?_
  intro w0
  refine tri_seq ?_
  refine tri_region ?_
  refine seq_pure (pure_assign rfl) rfl rfl ?_
  refine seq_done ?_
  refine nrm_seq ?_
  refine tri_seq ?_
  refine tri_region ?_
  refine seq_pure (pure_move rfl) rfl rfl ?_
  refine seq_pure (pure_move rfl) rfl rfl ?_
  refine seq_valo rfl (indexFunc_Type G p n c es hsl fid us cs ins q hq) perm_all rfl rfl ?_
  refine seq_pure (pure_geq rfl rfl) rfl rfl ?_
  refine seq_pure (pure_assign rfl) rfl rfl ?_
  refine seq_done ?_
  refine nrm_seq ?_
  refine tri_ret ?_
  refine ret_own1 (res_tmp rfl) SubH.refl ?_
  exact ⟨rfl, rfl, rfl⟩
theorem containsNot_Type (G : IM) (p : Option Addr) (n c : Nat) (es : List (List Value)) (hsl : SlE G p n c 2 es) (fid : FuncId) [FunI Try.prog fid] (us cs : List Value) (ins : List Ent) (f : Ty → Bool) (ks : List Ty)
    (hn : ks.length = n) {A : Bool} (hA : ks.all f = A) (hq : ∀ i e, es[i]? = some e → Fn Try.prog fid (us ++ [.agg ⟨e⟩] ++ cs) ins G (ValO (.bool (!f (ks.getD i ty0))) ins G)) :
    Fn Try.prog 138 [.slice p n c, .func (.func fid) ⟨us⟩ ⟨cs⟩] ins G (ValO (.bool (!A)) ins G) := by
  subst hn hA
  rw [← contains_not f ks ty0]
  exact containsFunc_Type G p _ c es hsl fid us cs ins _ hq
set_option maxRecDepth 100000 in
theorem equalFunc_Type (G : IM) (p p' : Option Addr) (n c n' c' : Nat) (es es' : List (List Value)) (hsl : SlE G p n c 2 es) (hsl' : SlE G p' n' c' 2 es') (fid : FuncId) [FunI Try.prog fid] (us cs : List Value) (ins : List Ent) (q : Nat → Bool)
    (A : Bool) (hA : A = true ↔ n = n' ∧ ∀ i, i < n → q i = true)
    (hq : ∀ i e e', es[i]? = some e → es'[i]? = some e' → Fn Try.prog fid (us ++ [.agg ⟨e⟩, .agg ⟨e'⟩] ++ cs) ins G (ValO (.bool (q i)) ins G)) :
    Fn Try.prog 78 [.slice p n c, .slice p' n' c', .func (.func fid) ⟨us⟩ ⟨cs⟩] ins G (ValO (.bool A) ins G) := by
  have hn := hsl.le
  have hn' := hsl'.le
  refine fn_enter Try.func78 rfl Try.ntmps78 Try.results78 rfl ?_
  intro w0
  refine tri_seq ?_
  refine tri_region ?_
  refine seq_pure (pure_assign rfl) rfl rfl ?_
  refine seq_done ?_
  refine nrm_seq ?_
  refine tri_seq ?_
  refine tri_seq ?_
  refine tri_region ?_
  refine seq_pure (pure_move rfl) rfl rfl ?_
  refine seq_pure (pure_len rfl rfl) rfl rfl ?_
  refine seq_pure (pure_move rfl) rfl rfl ?_
  refine seq_pure (pure_len rfl rfl) rfl rfl ?_
  refine seq_bool (pure_neq rfl rfl) rfl rfl (fun h13 => ?_) (fun h13 => ?_)
  · refine seq_done ?_
    refine nrm_seq ?_
    refine tri_cond_t rfl ?_
    refine tri_seq ?_
    refine tri_region ?_
    refine seq_pure (pure_assign rfl) rfl rfl ?_
    refine seq_done ?_
    refine nrm_seq ?_
    refine tri_ret ?_
    refine ret_seq ?_
    refine ret_own1 (outs := ins) (res_tmp rfl) (by first | exact SubH.refl | exact SubH.drop (SubH.drop SubH.refl)) ?_
    exact ⟨rfl, by (cases A with | false => rfl | true => exact absurd (hA.1 rfl).1 (by omega)), rfl⟩
  · refine seq_done ?_
    refine nrm_seq ?_
    refine tri_cond_f rfl ?_
    refine tri_skip ?_
    refine nrm_seq ?_
    refine tri_seq ?_
    refine tri_seq ?_
    refine tri_region ?_
    refine seq_pure (pure_move rfl) rfl rfl ?_
    refine seq_pure (pure_len rfl rfl) rfl rfl ?_
    refine seq_pure (pure_move rfl) rfl rfl ?_
    refine seq_done ?_
    refine nrm_seq ?_
    refine tri_block ?_
    refine tri_loopN (fun i : Nat => ⟨[(17, .int .i64 i), (16, .int .i64 n), (15, .slice p n c), (2, .func (.func fid) ⟨us⟩ ⟨cs⟩), (1, .slice p' n' c'), (0, .slice p n c)], ins, G⟩) (fun i => i ≤ n ∧ ∀ j, j < i → q j = true) (fun i => n - i) 0 ?_ ?_ ?_
    · exact sub_mk (by repeat (first | exact SubE.nil | refine SubE.cons rfl ?_)) (by repeat (first | exact SubH.refl | exact SubH.nil | refine SubH.cons (by repeat (first | exact Pk.here | apply Pk.there)) ?_ | apply SubH.drop))
    · exact ⟨by omega, by omega⟩
    · rintro i ⟨hi, hf⟩
      refine tri_seq ?_
      refine tri_region ?_
      refine seq_bool (pure_lss rfl rfl) rfl rfl (fun h46 => ?_) (fun h46 => ?_)
      · refine seq_done ?_
        refine nrm_seq ?_
        refine tri_seq ?_
        refine tri_cond_t rfl ?_
        refine tri_skip ?_
        refine nrm_seq ?_
        refine tri_seq ?_
        refine tri_block ?_
        refine tri_seq ?_
        refine tri_region ?_
        refine seq_pure (pure_move rfl) rfl rfl ?_
        (obtain ⟨e, b, o, he, rfl, hl, _, hat, _⟩ := hsl.get (i := i) (by omega); refine seq_pure (pure_indexAddrN rfl rfl rfl (by omega)) rfl rfl ?_)
        refine seq_load (load_a rfl rfl (hat _) hl) rfl rfl ?_
        (refine seq_step (step_alloc rfl) rfl ?_; rintro _ ⟨b60, rfl⟩)
        refine seq_pure (pure_assign rfl) rfl rfl ?_
        refine seq_store rfl rfl rfl (by assumption) (by assumption) rfl (by repeat (first | exact Sw.here | apply Sw.there)) (by exact upd_all (by symm; assumption)) ?_
        refine seq_done ?_
        refine nrm_seq ?_
        refine tri_seq ?_
        refine tri_region ?_
        refine seq_pure (pure_move rfl) rfl rfl ?_
        refine seq_pure (pure_move rfl) rfl rfl ?_
        (obtain ⟨e', b', o', he', rfl, hl', _, hat', _⟩ := hsl'.get (i := i) (by omega); refine seq_pure (pure_indexAddrN rfl rfl rfl (by omega)) rfl rfl ?_)
        refine seq_load (load_a rfl rfl (hat' _) hl') rfl rfl ?_
        (refine seq_step (step_alloc rfl) rfl ?_; rintro _ ⟨b71, rfl⟩)
        refine seq_store rfl rfl rfl (by assumption) (by assumption) rfl (by repeat (first | exact Sw.here | apply Sw.there)) (by exact upd_all (by symm; assumption)) ?_
        refine seq_done ?_
        refine nrm_seq ?_
        refine tri_seq ?_
        refine tri_region ?_
        refine seq_pure (pure_move rfl) rfl rfl ?_
        refine seq_load (load_a rfl rfl (at_blk_all (by repeat (first | exact List.Mem.head _ | apply List.Mem.tail))) (by assumption)) rfl rfl ?_
        refine seq_load (load_a rfl rfl (at_blk_all (by repeat (first | exact List.Mem.head _ | apply List.Mem.tail))) (by assumption)) rfl rfl ?_
        refine seq_vvalbo rfl rfl (hq i e e' he he') perm_two rfl rfl (fun h80 => ?_) (fun h80 => ?_)
        · refine seq_pure (pure_not_t rfl) rfl rfl ?_
          refine seq_done ?_
          refine nrm_seq ?_
          refine tri_cond_f rfl ?_
          refine tri_skip ?_
          refine nrm_block ?_
          refine nrm_seq ?_
          refine tri_region ?_
          refine seq_pure (pure_add rfl rfl (by omega) (by omega)) rfl rfl ?_
          refine seq_pure (pure_move rfl) rfl rfl ?_
          refine seq_done ?_
          refine nrm_loopN (i + 1) ?_ ?_ ?_
          · exact sub_mk (by repeat (first | exact SubE.nil | refine SubE.cons rfl ?_)) (by repeat (first | exact SubH.refl | exact SubH.nil | refine SubH.cons (by repeat (first | exact Pk.here | apply Pk.there)) ?_ | apply SubH.drop))
          · exact ⟨by omega, fun j hj => by by_cases hji : j = i; (subst hji; assumption); exact hf j (by omega)⟩
          · omega
        · refine seq_pure (pure_not_f rfl) rfl rfl ?_
          refine seq_done ?_
          refine nrm_seq ?_
          refine tri_cond_t rfl ?_
          refine tri_seq ?_
          refine tri_region ?_
          refine seq_pure (pure_assign rfl) rfl rfl ?_
          refine seq_done ?_
          refine nrm_seq ?_
          refine tri_ret ?_
          refine ret_block ?_
          refine ret_seq ?_
          refine ret_loopN ?_
          refine ret_block ?_
          refine ret_seq ?_
          refine ret_own1 (outs := ins) (res_tmp rfl) (by first | exact SubH.refl | exact SubH.drop (SubH.drop SubH.refl)) ?_
          exact ⟨rfl, by (cases A with | false => rfl | true => have h0 := (hA.1 rfl).2 i (by omega); simp_all), rfl⟩
      · refine seq_done ?_
        refine nrm_seq ?_
        refine tri_seq ?_
        refine tri_cond_f rfl ?_
        refine tri_exit ?_
        refine ext_seq ?_
        refine ext_loopN ?_
        refine ext_block_eq ?_
        refine nrm_seq ?_
        refine tri_seq ?_
        refine tri_region ?_
        refine seq_pure (pure_assign rfl) rfl rfl ?_
        refine seq_done ?_
        refine nrm_seq ?_
        refine tri_ret ?_
        refine ret_own1 (outs := ins) (res_tmp rfl) (by first | exact SubH.refl | exact SubH.drop (SubH.drop SubH.refl)) ?_
        exact ⟨rfl, by rw [hA.2 ⟨by omega, fun j hj => hf j (by omega)⟩], rfl⟩
set_option maxRecDepth 100000 in
theorem within_fn (n lo hi : Int) (G : IM) : Fn Try.prog 86 [.int .i64 n, .int .i64 lo, .int .i64 hi] [] G (Val (.bool (withinB n lo hi)) G) := by
  refine fn_enter Try.func86 rfl Try.ntmps86 Try.results86 rfl ?_
  intro w0
  refine tri_seq ?_
  refine tri_region ?_
  refine seq_pure (pure_assign rfl) rfl rfl ?_
  refine seq_done ?_
  refine nrm_seq ?_
  refine tri_seq ?_
  refine tri_region ?_
  refine seq_pure (pure_move rfl) rfl rfl ?_
  refine seq_pure (pure_move rfl) rfl rfl ?_
  refine seq_bool (pure_leq rfl rfl) rfl rfl (fun h10 => ?_) (fun h10 => ?_)
  · refine seq_pure (pure_move rfl) rfl rfl ?_
    refine seq_pure (pure_move rfl) rfl rfl ?_
    refine seq_pure (pure_move rfl) rfl rfl ?_
    refine seq_bool (pure_leq rfl rfl) rfl rfl (fun h14 => ?_) (fun h14 => ?_)
    · refine seq_pure (pure_pick_t rfl rfl) rfl rfl ?_
      refine seq_pure (pure_assign rfl) rfl rfl ?_
      refine seq_done ?_
      refine nrm_seq ?_
      refine tri_ret ?_
      refine ret_fin1 (res_tmp rfl) ?_
      exact ⟨rfl, by simp [withinB]; omega, rfl⟩
    · refine seq_pure (pure_pick_t rfl rfl) rfl rfl ?_
      refine seq_pure (pure_assign rfl) rfl rfl ?_
      refine seq_done ?_
      refine nrm_seq ?_
      refine tri_ret ?_
      refine ret_fin1 (res_tmp rfl) ?_
      exact ⟨rfl, by simp [withinB]; omega, rfl⟩
  · refine seq_pure (pure_move rfl) rfl rfl ?_
    refine seq_skip rfl rfl ?_
    refine seq_skip rfl rfl ?_
    refine seq_skip rfl rfl ?_
    refine seq_pure (pure_pick_f rfl rfl) rfl rfl ?_
    refine seq_pure (pure_assign rfl) rfl rfl ?_
    refine seq_done ?_
    refine nrm_seq ?_
    refine tri_ret ?_
    refine ret_fin1 (res_tmp rfl) ?_
    exact ⟨rfl, by simp [withinB]; omega, rfl⟩
set_option maxRecDepth 100000 in
theorem base_fn (k : Int) (G : IM) : Fn Try.prog 73 [.int .i64 k] [] G (Val (.agg ⟨[.int .i64 k, .slice none 0 0]⟩) G) := by
  refine fn_enter Try.func73 rfl Try.ntmps73 Try.results73 rfl ?_
  intro w0
  refine tri_seq ?_
  refine tri_region ?_
  (refine seq_step (step_alloc rfl) rfl ?_; rintro _ ⟨b3, rfl⟩)
  refine seq_done ?_
  refine nrm_seq ?_
  refine tri_seq ?_
  refine tri_region ?_
  refine seq_pure (pure_move rfl) rfl rfl ?_
  refine seq_pure (pure_build rfl rfl) rfl rfl ?_
  refine seq_store rfl rfl rfl rfl rfl rfl (by repeat (first | exact Sw.here | apply Sw.there)) (by rfl) ?_
  refine seq_done ?_
  refine nrm_seq ?_
  refine tri_ret ?_
  refine ret_fin1 (res_cell rfl (load_ba rfl rfl (by repeat (first | exact List.Mem.head _ | apply List.Mem.tail)) (by rfl))) ?_
  exact ⟨rfl, rfl, rfl⟩
set_option maxRecDepth 100000 in
theorem isLabel_fn (n : Int) (G : IM) : Fn Try.prog 113 [.int .i64 n] [] G (Val (.bool (labelOk n)) G) := by
  refine fn_enter Try.func113 rfl Try.ntmps113 Try.results113 rfl ?_
  intro w0
  refine tri_seq ?_
  refine tri_region ?_
  refine seq_pure (pure_assign rfl) rfl rfl ?_
  refine seq_done ?_
  refine nrm_seq ?_
  refine tri_seq ?_
  refine tri_region ?_
  refine seq_pure (pure_move rfl) rfl rfl ?_
  refine seq_valb rfl (within_fn _ _ _ _) rfl rfl (fun h9 => ?_) (fun h9 => ?_)
  · refine seq_pure (pure_move rfl) rfl rfl ?_
    refine seq_skip rfl rfl ?_
    refine seq_skip rfl rfl ?_
    refine seq_pure (pure_pick_t rfl rfl) rfl rfl ?_
    refine seq_pure (pure_assign rfl) rfl rfl ?_
    refine seq_done ?_
    refine nrm_seq ?_
    refine tri_ret ?_
    refine ret_fin1 (res_tmp rfl) ?_
    exact ⟨rfl, by simp [labelOk, *], rfl⟩
  · refine seq_pure (pure_move rfl) rfl rfl ?_
    refine seq_pure (pure_move rfl) rfl rfl ?_
    refine seq_valb rfl (within_fn _ _ _ _) rfl rfl (fun h22 => ?_) (fun h22 => ?_)
    · refine seq_pure (pure_pick_f rfl rfl) rfl rfl ?_
      refine seq_pure (pure_assign rfl) rfl rfl ?_
      refine seq_done ?_
      refine nrm_seq ?_
      refine tri_ret ?_
      refine ret_fin1 (res_tmp rfl) ?_
      exact ⟨rfl, by simp [labelOk, *], rfl⟩
    · refine seq_pure (pure_pick_f rfl rfl) rfl rfl ?_
      refine seq_pure (pure_assign rfl) rfl rfl ?_
      refine seq_done ?_
      refine nrm_seq ?_
      refine tri_ret ?_
      refine ret_fin1 (res_tmp rfl) ?_
      exact ⟨rfl, by simp [labelOk, *], rfl⟩
set_option maxRecDepth 100000 in
theorem isNoType_fn (t : Ty) (G : IM) (cells : List Value) (hr : RTy G t cells) : Fn Try.prog 111 [.agg ⟨cells⟩] [] G (Val (.bool (tNone t)) G) := by
  obtain ⟨p, c, es, rfl, hk, hsl, hkl⟩ := hr.open
  refine fn_enter Try.func111 rfl Try.ntmps111 Try.results111 rfl ?_
  intro w0
  refine tri_seq ?_
  refine tri_region ?_
  (refine seq_step (step_box_a rfl rfl) rfl ?_; rintro _ ⟨b3, rfl⟩)
  refine seq_pure (pure_assign rfl) rfl rfl ?_
  refine seq_done ?_
  refine nrm_seq ?_
  refine tri_seq ?_
  refine tri_region ?_
  refine seq_pure (pure_fieldAddr0 rfl) rfl rfl ?_
  refine seq_load (load_bs rfl rfl (by repeat (first | exact List.Mem.head _ | apply List.Mem.tail)) (by rfl)) rfl rfl ?_
  refine seq_bool (pure_eql rfl rfl) rfl rfl (fun h11 => ?_) (fun h11 => ?_)
  · refine seq_pure (pure_move rfl) rfl rfl ?_
    refine seq_pure (pure_fieldAddr0 rfl) rfl rfl ?_
    refine seq_load (load_bs rfl rfl (by repeat (first | exact List.Mem.head _ | apply List.Mem.tail)) (by rfl)) rfl rfl ?_
    refine seq_pure (pure_len rfl rfl) rfl rfl ?_
    refine seq_bool (pure_eql rfl rfl) rfl rfl (fun h16 => ?_) (fun h16 => ?_)
    · refine seq_pure (pure_pick_t rfl rfl) rfl rfl ?_
      refine seq_pure (pure_assign rfl) rfl rfl ?_
      refine seq_done ?_
      refine nrm_seq ?_
      refine tri_ret ?_
      refine ret_fin1 (res_tmp rfl) ?_
      exact ⟨rfl, by simp only [tNone]; (first | rw [decide_eq_true (by omega)] | rw [decide_eq_false (by omega)]), rfl⟩
    · refine seq_pure (pure_pick_t rfl rfl) rfl rfl ?_
      refine seq_pure (pure_assign rfl) rfl rfl ?_
      refine seq_done ?_
      refine nrm_seq ?_
      refine tri_ret ?_
      refine ret_fin1 (res_tmp rfl) ?_
      exact ⟨rfl, by simp only [tNone]; (first | rw [decide_eq_true (by omega)] | rw [decide_eq_false (by omega)]), rfl⟩
  · refine seq_pure (pure_move rfl) rfl rfl ?_
    refine seq_skip rfl rfl ?_
    refine seq_skip rfl rfl ?_
    refine seq_skip rfl rfl ?_
    refine seq_skip rfl rfl ?_
    refine seq_pure (pure_pick_f rfl rfl) rfl rfl ?_
    refine seq_pure (pure_assign rfl) rfl rfl ?_
    refine seq_done ?_
    refine nrm_seq ?_
    refine tri_ret ?_
    refine ret_fin1 (res_tmp rfl) ?_
    exact ⟨rfl, by simp only [tNone]; (first | rw [decide_eq_true (by omega)] | rw [decide_eq_false (by omega)]), rfl⟩
set_option maxRecDepth 100000 in
theorem isName_fn (s : ByteArray) (G : IM) : Fn Try.prog 109 [.string s] [] G (Val (.bool (nameOk s)) G) := by
  refine fn_enter Try.func109 rfl Try.ntmps109 Try.results109 rfl ?_
  intro w0
  refine tri_seq ?_
  refine tri_region ?_
  refine seq_pure (pure_assign rfl) rfl rfl ?_
  refine seq_done ?_
  refine nrm_seq ?_
  refine tri_seq ?_
  refine tri_region ?_
  refine seq_pure (pure_move rfl) rfl rfl ?_
  refine seq_pure (pure_len_str rfl rfl) rfl rfl ?_
  refine seq_bool (pure_eql rfl rfl) rfl rfl (fun h10 => ?_) (fun h10 => ?_)
  · refine seq_pure (pure_move rfl) rfl rfl ?_
    refine seq_pure (pure_move rfl) rfl rfl ?_
    refine seq_pure (pure_sindex rfl rfl rfl (by omega) (ba_get (by omega))) rfl rfl ?_
    refine seq_bool (pure_geq rfl rfl) rfl rfl (fun h14 => ?_) (fun h14 => ?_)
    · refine seq_pure (pure_pick_t rfl rfl) rfl rfl ?_
      refine seq_pure (pure_move rfl) rfl rfl ?_
      refine seq_pure (pure_move rfl) rfl rfl ?_
      refine seq_pure (pure_sindex rfl rfl rfl (by omega) (ba_get (by omega))) rfl rfl ?_
      refine seq_bool (pure_leq rfl rfl) rfl rfl (fun h19 => ?_) (fun h19 => ?_)
      · refine seq_pure (pure_pick_t rfl rfl) rfl rfl ?_
        refine seq_pure (pure_assign rfl) rfl rfl ?_
        refine seq_done ?_
        refine nrm_seq ?_
        refine tri_ret ?_
        refine ret_fin1 (res_tmp rfl) ?_
        exact ⟨rfl, by simp only [nameOk]; (try simp only [Int.toNat_zero] at *); (first | rw [decide_eq_true (by omega)] | rw [decide_eq_false (by omega)]), rfl⟩
      · refine seq_pure (pure_pick_t rfl rfl) rfl rfl ?_
        refine seq_pure (pure_assign rfl) rfl rfl ?_
        refine seq_done ?_
        refine nrm_seq ?_
        refine tri_ret ?_
        refine ret_fin1 (res_tmp rfl) ?_
        exact ⟨rfl, by simp only [nameOk]; (try simp only [Int.toNat_zero] at *); (first | rw [decide_eq_true (by omega)] | rw [decide_eq_false (by omega)]), rfl⟩
    · refine seq_pure (pure_pick_t rfl rfl) rfl rfl ?_
      refine seq_pure (pure_move rfl) rfl rfl ?_
      refine seq_skip rfl rfl ?_
      refine seq_skip rfl rfl ?_
      refine seq_skip rfl rfl ?_
      refine seq_pure (pure_pick_f rfl rfl) rfl rfl ?_
      refine seq_pure (pure_assign rfl) rfl rfl ?_
      refine seq_done ?_
      refine nrm_seq ?_
      refine tri_ret ?_
      refine ret_fin1 (res_tmp rfl) ?_
      exact ⟨rfl, by simp only [nameOk]; (try simp only [Int.toNat_zero] at *); (first | rw [decide_eq_true (by omega)] | rw [decide_eq_false (by omega)]), rfl⟩
  · refine seq_pure (pure_move rfl) rfl rfl ?_
    refine seq_skip rfl rfl ?_
    refine seq_skip rfl rfl ?_
    refine seq_skip rfl rfl ?_
    refine seq_pure (pure_pick_f rfl rfl) rfl rfl ?_
    refine seq_pure (pure_move rfl) rfl rfl ?_
    refine seq_skip rfl rfl ?_
    refine seq_skip rfl rfl ?_
    refine seq_skip rfl rfl ?_
    refine seq_pure (pure_pick_f rfl rfl) rfl rfl ?_
    refine seq_pure (pure_assign rfl) rfl rfl ?_
    refine seq_done ?_
    refine nrm_seq ?_
    refine tri_ret ?_
    refine ret_fin1 (res_tmp rfl) ?_
    exact ⟨rfl, by simp only [nameOk]; (try simp only [Int.toNat_zero] at *); (first | rw [decide_eq_true (by omega)] | rw [decide_eq_false (by omega)]), rfl⟩
end Gw
end Go.Proofs.Ytlefgfdhlblahaa
