/-
  Nodes at paths, casts by their labels.
-/
import Derived.Test.YtlefgfdhlblahaaLaw1
namespace Go.Proofs.Ytlefgfdhlblahaa
open Go Go.RowKit
namespace Gw
/-- The node at a path. -/
def tAt : Tm → List Int → Option Tm
  | t, [] => some t
  | .mk _ _ _ _ _ _ ks, i :: is => if h : 0 ≤ i ∧ i < ks.length then tAt (ks[i.toNat]'(by omega)) is else none
theorem tAt_nil (t : Tm) : tAt t [] = some t := by cases t; rw [tAt]
theorem tAt_go {t : Tm} {i : Int} {is : List Int} (h0 : 0 ≤ i) (h : i < t.ks.length) : tAt t (i :: is) = tAt (t.ks[i.toNat]'(by omega)) is := by
  cases t; rw [tAt, dif_pos ⟨h0, h⟩]; rfl
theorem tAt_no {t : Tm} {i : Int} {is : List Int} (h : ¬ (0 ≤ i ∧ i < t.ks.length)) : tAt t (i :: is) = none := by
  cases t; rw [tAt]; exact dif_neg h
def z9 : List Value := [.int .i64 0, .string ⟨⟨[]⟩⟩, .int .i64 0, .int .i64 0, .slice none 0 0, .int .i64 0, .slice none 0 0, .int .i64 0, .slice none 0 0]
def AtP (t : Tm) (path : List Int) (G : IM) : IM → Value → List Ent → Prop := fun G' v outs => G' = G ∧ outs = [] ∧
  ((∃ x cells, tAt t path = some x ∧ RTm G x cells ∧ v = .tuple ⟨[.agg ⟨cells⟩, .bool true]⟩) ∨ (tAt t path = none ∧ v = .tuple ⟨[.agg ⟨z9⟩, .bool false]⟩))
theorem ints_at {l : List Int} {i : Nat} {v : Value} (h : (ints l)[i]? = some v) (hi : i < l.length) : v = .int .i64 l[i] := (ints_get h).2
set_option maxHeartbeats 0 in
set_option maxRecDepth 100000 in
theorem at_fn (t : Tm) (path : List Int) (G : IM) (cells : List Value) (p : Option Addr) (c : Nat) (hr : RTm G t cells) (hp : Sl G p path.length c 1 (ints path)) :
    Fn Try.prog 57 [.agg ⟨cells⟩, .slice p path.length c] [] G (AtP t path G) := by
  have hn := hp.le
  have hl := hr.len
  have hone := hr.one
  refine fn_enter Try.func57 rfl Try.ntmps57 Try.results57 rfl ?_
  intro w0
  refine tri_seq ?_
  refine tri_region ?_
  (refine seq_step (step_box_a rfl rfl) rfl ?_; rintro _ ⟨b3, rfl⟩)
  (refine seq_step (step_alloc rfl) rfl ?_; rintro _ ⟨b4, rfl⟩)
  refine seq_pure (pure_assign rfl) rfl rfl ?_
  refine seq_done ?_
  refine nrm_seq ?_
  refine tri_seq ?_
  refine tri_seq ?_
  refine tri_region ?_
  refine seq_pure (pure_move rfl) rfl rfl ?_
  refine seq_pure (pure_len rfl rfl) rfl rfl ?_
  refine seq_pure (pure_move rfl) rfl rfl ?_
  refine seq_done ?_
  refine nrm_seq ?_
  refine tri_block ?_
  refine tri_loopN (fun (x : Nat × Tm × List Value) => ⟨[(10, .int .i64 x.1), (9, .int .i64 path.length), (8, .slice p path.length c), (2, .pointer (some ⟨b3, 0, none⟩)), (4, .pointer (some ⟨b4, 0, none⟩)), (5, .bool false)], [.blk b4 z9, .blk b3 x.2.2], G⟩) (fun x => x.1 ≤ path.length ∧ RTm G x.2.1 x.2.2 ∧ tAt t path = tAt x.2.1 (path.drop x.1)) (fun x => path.length - x.1) (0, t, cells) ?_ ?_ ?_
  · (simp only [flat_snoc]; exact sub_mk (by repeat (first | exact SubE.nil | refine SubE.cons rfl ?_)) (by repeat (first | exact SubH.refl | exact SubH.nil | refine SubH.cons (by repeat (first | exact Pk.here | apply Pk.there)) ?_ | apply SubH.drop)))
  · exact ⟨by simp, hr, rfl⟩
  · (rintro ⟨i, ⟨k, nm, num, ⟨tk, tks⟩, ⟨fk, fks⟩, lb, ks⟩, ce⟩ ⟨hi, hre, hat⟩; simp only [] at hi hre hat ⊢; obtain ⟨pt, ct, pf, cf, pk, ck, es, rfl, hk, hnum, hlb, hty, hfr, hsl, hkl⟩ := hre.open9; have hle := hsl.le; have hone := hre.one)
    refine tri_seq ?_
    refine tri_region ?_
    refine seq_bool (pure_lss rfl rfl) rfl rfl (fun h23 => ?_) (fun h23 => ?_)
    · refine seq_done ?_
      refine nrm_seq ?_
      refine tri_seq ?_
      refine tri_cond_t rfl ?_
      refine tri_skip ?_
      refine nrm_seq ?_
      refine tri_seq ?_
      refine tri_block ?_
      refine tri_seq ?_
      refine tri_region ?_
      (obtain ⟨b, o, v, rfl, hv, hatc, hgb⟩ := hp.kid (i := i) (by omega); obtain rfl := ints_at hv (by omega); rw [List.drop_eq_getElem_cons (by omega)] at hat; generalize path[i]'(by omega) = pi at *; refine seq_pure (pure_indexAddrN rfl rfl rfl (by omega)) rfl rfl ?_)
      refine seq_load (load_s rfl rfl (hatc _)) rfl rfl ?_
      refine seq_pure (pure_assign rfl) rfl rfl ?_
      refine seq_done ?_
      refine nrm_seq ?_
      refine tri_seq ?_
      refine tri_seq ?_
      refine tri_region ?_
      refine seq_pure (pure_move rfl) rfl rfl ?_
      refine seq_pure (pure_fieldAddr0 rfl) rfl rfl ?_
      refine seq_load (load_bs rfl rfl (by repeat (first | exact List.Mem.head _ | apply List.Mem.tail)) (by rfl)) rfl rfl ?_
      refine seq_pure (pure_len rfl rfl) rfl rfl ?_
      refine seq_pure (pure_sub rfl rfl (by omega) (by omega)) rfl rfl ?_
      refine seq_valb rfl (within_fn pi 0 ((ks.length : Int) - 1) G) rfl rfl (fun h47 => ?_) (fun h47 => ?_)
      · refine seq_pure (pure_not_t rfl) rfl rfl ?_
        refine seq_done ?_
        refine nrm_seq ?_
        refine tri_cond_f rfl ?_
        refine tri_skip ?_
        refine nrm_seq ?_
        refine tri_region ?_
        refine seq_pure (pure_fieldAddr0 rfl) rfl rfl ?_
        refine seq_load (load_bs rfl rfl (by repeat (first | exact List.Mem.head _ | apply List.Mem.tail)) (by rfl)) rfl rfl ?_
        refine seq_pure (pure_move rfl) rfl rfl ?_
        (have hwi := withinB_t (by assumption); obtain ⟨j, rfl⟩ := Int.eq_ofNat_of_zero_le hwi.1; obtain ⟨b', o', e, rfl, hl', hate, hre', hgb'⟩ := hsl.kidTm hkl (i := j) (by omega) (by omega); have hone' := hre'.one; refine seq_pure (pure_indexAddrN rfl rfl rfl (by omega)) rfl rfl ?_)
        refine seq_load (load_a rfl rfl (hate _) hl') rfl rfl ?_
        refine seq_store rfl rfl rfl (by assumption) (by assumption) rfl (by repeat (first | exact Sw.here | apply Sw.there)) (by exact upd_all (by symm; assumption)) ?_
        refine seq_done ?_
        refine nrm_block ?_
        refine nrm_seq ?_
        refine tri_region ?_
        refine seq_pure (pure_add rfl rfl (by omega) (by omega)) rfl rfl ?_
        refine seq_pure (pure_move rfl) rfl rfl ?_
        refine seq_done ?_
        refine nrm_loopN (i + 1, ks[j], e) ?_ ?_ ?_
        · (simp only [flat_snoc]; exact sub_mk (by repeat (first | exact SubE.nil | refine SubE.cons rfl ?_)) (by repeat (first | exact SubH.refl | exact SubH.nil | refine SubH.cons (by repeat (first | exact Pk.here | apply Pk.there)) ?_ | apply SubH.drop)))
        · (dsimp only; exact ⟨by omega, hre', by rw [hat, tAt_go (by omega) (by simp only [Tm.ks]; omega)]; rfl⟩)
        · (show path.length - (i + 1) < path.length - i; omega)
      · refine seq_pure (pure_not_f rfl) rfl rfl ?_
        refine seq_done ?_
        refine nrm_seq ?_
        refine tri_cond_t rfl ?_
        refine tri_seq ?_
        refine tri_region ?_
        refine seq_pure (pure_build rfl rfl) rfl rfl ?_
        refine seq_store rfl rfl rfl rfl rfl rfl (by repeat (first | exact Sw.here | apply Sw.there)) (by rfl) ?_
        refine seq_pure (pure_assign rfl) rfl rfl ?_
        refine seq_done ?_
        refine nrm_seq ?_
        refine tri_ret ?_
        refine ret_seq ?_
        refine ret_block ?_
        refine ret_seq ?_
        refine ret_loopN ?_
        refine ret_block ?_
        refine ret_seq ?_
        refine ret_fin2 (res_cell rfl (load_ba rfl rfl (by repeat (first | exact List.Mem.head _ | apply List.Mem.tail)) (by rfl))) (res_tmp rfl) ?_
        (have hwi := withinB_f (by assumption); rw [tAt_no (by simp only [Tm.ks]; omega)] at hat; exact ⟨rfl, rfl, .inr ⟨hat, rfl⟩⟩)
    · refine seq_done ?_
      refine nrm_seq ?_
      refine tri_seq ?_
      refine tri_cond_f rfl ?_
      refine tri_exit ?_
      refine ext_seq ?_
      refine ext_loopN ?_
      refine ext_block_eq ?_
      refine nrm_seq ?_
      refine tri_seq ?_
      refine tri_region ?_
      refine seq_load (load_ba rfl rfl (by repeat (first | exact List.Mem.head _ | apply List.Mem.tail)) (by rfl)) rfl rfl ?_
      refine seq_store rfl rfl rfl rfl rfl rfl (by repeat (first | exact Sw.here | apply Sw.there)) (by rfl) ?_
      refine seq_pure (pure_assign rfl) rfl rfl ?_
      refine seq_done ?_
      refine nrm_seq ?_
      refine tri_ret ?_
      refine ret_fin2 (res_cell rfl (load_ba rfl rfl (by repeat (first | exact List.Mem.head _ | apply List.Mem.tail)) (by rfl))) (res_tmp rfl) ?_
      (obtain rfl : i = path.length := (by omega); rw [List.drop_length, tAt_nil] at hat; exact ⟨rfl, rfl, .inl ⟨_, _, hat, hre, rfl⟩⟩)
set_option maxHeartbeats 0 in
set_option maxRecDepth 100000 in
theorem l16At_fn (t : Tm) (path : List Int) (G : IM) (cells : List Value) (p : Option Addr) (c : Nat) (hr : RTm G t cells) (hp : Sl G p path.length c 1 (ints path)) :
    Fn Try.prog 56 [.agg ⟨cells⟩, .slice p path.length c] [] G (AtP t path G) := by
  have hn := hp.le
  have hl := hr.len
  have hone := hr.one
  refine fn_enter Try.func56 rfl Try.ntmps56 Try.results56 rfl ?_
  intro w0
  refine tri_seq ?_
  refine tri_region ?_
  (refine seq_step (step_box_a rfl rfl) rfl ?_; rintro _ ⟨b3, rfl⟩)
  (refine seq_step (step_alloc rfl) rfl ?_; rintro _ ⟨b4, rfl⟩)
  refine seq_pure (pure_assign rfl) rfl rfl ?_
  refine seq_done ?_
  refine nrm_seq ?_
  refine tri_seq ?_
  refine tri_seq ?_
  refine tri_region ?_
  refine seq_pure (pure_assign rfl) rfl rfl ?_
  refine seq_done ?_
  refine nrm_seq ?_
  refine tri_block ?_
  refine tri_loopN (fun (x : Nat × Tm × List Value) => ⟨[(6, .int .i64 x.1), (1, .slice p path.length c), (2, .pointer (some ⟨b3, 0, none⟩)), (4, .pointer (some ⟨b4, 0, none⟩)), (5, .bool false)], [.blk b4 z9, .blk b3 x.2.2], G⟩) (fun x => x.1 ≤ path.length ∧ RTm G x.2.1 x.2.2 ∧ tAt t path = tAt x.2.1 (path.drop x.1)) (fun x => path.length - x.1) (0, t, cells) ?_ ?_ ?_
  · (simp only [flat_snoc]; exact sub_mk (by repeat (first | exact SubE.nil | refine SubE.cons rfl ?_)) (by repeat (first | exact SubH.refl | exact SubH.nil | refine SubH.cons (by repeat (first | exact Pk.here | apply Pk.there)) ?_ | apply SubH.drop)))
  · exact ⟨by simp, hr, rfl⟩
  · (rintro ⟨i, ⟨k, nm, num, ⟨tk, tks⟩, ⟨fk, fks⟩, lb, ks⟩, ce⟩ ⟨hi, hre, hat⟩; simp only [] at hi hre hat ⊢; obtain ⟨pt, ct, pf, cf, pk, ck, es, rfl, hk, hnum, hlb, hty, hfr, hsl, hkl⟩ := hre.open9; have hle := hsl.le; have hone := hre.one)
    refine tri_seq ?_
    refine tri_seq ?_
    refine tri_region ?_
    refine seq_pure (pure_move rfl) rfl rfl ?_
    refine seq_pure (pure_move rfl) rfl rfl ?_
    refine seq_pure (pure_len rfl rfl) rfl rfl ?_
    refine seq_bool (pure_lss rfl rfl) rfl rfl (fun h25 => ?_) (fun h25 => ?_)
    · refine seq_done ?_
      refine nrm_seq ?_
      refine tri_cond_t rfl ?_
      refine tri_skip ?_
      refine nrm_seq ?_
      refine tri_seq ?_
      refine tri_block ?_
      refine tri_seq ?_
      refine tri_seq ?_
      (obtain ⟨b, o, v, rfl, hv, hatc, hgb⟩ := hp.kid (i := i) (by omega); obtain rfl := ints_at hv (by omega); rw [List.drop_eq_getElem_cons (by omega)] at hat; generalize path[i]'(by omega) = pi at *; refine tri_draw mixed rfl ?_)
      refine any_pure (i := 0) (listed' := [true, false, false, false, false, false, false, false, false, false, false, false, false, false, false]) rfl (by repeat (first | exact np_ret | apply np_seq | apply np_block | apply np_loopN')) (pure_move rfl) rfl (by kernel_rfl) rfl rfl ?_
      refine any_pure (i := 1) (listed' := [true, true, false, false, false, false, false, false, false, false, false, false, false, false, false]) rfl (by repeat (first | exact np_ret | apply np_seq | apply np_block | apply np_loopN')) (pure_move rfl) rfl (by kernel_rfl) rfl rfl ?_
      refine any_pure (i := 2) (listed' := [true, true, true, false, false, false, false, false, false, false, false, false, false, false, false]) rfl (by repeat (first | exact np_ret | apply np_seq | apply np_block | apply np_loopN')) (pure_indexAddrN rfl rfl rfl (by omega)) rfl (by kernel_rfl) rfl rfl ?_
      refine any_load (i := 3) (listed' := [true, true, true, true, false, false, false, false, false, false, false, false, false, false, false]) rfl (by repeat (first | exact np_ret | apply np_seq | apply np_block | apply np_loopN')) (load_s rfl rfl (hatc _)) rfl (by kernel_rfl) rfl rfl ?_
      refine any_bool (i := 4) (listed' := [true, true, true, true, true, false, false, false, false, false, false, false, false, false, false]) rfl (by repeat (first | exact np_ret | apply np_seq | apply np_block | apply np_loopN')) (pure_lss rfl rfl) rfl (by kernel_rfl) rfl rfl (fun h40 => ?_) (fun h40 => ?_)
      · refine any_pure (i := 5) (listed' := [true, true, true, true, true, true, false, false, false, false, false, false, false, false, false]) rfl (by repeat (first | exact np_ret | apply np_seq | apply np_block | apply np_loopN')) (pure_move rfl) rfl (by kernel_rfl) rfl rfl ?_
        refine any_skip (i := 6) (listed' := [true, true, true, true, true, true, true, false, false, false, false, false, false, false, false]) rfl (by repeat (first | exact np_ret | apply np_seq | apply np_block | apply np_loopN')) rfl (by kernel_rfl) rfl rfl ?_
        refine any_skip (i := 7) (listed' := [true, true, true, true, true, true, true, true, false, false, false, false, false, false, false]) rfl (by repeat (first | exact np_ret | apply np_seq | apply np_block | apply np_loopN')) rfl (by kernel_rfl) rfl rfl ?_
        refine any_skip (i := 8) (listed' := [true, true, true, true, true, true, true, true, true, false, false, false, false, false, false]) rfl (by repeat (first | exact np_ret | apply np_seq | apply np_block | apply np_loopN')) rfl (by kernel_rfl) rfl rfl ?_
        refine any_skip (i := 9) (listed' := [true, true, true, true, true, true, true, true, true, true, false, false, false, false, false]) rfl (by repeat (first | exact np_ret | apply np_seq | apply np_block | apply np_loopN')) rfl (by kernel_rfl) rfl rfl ?_
        refine any_skip (i := 10) (listed' := [true, true, true, true, true, true, true, true, true, true, true, false, false, false, false]) rfl (by repeat (first | exact np_ret | apply np_seq | apply np_block | apply np_loopN')) rfl (by kernel_rfl) rfl rfl ?_
        refine any_skip (i := 11) (listed' := [true, true, true, true, true, true, true, true, true, true, true, true, false, false, false]) rfl (by repeat (first | exact np_ret | apply np_seq | apply np_block | apply np_loopN')) rfl (by kernel_rfl) rfl rfl ?_
        refine any_skip (i := 12) (listed' := [true, true, true, true, true, true, true, true, true, true, true, true, true, false, false]) rfl (by repeat (first | exact np_ret | apply np_seq | apply np_block | apply np_loopN')) rfl (by kernel_rfl) rfl rfl ?_
        refine any_skip (i := 13) (listed' := [true, true, true, true, true, true, true, true, true, true, true, true, true, true, false]) rfl (by repeat (first | exact np_ret | apply np_seq | apply np_block | apply np_loopN')) rfl (by kernel_rfl) rfl rfl ?_
        refine any_pure (i := 14) (listed' := [true, true, true, true, true, true, true, true, true, true, true, true, true, true, true]) rfl (by repeat (first | exact np_ret | apply np_seq | apply np_block | apply np_loopN')) (pure_pick_t rfl rfl) rfl (by kernel_rfl) rfl rfl ?_
        refine any_done (by kernel_rfl) ?_
        refine nrm_seq ?_
        refine tri_cond_t rfl ?_
        refine tri_seq ?_
        refine tri_region ?_
        refine seq_pure (pure_build rfl rfl) rfl rfl ?_
        refine seq_store rfl rfl rfl rfl rfl rfl (by repeat (first | exact Sw.here | apply Sw.there)) (by rfl) ?_
        refine seq_pure (pure_assign rfl) rfl rfl ?_
        refine seq_done ?_
        refine nrm_seq ?_
        refine tri_ret ?_
        refine ret_seq ?_
        refine ret_block ?_
        refine ret_seq ?_
        refine ret_loopN ?_
        refine ret_block ?_
        refine ret_seq ?_
        refine ret_fin2 (res_cell rfl (load_ba rfl rfl (by repeat (first | exact List.Mem.head _ | apply List.Mem.tail)) (by rfl))) (res_tmp rfl) ?_
        (rw [tAt_no (by simp only [Tm.ks]; omega)] at hat; exact ⟨rfl, rfl, .inr ⟨hat, rfl⟩⟩)
      · refine any_pure (i := 5) (listed' := [true, true, true, true, true, true, false, false, false, false, false, false, false, false, false]) rfl (by repeat (first | exact np_ret | apply np_seq | apply np_block | apply np_loopN')) (pure_move rfl) rfl (by kernel_rfl) rfl rfl ?_
        refine any_pure (i := 6) (listed' := [true, true, true, true, true, true, true, false, false, false, false, false, false, false, false]) rfl (by repeat (first | exact np_ret | apply np_seq | apply np_block | apply np_loopN')) (pure_move rfl) rfl (by kernel_rfl) rfl rfl ?_
        refine any_pure (i := 7) (listed' := [true, true, true, true, true, true, true, true, false, false, false, false, false, false, false]) rfl (by repeat (first | exact np_ret | apply np_seq | apply np_block | apply np_loopN')) (pure_move rfl) rfl (by kernel_rfl) rfl rfl ?_
        refine any_pure (i := 8) (listed' := [true, true, true, true, true, true, true, true, true, false, false, false, false, false, false]) rfl (by repeat (first | exact np_ret | apply np_seq | apply np_block | apply np_loopN')) (pure_indexAddrN rfl rfl rfl (by omega)) rfl (by kernel_rfl) rfl rfl ?_
        refine any_load (i := 9) (listed' := [true, true, true, true, true, true, true, true, true, true, false, false, false, false, false]) rfl (by repeat (first | exact np_ret | apply np_seq | apply np_block | apply np_loopN')) (load_s rfl rfl (hatc _)) rfl (by kernel_rfl) rfl rfl ?_
        refine any_pure (i := 10) (listed' := [true, true, true, true, true, true, true, true, true, true, true, false, false, false, false]) rfl (by repeat (first | exact np_ret | apply np_seq | apply np_block | apply np_loopN')) (pure_fieldAddr0 rfl) rfl (by kernel_rfl) rfl rfl ?_
        refine any_load (i := 11) (listed' := [true, true, true, true, true, true, true, true, true, true, true, true, false, false, false]) rfl (by repeat (first | exact np_ret | apply np_seq | apply np_block | apply np_loopN')) (load_bs rfl rfl (by repeat (first | exact List.Mem.head _ | apply List.Mem.tail)) (by rfl)) rfl (by kernel_rfl) rfl rfl ?_
        refine any_pure (i := 12) (listed' := [true, true, true, true, true, true, true, true, true, true, true, true, true, false, false]) rfl (by repeat (first | exact np_ret | apply np_seq | apply np_block | apply np_loopN')) (pure_len rfl rfl) rfl (by kernel_rfl) rfl rfl ?_
        refine any_bool (i := 13) (listed' := [true, true, true, true, true, true, true, true, true, true, true, true, true, true, false]) rfl (by repeat (first | exact np_ret | apply np_seq | apply np_block | apply np_loopN')) (pure_geq rfl rfl) rfl (by kernel_rfl) rfl rfl (fun h78 => ?_) (fun h78 => ?_)
        · refine any_pure (i := 14) (listed' := [true, true, true, true, true, true, true, true, true, true, true, true, true, true, true]) rfl (by repeat (first | exact np_ret | apply np_seq | apply np_block | apply np_loopN')) (pure_pick_f rfl rfl) rfl (by kernel_rfl) rfl rfl ?_
          refine any_done (by kernel_rfl) ?_
          refine nrm_seq ?_
          refine tri_cond_t rfl ?_
          refine tri_seq ?_
          refine tri_region ?_
          refine seq_pure (pure_build rfl rfl) rfl rfl ?_
          refine seq_store rfl rfl rfl rfl rfl rfl (by repeat (first | exact Sw.here | apply Sw.there)) (by rfl) ?_
          refine seq_pure (pure_assign rfl) rfl rfl ?_
          refine seq_done ?_
          refine nrm_seq ?_
          refine tri_ret ?_
          refine ret_seq ?_
          refine ret_block ?_
          refine ret_seq ?_
          refine ret_loopN ?_
          refine ret_block ?_
          refine ret_seq ?_
          refine ret_fin2 (res_cell rfl (load_ba rfl rfl (by repeat (first | exact List.Mem.head _ | apply List.Mem.tail)) (by rfl))) (res_tmp rfl) ?_
          (rw [tAt_no (by simp only [Tm.ks]; omega)] at hat; exact ⟨rfl, rfl, .inr ⟨hat, rfl⟩⟩)
        · refine any_pure (i := 14) (listed' := [true, true, true, true, true, true, true, true, true, true, true, true, true, true, true]) rfl (by repeat (first | exact np_ret | apply np_seq | apply np_block | apply np_loopN')) (pure_pick_f rfl rfl) rfl (by kernel_rfl) rfl rfl ?_
          refine any_done (by kernel_rfl) ?_
          refine nrm_seq ?_
          refine tri_cond_f rfl ?_
          refine tri_skip ?_
          refine nrm_seq ?_
          (obtain ⟨j, rfl⟩ := Int.eq_ofNat_of_zero_le (show 0 ≤ pi by omega); obtain ⟨b', o', e, rfl, hl', hate, hre', hgb'⟩ := hsl.kidTm hkl (i := j) (by omega) (by omega); have hone' := hre'.one; refine tri_draw mixed rfl ?_)
          refine any_pure (i := 0) (listed' := [true, false, false, false, false, false, false, false, false]) rfl (by repeat (first | exact np_ret | apply np_seq | apply np_block | apply np_loopN')) (pure_fieldAddr0 rfl) rfl (by kernel_rfl) rfl rfl ?_
          refine any_load (i := 1) (listed' := [true, true, false, false, false, false, false, false, false]) rfl (by repeat (first | exact np_ret | apply np_seq | apply np_block | apply np_loopN')) (load_bs rfl rfl (by repeat (first | exact List.Mem.head _ | apply List.Mem.tail)) (by rfl)) rfl (by kernel_rfl) rfl rfl ?_
          refine any_pure (i := 2) (listed' := [true, true, true, false, false, false, false, false, false]) rfl (by repeat (first | exact np_ret | apply np_seq | apply np_block | apply np_loopN')) (pure_move rfl) rfl (by kernel_rfl) rfl rfl ?_
          refine any_pure (i := 3) (listed' := [true, true, true, true, false, false, false, false, false]) rfl (by repeat (first | exact np_ret | apply np_seq | apply np_block | apply np_loopN')) (pure_move rfl) rfl (by kernel_rfl) rfl rfl ?_
          refine any_pure (i := 4) (listed' := [true, true, true, true, true, false, false, false, false]) rfl (by repeat (first | exact np_ret | apply np_seq | apply np_block | apply np_loopN')) (pure_indexAddrN rfl rfl rfl (by omega)) rfl (by kernel_rfl) rfl rfl ?_
          refine any_load (i := 5) (listed' := [true, true, true, true, true, true, false, false, false]) rfl (by repeat (first | exact np_ret | apply np_seq | apply np_block | apply np_loopN')) (load_s rfl rfl (hatc _)) rfl (by kernel_rfl) rfl rfl ?_
          refine any_pure (i := 6) (listed' := [true, true, true, true, true, true, true, false, false]) rfl (by repeat (first | exact np_ret | apply np_seq | apply np_block | apply np_loopN')) (pure_indexAddrN rfl rfl rfl (by omega)) rfl (by kernel_rfl) rfl rfl ?_
          refine any_load (i := 7) (listed' := [true, true, true, true, true, true, true, true, false]) rfl (by repeat (first | exact np_ret | apply np_seq | apply np_block | apply np_loopN')) (load_a rfl rfl (hate _) hl') rfl (by kernel_rfl) rfl rfl ?_
          refine any_one (j := 8) (by kernel_rfl) ?_
          refine one_store rfl rfl rfl rfl hl' hone' rfl rfl (by kernel_rfl) (by repeat (first | exact Sw.here | apply Sw.there)) (by exact upd_all hl'.symm) ?_
          refine any_done (by kernel_rfl) ?_
          refine nrm_block ?_
          refine nrm_seq ?_
          refine tri_region ?_
          refine seq_pure (pure_move rfl) rfl rfl ?_
          refine seq_pure (pure_add rfl rfl (by omega) (by omega)) rfl rfl ?_
          refine seq_pure (pure_assign rfl) rfl rfl ?_
          refine seq_done ?_
          refine nrm_loopN (i + 1, ks[j], e) ?_ ?_ ?_
          · (simp only [flat_snoc]; exact sub_mk (by repeat (first | exact SubE.nil | refine SubE.cons rfl ?_)) (by repeat (first | exact SubH.refl | exact SubH.nil | refine SubH.cons (by repeat (first | exact Pk.here | apply Pk.there)) ?_ | apply SubH.drop)))
          · (dsimp only; exact ⟨by omega, hre', by rw [hat, tAt_go (by omega) (by simp only [Tm.ks]; omega)]; rfl⟩)
          · (show path.length - (i + 1) < path.length - i; omega)
    · refine seq_done ?_
      refine nrm_seq ?_
      refine tri_cond_f rfl ?_
      refine tri_exit ?_
      refine ext_seq ?_
      refine ext_loopN ?_
      refine ext_block_eq ?_
      refine nrm_seq ?_
      refine tri_seq ?_
      refine tri_region ?_
      refine seq_load (load_ba rfl rfl (by repeat (first | exact List.Mem.head _ | apply List.Mem.tail)) (by rfl)) rfl rfl ?_
      refine seq_store rfl rfl rfl rfl rfl rfl (by repeat (first | exact Sw.here | apply Sw.there)) (by rfl) ?_
      refine seq_pure (pure_assign rfl) rfl rfl ?_
      refine seq_done ?_
      refine nrm_seq ?_
      refine tri_ret ?_
      refine ret_fin2 (res_cell rfl (load_ba rfl rfl (by repeat (first | exact List.Mem.head _ | apply List.Mem.tail)) (by rfl))) (res_tmp rfl) ?_
      (obtain rfl : i = path.length := (by omega); rw [List.drop_length, tAt_nil] at hat; exact ⟨rfl, rfl, .inl ⟨_, _, hat, hre, rfl⟩⟩)
end Gw
end Go.Proofs.Ytlefgfdhlblahaa
